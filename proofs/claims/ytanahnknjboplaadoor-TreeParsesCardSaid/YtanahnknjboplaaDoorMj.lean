/-
  Texts joined: XUe, XUf, XUg.
-/
import Derived.Test.YtanahnknjboplaaDoorMi
/-
  Layer 10 by the machine: the tree of tokens.
-/
namespace Go.Proofs.YtanahnknjboplaaDoor
set_option linter.unusedSimpArgs false
set_option linter.unusedVariables false
open Nat renaming reduceAdd → κa, reduceMul → κb, reduceEqDiff → κc, reduceLeDiff → κd, reduceSub → κe, reduceLT → κf, reduceBEq → κr, reduceBNe → κs, reducePow → κt
open Int renaming reduceToNat → κg, reduceLE → κh, reduceLT → κi, reduceAdd → κj, reduceSub → κk, reduceMul → κl, reduceNeg → κm, reduceBEq → κn, reduceBNe → κo, reduceEq → κp, reduceNe → κq
open Go Go.RowKit Go.Proofs.YtanahnknjboplaaDoor.Vm Go.Lib

set_option maxRecDepth 100000 in
theorem parse1_ev (t : Tk) (h : t.okTo lim) (nm : Nat) : Ev cx 25 nm [.agg (tkC t)] Mem.nil (.bool (!tokL t)) [] := by
  have hc := check_ev t h
  unfold tokE at hc
  generalize tokL t = b at hc ⊢
  cases b <;> (
    refine ev_go (fun cargs w => Tryd.call25 cargs w) Tryd.func25 rfl mixed (by kernel_rfl) rfl ?_; intro b0 hb0
    ((repeat' first | simp only [Tryd.results25, Tryd.ntmps25, κt, wks, plain_pr, tkC, Bool.not_true, Bool.not_false, vcs, κa, κb, κc, κd, κe, κf, κg, κh, κi, κj, κk, κl, κm, reduceCtorEq, reduceIte, κn, κo, κp, κq, κr, κs, tys] | exact rfl | ((first | (refine call_fn ?_ (hc _) ?_) | (refine call_fn_g ?_ (fun _ => hc _) ?_)); (focus (simp only [Tryd.results25, Tryd.ntmps25, κt, wks, plain_pr, tkC, Bool.not_true, Bool.not_false, vcs, κa, κb, κc, κd, κe, κf, κg, κh, κi, κj, κk, κl, κm, reduceCtorEq, reduceIte, κn, κo, κp, κq, κr, κs, tys] <;> exact rfl))) | ((first | (refine call_val (g := ?_) ?_ ?_) | (refine call_valg (g := ?_) ?_ ?_)); rotate_left 1; (focus (simp only [Tryd.results25, Tryd.ntmps25, κt, wks, plain_pr, tkC, Bool.not_true, Bool.not_false, vcs, κa, κb, κc, κd, κe, κf, κg, κh, κi, κj, κk, κl, κm, reduceCtorEq, reduceIte, κn, κo, κp, κq, κr, κs, tys] <;> exact rfl))) | refine draw_end (by decide +kernel) ?_ | refine cond_bool (fun hb => ?_) (fun hb => ?_) | refine cond_bit (fun hb => ?_) (fun hb => ?_) | refine And.intro (by omega) ?_ | refine And.intro (fun hb => ?_) (fun hb => ?_) | fail); (all_goals (first | (refine Fin.pure ?_ ?_ ?_ <;> (try simp only [Tryd.results25, Tryd.ntmps25, wks, plain_pr, tkC, Bool.not_true, Bool.not_false, vcs, κa, κb, κc, κd, κe, κf, κg, κh, κi, κj, κk, κl, κm, reduceCtorEq, reduceIte, κn, κo, κp, κq, κr, κs, tys]) <;> (try simp only [injs])) | skip))))
theorem parse_many {l : List Tk} (h : 512 < l.length) : parseE l = 4 := by unfold parseE; rw [if_pos h]
theorem parse_bad {l : List Tk} (h : ¬ 512 < l.length) (h2 : (l.any fun t => !tokL t) = true) : parseE l = 8 := by unfold parseE; rw [if_neg h, if_pos h2]
theorem parse_err {l : List Tk} (h : ¬ 512 < l.length) (h2 : (l.any fun t => !tokL t) = false) {e : Int} (he : (goG ⟨[], []⟩ false l).2 = e) (h0 : e ≠ 0) : parseE l = e := by
  unfold parseE; rw [if_neg h, if_neg (by simp [h2]), if_pos (by rw [he]; exact h0), he]
theorem parse_xml {l : List Tk} (h : ¬ 512 < l.length) (h2 : (l.any fun t => !tokL t) = false) {g : Gr} (he : goG ⟨[], []⟩ false l = (g, 0)) (h0 : g.v.isEmpty = true ∨ g.opn.isEmpty = false) : parseE l = 80 := by
  unfold parseE; rw [if_neg h, if_neg (by simp [h2]), he, if_neg (by simp), if_pos h0]
theorem parse_ok {l : List Tk} (h : ¬ 512 < l.length) (h2 : (l.any fun t => !tokL t) = false) {g : Gr} (he : goG ⟨[], []⟩ false l = (g, 0)) (h0 : ¬ (g.v.isEmpty = true ∨ g.opn.isEmpty = false)) : parseE l = 0 ∧ parseT l = g.v := by
  have : parseE l = 0 := by unfold parseE; rw [if_neg h, if_neg (by simp [h2]), he, if_neg (by simp), if_neg h0]
  exact ⟨this, by unfold parseT; rw [if_pos this, he]⟩
theorem kind_cases {t : Tk} (h : tokL t = true) : t.kind = 1 ∨ t.kind = 3 ∨ t.kind = 2 ∨ t.kind = 4 := by
  unfold tokL at h
  rcases tok_kinds t.kind with h1 | h1 | h1 | h1 | ⟨h1, h2, h3, h4⟩
  · exact .inl h1
  · exact .inr (.inl h1)
  · exact .inr (.inr (.inl h1))
  · exact .inr (.inr (.inr h1))
  · rw [if_neg (by omega), if_neg h3, if_neg h4] at h; cases h
theorem fresh_lit (b a c : Nat) : Fresh (b + a) (b + c) = (a ≤ c ∧ c < a + 16) := propext ⟨fun h => by unfold Fresh at h; omega, fun h => by unfold Fresh; omega⟩
theorem ndC_elem (t : Tk) : ndC (elemN t) = [.int .u8 1, .str [], .str t.name, .sl false 3 ((givenL t.attrs).map atC), .str [], .int .i64 0] := rfl
theorem ndC_text (s : List UInt8) : ndC (textN s) = [.int .u8 2, .str [], .str [], .sl false 3 [], .str s, .int .i64 0] := rfl
structure PSt where
  k : Nat
  g : Gr
  junk : List Nat
  last : Nat
def PSt.inv (l : List Tk) (x : PSt) : Prop := x.k ≤ l.length ∧ x.g.Ok x.k ∧ goG ⟨[], []⟩ false l = goG x.g (x.last == 4) (l.drop x.k)
theorem drop_cons {α : Type} {l : List α} {k : Nat} {t : α} (h : l[k]? = some t) : l.drop k = t :: l.drop (k + 1) := by
  obtain ⟨hk, rfl⟩ := List.getElem?_eq_some_iff.1 h
  exact List.drop_eq_getElem_cons hk
theorem inv_next {l : List Tk} {x : PSt} {t : Tk} (h : x.inv l) (ht : l[x.k]? = some t) {g' : Gr} (hs : stepG x.g t (x.last == 4) = (g', 0)) (junk' : List Nat) : PSt.inv l ⟨x.k + 1, g', junk', t.kind⟩ := by
  obtain ⟨h1, h2, h3⟩ := h
  refine ⟨(List.getElem?_eq_some_iff.1 ht).1, ?_, ?_⟩
  · have := step_ok h2 t (x.last == 4); rw [hs] at this; exact this
  · rw [h3, drop_cons ht, goG_take rfl (by rw [hs]), hs]
theorem inv_err {l : List Tk} {x : PSt} {t : Tk} (h : x.inv l) (ht : l[x.k]? = some t) {e : Int} (hs : (stepG x.g t (x.last == 4)).2 = e) (he : e ≠ 0) : (goG ⟨[], []⟩ false l).2 = e := by
  rw [h.2.2, drop_cons ht, goG_err (by rw [hs]; exact he), hs]
set_option maxRecDepth 100000 in
set_option maxHeartbeats 16000000 in
theorem parse_ev (l : List Tk) (hl : l.length ≤ 600) (hs : ∀ t ∈ l, t.okTo 1000000 ∧ t.attrs.length ≤ 30) (y : Nat) (M : Mem) (nm : Nat) (hy : M y = some ⟨4, l.map tkC⟩) (ho : ∀ w, (M w).isSome = true → w ∈ [y]) (hyn : y < nm) :
    (parseE l ≠ 0 → Ev cx 9 nm [.own y 0 l.length] M (.tup [.nils, .int .i64 (parseE l)]) [(y, some ⟨4, l.map tkC⟩)]) ∧
    (parseE l = 0 → Ev cx 9 nm [.own y 0 l.length] M (.tup [.own nm 0 (parseT l).length, .int .i64 0]) [(y, some ⟨4, l.map tkC⟩), (nm, some ⟨6, (parseT l).map ndC⟩)]) := by
  have hlim : ∀ t ∈ l, t.okTo lim := fun t ht => by
    obtain ⟨⟨h1, h2, h3, h4⟩, _⟩ := hs t ht
    unfold lim
    exact ⟨by omega, by omega, by omega, fun a ha => by have := h4 a ha; omega⟩
  have hcf := containstk_ev l 25 [] (fun t => !tokL t) (fun t ht nm => parse1_ev t (hlim t ht) nm) (by unfold lim; omega) rfl
  have htkl : (l.map tkC).take l.length = l.map tkC := List.take_of_length_le (by simp)
  by_cases h512 : 512 < l.length
  · have he := parse_many h512
    have hd : decide ((512 : Int) < (l.length : Int)) = true := decide_eq_true (by omega)
    refine ⟨fun _ => ?_, fun h => by omega⟩
    rw [he]
    refine ev_go (fun cargs w => Tryd.call9 cargs w) Tryd.func9 rfl mixed (by kernel_rfl) rfl ?_; intro b0 hb0
    have ly : y < b0 := below_of hb0 (by rw [hy]; rfl)
    have y0 := lt_ne ly; have y1 := lt_ne_add ly; have y2 := lt_ne' ly; have y3 := lt_ne_add' ly
    repeat' first | simp only [Tryd.results9, Tryd.ntmps9, κt, wks, hy, hd, y0, y1, y2, y3, List.length_map, vcs, κa, κb, κc, κd, κe, κf, κg, κh, κi, κj, κk, κl, κm, reduceCtorEq, reduceIte, κn, κo, κp, κq, κr, κs, tys] | exact rfl | ((first | (refine call_val (g := ?_) ?_ ?_) | (refine call_valg (g := ?_) ?_ ?_)); rotate_left 1; (focus (simp only [Tryd.results9, Tryd.ntmps9, κt, wks, hy, hd, y0, y1, y2, y3, List.length_map, vcs, κa, κb, κc, κd, κe, κf, κg, κh, κi, κj, κk, κl, κm, reduceCtorEq, reduceIte, κn, κo, κp, κq, κr, κs, tys] <;> exact rfl))) | refine draw_end (by decide +kernel) ?_ | refine cond_bool (fun hb => ?_) (fun hb => ?_) | refine cond_bit (fun hb => ?_) (fun hb => ?_) | refine And.intro (by omega) ?_ | refine And.intro (fun hb => ?_) (fun hb => ?_) | fail
    all_goals ((refine Fin.give [(y, none)] [] ?_ ?_ ?_ ?_ ?_ (fun q hq => by have hqq := ho q hq; first | (simp only [gives, tgt, List.map_cons, List.map_nil, List.mem_cons, List.not_mem_nil, or_false] at hqq ⊢; omega) | (simp only [gives, tgt, List.map_cons, List.map_nil, List.mem_cons, List.not_mem_nil, or_false] at hqq)) <;> (try simp only [Tryd.results9, Tryd.ntmps9, wks, hy, y0, y1, y2, y3, plain_tk, giv, vcs, κa, κb, κc, κd, κe, κf, κg, κh, κi, κj, κk, κl, κm, reduceCtorEq, reduceIte, κn, κo, κp, κq, κr, κs, tys]) <;> (try simp only [injs]) <;> (try omega)))
  · have hd : decide ((512 : Int) < (l.length : Int)) = false := decide_eq_false (by omega)
    cases hany : (l.any fun t => !tokL t) with
    | true =>
      rw [hany] at hcf
      have he := parse_bad h512 hany
      refine ⟨fun _ => ?_, fun h => by omega⟩
      rw [he]
      refine ev_go (fun cargs w => Tryd.call9 cargs w) Tryd.func9 rfl mixed (by kernel_rfl) rfl ?_; intro b0 hb0
      have ly : y < b0 := below_of hb0 (by rw [hy]; rfl)
      have y0 := lt_ne ly; have y1 := lt_ne_add ly; have y2 := lt_ne' ly; have y3 := lt_ne_add' ly
      repeat' first | simp only [Tryd.results9, Tryd.ntmps9, κt, wks, hy, hd, htkl, plain_tk, y0, y1, y2, y3, List.length_map, vcs, κa, κb, κc, κd, κe, κf, κg, κh, κi, κj, κk, κl, κm, reduceCtorEq, reduceIte, κn, κo, κp, κq, κr, κs, tys] | exact rfl | ((refine call_fn_vx (xs := ?_) [y] ?_ ?_ ?_ rfl (hcf _) ?_); rotate_left 1; iterate 3 (focus (simp only [fins, mems, Tryd.results9, Tryd.ntmps9, κt, wks, hy, hd, htkl, plain_tk, y0, y1, y2, y3, List.length_map, vcs, κa, κb, κc, κd, κe, κf, κg, κh, κi, κj, κk, κl, κm, reduceCtorEq, reduceIte, κn, κo, κp, κq, κr, κs, tys] <;> (first | exact rfl | omega)))) | ((first | (refine call_val (g := ?_) ?_ ?_) | (refine call_valg (g := ?_) ?_ ?_)); rotate_left 1; (focus (simp only [Tryd.results9, Tryd.ntmps9, κt, wks, hy, hd, htkl, plain_tk, y0, y1, y2, y3, List.length_map, vcs, κa, κb, κc, κd, κe, κf, κg, κh, κi, κj, κk, κl, κm, reduceCtorEq, reduceIte, κn, κo, κp, κq, κr, κs, tys] <;> exact rfl))) | refine draw_end (by decide +kernel) ?_ | refine cond_bool (fun hb => ?_) (fun hb => ?_) | refine cond_bit (fun hb => ?_) (fun hb => ?_) | refine And.intro (by omega) ?_ | refine And.intro (fun hb => ?_) (fun hb => ?_) | fail
      all_goals ((refine Fin.give [(y, none)] [] ?_ ?_ ?_ ?_ ?_ (fun q hq => by have hqq := ho q hq; first | (simp only [gives, tgt, List.map_cons, List.map_nil, List.mem_cons, List.not_mem_nil, or_false] at hqq ⊢; omega) | (simp only [gives, tgt, List.map_cons, List.map_nil, List.mem_cons, List.not_mem_nil, or_false] at hqq)) <;> (try simp only [Tryd.results9, Tryd.ntmps9, wks, hy, y0, y1, y2, y3, plain_tk, giv, vcs, κa, κb, κc, κd, κe, κf, κg, κh, κi, κj, κk, κl, κm, reduceCtorEq, reduceIte, κn, κo, κp, κq, κr, κs, tys]) <;> (try simp only [injs]) <;> (try omega)))
    | false =>
      rw [hany] at hcf
      have main : ∀ (v : V) (eff : List (Nat × Option Blk)), ((parseE l ≠ 0 ∧ v = .tup [.nils, .int .i64 (parseE l)] ∧ eff = [(y, some ⟨4, l.map tkC⟩)]) ∨ (parseE l = 0 ∧ v = .tup [.own nm 0 (parseT l).length, .int .i64 0] ∧ eff = [(y, some ⟨4, l.map tkC⟩), (nm, some ⟨6, (parseT l).map ndC⟩)])) → Ev cx 9 nm [.own y 0 l.length] M v eff := by
        intro v eff hve
        refine ev_go (fun cargs w => Tryd.call9 cargs w) Tryd.func9 rfl mixed (by kernel_rfl) rfl ?_; intro b0 hb0
        have ly : y < b0 := below_of hb0 (by rw [hy]; rfl)
        have y0 := lt_ne ly; have y1 := lt_ne_add ly; have y2 := lt_ne' ly; have y3 := lt_ne_add' ly
        repeat' first | simp only [Tryd.results9, Tryd.ntmps9, κt, wks, hy, hd, htkl, plain_tk, y0, y1, y2, y3, List.length_map, vcs, κa, κb, κc, κd, κe, κf, κg, κh, κi, κj, κk, κl, κm, reduceCtorEq, reduceIte, κn, κo, κp, κq, κr, κs, tys] | exact rfl | ((refine call_fn_vx (xs := ?_) [y] ?_ ?_ ?_ rfl (hcf _) ?_); rotate_left 1; iterate 3 (focus (simp only [fins, mems, Tryd.results9, Tryd.ntmps9, κt, wks, hy, hd, htkl, plain_tk, y0, y1, y2, y3, List.length_map, vcs, κa, κb, κc, κd, κe, κf, κg, κh, κi, κj, κk, κl, κm, reduceCtorEq, reduceIte, κn, κo, κp, κq, κr, κs, tys] <;> (first | exact rfl | omega)))) | ((first | (refine call_val (g := ?_) ?_ ?_) | (refine call_valg (g := ?_) ?_ ?_)); rotate_left 1; (focus (simp only [Tryd.results9, Tryd.ntmps9, κt, wks, hy, hd, htkl, plain_tk, y0, y1, y2, y3, List.length_map, vcs, κa, κb, κc, κd, κe, κf, κg, κh, κi, κj, κk, κl, κm, reduceCtorEq, reduceIte, κn, κo, κp, κq, κr, κs, tys] <;> exact rfl))) | refine draw_end (by decide +kernel) ?_ | refine cond_bool (fun hb => ?_) (fun hb => ?_) | refine cond_bit (fun hb => ?_) (fun hb => ?_) | refine And.intro (by omega) ?_ | refine And.intro (fun hb => ?_) (fun hb => ?_) | fail
        (refine loop_can2F cxG (fun x : PSt => l.length - x.k) (fun x => x.inv l) (b0 + 16) (fun x => [(4, .ptr b0 0 0), (5, .fnb 27 [.ptr b0 0 0]), (6, .fnb 28 [.ptr b0 0 0]), (7, .fnb 29 [.ptr b0 0 0]), (25, .own y 0 l.length), (26, .int .i64 l.length), (27, .int .i64 x.k)]) (fun x => [(b0, ⟨3, [grC (b0 + 1) (b0 + 2) x.g x.last]⟩), (b0 + 1, ⟨6, x.g.v.map ndC⟩), (b0 + 2, ⟨1, (x.g.opn ++ x.junk).map noC⟩), (y, ⟨4, l.map tkC⟩)]) (PSt.mk 0 (Gr.mk [] []) [] 0) [some (b0 + 128), none, none, some y] ?_ ?_ ?_ ?_; rotate_left 1; (focus (show b0 ≤ _; omega)); (focus (refine ⟨?_, ?_⟩ <;> (try simp only [cans, canfs, grC, hy, y0, y1, y2, y3, plain_tk, plain_nd, plain_no, isRow_inst, Bool.and_self, Bool.false_and, List.map_nil, List.append_nil, List.length_nil, List.length_map, vcs, κa, κb, κc, κd, κe, κf, κg, κh, κi, κj, κk, κl, κm, reduceCtorEq, reduceIte, κn, κo, κp, κq, κr, κs, tys, injs]) <;> (try omega))); rotate_left 1)
        · exact ⟨Nat.zero_le _, start_ok, rfl⟩
        · rintro ⟨k, g, junk, last⟩ hinv
          have hinv' := hinv
          obtain ⟨hk, hg, hgo⟩ := hinv'
          simp only at hk hg hgo
          by_cases hlt : k < l.length
          · obtain ⟨t, ht⟩ : ∃ t, l[k]? = some t := ⟨_, List.getElem?_eq_getElem hlt⟩
            have hat := tk_at ht
            have hd1 : decide (k < l.length) = true := decide_eq_true hlt
            have hwk : IntKind.i64.wrap ((k : Int) + 1) = ((k + 1 : Nat) : Int) := wrap_in (by omega) (by omega)
            obtain ⟨hto, h30⟩ := hs t (List.mem_of_getElem? ht)
            have htok : tokL t = true := by
              cases hh : tokL t with
              | true => rfl
              | false => rw [List.any_eq_true.2 ⟨t, List.mem_of_getElem? ht, by simp [hh]⟩] at hany; cases hany
            have hvl := hg.len
            have herr : ∀ e : Int, (stepG g t (last == 4)).2 = e → e ≠ 0 → parseE l = e := fun e h1 h2 => parse_err h512 hany (inv_err hinv ht h1 h2) h2
            have hnext : ∀ (g' : Gr) (junk' : List Nat), stepG g t (last == 4) = (g', 0) → PSt.inv l ⟨k + 1, g', junk', t.kind⟩ := fun g' junk' h => inv_next hinv ht h junk'
            rcases kind_cases htok with hk1 | hk1 | hk1 | hk1
            · have q4 : ((t.kind : Int) == 4) = false := beq_false_of_ne (by omega)
              have q2 : ((t.kind : Int) == 2) = false := beq_false_of_ne (by omega)
              have hs0 : stepG g t (last == 4) = (if (g.opn.isEmpty && !g.v.isEmpty) = true then (g, 80) else if 12 ≤ g.opn.length then (g, 100) else (⟨addG g (elemN t), if t.kind = 1 then g.opn ++ [g.v.length] else g.opn⟩, 0)) := by unfold stepG; rw [if_neg (by omega), if_neg (by omega)]
              by_cases c1 : (g.opn.isEmpty && !g.v.isEmpty) = true
              · have hst : stepG g t (last == 4) = (g, 80) := by rw [hs0, if_pos c1]
                have he := herr 80 (by rw [hst]) (by omega)
                have hsn := fun (M' : Mem) (a : M' b0 = some ⟨3, [grC (b0 + 1) (b0 + 2) g last]⟩) (b : M' (b0 + 1) = some ⟨6, g.v.map ndC⟩) (c : M' (b0 + 2) = some ⟨1, (g.opn ++ junk).map noC⟩) (d : ∀ w, (M' w).isSome = true → w ∈ [b0, b0 + 1, b0 + 2]) (m : Nat) => elem_no g k hg (by omega) junk last b0 (b0 + 1) (b0 + 2) t 80 (.inl ⟨c1, rfl⟩) M' m (by omega) (by omega) (by omega) a b c d
                rcases hve with ⟨_, rfl, rfl⟩ | ⟨h0, _⟩
                · rw [he]
                  repeat' first | simp only [Tryd.results9, Tryd.ntmps9, κt, wks, plain_pr, tkC, grC, hat, hlt, hd1, fresh_lit, q4, q2, y0, y1, y2, y3, List.length_map, vcs, κa, κb, κc, κd, κe, κf, κg, κh, κi, κj, κk, κl, κm, reduceCtorEq, reduceIte, κn, κo, κp, κq, κr, κs, tys] | exact rfl | ((refine call_bnd (fi := ?_) ?_ ?_ [b0, b0 + 1, b0 + 2] (hsn _ ?_ ?_ ?_ only_mem _) ?_ ?_); rotate_left 1; iterate 6 (focus (simp only [mems, Tryd.results9, Tryd.ntmps9, κt, wks, plain_pr, tkC, grC, hat, hlt, hd1, fresh_lit, q4, q2, y0, y1, y2, y3, List.length_map, vcs, κa, κb, κc, κd, κe, κf, κg, κh, κi, κj, κk, κl, κm, reduceCtorEq, reduceIte, κn, κo, κp, κq, κr, κs, tys] <;> exact rfl))) | ((first | (refine call_val (g := ?_) ?_ ?_) | (refine call_valg (g := ?_) ?_ ?_)); rotate_left 1; (focus (simp only [Tryd.results9, Tryd.ntmps9, κt, wks, plain_pr, tkC, grC, hat, hlt, hd1, fresh_lit, q4, q2, y0, y1, y2, y3, List.length_map, vcs, κa, κb, κc, κd, κe, κf, κg, κh, κi, κj, κk, κl, κm, reduceCtorEq, reduceIte, κn, κo, κp, κq, κr, κs, tys] <;> exact rfl))) | refine draw_end (by decide +kernel) ?_ | refine cond_bool (fun hb => ?_) (fun hb => ?_) | refine cond_bit (fun hb => ?_) (fun hb => ?_) | refine And.intro (by omega) ?_ | refine And.intro (fun hb => ?_) (fun hb => ?_) | fail
                  all_goals ((refine Fin.give [(y, none)] [] ?_ ?_ ?_ ?_ ?_ (fun q hq => by have hqq := ho q hq; first | (simp only [gives, tgt, List.map_cons, List.map_nil, List.mem_cons, List.not_mem_nil, or_false] at hqq ⊢; omega) | (simp only [gives, tgt, List.map_cons, List.map_nil, List.mem_cons, List.not_mem_nil, or_false] at hqq)) <;> (try simp only [Tryd.results9, Tryd.ntmps9, wks, hy, y0, y1, y2, y3, plain_tk, giv, vcs, κa, κb, κc, κd, κe, κf, κg, κh, κi, κj, κk, κl, κm, reduceCtorEq, reduceIte, κn, κo, κp, κq, κr, κs, tys]) <;> (try simp only [injs]) <;> (try omega)))
                · omega
              · have c1' : (g.opn.isEmpty && !g.v.isEmpty) = false := by simpa using c1
                by_cases c2 : 12 ≤ g.opn.length
                · have hst : stepG g t (last == 4) = (g, 100) := by rw [hs0, if_neg c1, if_pos c2]
                  have he := herr 100 (by rw [hst]) (by omega)
                  have hsn := fun (M' : Mem) (a : M' b0 = some ⟨3, [grC (b0 + 1) (b0 + 2) g last]⟩) (b : M' (b0 + 1) = some ⟨6, g.v.map ndC⟩) (c : M' (b0 + 2) = some ⟨1, (g.opn ++ junk).map noC⟩) (d : ∀ w, (M' w).isSome = true → w ∈ [b0, b0 + 1, b0 + 2]) (m : Nat) => elem_no g k hg (by omega) junk last b0 (b0 + 1) (b0 + 2) t 100 (.inr ⟨c1', c2, rfl⟩) M' m (by omega) (by omega) (by omega) a b c d
                  rcases hve with ⟨_, rfl, rfl⟩ | ⟨h0, _⟩
                  · rw [he]
                    repeat' first | simp only [Tryd.results9, Tryd.ntmps9, κt, wks, plain_pr, tkC, grC, hat, hlt, hd1, fresh_lit, q4, q2, y0, y1, y2, y3, List.length_map, vcs, κa, κb, κc, κd, κe, κf, κg, κh, κi, κj, κk, κl, κm, reduceCtorEq, reduceIte, κn, κo, κp, κq, κr, κs, tys] | exact rfl | ((refine call_bnd (fi := ?_) ?_ ?_ [b0, b0 + 1, b0 + 2] (hsn _ ?_ ?_ ?_ only_mem _) ?_ ?_); rotate_left 1; iterate 6 (focus (simp only [mems, Tryd.results9, Tryd.ntmps9, κt, wks, plain_pr, tkC, grC, hat, hlt, hd1, fresh_lit, q4, q2, y0, y1, y2, y3, List.length_map, vcs, κa, κb, κc, κd, κe, κf, κg, κh, κi, κj, κk, κl, κm, reduceCtorEq, reduceIte, κn, κo, κp, κq, κr, κs, tys] <;> exact rfl))) | ((first | (refine call_val (g := ?_) ?_ ?_) | (refine call_valg (g := ?_) ?_ ?_)); rotate_left 1; (focus (simp only [Tryd.results9, Tryd.ntmps9, κt, wks, plain_pr, tkC, grC, hat, hlt, hd1, fresh_lit, q4, q2, y0, y1, y2, y3, List.length_map, vcs, κa, κb, κc, κd, κe, κf, κg, κh, κi, κj, κk, κl, κm, reduceCtorEq, reduceIte, κn, κo, κp, κq, κr, κs, tys] <;> exact rfl))) | refine draw_end (by decide +kernel) ?_ | refine cond_bool (fun hb => ?_) (fun hb => ?_) | refine cond_bit (fun hb => ?_) (fun hb => ?_) | refine And.intro (by omega) ?_ | refine And.intro (fun hb => ?_) (fun hb => ?_) | fail
                    all_goals ((refine Fin.give [(y, none)] [] ?_ ?_ ?_ ?_ ?_ (fun q hq => by have hqq := ho q hq; first | (simp only [gives, tgt, List.map_cons, List.map_nil, List.mem_cons, List.not_mem_nil, or_false] at hqq ⊢; omega) | (simp only [gives, tgt, List.map_cons, List.map_nil, List.mem_cons, List.not_mem_nil, or_false] at hqq)) <;> (try simp only [Tryd.results9, Tryd.ntmps9, wks, hy, y0, y1, y2, y3, plain_tk, giv, vcs, κa, κb, κc, κd, κe, κf, κg, κh, κi, κj, κk, κl, κm, reduceCtorEq, reduceIte, κn, κo, κp, κq, κr, κs, tys]) <;> (try simp only [injs]) <;> (try omega)))
                  · omega
                · have hst : stepG g t (last == 4) = (⟨addG g (elemN t), g.opn ++ [g.v.length]⟩, 0) := by rw [hs0, if_neg c1, if_neg c2, if_pos hk1]
                  have hal := addG_length g (elemN t)
                  have ham := addG_map g (elemN t)
                  have hat3 : ((givenL t.attrs).map atC).take t.attrs.length = (givenL t.attrs).map atC := List.take_of_length_le (by simp [givenL])
                  have hgl := given_length t.attrs
                  have hsy0 := fun (M' : Mem) (a : M' b0 = some ⟨3, [grC (b0 + 1) (b0 + 2) g last]⟩) (b : M' (b0 + 1) = some ⟨6, g.v.map ndC⟩) (c : M' (b0 + 2) = some ⟨1, (g.opn ++ junk).map noC⟩) (d : ∀ w, (M' w).isSome = true → w ∈ [b0, b0 + 1, b0 + 2]) (m : Nat) (h1 : b0 < m) (h2 : b0 + 1 < m) (h3 : b0 + 2 < m) => elem_yes g k hg (by omega) junk last b0 (b0 + 1) (b0 + 2) t (by omega) c1' (by omega) M' m (by omega) (by omega) (by omega) a b c d h1 h2 h3
                  have hsy := hsy0
                  simp only [elemE, if_pos hk1] at hsy
                  repeat' first | simp only [Tryd.results9, Tryd.ntmps9, κt, wks, plain_pr, tkC, grC, hat, hlt, hd1, fresh_lit, q4, q2, y0, y1, y2, y3, List.length_map, vcs, κa, κb, κc, κd, κe, κf, κg, κh, κi, κj, κk, κl, κm, reduceCtorEq, reduceIte, κn, κo, κp, κq, κr, κs, tys] | exact rfl | ((refine call_bnd (fi := ?_) ?_ ?_ [b0, b0 + 1, b0 + 2] (hsy _ ?_ ?_ ?_ only_mem _ (by omega) (by omega) (by omega)) ?_ ?_); rotate_left 1; iterate 6 (focus (simp only [mems, Tryd.results9, Tryd.ntmps9, κt, wks, plain_pr, tkC, grC, hat, hlt, hd1, fresh_lit, q4, q2, y0, y1, y2, y3, List.length_map, vcs, κa, κb, κc, κd, κe, κf, κg, κh, κi, κj, κk, κl, κm, reduceCtorEq, reduceIte, κn, κo, κp, κq, κr, κs, tys] <;> exact rfl))) | ((first | (refine call_val (g := ?_) ?_ ?_) | (refine call_valg (g := ?_) ?_ ?_)); rotate_left 1; (focus (simp only [Tryd.results9, Tryd.ntmps9, κt, wks, plain_pr, tkC, grC, hat, hlt, hd1, fresh_lit, q4, q2, y0, y1, y2, y3, List.length_map, vcs, κa, κb, κc, κd, κe, κf, κg, κh, κi, κj, κk, κl, κm, reduceCtorEq, reduceIte, κn, κo, κp, κq, κr, κs, tys] <;> exact rfl))) | refine draw_end (by decide +kernel) ?_ | refine cond_bool (fun hb => ?_) (fun hb => ?_) | refine cond_bit (fun hb => ?_) (fun hb => ?_) | refine And.intro (by omega) ?_ | refine And.intro (fun hb => ?_) (fun hb => ?_) | fail
                  all_goals ((refine again_can2F cxG (PSt.mk (k + 1) (Gr.mk (addG g (elemN t)) (g.opn ++ [g.v.length])) [] t.kind) [some b0, some (b0 + 256), some (b0 + 258), some y] ?_ ?_ ?_ ?_; rotate_left 2; (focus (show b0 ≤ _; omega)); (focus (refine ⟨?_, ?_⟩ <;> (try simp only [cans, canfs, tkC, grC, hwk, hal, ham, hat3, hgl, elC, ndC_elem, plain_at, finLL_append, finLL_plain _ _ (plain_nd _), finLLOk_append, finLLOk_plain _ _ (plain_nd _), leLL_snoc, noC, List.map_append, List.map_cons, List.map_nil, List.append_nil, List.length_append, List.length_cons, List.length_nil, plainLL_append, y0, y1, y2, y3, plain_tk, plain_nd, plain_no, isRow_inst, Bool.and_self, Bool.false_and, List.length_map, vcs, κa, κb, κc, κd, κe, κf, κg, κh, κi, κj, κk, κl, κm, reduceCtorEq, reduceIte, κn, κo, κp, κq, κr, κs, tys, injs]) <;> (try omega)))))
                  all_goals (first | (show l.length - (k + 1) < l.length - k; omega) | exact hnext _ _ hst | skip)
            · have q4 : ((t.kind : Int) == 4) = false := beq_false_of_ne (by omega)
              have q2 : ((t.kind : Int) == 2) = false := beq_false_of_ne (by omega)
              have hs0 : stepG g t (last == 4) = (if (g.opn.isEmpty && !g.v.isEmpty) = true then (g, 80) else if 12 ≤ g.opn.length then (g, 100) else (⟨addG g (elemN t), if t.kind = 1 then g.opn ++ [g.v.length] else g.opn⟩, 0)) := by unfold stepG; rw [if_neg (by omega), if_neg (by omega)]
              by_cases c1 : (g.opn.isEmpty && !g.v.isEmpty) = true
              · have hst : stepG g t (last == 4) = (g, 80) := by rw [hs0, if_pos c1]
                have he := herr 80 (by rw [hst]) (by omega)
                have hsn := fun (M' : Mem) (a : M' b0 = some ⟨3, [grC (b0 + 1) (b0 + 2) g last]⟩) (b : M' (b0 + 1) = some ⟨6, g.v.map ndC⟩) (c : M' (b0 + 2) = some ⟨1, (g.opn ++ junk).map noC⟩) (d : ∀ w, (M' w).isSome = true → w ∈ [b0, b0 + 1, b0 + 2]) (m : Nat) => elem_no g k hg (by omega) junk last b0 (b0 + 1) (b0 + 2) t 80 (.inl ⟨c1, rfl⟩) M' m (by omega) (by omega) (by omega) a b c d
                rcases hve with ⟨_, rfl, rfl⟩ | ⟨h0, _⟩
                · rw [he]
                  repeat' first | simp only [Tryd.results9, Tryd.ntmps9, κt, wks, plain_pr, tkC, grC, hat, hlt, hd1, fresh_lit, q4, q2, y0, y1, y2, y3, List.length_map, vcs, κa, κb, κc, κd, κe, κf, κg, κh, κi, κj, κk, κl, κm, reduceCtorEq, reduceIte, κn, κo, κp, κq, κr, κs, tys] | exact rfl | ((refine call_bnd (fi := ?_) ?_ ?_ [b0, b0 + 1, b0 + 2] (hsn _ ?_ ?_ ?_ only_mem _) ?_ ?_); rotate_left 1; iterate 6 (focus (simp only [mems, Tryd.results9, Tryd.ntmps9, κt, wks, plain_pr, tkC, grC, hat, hlt, hd1, fresh_lit, q4, q2, y0, y1, y2, y3, List.length_map, vcs, κa, κb, κc, κd, κe, κf, κg, κh, κi, κj, κk, κl, κm, reduceCtorEq, reduceIte, κn, κo, κp, κq, κr, κs, tys] <;> exact rfl))) | ((first | (refine call_val (g := ?_) ?_ ?_) | (refine call_valg (g := ?_) ?_ ?_)); rotate_left 1; (focus (simp only [Tryd.results9, Tryd.ntmps9, κt, wks, plain_pr, tkC, grC, hat, hlt, hd1, fresh_lit, q4, q2, y0, y1, y2, y3, List.length_map, vcs, κa, κb, κc, κd, κe, κf, κg, κh, κi, κj, κk, κl, κm, reduceCtorEq, reduceIte, κn, κo, κp, κq, κr, κs, tys] <;> exact rfl))) | refine draw_end (by decide +kernel) ?_ | refine cond_bool (fun hb => ?_) (fun hb => ?_) | refine cond_bit (fun hb => ?_) (fun hb => ?_) | refine And.intro (by omega) ?_ | refine And.intro (fun hb => ?_) (fun hb => ?_) | fail
                  all_goals ((refine Fin.give [(y, none)] [] ?_ ?_ ?_ ?_ ?_ (fun q hq => by have hqq := ho q hq; first | (simp only [gives, tgt, List.map_cons, List.map_nil, List.mem_cons, List.not_mem_nil, or_false] at hqq ⊢; omega) | (simp only [gives, tgt, List.map_cons, List.map_nil, List.mem_cons, List.not_mem_nil, or_false] at hqq)) <;> (try simp only [Tryd.results9, Tryd.ntmps9, wks, hy, y0, y1, y2, y3, plain_tk, giv, vcs, κa, κb, κc, κd, κe, κf, κg, κh, κi, κj, κk, κl, κm, reduceCtorEq, reduceIte, κn, κo, κp, κq, κr, κs, tys]) <;> (try simp only [injs]) <;> (try omega)))
                · omega
              · have c1' : (g.opn.isEmpty && !g.v.isEmpty) = false := by simpa using c1
                by_cases c2 : 12 ≤ g.opn.length
                · have hst : stepG g t (last == 4) = (g, 100) := by rw [hs0, if_neg c1, if_pos c2]
                  have he := herr 100 (by rw [hst]) (by omega)
                  have hsn := fun (M' : Mem) (a : M' b0 = some ⟨3, [grC (b0 + 1) (b0 + 2) g last]⟩) (b : M' (b0 + 1) = some ⟨6, g.v.map ndC⟩) (c : M' (b0 + 2) = some ⟨1, (g.opn ++ junk).map noC⟩) (d : ∀ w, (M' w).isSome = true → w ∈ [b0, b0 + 1, b0 + 2]) (m : Nat) => elem_no g k hg (by omega) junk last b0 (b0 + 1) (b0 + 2) t 100 (.inr ⟨c1', c2, rfl⟩) M' m (by omega) (by omega) (by omega) a b c d
                  rcases hve with ⟨_, rfl, rfl⟩ | ⟨h0, _⟩
                  · rw [he]
                    repeat' first | simp only [Tryd.results9, Tryd.ntmps9, κt, wks, plain_pr, tkC, grC, hat, hlt, hd1, fresh_lit, q4, q2, y0, y1, y2, y3, List.length_map, vcs, κa, κb, κc, κd, κe, κf, κg, κh, κi, κj, κk, κl, κm, reduceCtorEq, reduceIte, κn, κo, κp, κq, κr, κs, tys] | exact rfl | ((refine call_bnd (fi := ?_) ?_ ?_ [b0, b0 + 1, b0 + 2] (hsn _ ?_ ?_ ?_ only_mem _) ?_ ?_); rotate_left 1; iterate 6 (focus (simp only [mems, Tryd.results9, Tryd.ntmps9, κt, wks, plain_pr, tkC, grC, hat, hlt, hd1, fresh_lit, q4, q2, y0, y1, y2, y3, List.length_map, vcs, κa, κb, κc, κd, κe, κf, κg, κh, κi, κj, κk, κl, κm, reduceCtorEq, reduceIte, κn, κo, κp, κq, κr, κs, tys] <;> exact rfl))) | ((first | (refine call_val (g := ?_) ?_ ?_) | (refine call_valg (g := ?_) ?_ ?_)); rotate_left 1; (focus (simp only [Tryd.results9, Tryd.ntmps9, κt, wks, plain_pr, tkC, grC, hat, hlt, hd1, fresh_lit, q4, q2, y0, y1, y2, y3, List.length_map, vcs, κa, κb, κc, κd, κe, κf, κg, κh, κi, κj, κk, κl, κm, reduceCtorEq, reduceIte, κn, κo, κp, κq, κr, κs, tys] <;> exact rfl))) | refine draw_end (by decide +kernel) ?_ | refine cond_bool (fun hb => ?_) (fun hb => ?_) | refine cond_bit (fun hb => ?_) (fun hb => ?_) | refine And.intro (by omega) ?_ | refine And.intro (fun hb => ?_) (fun hb => ?_) | fail
                    all_goals ((refine Fin.give [(y, none)] [] ?_ ?_ ?_ ?_ ?_ (fun q hq => by have hqq := ho q hq; first | (simp only [gives, tgt, List.map_cons, List.map_nil, List.mem_cons, List.not_mem_nil, or_false] at hqq ⊢; omega) | (simp only [gives, tgt, List.map_cons, List.map_nil, List.mem_cons, List.not_mem_nil, or_false] at hqq)) <;> (try simp only [Tryd.results9, Tryd.ntmps9, wks, hy, y0, y1, y2, y3, plain_tk, giv, vcs, κa, κb, κc, κd, κe, κf, κg, κh, κi, κj, κk, κl, κm, reduceCtorEq, reduceIte, κn, κo, κp, κq, κr, κs, tys]) <;> (try simp only [injs]) <;> (try omega)))
                  · omega
                · have hst : stepG g t (last == 4) = (⟨addG g (elemN t), g.opn⟩, 0) := by rw [hs0, if_neg c1, if_neg c2, if_neg (by omega)]
                  have hal := addG_length g (elemN t)
                  have ham := addG_map g (elemN t)
                  have hat3 : ((givenL t.attrs).map atC).take t.attrs.length = (givenL t.attrs).map atC := List.take_of_length_le (by simp [givenL])
                  have hgl := given_length t.attrs
                  have hsy0 := fun (M' : Mem) (a : M' b0 = some ⟨3, [grC (b0 + 1) (b0 + 2) g last]⟩) (b : M' (b0 + 1) = some ⟨6, g.v.map ndC⟩) (c : M' (b0 + 2) = some ⟨1, (g.opn ++ junk).map noC⟩) (d : ∀ w, (M' w).isSome = true → w ∈ [b0, b0 + 1, b0 + 2]) (m : Nat) (h1 : b0 < m) (h2 : b0 + 1 < m) (h3 : b0 + 2 < m) => elem_yes g k hg (by omega) junk last b0 (b0 + 1) (b0 + 2) t (by omega) c1' (by omega) M' m (by omega) (by omega) (by omega) a b c d h1 h2 h3
                  have hsy := hsy0
                  simp only [elemE, if_neg (show ¬ t.kind = 1 by omega)] at hsy
                  repeat' first | simp only [Tryd.results9, Tryd.ntmps9, κt, wks, plain_pr, tkC, grC, hat, hlt, hd1, fresh_lit, q4, q2, y0, y1, y2, y3, List.length_map, vcs, κa, κb, κc, κd, κe, κf, κg, κh, κi, κj, κk, κl, κm, reduceCtorEq, reduceIte, κn, κo, κp, κq, κr, κs, tys] | exact rfl | ((refine call_bnd (fi := ?_) ?_ ?_ [b0, b0 + 1, b0 + 2] (hsy _ ?_ ?_ ?_ only_mem _ (by omega) (by omega) (by omega)) ?_ ?_); rotate_left 1; iterate 6 (focus (simp only [mems, Tryd.results9, Tryd.ntmps9, κt, wks, plain_pr, tkC, grC, hat, hlt, hd1, fresh_lit, q4, q2, y0, y1, y2, y3, List.length_map, vcs, κa, κb, κc, κd, κe, κf, κg, κh, κi, κj, κk, κl, κm, reduceCtorEq, reduceIte, κn, κo, κp, κq, κr, κs, tys] <;> exact rfl))) | ((first | (refine call_val (g := ?_) ?_ ?_) | (refine call_valg (g := ?_) ?_ ?_)); rotate_left 1; (focus (simp only [Tryd.results9, Tryd.ntmps9, κt, wks, plain_pr, tkC, grC, hat, hlt, hd1, fresh_lit, q4, q2, y0, y1, y2, y3, List.length_map, vcs, κa, κb, κc, κd, κe, κf, κg, κh, κi, κj, κk, κl, κm, reduceCtorEq, reduceIte, κn, κo, κp, κq, κr, κs, tys] <;> exact rfl))) | refine draw_end (by decide +kernel) ?_ | refine cond_bool (fun hb => ?_) (fun hb => ?_) | refine cond_bit (fun hb => ?_) (fun hb => ?_) | refine And.intro (by omega) ?_ | refine And.intro (fun hb => ?_) (fun hb => ?_) | fail
                  all_goals ((refine again_can2F cxG (PSt.mk (k + 1) (Gr.mk (addG g (elemN t)) (g.opn)) junk t.kind) [some b0, some (b0 + 256), some (b0 + 2), some y] ?_ ?_ ?_ ?_; rotate_left 2; (focus (show b0 ≤ _; omega)); (focus (refine ⟨?_, ?_⟩ <;> (try simp only [cans, canfs, tkC, grC, hwk, hal, ham, hat3, hgl, elC, ndC_elem, plain_at, finLL_append, finLL_plain _ _ (plain_nd _), finLLOk_append, finLLOk_plain _ _ (plain_nd _), leLL_snoc, noC, List.map_append, List.map_cons, List.map_nil, List.append_nil, List.length_append, List.length_cons, List.length_nil, plainLL_append, y0, y1, y2, y3, plain_tk, plain_nd, plain_no, isRow_inst, Bool.and_self, Bool.false_and, List.length_map, vcs, κa, κb, κc, κd, κe, κf, κg, κh, κi, κj, κk, κl, κm, reduceCtorEq, reduceIte, κn, κo, κp, κq, κr, κs, tys, injs]) <;> (try omega)))))
                  all_goals (first | (show l.length - (k + 1) < l.length - k; omega) | exact hnext _ _ hst | skip)
            · have q4 : ((t.kind : Int) == 4) = false := beq_false_of_ne (by omega)
              have q2 : ((t.kind : Int) == 2) = true := by rw [hk1]; rfl
              by_cases hln : lastName g = some t.name
              · have hst : stepG g t (last == 4) = (⟨g.v, g.opn.dropLast⟩, 0) := by unfold stepG; rw [if_neg (by omega), if_pos hk1, if_pos hln]
                obtain ⟨kl, hkl, _⟩ := Option.bind_eq_some_iff.1 hln
                have hne := (last_get hkl).1
                have hdl : g.opn.dropLast.length = g.opn.length - 1 := by simp
                have hjk : g.opn.dropLast ++ (kl :: junk) = g.opn ++ junk := by
                  have : g.opn = g.opn.dropLast ++ [kl] := by
                    rw [List.getLast?_eq_some_getLast hne] at hkl
                    cases hkl
                    exact (List.dropLast_concat_getLast hne).symm
                  conv => rhs; rw [this]
                  simp
                have hsy := fun (M' : Mem) (a : M' b0 = some ⟨3, [grC (b0 + 1) (b0 + 2) g last]⟩) (b : M' (b0 + 1) = some ⟨6, g.v.map ndC⟩) (c : M' (b0 + 2) = some ⟨1, (g.opn ++ junk).map noC⟩) (d : ∀ w, (M' w).isSome = true → w ∈ [b0, b0 + 1, b0 + 2]) (m : Nat) => shut_yes g k hg (by omega) junk last b0 (b0 + 1) (b0 + 2) t hln M' m (by omega) (by omega) (by omega) a b c d
                repeat' first | simp only [Tryd.results9, Tryd.ntmps9, κt, wks, plain_pr, tkC, grC, hat, hlt, hd1, q4, q2, y0, y1, y2, y3, List.length_map, vcs, κa, κb, κc, κd, κe, κf, κg, κh, κi, κj, κk, κl, κm, reduceCtorEq, reduceIte, κn, κo, κp, κq, κr, κs, tys] | exact rfl | ((refine call_bnd (fi := ?_) ?_ ?_ [b0, b0 + 1, b0 + 2] (hsy _ ?_ ?_ ?_ only_mem _) ?_ ?_); rotate_left 1; iterate 6 (focus (simp only [mems, Tryd.results9, Tryd.ntmps9, κt, wks, plain_pr, tkC, grC, hat, hlt, hd1, q4, q2, y0, y1, y2, y3, List.length_map, vcs, κa, κb, κc, κd, κe, κf, κg, κh, κi, κj, κk, κl, κm, reduceCtorEq, reduceIte, κn, κo, κp, κq, κr, κs, tys] <;> exact rfl))) | ((first | (refine call_val (g := ?_) ?_ ?_) | (refine call_valg (g := ?_) ?_ ?_)); rotate_left 1; (focus (simp only [Tryd.results9, Tryd.ntmps9, κt, wks, plain_pr, tkC, grC, hat, hlt, hd1, q4, q2, y0, y1, y2, y3, List.length_map, vcs, κa, κb, κc, κd, κe, κf, κg, κh, κi, κj, κk, κl, κm, reduceCtorEq, reduceIte, κn, κo, κp, κq, κr, κs, tys] <;> exact rfl))) | refine draw_end (by decide +kernel) ?_ | refine cond_bool (fun hb => ?_) (fun hb => ?_) | refine cond_bit (fun hb => ?_) (fun hb => ?_) | refine And.intro (by omega) ?_ | refine And.intro (fun hb => ?_) (fun hb => ?_) | fail
                all_goals ((refine again_can2F cxG (PSt.mk (k + 1) (Gr.mk g.v g.opn.dropLast) (kl :: junk) t.kind) [some b0, some (b0 + 1), some (b0 + 2), some y] ?_ ?_ ?_ ?_; rotate_left 2; (focus (show b0 ≤ _; omega)); (focus (refine ⟨?_, ?_⟩ <;> (try simp only [cans, canfs, tkC, grC, hwk, hdl, hjk, y0, y1, y2, y3, plain_tk, plain_nd, plain_no, isRow_inst, Bool.and_self, Bool.false_and, List.length_map, vcs, κa, κb, κc, κd, κe, κf, κg, κh, κi, κj, κk, κl, κm, reduceCtorEq, reduceIte, κn, κo, κp, κq, κr, κs, tys, injs]) <;> (try omega)))))
                all_goals (first | (show l.length - (k + 1) < l.length - k; omega) | exact hnext _ _ hst | skip)
              · have hst : stepG g t (last == 4) = (g, 80) := by unfold stepG; rw [if_neg (by omega), if_pos hk1, if_neg hln]
                have he := herr 80 (by rw [hst]) (by omega)
                have hsn := fun (M' : Mem) (a : M' b0 = some ⟨3, [grC (b0 + 1) (b0 + 2) g last]⟩) (b : M' (b0 + 1) = some ⟨6, g.v.map ndC⟩) (c : M' (b0 + 2) = some ⟨1, (g.opn ++ junk).map noC⟩) (d : ∀ w, (M' w).isSome = true → w ∈ [b0, b0 + 1, b0 + 2]) (m : Nat) => shut_no g k hg (by omega) junk last b0 (b0 + 1) (b0 + 2) t hln M' m (by omega) (by omega) (by omega) a b c d
                rcases hve with ⟨_, rfl, rfl⟩ | ⟨h0, _⟩
                · rw [he]
                  repeat' first | simp only [Tryd.results9, Tryd.ntmps9, κt, wks, plain_pr, tkC, grC, hat, hlt, hd1, fresh_lit, q4, q2, y0, y1, y2, y3, List.length_map, vcs, κa, κb, κc, κd, κe, κf, κg, κh, κi, κj, κk, κl, κm, reduceCtorEq, reduceIte, κn, κo, κp, κq, κr, κs, tys] | exact rfl | ((refine call_bnd (fi := ?_) ?_ ?_ [b0, b0 + 1, b0 + 2] (hsn _ ?_ ?_ ?_ only_mem _) ?_ ?_); rotate_left 1; iterate 6 (focus (simp only [mems, Tryd.results9, Tryd.ntmps9, κt, wks, plain_pr, tkC, grC, hat, hlt, hd1, fresh_lit, q4, q2, y0, y1, y2, y3, List.length_map, vcs, κa, κb, κc, κd, κe, κf, κg, κh, κi, κj, κk, κl, κm, reduceCtorEq, reduceIte, κn, κo, κp, κq, κr, κs, tys] <;> exact rfl))) | ((first | (refine call_val (g := ?_) ?_ ?_) | (refine call_valg (g := ?_) ?_ ?_)); rotate_left 1; (focus (simp only [Tryd.results9, Tryd.ntmps9, κt, wks, plain_pr, tkC, grC, hat, hlt, hd1, fresh_lit, q4, q2, y0, y1, y2, y3, List.length_map, vcs, κa, κb, κc, κd, κe, κf, κg, κh, κi, κj, κk, κl, κm, reduceCtorEq, reduceIte, κn, κo, κp, κq, κr, κs, tys] <;> exact rfl))) | refine draw_end (by decide +kernel) ?_ | refine cond_bool (fun hb => ?_) (fun hb => ?_) | refine cond_bit (fun hb => ?_) (fun hb => ?_) | refine And.intro (by omega) ?_ | refine And.intro (fun hb => ?_) (fun hb => ?_) | fail
                  all_goals ((refine Fin.give [(y, none)] [] ?_ ?_ ?_ ?_ ?_ (fun q hq => by have hqq := ho q hq; first | (simp only [gives, tgt, List.map_cons, List.map_nil, List.mem_cons, List.not_mem_nil, or_false] at hqq ⊢; omega) | (simp only [gives, tgt, List.map_cons, List.map_nil, List.mem_cons, List.not_mem_nil, or_false] at hqq)) <;> (try simp only [Tryd.results9, Tryd.ntmps9, wks, hy, y0, y1, y2, y3, plain_tk, giv, vcs, κa, κb, κc, κd, κe, κf, κg, κh, κi, κj, κk, κl, κm, reduceCtorEq, reduceIte, κn, κo, κp, κq, κr, κs, tys]) <;> (try simp only [injs]) <;> (try omega)))
                · omega
            · have q4 : ((t.kind : Int) == 4) = true := by rw [hk1]; rfl
              have htl : t.text.length ≤ lim := by have := hto.2.2.1; unfold lim; omega
              have hs0 : stepG g t (last == 4) = (if ((last == 4) || (g.opn.isEmpty && !blankL t.text)) = true then (g, 80) else if g.opn.isEmpty = true then (g, 0) else (⟨addG g (textN t.text), g.opn⟩, 0)) := by unfold stepG; rw [if_pos hk1]
              by_cases c1 : wordsBad g t last = true
              · have hst : stepG g t (last == 4) = (g, 80) := by exact hs0.trans (if_pos c1)
                have he := herr 80 (by rw [hst]) (by omega)
                have hsn := fun (M' : Mem) (a : M' b0 = some ⟨3, [grC (b0 + 1) (b0 + 2) g last]⟩) (b : M' (b0 + 1) = some ⟨6, g.v.map ndC⟩) (c : M' (b0 + 2) = some ⟨1, (g.opn ++ junk).map noC⟩) (d : ∀ w, (M' w).isSome = true → w ∈ [b0, b0 + 1, b0 + 2]) (m : Nat) => words_no g k hg (by omega) junk last b0 (b0 + 1) (b0 + 2) t htl 80 (.inl ⟨c1, rfl⟩) M' m (by omega) (by omega) (by omega) a b c d
                rcases hve with ⟨_, rfl, rfl⟩ | ⟨h0, _⟩
                · rw [he]
                  repeat' first | simp only [Tryd.results9, Tryd.ntmps9, κt, wks, plain_pr, tkC, grC, hat, hlt, hd1, fresh_lit, q4, y0, y1, y2, y3, List.length_map, vcs, κa, κb, κc, κd, κe, κf, κg, κh, κi, κj, κk, κl, κm, reduceCtorEq, reduceIte, κn, κo, κp, κq, κr, κs, tys] | exact rfl | ((refine call_bnd (fi := ?_) ?_ ?_ [b0, b0 + 1, b0 + 2] (hsn _ ?_ ?_ ?_ only_mem _) ?_ ?_); rotate_left 1; iterate 6 (focus (simp only [mems, Tryd.results9, Tryd.ntmps9, κt, wks, plain_pr, tkC, grC, hat, hlt, hd1, fresh_lit, q4, y0, y1, y2, y3, List.length_map, vcs, κa, κb, κc, κd, κe, κf, κg, κh, κi, κj, κk, κl, κm, reduceCtorEq, reduceIte, κn, κo, κp, κq, κr, κs, tys] <;> exact rfl))) | ((first | (refine call_val (g := ?_) ?_ ?_) | (refine call_valg (g := ?_) ?_ ?_)); rotate_left 1; (focus (simp only [Tryd.results9, Tryd.ntmps9, κt, wks, plain_pr, tkC, grC, hat, hlt, hd1, fresh_lit, q4, y0, y1, y2, y3, List.length_map, vcs, κa, κb, κc, κd, κe, κf, κg, κh, κi, κj, κk, κl, κm, reduceCtorEq, reduceIte, κn, κo, κp, κq, κr, κs, tys] <;> exact rfl))) | refine draw_end (by decide +kernel) ?_ | refine cond_bool (fun hb => ?_) (fun hb => ?_) | refine cond_bit (fun hb => ?_) (fun hb => ?_) | refine And.intro (by omega) ?_ | refine And.intro (fun hb => ?_) (fun hb => ?_) | fail
                  all_goals ((refine Fin.give [(y, none)] [] ?_ ?_ ?_ ?_ ?_ (fun q hq => by have hqq := ho q hq; first | (simp only [gives, tgt, List.map_cons, List.map_nil, List.mem_cons, List.not_mem_nil, or_false] at hqq ⊢; omega) | (simp only [gives, tgt, List.map_cons, List.map_nil, List.mem_cons, List.not_mem_nil, or_false] at hqq)) <;> (try simp only [Tryd.results9, Tryd.ntmps9, wks, hy, y0, y1, y2, y3, plain_tk, giv, vcs, κa, κb, κc, κd, κe, κf, κg, κh, κi, κj, κk, κl, κm, reduceCtorEq, reduceIte, κn, κo, κp, κq, κr, κs, tys]) <;> (try simp only [injs]) <;> (try omega)))
                · omega
              · have c1' : wordsBad g t last = false := by simpa using c1
                by_cases c2 : g.opn = []
                · have hst : stepG g t (last == 4) = (g, 0) := by exact hs0.trans ((if_neg c1).trans (if_pos (by rw [c2]; rfl)))
                  have hsy := fun (M' : Mem) (a : M' b0 = some ⟨3, [grC (b0 + 1) (b0 + 2) g last]⟩) (b : M' (b0 + 1) = some ⟨6, g.v.map ndC⟩) (c : M' (b0 + 2) = some ⟨1, (g.opn ++ junk).map noC⟩) (d : ∀ w, (M' w).isSome = true → w ∈ [b0, b0 + 1, b0 + 2]) (m : Nat) => words_no g k hg (by omega) junk last b0 (b0 + 1) (b0 + 2) t htl 0 (.inr ⟨c1', c2, rfl⟩) M' m (by omega) (by omega) (by omega) a b c d
                  repeat' first | simp only [Tryd.results9, Tryd.ntmps9, κt, wks, plain_pr, tkC, grC, hat, hlt, hd1, fresh_lit, q4, y0, y1, y2, y3, List.length_map, vcs, κa, κb, κc, κd, κe, κf, κg, κh, κi, κj, κk, κl, κm, reduceCtorEq, reduceIte, κn, κo, κp, κq, κr, κs, tys] | exact rfl | ((refine call_bnd (fi := ?_) ?_ ?_ [b0, b0 + 1, b0 + 2] (hsy _ ?_ ?_ ?_ only_mem _) ?_ ?_); rotate_left 1; iterate 6 (focus (simp only [mems, Tryd.results9, Tryd.ntmps9, κt, wks, plain_pr, tkC, grC, hat, hlt, hd1, fresh_lit, q4, y0, y1, y2, y3, List.length_map, vcs, κa, κb, κc, κd, κe, κf, κg, κh, κi, κj, κk, κl, κm, reduceCtorEq, reduceIte, κn, κo, κp, κq, κr, κs, tys] <;> exact rfl))) | ((first | (refine call_val (g := ?_) ?_ ?_) | (refine call_valg (g := ?_) ?_ ?_)); rotate_left 1; (focus (simp only [Tryd.results9, Tryd.ntmps9, κt, wks, plain_pr, tkC, grC, hat, hlt, hd1, fresh_lit, q4, y0, y1, y2, y3, List.length_map, vcs, κa, κb, κc, κd, κe, κf, κg, κh, κi, κj, κk, κl, κm, reduceCtorEq, reduceIte, κn, κo, κp, κq, κr, κs, tys] <;> exact rfl))) | refine draw_end (by decide +kernel) ?_ | refine cond_bool (fun hb => ?_) (fun hb => ?_) | refine cond_bit (fun hb => ?_) (fun hb => ?_) | refine And.intro (by omega) ?_ | refine And.intro (fun hb => ?_) (fun hb => ?_) | fail
                  all_goals ((refine again_can2F cxG (PSt.mk (k + 1) g junk t.kind) [some b0, some (b0 + 1), some (b0 + 2), some y] ?_ ?_ ?_ ?_; rotate_left 2; (focus (show b0 ≤ _; omega)); (focus (refine ⟨?_, ?_⟩ <;> (try simp only [cans, canfs, tkC, grC, hwk, y0, y1, y2, y3, plain_tk, plain_nd, plain_no, isRow_inst, Bool.and_self, Bool.false_and, List.length_map, vcs, κa, κb, κc, κd, κe, κf, κg, κh, κi, κj, κk, κl, κm, reduceCtorEq, reduceIte, κn, κo, κp, κq, κr, κs, tys, injs]) <;> (try omega)))))
                  all_goals (first | (show l.length - (k + 1) < l.length - k; omega) | exact hnext _ _ hst | skip)
                · have c3 : g.opn.isEmpty = false := by simpa using c2
                  have c4 : (last == 4) = false := by unfold wordsBad at c1'; simp only [Bool.or_eq_false_iff] at c1'; exact c1'.1
                  have hst : stepG g t (last == 4) = (⟨addG g (textN t.text), g.opn⟩, 0) := by exact hs0.trans ((if_neg c1).trans (if_neg (by simp [c3])))
                  have hal := addG_length g (textN t.text)
                  have ham := addG_map g (textN t.text)
                  have hsy := fun (M' : Mem) (a : M' b0 = some ⟨3, [grC (b0 + 1) (b0 + 2) g last]⟩) (b : M' (b0 + 1) = some ⟨6, g.v.map ndC⟩) (c : M' (b0 + 2) = some ⟨1, (g.opn ++ junk).map noC⟩) (d : ∀ w, (M' w).isSome = true → w ∈ [b0, b0 + 1, b0 + 2]) (m : Nat) (h1 : b0 < m) (h2 : b0 + 1 < m) (h3 : b0 + 2 < m) => words_add g k hg (by omega) junk last b0 (b0 + 1) (b0 + 2) t c4 c3 M' m (by omega) (by omega) (by omega) a b c d h1 h2 h3
                  repeat' first | simp only [Tryd.results9, Tryd.ntmps9, κt, wks, plain_pr, tkC, grC, hat, hlt, hd1, fresh_lit, q4, y0, y1, y2, y3, List.length_map, vcs, κa, κb, κc, κd, κe, κf, κg, κh, κi, κj, κk, κl, κm, reduceCtorEq, reduceIte, κn, κo, κp, κq, κr, κs, tys] | exact rfl | ((refine call_bnd (fi := ?_) ?_ ?_ [b0, b0 + 1, b0 + 2] (hsy _ ?_ ?_ ?_ only_mem _ (by omega) (by omega) (by omega)) ?_ ?_); rotate_left 1; iterate 6 (focus (simp only [mems, Tryd.results9, Tryd.ntmps9, κt, wks, plain_pr, tkC, grC, hat, hlt, hd1, fresh_lit, q4, y0, y1, y2, y3, List.length_map, vcs, κa, κb, κc, κd, κe, κf, κg, κh, κi, κj, κk, κl, κm, reduceCtorEq, reduceIte, κn, κo, κp, κq, κr, κs, tys] <;> exact rfl))) | ((first | (refine call_val (g := ?_) ?_ ?_) | (refine call_valg (g := ?_) ?_ ?_)); rotate_left 1; (focus (simp only [Tryd.results9, Tryd.ntmps9, κt, wks, plain_pr, tkC, grC, hat, hlt, hd1, fresh_lit, q4, y0, y1, y2, y3, List.length_map, vcs, κa, κb, κc, κd, κe, κf, κg, κh, κi, κj, κk, κl, κm, reduceCtorEq, reduceIte, κn, κo, κp, κq, κr, κs, tys] <;> exact rfl))) | refine draw_end (by decide +kernel) ?_ | refine cond_bool (fun hb => ?_) (fun hb => ?_) | refine cond_bit (fun hb => ?_) (fun hb => ?_) | refine And.intro (by omega) ?_ | refine And.intro (fun hb => ?_) (fun hb => ?_) | fail
                  all_goals ((refine again_can2F cxG (PSt.mk (k + 1) (Gr.mk (addG g (textN t.text)) g.opn) junk t.kind) [some b0, some (b0 + 256), some (b0 + 2), some y] ?_ ?_ ?_ ?_; rotate_left 2; (focus (show b0 ≤ _; omega)); (focus (refine ⟨?_, ?_⟩ <;> (try simp only [cans, canfs, tkC, grC, hwk, hal, ham, ndC_text, finLL_append, finLL_plain _ _ (plain_nd _), finLLOk_append, finLLOk_plain _ _ (plain_nd _), leLL_snoc, List.map_nil, plainLL_append, y0, y1, y2, y3, plain_tk, plain_nd, plain_no, isRow_inst, Bool.and_self, Bool.false_and, List.length_map, vcs, κa, κb, κc, κd, κe, κf, κg, κh, κi, κj, κk, κl, κm, reduceCtorEq, reduceIte, κn, κo, κp, κq, κr, κs, tys, injs]) <;> (try omega)))))
                  all_goals (first | (show l.length - (k + 1) < l.length - k; omega) | exact hnext _ _ hst | skip)
          · have hke : k = l.length := by omega
            subst hke
            have hd1 : decide (l.length < l.length) = false := decide_eq_false (by omega)
            rw [List.drop_length, goG_nil] at hgo
            have hvl := hg.len
            have hv0 : ((g.v.length : Int) == 0) = g.v.isEmpty := len_zero _
            have ho0 : decide ((0 : Int) < (g.opn.length : Int)) = !g.opn.isEmpty := by
              cases h : g.opn with
              | nil => rfl
              | cons a b => simp
            have htn := tak_nd g.v
            by_cases hx : g.v.isEmpty = true ∨ g.opn.isEmpty = false
            · have he := parse_xml h512 hany hgo hx
              rcases hve with ⟨_, rfl, rfl⟩ | ⟨h0, _⟩
              · rw [he]
                generalize hA : g.v.isEmpty = bA at hx hv0
                generalize hB : g.opn.isEmpty = bB at hx ho0
                cases bA <;> cases bB
                all_goals (try (exfalso; simp at hx; done))
                all_goals (
                  repeat' first | simp only [Tryd.results9, Tryd.ntmps9, κt, wks, grC, hd1, hv0, ho0, Bool.not_true, Bool.not_false, y0, y1, y2, y3, List.length_map, vcs, κa, κb, κc, κd, κe, κf, κg, κh, κi, κj, κk, κl, κm, reduceCtorEq, reduceIte, κn, κo, κp, κq, κr, κs, tys] | exact rfl | ((first | (refine call_val (g := ?_) ?_ ?_) | (refine call_valg (g := ?_) ?_ ?_)); rotate_left 1; (focus (simp only [Tryd.results9, Tryd.ntmps9, κt, wks, grC, hd1, hv0, ho0, Bool.not_true, Bool.not_false, y0, y1, y2, y3, List.length_map, vcs, κa, κb, κc, κd, κe, κf, κg, κh, κi, κj, κk, κl, κm, reduceCtorEq, reduceIte, κn, κo, κp, κq, κr, κs, tys] <;> exact rfl))) | refine draw_end (by decide +kernel) ?_ | refine cond_bool (fun hb => ?_) (fun hb => ?_) | refine cond_bit (fun hb => ?_) (fun hb => ?_) | refine And.intro (by omega) ?_ | refine And.intro (fun hb => ?_) (fun hb => ?_) | fail
                  all_goals ((refine Fin.give [(y, none)] [] ?_ ?_ ?_ ?_ ?_ (fun q hq => by have hqq := ho q hq; first | (simp only [gives, tgt, List.map_cons, List.map_nil, List.mem_cons, List.not_mem_nil, or_false] at hqq ⊢; omega) | (simp only [gives, tgt, List.map_cons, List.map_nil, List.mem_cons, List.not_mem_nil, or_false] at hqq)) <;> (try simp only [Tryd.results9, Tryd.ntmps9, wks, hy, y0, y1, y2, y3, plain_tk, giv, vcs, κa, κb, κc, κd, κe, κf, κg, κh, κi, κj, κk, κl, κm, reduceCtorEq, reduceIte, κn, κo, κp, κq, κr, κs, tys]) <;> (try simp only [injs]) <;> (try omega))))
              · omega
            · obtain ⟨he, hpt⟩ := parse_ok h512 hany hgo hx
              rcases hve with ⟨h0, _⟩ | ⟨_, rfl, rfl⟩
              · omega
              · rw [hpt]
                generalize hA : g.v.isEmpty = bA at hx hv0
                generalize hB : g.opn.isEmpty = bB at hx ho0
                cases bA <;> cases bB
                all_goals (try (exfalso; simp at hx; done))
                all_goals (
                  repeat' first | simp only [Tryd.results9, Tryd.ntmps9, κt, wks, grC, hd1, hv0, ho0, Bool.not_true, Bool.not_false, y0, y1, y2, y3, List.length_map, vcs, κa, κb, κc, κd, κe, κf, κg, κh, κi, κj, κk, κl, κm, reduceCtorEq, reduceIte, κn, κo, κp, κq, κr, κs, tys] | exact rfl | ((first | (refine call_val (g := ?_) ?_ ?_) | (refine call_valg (g := ?_) ?_ ?_)); rotate_left 1; (focus (simp only [Tryd.results9, Tryd.ntmps9, κt, wks, grC, hd1, hv0, ho0, Bool.not_true, Bool.not_false, y0, y1, y2, y3, List.length_map, vcs, κa, κb, κc, κd, κe, κf, κg, κh, κi, κj, κk, κl, κm, reduceCtorEq, reduceIte, κn, κo, κp, κq, κr, κs, tys] <;> exact rfl))) | refine draw_end (by decide +kernel) ?_ | refine cond_bool (fun hb => ?_) (fun hb => ?_) | refine cond_bit (fun hb => ?_) (fun hb => ?_) | refine And.intro (by omega) ?_ | refine And.intro (fun hb => ?_) (fun hb => ?_) | fail
                  all_goals ((refine Fin.give [(y, none), (b0 + 1, some 0)] [] ?_ ?_ ?_ ?_ ?_ (fun q hq => by have hqq := ho q hq; first | (simp only [gives, tgt, List.map_cons, List.map_nil, List.mem_cons, List.not_mem_nil, or_false] at hqq ⊢; omega) | (simp only [gives, tgt, List.map_cons, List.map_nil, List.mem_cons, List.not_mem_nil, or_false] at hqq)) <;> (try simp only [Tryd.results9, Tryd.ntmps9, wks, hy, y0, y1, y2, y3, plain_tk, plain_nd, giv, vcs, κa, κb, κc, κd, κe, κf, κg, κh, κi, κj, κk, κl, κm, reduceCtorEq, reduceIte, κn, κo, κp, κq, κr, κs, tys]) <;> (try simp only [injs]) <;> (try omega))))
      exact ⟨fun h => main _ _ (.inl ⟨h, rfl, rfl⟩), fun h => main _ _ (.inr ⟨h, rfl, rfl⟩)⟩
end Go.Proofs.YtanahnknjboplaaDoor
/-
  The document's answer for layer 10 by the machine: blanks; attributes given; a tree under way with a node more.
-/
namespace Go.Proofs.YtanahnknjboplaaDoor
set_option linter.unusedSimpArgs false
set_option linter.unusedVariables false
open Nat renaming reduceAdd → κa, reduceMul → κb, reduceEqDiff → κc, reduceLeDiff → κd, reduceSub → κe, reduceLT → κf, reduceBEq → κr, reduceBNe → κs, reducePow → κt
open Int renaming reduceToNat → κg, reduceLE → κh, reduceLT → κi, reduceAdd → κj, reduceSub → κk, reduceMul → κl, reduceNeg → κm, reduceBEq → κn, reduceBNe → κo, reduceEq → κp, reduceNe → κq
open Go Go.RowKit Go.Proofs.YtanahnknjboplaaDoor.Vm Go.Lib

set_option maxRecDepth 100000 in
set_option maxHeartbeats 4000000 in
theorem given_own (l : List Pr) (hl : l.length ≤ 1000) (nm : Nat) : Ev cx 59 nm [.sl false 2 (l.map prC)] Mem.nil (.own nm 0 l.length) [(nm, some ⟨3, (givenL l).map atC⟩)] := by
  refine ev_go (fun cargs w => Tryd.call59 cargs w) Tryd.func59 rfl mixed (by kernel_rfl) rfl ?_; intro b0 hb0
  repeat' first | simp only [Tryd.results59, Tryd.ntmps59, κt, wks, vcs, κa, κb, κc, κd, κe, κf, κg, κh, κi, κj, κk, κl, κm, reduceCtorEq, reduceIte, κn, κo, κp, κq, κr, κs, tys] | exact rfl | ((first | (refine call_val (g := ?_) ?_ ?_) | (refine call_valg (g := ?_) ?_ ?_)); rotate_left 1; (focus (simp only [Tryd.results59, Tryd.ntmps59, κt, wks, vcs, κa, κb, κc, κd, κe, κf, κg, κh, κi, κj, κk, κl, κm, reduceCtorEq, reduceIte, κn, κo, κp, κq, κr, κs, tys] <;> exact rfl))) | refine draw_end (by decide +kernel) ?_ | refine cond_bool (fun hb => ?_) (fun hb => ?_) | refine cond_bit (fun hb => ?_) (fun hb => ?_) | refine And.intro (by omega) ?_ | refine And.intro (fun hb => ?_) (fun hb => ?_) | fail
  (refine loop_can2 cxG (fun x : Nat => l.length - x) (fun x => x ≤ l.length) (b0 + 16) (fun x => [(0, .sl false 2 (l.map prC)), (3, .own b0 0 x), (4, .int .i64 x)]) (fun x => [(b0, ⟨3, (givenL (l.take x)).map atC⟩)]) (0) [none] ?_ ?_ ?_ ?_; rotate_left 1; (focus (show b0 ≤ _; omega)); (focus (refine ⟨?_, ?_⟩ <;> (try simp only [cans, plain_pr, isRow_inst, given_zero, List.take_zero, List.map_nil, List.length_map, vcs, κa, κb, κc, κd, κe, κf, κg, κh, κi, κj, κk, κl, κm, reduceCtorEq, reduceIte, κn, κo, κp, κq, κr, κs, tys, injs]) <;> (try omega))); rotate_left 1)
  · exact Nat.zero_le _
  · intro k hk
    by_cases hlt : k < l.length
    · obtain ⟨a, ha⟩ : ∃ a, l[k]? = some a := ⟨_, List.getElem?_eq_getElem hlt⟩
      have hat := pr_at ha
      have hd : decide (k < l.length) = true := decide_eq_true hlt
      have hwk : IntKind.i64.wrap ((k : Int) + 1) = ((k + 1 : Nat) : Int) := wrap_in (by omega) (by omega)
      have hgl : (givenL (l.take k)).length = k := by rw [given_length, List.length_take]; omega
      have htl : ((givenL (l.take k)).map atC).take k = (givenL (l.take k)).map atC := List.take_of_length_le (by rw [List.length_map, hgl]; omega)
      have hgs := given_snoc ha
      repeat' first | simp only [Tryd.results59, Tryd.ntmps59, κt, wks, plain_pr, hat, prC, hd, hlt, hgl, htl, hgs, List.length_map, vcs, κa, κb, κc, κd, κe, κf, κg, κh, κi, κj, κk, κl, κm, reduceCtorEq, reduceIte, κn, κo, κp, κq, κr, κs, tys] | exact rfl | ((first | (refine call_val (g := ?_) ?_ ?_) | (refine call_valg (g := ?_) ?_ ?_)); rotate_left 1; (focus (simp only [Tryd.results59, Tryd.ntmps59, κt, wks, plain_pr, hat, prC, hd, hlt, hgl, htl, hgs, List.length_map, vcs, κa, κb, κc, κd, κe, κf, κg, κh, κi, κj, κk, κl, κm, reduceCtorEq, reduceIte, κn, κo, κp, κq, κr, κs, tys] <;> exact rfl))) | refine draw_end (by decide +kernel) ?_ | refine cond_bool (fun hb => ?_) (fun hb => ?_) | refine cond_bit (fun hb => ?_) (fun hb => ?_) | refine And.intro (by omega) ?_ | refine And.intro (fun hb => ?_) (fun hb => ?_) | fail
      all_goals ((refine again_can2 cxG (k + 1) [some (b0 + 288)] ?_ ?_ ?_ ?_; rotate_left 2; (focus (show b0 ≤ _; omega)); (focus (refine ⟨?_, ?_⟩ <;> (try simp only [cans, plain_pr, plain_at, isRow_inst, hwk, List.length_map, vcs, κa, κb, κc, κd, κe, κf, κg, κh, κi, κj, κk, κl, κm, reduceCtorEq, reduceIte, κn, κo, κp, κq, κr, κs, tys, injs]) <;> (try omega)))))
      all_goals (first | (show l.length - (k + 1) < l.length - k; omega) | (show k + 1 ≤ l.length; omega) | skip)
    · have hke : k = l.length := by omega
      subst hke
      have hd : decide (l.length < l.length) = false := decide_eq_false (by omega)
      ((repeat' first | simp only [Tryd.results59, Tryd.ntmps59, κt, wks, plain_at, hd, List.take_length, List.length_map, vcs, κa, κb, κc, κd, κe, κf, κg, κh, κi, κj, κk, κl, κm, reduceCtorEq, reduceIte, κn, κo, κp, κq, κr, κs, tys] | exact rfl | ((first | (refine call_val (g := ?_) ?_ ?_) | (refine call_valg (g := ?_) ?_ ?_)); rotate_left 1; (focus (simp only [Tryd.results59, Tryd.ntmps59, κt, wks, plain_at, hd, List.take_length, List.length_map, vcs, κa, κb, κc, κd, κe, κf, κg, κh, κi, κj, κk, κl, κm, reduceCtorEq, reduceIte, κn, κo, κp, κq, κr, κs, tys] <;> exact rfl))) | refine draw_end (by decide +kernel) ?_ | refine cond_bool (fun hb => ?_) (fun hb => ?_) | refine cond_bit (fun hb => ?_) (fun hb => ?_) | refine And.intro (by omega) ?_ | refine And.intro (fun hb => ?_) (fun hb => ?_) | fail); (all_goals (first | (refine Fin.auto (r := ?_) (l := ?_) ?_ ?_ ?_ ?_ ?_ ?_ ?_; rotate_left 1; (simp only [Tryd.results59, Tryd.ntmps59, envL_cons, envL_nil, memL_cons, memL_nil, plain_at, hd, List.take_length, List.length_map, vcs, κa, κb, κc, κd, κe, κf, κg, κh, κi, κj, κk, κl, κm, reduceCtorEq, reduceIte, κn, κo, κp, κq, κr, κs, tys]); (exact rfl); rotate_left 1; (simp only [V.owns, ownsL, List.cons_append, List.nil_append]); (exact rfl); all_goals (try simp only [Tryd.results59, Tryd.ntmps59, envL_cons, envL_nil, memL_cons, memL_nil, plain_at, hd, List.take_length, List.length_map, ownx, vcs, κa, κb, κc, κd, κe, κf, κg, κh, κi, κj, κk, κl, κm, reduceCtorEq, reduceIte, κn, κo, κp, κq, κr, κs, tys]); all_goals (try simp only [injs])) | skip)))
theorem flat_at (l : List At) : flatLL (l.map atC) = true := flatLL_map _ (fun _ => rfl) l
theorem given_ev (l : List Pr) (hl : l.length ≤ 1000) (nm : Nat) : EvF cx 59 nm [.sl false 2 (l.map prC)] (.sl false 3 ((givenL l).map atC)) := by
  refine ⟨_, _, given_own l hl nm, ?_, ?_, ?_, ?_, ?_⟩
  · simp [V.flatO, effNames]
  · intro p hp k hk
    simp at hp; subst hp; simp at hk; subst hk
    exact ⟨rfl, flat_at _⟩
  · intro x hx; simp [effNames] at hx; subst hx; exact ⟨Nat.le_refl _, by omega⟩
  · have e : (Mem.nil.app [(nm, some (⟨3, (givenL l).map atC⟩ : Blk))]) nm = some ⟨3, (givenL l).map atC⟩ := by simp [Mem.app, Mem.put]
    have e2 : rowsOf (Mem.nil.app [(nm, some (⟨3, (givenL l).map atC⟩ : Blk))]) nm = (givenL l).map atC := by unfold rowsOf; rw [e]
    intro _
    refine ⟨.inr ⟨by rw [e]; rfl, by rw [e2]; simp [givenL]⟩, ?_⟩
    rw [e2, List.drop_zero, List.take_of_length_le (by simp [givenL])]; exact plain_at _
  · have e : (Mem.nil.app [(nm, some (⟨3, (givenL l).map atC⟩ : Blk))]) nm = some ⟨3, (givenL l).map atC⟩ := by simp [Mem.app, Mem.put]
    have e2 : rowsOf (Mem.nil.app [(nm, some (⟨3, (givenL l).map atC⟩ : Blk))]) nm = (givenL l).map atC := by unfold rowsOf; rw [e]
    have e3 : szOf (Mem.nil.app [(nm, some (⟨3, (givenL l).map atC⟩ : Blk))]) nm = 3 := by unfold szOf; rw [e]
    simp only [V.fin, newName_nil, e2, e3, List.drop_zero]
    rw [List.take_of_length_le (by simp [givenL])]
    exact V.le_refl _
def blankTo (s : List UInt8) (k : Nat) : Prop := ∀ i c, i < k → s[i]? = some c → blankB c = true
set_option maxRecDepth 100000 in
set_option maxHeartbeats 4000000 in
theorem rBlank_ev (s : List UInt8) (hs : s.length ≤ lim) (nm : Nat) : Ev cx 57 nm [.str s] Mem.nil (.bool (blankL s)) [] := by
  unfold lim at hs
  refine ev_go (fun cargs w => Tryd.call57 cargs w) Tryd.func57 rfl mixed (by kernel_rfl) rfl ?_; intro b0 hb0
  repeat' first | simp only [Tryd.results57, Tryd.ntmps57, κt, wks, vcs, κa, κb, κc, κd, κe, κf, κg, κh, κi, κj, κk, κl, κm, reduceCtorEq, reduceIte, κn, κo, κp, κq, κr, κs, tys] | exact rfl | ((first | (refine call_val (g := ?_) ?_ ?_) | (refine call_valg (g := ?_) ?_ ?_)); rotate_left 1; (focus (simp only [Tryd.results57, Tryd.ntmps57, κt, wks, vcs, κa, κb, κc, κd, κe, κf, κg, κh, κi, κj, κk, κl, κm, reduceCtorEq, reduceIte, κn, κo, κp, κq, κr, κs, tys] <;> exact rfl))) | refine draw_end (by decide +kernel) ?_ | refine cond_bool (fun hb => ?_) (fun hb => ?_) | refine cond_bit (fun hb => ?_) (fun hb => ?_) | refine And.intro (by omega) ?_ | refine And.intro (fun hb => ?_) (fun hb => ?_) | fail
  (refine loop_can2 cxG (fun x : Nat => s.length - x) (fun x => x ≤ s.length ∧ blankTo s x) (b0 + 16) (fun x => [(0, .str s), (3, .int .i64 x)]) (fun x => []) (0) [] ?_ ?_ ?_ ?_; rotate_left 1; (focus (show b0 ≤ _; omega)); (focus (refine ⟨?_, ?_⟩ <;> (try simp only [cans, vcs, κa, κb, κc, κd, κe, κf, κg, κh, κi, κj, κk, κl, κm, reduceCtorEq, reduceIte, κn, κo, κp, κq, κr, κs, tys, injs]) <;> (try omega))); rotate_left 1)
  · exact ⟨Nat.zero_le _, fun i c hi => by omega⟩
  · rintro k ⟨hk, hb⟩
    by_cases hlt : k < s.length
    · obtain ⟨c, hc⟩ : ∃ c, s[k]? = some c := ⟨_, List.getElem?_eq_getElem hlt⟩
      have hd : decide (k < s.length) = true := decide_eq_true hlt
      have hwk : IntKind.i64.wrap ((k : Int) + 1) = ((k + 1 : Nat) : Int) := wrap_in (by omega) (by omega)
      have q : ∀ d : UInt8, ((c.toNat : Int) != (d.toNat : Int)) = !(c == d) := fun d => by
        have := beq_byte c d
        rw [bne, this]
        congr 1
      have q1 : ((c.toNat : Int) != 32) = !(c == 32) := q 32
      have q2 : ((c.toNat : Int) != 9) = !(c == 9) := q 9
      have q3 : ((c.toNat : Int) != 10) = !(c == 10) := q 10
      have q4 : ((c.toNat : Int) != 13) = !(c == 13) := q 13
      have hbd : blankB c = (c == 32 || c == 9 || c == 10 || c == 13) := rfl
      generalize (c == 32) = p1 at q1 hbd
      generalize (c == 9) = p2 at q2 hbd
      generalize (c == 10) = p3 at q3 hbd
      generalize (c == 13) = p4 at q4 hbd
      have hcs : (p1 = true ∧ blankB c = true) ∨ (p1 = false ∧ p2 = true ∧ blankB c = true) ∨ (p1 = false ∧ p2 = false ∧ p3 = true ∧ blankB c = true) ∨ (p1 = false ∧ p2 = false ∧ p3 = false ∧ p4 = true ∧ blankB c = true) ∨ (p1 = false ∧ p2 = false ∧ p3 = false ∧ p4 = false ∧ blankB c = false) := by
        cases p1 <;> cases p2 <;> cases p3 <;> cases p4 <;> simp at hbd ⊢ <;> exact hbd
      have hyes : blankB c = true → blankTo s (k + 1) := fun h i d hi hdd => by
        by_cases e : i = k
        · subst e; rw [hc] at hdd; cases hdd; exact h
        · exact hb i d (by omega) hdd
      rcases hcs with ⟨rfl, h⟩ | ⟨rfl, rfl, h⟩ | ⟨rfl, rfl, rfl, h⟩ | ⟨rfl, rfl, rfl, rfl, h⟩ | ⟨rfl, rfl, rfl, rfl, h⟩
      · repeat' first | simp only [Tryd.results57, Tryd.ntmps57, κt, wks, hc, hd, hlt, q1, q2, q3, q4, Bool.not_true, Bool.not_false, vcs, κa, κb, κc, κd, κe, κf, κg, κh, κi, κj, κk, κl, κm, reduceCtorEq, reduceIte, κn, κo, κp, κq, κr, κs, tys] | exact rfl | ((first | (refine call_val (g := ?_) ?_ ?_) | (refine call_valg (g := ?_) ?_ ?_)); rotate_left 1; (focus (simp only [Tryd.results57, Tryd.ntmps57, κt, wks, hc, hd, hlt, q1, q2, q3, q4, Bool.not_true, Bool.not_false, vcs, κa, κb, κc, κd, κe, κf, κg, κh, κi, κj, κk, κl, κm, reduceCtorEq, reduceIte, κn, κo, κp, κq, κr, κs, tys] <;> exact rfl))) | refine draw_end (by decide +kernel) ?_ | refine cond_bool (fun hb => ?_) (fun hb => ?_) | refine cond_bit (fun hb => ?_) (fun hb => ?_) | refine And.intro (by omega) ?_ | refine And.intro (fun hb => ?_) (fun hb => ?_) | fail
        all_goals ((refine again_can2 cxG (k + 1) [] ?_ ?_ ?_ ?_; rotate_left 2; (focus (show b0 ≤ _; omega)); (focus (refine ⟨?_, ?_⟩ <;> (try simp only [cans, hwk, vcs, κa, κb, κc, κd, κe, κf, κg, κh, κi, κj, κk, κl, κm, reduceCtorEq, reduceIte, κn, κo, κp, κq, κr, κs, tys, injs]) <;> (try omega)))))
        all_goals (first | (show s.length - (k + 1) < s.length - k; omega) | exact ⟨hlt, hyes h⟩ | skip)
      · repeat' first | simp only [Tryd.results57, Tryd.ntmps57, κt, wks, hc, hd, hlt, q1, q2, q3, q4, Bool.not_true, Bool.not_false, vcs, κa, κb, κc, κd, κe, κf, κg, κh, κi, κj, κk, κl, κm, reduceCtorEq, reduceIte, κn, κo, κp, κq, κr, κs, tys] | exact rfl | ((first | (refine call_val (g := ?_) ?_ ?_) | (refine call_valg (g := ?_) ?_ ?_)); rotate_left 1; (focus (simp only [Tryd.results57, Tryd.ntmps57, κt, wks, hc, hd, hlt, q1, q2, q3, q4, Bool.not_true, Bool.not_false, vcs, κa, κb, κc, κd, κe, κf, κg, κh, κi, κj, κk, κl, κm, reduceCtorEq, reduceIte, κn, κo, κp, κq, κr, κs, tys] <;> exact rfl))) | refine draw_end (by decide +kernel) ?_ | refine cond_bool (fun hb => ?_) (fun hb => ?_) | refine cond_bit (fun hb => ?_) (fun hb => ?_) | refine And.intro (by omega) ?_ | refine And.intro (fun hb => ?_) (fun hb => ?_) | fail
        all_goals ((refine again_can2 cxG (k + 1) [] ?_ ?_ ?_ ?_; rotate_left 2; (focus (show b0 ≤ _; omega)); (focus (refine ⟨?_, ?_⟩ <;> (try simp only [cans, hwk, vcs, κa, κb, κc, κd, κe, κf, κg, κh, κi, κj, κk, κl, κm, reduceCtorEq, reduceIte, κn, κo, κp, κq, κr, κs, tys, injs]) <;> (try omega)))))
        all_goals (first | (show s.length - (k + 1) < s.length - k; omega) | exact ⟨hlt, hyes h⟩ | skip)
      · repeat' first | simp only [Tryd.results57, Tryd.ntmps57, κt, wks, hc, hd, hlt, q1, q2, q3, q4, Bool.not_true, Bool.not_false, vcs, κa, κb, κc, κd, κe, κf, κg, κh, κi, κj, κk, κl, κm, reduceCtorEq, reduceIte, κn, κo, κp, κq, κr, κs, tys] | exact rfl | ((first | (refine call_val (g := ?_) ?_ ?_) | (refine call_valg (g := ?_) ?_ ?_)); rotate_left 1; (focus (simp only [Tryd.results57, Tryd.ntmps57, κt, wks, hc, hd, hlt, q1, q2, q3, q4, Bool.not_true, Bool.not_false, vcs, κa, κb, κc, κd, κe, κf, κg, κh, κi, κj, κk, κl, κm, reduceCtorEq, reduceIte, κn, κo, κp, κq, κr, κs, tys] <;> exact rfl))) | refine draw_end (by decide +kernel) ?_ | refine cond_bool (fun hb => ?_) (fun hb => ?_) | refine cond_bit (fun hb => ?_) (fun hb => ?_) | refine And.intro (by omega) ?_ | refine And.intro (fun hb => ?_) (fun hb => ?_) | fail
        all_goals ((refine again_can2 cxG (k + 1) [] ?_ ?_ ?_ ?_; rotate_left 2; (focus (show b0 ≤ _; omega)); (focus (refine ⟨?_, ?_⟩ <;> (try simp only [cans, hwk, vcs, κa, κb, κc, κd, κe, κf, κg, κh, κi, κj, κk, κl, κm, reduceCtorEq, reduceIte, κn, κo, κp, κq, κr, κs, tys, injs]) <;> (try omega)))))
        all_goals (first | (show s.length - (k + 1) < s.length - k; omega) | exact ⟨hlt, hyes h⟩ | skip)
      · repeat' first | simp only [Tryd.results57, Tryd.ntmps57, κt, wks, hc, hd, hlt, q1, q2, q3, q4, Bool.not_true, Bool.not_false, vcs, κa, κb, κc, κd, κe, κf, κg, κh, κi, κj, κk, κl, κm, reduceCtorEq, reduceIte, κn, κo, κp, κq, κr, κs, tys] | exact rfl | ((first | (refine call_val (g := ?_) ?_ ?_) | (refine call_valg (g := ?_) ?_ ?_)); rotate_left 1; (focus (simp only [Tryd.results57, Tryd.ntmps57, κt, wks, hc, hd, hlt, q1, q2, q3, q4, Bool.not_true, Bool.not_false, vcs, κa, κb, κc, κd, κe, κf, κg, κh, κi, κj, κk, κl, κm, reduceCtorEq, reduceIte, κn, κo, κp, κq, κr, κs, tys] <;> exact rfl))) | refine draw_end (by decide +kernel) ?_ | refine cond_bool (fun hb => ?_) (fun hb => ?_) | refine cond_bit (fun hb => ?_) (fun hb => ?_) | refine And.intro (by omega) ?_ | refine And.intro (fun hb => ?_) (fun hb => ?_) | fail
        all_goals ((refine again_can2 cxG (k + 1) [] ?_ ?_ ?_ ?_; rotate_left 2; (focus (show b0 ≤ _; omega)); (focus (refine ⟨?_, ?_⟩ <;> (try simp only [cans, hwk, vcs, κa, κb, κc, κd, κe, κf, κg, κh, κi, κj, κk, κl, κm, reduceCtorEq, reduceIte, κn, κo, κp, κq, κr, κs, tys, injs]) <;> (try omega)))))
        all_goals (first | (show s.length - (k + 1) < s.length - k; omega) | exact ⟨hlt, hyes h⟩ | skip)
      · have hr : blankL s = false := by
          cases hh : blankL s with
          | false => rfl
          | true => have := List.all_eq_true.1 hh c (List.mem_of_getElem? hc); rw [h] at this; cases this
        ((repeat' first | simp only [Tryd.results57, Tryd.ntmps57, κt, wks, hc, hd, hlt, hr, q1, q2, q3, q4, Bool.not_true, Bool.not_false, vcs, κa, κb, κc, κd, κe, κf, κg, κh, κi, κj, κk, κl, κm, reduceCtorEq, reduceIte, κn, κo, κp, κq, κr, κs, tys] | exact rfl | ((first | (refine call_val (g := ?_) ?_ ?_) | (refine call_valg (g := ?_) ?_ ?_)); rotate_left 1; (focus (simp only [Tryd.results57, Tryd.ntmps57, κt, wks, hc, hd, hlt, hr, q1, q2, q3, q4, Bool.not_true, Bool.not_false, vcs, κa, κb, κc, κd, κe, κf, κg, κh, κi, κj, κk, κl, κm, reduceCtorEq, reduceIte, κn, κo, κp, κq, κr, κs, tys] <;> exact rfl))) | refine draw_end (by decide +kernel) ?_ | refine cond_bool (fun hb => ?_) (fun hb => ?_) | refine cond_bit (fun hb => ?_) (fun hb => ?_) | refine And.intro (by omega) ?_ | refine And.intro (fun hb => ?_) (fun hb => ?_) | fail); (all_goals (first | (refine Fin.pure ?_ ?_ ?_ <;> (try simp only [Tryd.results57, Tryd.ntmps57, wks, hc, hd, hlt, hr, q1, q2, q3, q4, Bool.not_true, Bool.not_false, vcs, κa, κb, κc, κd, κe, κf, κg, κh, κi, κj, κk, κl, κm, reduceCtorEq, reduceIte, κn, κo, κp, κq, κr, κs, tys]) <;> (try simp only [injs])) | skip)))
    · have hke : k = s.length := by omega
      subst hke
      have hd : decide (s.length < s.length) = false := decide_eq_false (by omega)
      have hr : blankL s = true := List.all_eq_true.2 (fun c hc => by
        obtain ⟨i, hi⟩ := List.mem_iff_getElem?.1 hc
        exact hb i c (List.getElem?_eq_some_iff.1 hi).1 hi)
      ((repeat' first | simp only [Tryd.results57, Tryd.ntmps57, κt, wks, hd, hr, vcs, κa, κb, κc, κd, κe, κf, κg, κh, κi, κj, κk, κl, κm, reduceCtorEq, reduceIte, κn, κo, κp, κq, κr, κs, tys] | exact rfl | ((first | (refine call_val (g := ?_) ?_ ?_) | (refine call_valg (g := ?_) ?_ ?_)); rotate_left 1; (focus (simp only [Tryd.results57, Tryd.ntmps57, κt, wks, hd, hr, vcs, κa, κb, κc, κd, κe, κf, κg, κh, κi, κj, κk, κl, κm, reduceCtorEq, reduceIte, κn, κo, κp, κq, κr, κs, tys] <;> exact rfl))) | refine draw_end (by decide +kernel) ?_ | refine cond_bool (fun hb => ?_) (fun hb => ?_) | refine cond_bit (fun hb => ?_) (fun hb => ?_) | refine And.intro (by omega) ?_ | refine And.intro (fun hb => ?_) (fun hb => ?_) | fail); (all_goals (first | (refine Fin.pure ?_ ?_ ?_ <;> (try simp only [Tryd.results57, Tryd.ntmps57, wks, hd, hr, vcs, κa, κb, κc, κd, κe, κf, κg, κh, κi, κj, κk, κl, κm, reduceCtorEq, reduceIte, κn, κo, κp, κq, κr, κs, tys]) <;> (try simp only [injs])) | skip)))
set_option maxRecDepth 100000 in
set_option maxHeartbeats 8000000 in
theorem with_elem (g : Gr) (n : Nat) (hg : g.Ok n) (hn : n ≤ 1000) (junk : List Nat) (y z : Nat) (name : List UInt8) (ats : List At) (M : Mem) (nm : Nat) (hyz : y ≠ z) (hy : M y = some ⟨6, g.v.map ndC⟩) (hz : M z = some ⟨1, (g.opn ++ junk).map noC⟩) (ho : ∀ w, (M w).isSome = true → w ∈ [y, z]) (hyn : y < nm) (hzn : z < nm) :
    Ev cx 58 nm [.agg [.own y 0 g.v.length, .own z 0 g.opn.length], .agg [.int .u8 1, .str [], .str name, .sl false 3 (ats.map atC), .str [], .int .i64 0]] M (.agg [.own nm 0 (g.v.length + 1), .own (nm + 1) 0 (g.opn.length + 1)]) [(y, none), (z, none), (nm, some ⟨6, (incG g.v g.opn).map ndC ++ [[.int .u8 1, .str [], .str name, .sl false 3 (ats.map atC), .str [], .int .i64 0]]⟩), (nm + 1, some ⟨1, g.opn.map noC ++ [noC g.v.length]⟩)] := by
  have hvl := hg.len
  have hl12 := hg.deep
  have htn := tak_nd g.v
  have hlj : g.opn.length ≤ (g.opn ++ junk).length := by simp
  have htk : ((g.opn ++ junk).map noC).take g.opn.length = g.opn.map noC := by rw [← List.map_take, List.take_left]
  have hpn0 : plainLL (g.opn.map noC ++ junk.map noC) = true := by rw [← List.map_append]; exact plain_no _
  by_cases h0 : g.opn = []
  · have hl0 : g.opn.length = 0 := by rw [h0]; rfl
    have hinc : incG g.v g.opn = g.v := by rw [h0]; rfl
    rw [hinc]
    have hd : decide ((0 : Int) < (g.opn.length : Int)) = false := decide_eq_false (by omega)
    refine ev_go (fun cargs w => Tryd.call58 cargs w) Tryd.func58 rfl mixed (by kernel_rfl) rfl ?_; intro b0 hb0
    have ly : y < b0 := below_of hb0 (by rw [hy]; rfl)
    have y0 := lt_ne ly; have y1 := lt_ne_add ly; have y2 := lt_ne' ly; have y3 := lt_ne_add' ly
    have lz : z < b0 := below_of hb0 (by rw [hz]; rfl)
    have w0 := lt_ne lz; have w1 := lt_ne_add lz; have w2 := lt_ne' lz; have w3 := lt_ne_add' lz
    have n3 := eq_false hyz; have n6 := eq_false (Ne.symm hyz)
    repeat' first | simp only [Tryd.results58, Tryd.ntmps58, κt, wks, hd, hy, hz, htn, htk, hlj, y0, y1, y2, y3, w0, w1, w2, w3, n3, n6, plain_nd, plain_at, List.length_map, vcs, κa, κb, κc, κd, κe, κf, κg, κh, κi, κj, κk, κl, κm, reduceCtorEq, reduceIte, κn, κo, κp, κq, κr, κs, tys] | exact rfl | ((first | (refine call_val (g := ?_) ?_ ?_) | (refine call_valg (g := ?_) ?_ ?_)); rotate_left 1; (focus (simp only [Tryd.results58, Tryd.ntmps58, κt, wks, hd, hy, hz, htn, htk, hlj, y0, y1, y2, y3, w0, w1, w2, w3, n3, n6, plain_nd, plain_at, List.length_map, vcs, κa, κb, κc, κd, κe, κf, κg, κh, κi, κj, κk, κl, κm, reduceCtorEq, reduceIte, κn, κo, κp, κq, κr, κs, tys] <;> exact rfl))) | refine draw_end (by decide +kernel) ?_ | refine cond_bool (fun hb => ?_) (fun hb => ?_) | refine cond_bit (fun hb => ?_) (fun hb => ?_) | refine And.intro (by omega) ?_ | refine And.intro (fun hb => ?_) (fun hb => ?_) | fail
    all_goals ((refine Fin.give [(b0 + 400, some 0), (b0 + 288, some 1)] [y, z] ?_ ?_ ?_ ?_ ?_ (fun q hq => by have hqq := ho q hq; first | (simp only [gives, tgt, List.map_cons, List.map_nil, List.mem_cons, List.not_mem_nil, or_false] at hqq ⊢; omega) | (simp only [gives, tgt, List.map_cons, List.map_nil, List.mem_cons, List.not_mem_nil, or_false] at hqq)) <;> (try simp only [Tryd.results58, Tryd.ntmps58, wks, hy, hz, noC, y0, y1, y2, y3, w0, w1, w2, w3, n3, n6, hpn0, Bool.and_self, Bool.false_and, plainLL_append, plain_at, plain_nd, plain_no, List.map_append, List.length_map, giv, vcs, κa, κb, κc, κd, κe, κf, κg, κh, κi, κj, κk, κl, κm, reduceCtorEq, reduceIte, κn, κo, κp, κq, κr, κs, tys]) <;> (try simp only [injs]) <;> (try omega)))
  · obtain ⟨k, hk⟩ := last_some h0
    obtain ⟨_, hk2, hk3⟩ := last_get hk
    have hkv := hg.in_ k (List.mem_of_getElem? hk2)
    obtain ⟨x0, hx0⟩ : ∃ x0, g.v[k]? = some x0 := ⟨_, List.getElem?_eq_getElem hkv⟩
    have hm := hg.many x0 (List.mem_of_getElem? hx0)
    have hinc := incG_last (v := g.v) hk
    have hd : decide ((0 : Int) < (g.opn.length : Int)) = true := decide_eq_true (by omega)
    have hwl : IntKind.i64.wrap ((g.opn.length : Int) - 1) = ((g.opn.length - 1 : Nat) : Int) := by rw [wrap_in (by omega) (by omega)]; omega
    have hlt : g.opn.length - 1 < g.opn.length := by omega
    have hno := no_at (m := junk) hk2
    have hnd := nd_at hx0
    have hwm : IntKind.i64.wrap (x0.many + 1) = x0.many + 1 := wrap_in (by omega) (by omega)
    have hset := nd_set hx0 (x0.many + 1) rfl
    have hml : ((g.v.modify k Nd.inc).map ndC).take g.v.length = (g.v.modify k Nd.inc).map ndC := List.take_of_length_le (by simp)
    have hmn : (g.v.modify k Nd.inc).length = g.v.length := by simp
    rw [hinc]
    refine ev_go (fun cargs w => Tryd.call58 cargs w) Tryd.func58 rfl mixed (by kernel_rfl) rfl ?_; intro b0 hb0
    have ly : y < b0 := below_of hb0 (by rw [hy]; rfl)
    have y0 := lt_ne ly; have y1 := lt_ne_add ly; have y2 := lt_ne' ly; have y3 := lt_ne_add' ly
    have lz : z < b0 := below_of hb0 (by rw [hz]; rfl)
    have w0 := lt_ne lz; have w1 := lt_ne_add lz; have w2 := lt_ne' lz; have w3 := lt_ne_add' lz
    have n3 := eq_false hyz; have n6 := eq_false (Ne.symm hyz)
    repeat' first | simp only [Tryd.results58, Tryd.ntmps58, κt, wks, hd, hy, hz, htk, hlj, hwl, hlt, hno, noC, hnd, ndC, hkv, hwm, hset, hml, hmn, y0, y1, y2, y3, w0, w1, w2, w3, n3, n6, plain_nd, plain_at, List.length_map, vcs, κa, κb, κc, κd, κe, κf, κg, κh, κi, κj, κk, κl, κm, reduceCtorEq, reduceIte, κn, κo, κp, κq, κr, κs, tys] | exact rfl | ((first | (refine call_val (g := ?_) ?_ ?_) | (refine call_valg (g := ?_) ?_ ?_)); rotate_left 1; (focus (simp only [Tryd.results58, Tryd.ntmps58, κt, wks, hd, hy, hz, htk, hlj, hwl, hlt, hno, noC, hnd, ndC, hkv, hwm, hset, hml, hmn, y0, y1, y2, y3, w0, w1, w2, w3, n3, n6, plain_nd, plain_at, List.length_map, vcs, κa, κb, κc, κd, κe, κf, κg, κh, κi, κj, κk, κl, κm, reduceCtorEq, reduceIte, κn, κo, κp, κq, κr, κs, tys] <;> exact rfl))) | refine draw_end (by decide +kernel) ?_ | refine cond_bool (fun hb => ?_) (fun hb => ?_) | refine cond_bit (fun hb => ?_) (fun hb => ?_) | refine And.intro (by omega) ?_ | refine And.intro (fun hb => ?_) (fun hb => ?_) | fail
    all_goals ((refine Fin.give [(b0 + 640, some 0), (b0 + 528, some 1)] [y, z] ?_ ?_ ?_ ?_ ?_ (fun q hq => by have hqq := ho q hq; first | (simp only [gives, tgt, List.map_cons, List.map_nil, List.mem_cons, List.not_mem_nil, or_false] at hqq ⊢; omega) | (simp only [gives, tgt, List.map_cons, List.map_nil, List.mem_cons, List.not_mem_nil, or_false] at hqq)) <;> (try simp only [Tryd.results58, Tryd.ntmps58, wks, hy, hz, noC, hml, hmn, y0, y1, y2, y3, w0, w1, w2, w3, n3, n6, hpn0, Bool.and_self, Bool.false_and, plainLL_append, plain_at, plain_nd, plain_no, List.map_append, List.length_map, giv, vcs, κa, κb, κc, κd, κe, κf, κg, κh, κi, κj, κk, κl, κm, reduceCtorEq, reduceIte, κn, κo, κp, κq, κr, κs, tys]) <;> (try simp only [injs]) <;> (try omega)))
set_option maxRecDepth 100000 in
set_option maxHeartbeats 8000000 in
theorem with_text (g : Gr) (n : Nat) (hg : g.Ok n) (hn : n ≤ 1000) (junk : List Nat) (y z : Nat) (txt : List UInt8) (M : Mem) (nm : Nat) (hyz : y ≠ z) (hy : M y = some ⟨6, g.v.map ndC⟩) (hz : M z = some ⟨1, (g.opn ++ junk).map noC⟩) (ho : ∀ w, (M w).isSome = true → w ∈ [y, z]) (hyn : y < nm) (hzn : z < nm) :
    Ev cx 58 nm [.agg [.own y 0 g.v.length, .own z 0 g.opn.length], .agg [.int .u8 2, .str [], .str [], .nils, .str txt, .int .i64 0]] M (.agg [.own nm 0 (g.v.length + 1), .own z 0 g.opn.length]) [(y, none), (z, some ⟨1, (g.opn ++ junk).map noC⟩), (nm, some ⟨6, (incG g.v g.opn).map ndC ++ [[.int .u8 2, .str [], .str [], .nils, .str txt, .int .i64 0]]⟩)] := by
  have hvl := hg.len
  have hl12 := hg.deep
  have htn := tak_nd g.v
  have hlj : g.opn.length ≤ (g.opn ++ junk).length := by simp
  have htk : ((g.opn ++ junk).map noC).take g.opn.length = g.opn.map noC := by rw [← List.map_take, List.take_left]
  have hpn0 : plainLL (g.opn.map noC ++ junk.map noC) = true := by rw [← List.map_append]; exact plain_no _
  by_cases h0 : g.opn = []
  · have hl0 : g.opn.length = 0 := by rw [h0]; rfl
    have hinc : incG g.v g.opn = g.v := by rw [h0]; rfl
    rw [hinc]
    have hd : decide ((0 : Int) < (g.opn.length : Int)) = false := decide_eq_false (by omega)
    refine ev_go (fun cargs w => Tryd.call58 cargs w) Tryd.func58 rfl mixed (by kernel_rfl) rfl ?_; intro b0 hb0
    have ly : y < b0 := below_of hb0 (by rw [hy]; rfl)
    have y0 := lt_ne ly; have y1 := lt_ne_add ly; have y2 := lt_ne' ly; have y3 := lt_ne_add' ly
    have lz : z < b0 := below_of hb0 (by rw [hz]; rfl)
    have w0 := lt_ne lz; have w1 := lt_ne_add lz; have w2 := lt_ne' lz; have w3 := lt_ne_add' lz
    have n3 := eq_false hyz; have n6 := eq_false (Ne.symm hyz)
    repeat' first | simp only [Tryd.results58, Tryd.ntmps58, κt, wks, hd, hy, hz, htn, htk, hlj, y0, y1, y2, y3, w0, w1, w2, w3, n3, n6, plain_nd, plain_at, List.length_map, vcs, κa, κb, κc, κd, κe, κf, κg, κh, κi, κj, κk, κl, κm, reduceCtorEq, reduceIte, κn, κo, κp, κq, κr, κs, tys] | exact rfl | ((first | (refine call_val (g := ?_) ?_ ?_) | (refine call_valg (g := ?_) ?_ ?_)); rotate_left 1; (focus (simp only [Tryd.results58, Tryd.ntmps58, κt, wks, hd, hy, hz, htn, htk, hlj, y0, y1, y2, y3, w0, w1, w2, w3, n3, n6, plain_nd, plain_at, List.length_map, vcs, κa, κb, κc, κd, κe, κf, κg, κh, κi, κj, κk, κl, κm, reduceCtorEq, reduceIte, κn, κo, κp, κq, κr, κs, tys] <;> exact rfl))) | refine draw_end (by decide +kernel) ?_ | refine cond_bool (fun hb => ?_) (fun hb => ?_) | refine cond_bit (fun hb => ?_) (fun hb => ?_) | refine And.intro (by omega) ?_ | refine And.intro (fun hb => ?_) (fun hb => ?_) | fail
    all_goals ((refine Fin.give [(z, none), (b0 + 256, some 0)] [y] ?_ ?_ ?_ ?_ ?_ (fun q hq => by have hqq := ho q hq; first | (simp only [gives, tgt, List.map_cons, List.map_nil, List.mem_cons, List.not_mem_nil, or_false] at hqq ⊢; omega) | (simp only [gives, tgt, List.map_cons, List.map_nil, List.mem_cons, List.not_mem_nil, or_false] at hqq)) <;> (try simp only [Tryd.results58, Tryd.ntmps58, wks, hy, hz, noC, y0, y1, y2, y3, w0, w1, w2, w3, n3, n6, hpn0, Bool.and_self, Bool.false_and, plainLL_append, plain_at, plain_nd, plain_no, List.map_append, List.length_map, giv, vcs, κa, κb, κc, κd, κe, κf, κg, κh, κi, κj, κk, κl, κm, reduceCtorEq, reduceIte, κn, κo, κp, κq, κr, κs, tys]) <;> (try simp only [injs]) <;> (try omega)))
  · obtain ⟨k, hk⟩ := last_some h0
    obtain ⟨_, hk2, hk3⟩ := last_get hk
    have hkv := hg.in_ k (List.mem_of_getElem? hk2)
    obtain ⟨x0, hx0⟩ : ∃ x0, g.v[k]? = some x0 := ⟨_, List.getElem?_eq_getElem hkv⟩
    have hm := hg.many x0 (List.mem_of_getElem? hx0)
    have hinc := incG_last (v := g.v) hk
    have hd : decide ((0 : Int) < (g.opn.length : Int)) = true := decide_eq_true (by omega)
    have hwl : IntKind.i64.wrap ((g.opn.length : Int) - 1) = ((g.opn.length - 1 : Nat) : Int) := by rw [wrap_in (by omega) (by omega)]; omega
    have hlt : g.opn.length - 1 < g.opn.length := by omega
    have hno := no_at (m := junk) hk2
    have hnd := nd_at hx0
    have hwm : IntKind.i64.wrap (x0.many + 1) = x0.many + 1 := wrap_in (by omega) (by omega)
    have hset := nd_set hx0 (x0.many + 1) rfl
    have hml : ((g.v.modify k Nd.inc).map ndC).take g.v.length = (g.v.modify k Nd.inc).map ndC := List.take_of_length_le (by simp)
    have hmn : (g.v.modify k Nd.inc).length = g.v.length := by simp
    rw [hinc]
    refine ev_go (fun cargs w => Tryd.call58 cargs w) Tryd.func58 rfl mixed (by kernel_rfl) rfl ?_; intro b0 hb0
    have ly : y < b0 := below_of hb0 (by rw [hy]; rfl)
    have y0 := lt_ne ly; have y1 := lt_ne_add ly; have y2 := lt_ne' ly; have y3 := lt_ne_add' ly
    have lz : z < b0 := below_of hb0 (by rw [hz]; rfl)
    have w0 := lt_ne lz; have w1 := lt_ne_add lz; have w2 := lt_ne' lz; have w3 := lt_ne_add' lz
    have n3 := eq_false hyz; have n6 := eq_false (Ne.symm hyz)
    repeat' first | simp only [Tryd.results58, Tryd.ntmps58, κt, wks, hd, hy, hz, htk, hlj, hwl, hlt, hno, noC, hnd, ndC, hkv, hwm, hset, hml, hmn, y0, y1, y2, y3, w0, w1, w2, w3, n3, n6, plain_nd, plain_at, List.length_map, vcs, κa, κb, κc, κd, κe, κf, κg, κh, κi, κj, κk, κl, κm, reduceCtorEq, reduceIte, κn, κo, κp, κq, κr, κs, tys] | exact rfl | ((first | (refine call_val (g := ?_) ?_ ?_) | (refine call_valg (g := ?_) ?_ ?_)); rotate_left 1; (focus (simp only [Tryd.results58, Tryd.ntmps58, κt, wks, hd, hy, hz, htk, hlj, hwl, hlt, hno, noC, hnd, ndC, hkv, hwm, hset, hml, hmn, y0, y1, y2, y3, w0, w1, w2, w3, n3, n6, plain_nd, plain_at, List.length_map, vcs, κa, κb, κc, κd, κe, κf, κg, κh, κi, κj, κk, κl, κm, reduceCtorEq, reduceIte, κn, κo, κp, κq, κr, κs, tys] <;> exact rfl))) | refine draw_end (by decide +kernel) ?_ | refine cond_bool (fun hb => ?_) (fun hb => ?_) | refine cond_bit (fun hb => ?_) (fun hb => ?_) | refine And.intro (by omega) ?_ | refine And.intro (fun hb => ?_) (fun hb => ?_) | fail
    all_goals ((refine Fin.give [(z, none), (b0 + 496, some 0)] [y] ?_ ?_ ?_ ?_ ?_ (fun q hq => by have hqq := ho q hq; first | (simp only [gives, tgt, List.map_cons, List.map_nil, List.mem_cons, List.not_mem_nil, or_false] at hqq ⊢; omega) | (simp only [gives, tgt, List.map_cons, List.map_nil, List.mem_cons, List.not_mem_nil, or_false] at hqq)) <;> (try simp only [Tryd.results58, Tryd.ntmps58, wks, hy, hz, noC, hml, hmn, y0, y1, y2, y3, w0, w1, w2, w3, n3, n6, hpn0, Bool.and_self, Bool.false_and, plainLL_append, plain_at, plain_nd, plain_no, List.map_append, List.length_map, giv, vcs, κa, κb, κc, κd, κe, κf, κg, κh, κi, κj, κk, κl, κm, reduceCtorEq, reduceIte, κn, κo, κp, κq, κr, κs, tys]) <;> (try simp only [injs]) <;> (try omega)))
end Go.Proofs.YtanahnknjboplaaDoor
/-
  The document's answer for layer 10 by the machine: a tree under way behind a token.
-/
namespace Go.Proofs.YtanahnknjboplaaDoor
set_option linter.unusedSimpArgs false
set_option linter.unusedVariables false
open Nat renaming reduceAdd → κa, reduceMul → κb, reduceEqDiff → κc, reduceLeDiff → κd, reduceSub → κe, reduceLT → κf, reduceBEq → κr, reduceBNe → κs, reducePow → κt
open Int renaming reduceToNat → κg, reduceLE → κh, reduceLT → κi, reduceAdd → κj, reduceSub → κk, reduceMul → κl, reduceNeg → κm, reduceBEq → κn, reduceBNe → κo, reduceEq → κp, reduceNe → κq
open Go Go.RowKit Go.Proofs.YtanahnknjboplaaDoor.Vm Go.Lib

theorem fresh_lit2 (b a c : Nat) : Fresh (b + a) (b + c) = (a ≤ c ∧ c < a + 16) := propext ⟨fun h => by unfold Fresh at h; omega, fun h => by unfold Fresh; omega⟩
set_option maxRecDepth 100000 in
set_option maxHeartbeats 8000000 in
theorem rText_no (g : Gr) (n : Nat) (hg : g.Ok n) (hn : n ≤ 1000) (junk : List Nat) (y z : Nat) (t : Tk) (txt : Bool) (ht : t.text.length ≤ lim) (hk : t.kind = 4) (e : Int) (he : ((txt || (g.opn.isEmpty && !blankL t.text)) = true ∧ e = 80) ∨ ((txt || (g.opn.isEmpty && !blankL t.text)) = false ∧ g.opn.isEmpty = true ∧ e = 0)) (M : Mem) (nm : Nat) (hyz : y ≠ z) (hy : M y = some ⟨6, g.v.map ndC⟩) (hz : M z = some ⟨1, (g.opn ++ junk).map noC⟩) (ho : ∀ w, (M w).isSome = true → w ∈ [y, z]) :
    Ev cx 31 nm [.agg [.own y 0 g.v.length, .own z 0 g.opn.length], .agg (tkC t), .bool txt] M (.tup [.agg [.own y 0 g.v.length, .own z 0 g.opn.length], .int .i64 e]) [(y, some ⟨6, g.v.map ndC⟩), (z, some ⟨1, (g.opn ++ junk).map noC⟩)] := by
  have q4 : ((t.kind : Int) == 4) = true := by rw [hk]; rfl
  have ho0 := len_opn g.opn
  have hbl := rBlank_ev t.text ht
  generalize hA : g.opn.isEmpty = bA at he ho0
  generalize hB : blankL t.text = bB at he hbl
  have hcs : (txt = true ∧ e = 80) ∨ (txt = false ∧ bA = true ∧ bB = false ∧ e = 80) ∨ (txt = false ∧ bA = true ∧ bB = true ∧ e = 0) := by
    rcases he with ⟨h1, h2⟩ | ⟨h1, h2, h3⟩ <;> cases txt <;> cases bA <;> cases bB <;> simp at h1 h2 ⊢ <;> first | exact h2 | exact h3
  clear he
  rcases hcs with ⟨rfl, rfl⟩ | ⟨rfl, rfl, rfl, rfl⟩ | ⟨rfl, rfl, rfl, rfl⟩ <;> (try cases bA) <;> (try cases bB) <;> (
    refine ev_go (fun cargs w => Tryd.call31 cargs w) Tryd.func31 rfl mixed (by kernel_rfl) rfl ?_; intro b0 hb0
    have ly : y < b0 := below_of hb0 (by rw [hy]; rfl)
    have y0 := lt_ne ly; have y1 := lt_ne_add ly; have y2 := lt_ne' ly; have y3 := lt_ne_add' ly
    have lz : z < b0 := below_of hb0 (by rw [hz]; rfl)
    have w0 := lt_ne lz; have w1 := lt_ne_add lz; have w2 := lt_ne' lz; have w3 := lt_ne_add' lz
    have n3 := eq_false hyz; have n6 := eq_false (Ne.symm hyz)
    repeat' first | simp only [Tryd.results31, Tryd.ntmps31, κt, wks, plain_pr, tkC, q4, ho0, hy, hz, y0, y1, y2, y3, w0, w1, w2, w3, n3, n6, Bool.not_true, Bool.not_false, List.length_map, vcs, κa, κb, κc, κd, κe, κf, κg, κh, κi, κj, κk, κl, κm, reduceCtorEq, reduceIte, κn, κo, κp, κq, κr, κs, tys] | exact rfl | ((first | (refine call_fn ?_ (hbl _) ?_) | (refine call_fn_g ?_ (fun _ => hbl _) ?_)); (focus (simp only [Tryd.results31, Tryd.ntmps31, κt, wks, plain_pr, tkC, q4, ho0, hy, hz, y0, y1, y2, y3, w0, w1, w2, w3, n3, n6, Bool.not_true, Bool.not_false, List.length_map, vcs, κa, κb, κc, κd, κe, κf, κg, κh, κi, κj, κk, κl, κm, reduceCtorEq, reduceIte, κn, κo, κp, κq, κr, κs, tys] <;> exact rfl))) | (refine call_off (v := .any) ?_) | ((first | (refine call_val (g := ?_) ?_ ?_) | (refine call_valg (g := ?_) ?_ ?_)); rotate_left 1; (focus (simp only [Tryd.results31, Tryd.ntmps31, κt, wks, plain_pr, tkC, q4, ho0, hy, hz, y0, y1, y2, y3, w0, w1, w2, w3, n3, n6, Bool.not_true, Bool.not_false, List.length_map, vcs, κa, κb, κc, κd, κe, κf, κg, κh, κi, κj, κk, κl, κm, reduceCtorEq, reduceIte, κn, κo, κp, κq, κr, κs, tys] <;> exact rfl))) | refine draw_end' (ps := [(0, 5), (2, 5)]) (by decide +kernel) (by simp only [List.forall_mem_cons, List.getD_cons_zero, List.getD_cons_succ, Tryd.results31, Tryd.ntmps31, κt, wks, plain_pr, tkC, q4, ho0, hy, hz, y0, y1, y2, y3, w0, w1, w2, w3, n3, n6, Bool.not_true, Bool.not_false, List.length_map, vcs, κa, κb, κc, κd, κe, κf, κg, κh, κi, κj, κk, κl, κm, reduceCtorEq, reduceIte, κn, κo, κp, κq, κr, κs, tys] <;> (try simp) <;> (try omega)) ?_ | refine draw_end (by decide +kernel) ?_ | refine cond_bool (fun hb => ?_) (fun hb => ?_) | refine cond_bit (fun hb => ?_) (fun hb => ?_) | refine And.intro (by omega) ?_ | refine And.intro (fun hb => ?_) (fun hb => ?_) | fail
    all_goals ((refine Fin.give [(y, none), (z, none)] [] ?_ ?_ ?_ ?_ ?_ (fun q hq => by have hqq := ho q hq; first | (simp only [gives, tgt, List.map_cons, List.map_nil, List.mem_cons, List.not_mem_nil, or_false] at hqq ⊢; omega) | (simp only [gives, tgt, List.map_cons, List.map_nil, List.mem_cons, List.not_mem_nil, or_false] at hqq)) <;> (try simp only [Tryd.results31, Tryd.ntmps31, wks, tkC, hy, hz, y0, y1, y2, y3, w0, w1, w2, w3, n3, n6, Bool.and_self, Bool.false_and, plain_nd, plain_no, List.length_map, giv, vcs, κa, κb, κc, κd, κe, κf, κg, κh, κi, κj, κk, κl, κm, reduceCtorEq, reduceIte, κn, κo, κp, κq, κr, κs, tys]) <;> (try simp only [injs]) <;> (try omega))))
set_option maxRecDepth 100000 in
set_option maxHeartbeats 8000000 in
theorem rText_yes (g : Gr) (n : Nat) (hg : g.Ok n) (hn : n ≤ 1000) (junk : List Nat) (y z : Nat) (t : Tk) (txt : Bool) (hk : t.kind = 4) (htx : txt = false) (hop : g.opn.isEmpty = false) (M : Mem) (nm : Nat) (hyz : y ≠ z) (hy : M y = some ⟨6, g.v.map ndC⟩) (hz : M z = some ⟨1, (g.opn ++ junk).map noC⟩) (ho : ∀ w, (M w).isSome = true → w ∈ [y, z]) (hyn : y < nm) (hzn : z < nm) :
    Ev cx 31 nm [.agg [.own y 0 g.v.length, .own z 0 g.opn.length], .agg (tkC t), .bool txt] M (.tup [.agg [.own nm 0 (g.v.length + 1), .own z 0 g.opn.length], .int .i64 0]) [(y, none), (z, some ⟨1, (g.opn ++ junk).map noC⟩), (nm, some ⟨6, (incG g.v g.opn).map ndC ++ [[.int .u8 2, .str [], .str [], .nils, .str t.text, .int .i64 0]]⟩)] := by
  have q4 : ((t.kind : Int) == 4) = true := by rw [hk]; rfl
  have ho0 := len_opn g.opn
  rw [hop] at ho0
  subst htx
  refine ev_go (fun cargs w => Tryd.call31 cargs w) Tryd.func31 rfl mixed (by kernel_rfl) rfl ?_; intro b0 hb0
  have ly : y < b0 := below_of hb0 (by rw [hy]; rfl)
  have y0 := lt_ne ly; have y1 := lt_ne_add ly; have y2 := lt_ne' ly; have y3 := lt_ne_add' ly
  have lz : z < b0 := below_of hb0 (by rw [hz]; rfl)
  have w0 := lt_ne lz; have w1 := lt_ne_add lz; have w2 := lt_ne' lz; have w3 := lt_ne_add' lz
  have n3 := eq_false hyz; have n6 := eq_false (Ne.symm hyz)
  have hw := fun (M' : Mem) (b : M' y = some ⟨6, g.v.map ndC⟩) (c : M' z = some ⟨1, (g.opn ++ junk).map noC⟩) (d : ∀ w, (M' w).isSome = true → w ∈ [y, z]) (m : Nat) (h1 : y < m) (h2 : z < m) => with_text g n hg hn junk y z t.text M' m hyz b c d h1 h2
  repeat' first | simp only [Tryd.results31, Tryd.ntmps31, κt, wks, plain_pr, tkC, q4, ho0, hy, hz, fresh_selfU, y0, y1, y2, y3, w0, w1, w2, w3, n3, n6, Bool.not_true, Bool.not_false, List.length_map, vcs, κa, κb, κc, κd, κe, κf, κg, κh, κi, κj, κk, κl, κm, reduceCtorEq, reduceIte, κn, κo, κp, κq, κr, κs, tys] | exact rfl | ((refine call_fn_full ?_ [y, z] (hw _ ?_ ?_ only_mem _ (by omega) (by omega)) ?_ ?_); iterate 4 (focus (simp only [mems, Tryd.results31, Tryd.ntmps31, κt, wks, plain_pr, tkC, q4, ho0, hy, hz, fresh_selfU, y0, y1, y2, y3, w0, w1, w2, w3, n3, n6, Bool.not_true, Bool.not_false, List.length_map, vcs, κa, κb, κc, κd, κe, κf, κg, κh, κi, κj, κk, κl, κm, reduceCtorEq, reduceIte, κn, κo, κp, κq, κr, κs, tys] <;> exact rfl))) | (refine call_off (v := .any) ?_) | ((first | (refine call_val (g := ?_) ?_ ?_) | (refine call_valg (g := ?_) ?_ ?_)); rotate_left 1; (focus (simp only [Tryd.results31, Tryd.ntmps31, κt, wks, plain_pr, tkC, q4, ho0, hy, hz, fresh_selfU, y0, y1, y2, y3, w0, w1, w2, w3, n3, n6, Bool.not_true, Bool.not_false, List.length_map, vcs, κa, κb, κc, κd, κe, κf, κg, κh, κi, κj, κk, κl, κm, reduceCtorEq, reduceIte, κn, κo, κp, κq, κr, κs, tys] <;> exact rfl))) | refine draw_end' (ps := [(0, 5), (2, 5)]) (by decide +kernel) (by simp only [List.forall_mem_cons, List.getD_cons_zero, List.getD_cons_succ, Tryd.results31, Tryd.ntmps31, κt, wks, plain_pr, tkC, q4, ho0, hy, hz, fresh_selfU, y0, y1, y2, y3, w0, w1, w2, w3, n3, n6, Bool.not_true, Bool.not_false, List.length_map, vcs, κa, κb, κc, κd, κe, κf, κg, κh, κi, κj, κk, κl, κm, reduceCtorEq, reduceIte, κn, κo, κp, κq, κr, κs, tys] <;> (try simp) <;> (try omega)) ?_ | refine draw_end (by decide +kernel) ?_ | refine cond_bool (fun hb => ?_) (fun hb => ?_) | refine cond_bit (fun hb => ?_) (fun hb => ?_) | refine And.intro (by omega) ?_ | refine And.intro (fun hb => ?_) (fun hb => ?_) | fail
  all_goals ((refine Fin.give [(z, none), (b0 + 512, some 0)] [y] ?_ ?_ ?_ ?_ ?_ (fun q hq => by have hqq := ho q hq; first | (simp only [gives, tgt, List.map_cons, List.map_nil, List.mem_cons, List.not_mem_nil, or_false] at hqq ⊢; omega) | (simp only [gives, tgt, List.map_cons, List.map_nil, List.mem_cons, List.not_mem_nil, or_false] at hqq)) <;> (try simp only [Tryd.results31, Tryd.ntmps31, wks, tkC, hy, hz, y0, y1, y2, y3, w0, w1, w2, w3, n3, n6, Bool.and_self, Bool.false_and, plainLL_append, plain_nd, plain_no, List.length_map, giv, vcs, κa, κb, κc, κd, κe, κf, κg, κh, κi, κj, κk, κl, κm, reduceCtorEq, reduceIte, κn, κo, κp, κq, κr, κs, tys]) <;> (try simp only [injs]) <;> (try omega)))
set_option maxRecDepth 100000 in
set_option maxHeartbeats 8000000 in
theorem rShut_no (g : Gr) (n : Nat) (hg : g.Ok n) (hn : n ≤ 1000) (junk : List Nat) (y z : Nat) (t : Tk) (txt : Bool) (hk : t.kind = 2) (hlast : lastName g ≠ some t.name) (M : Mem) (nm : Nat) (hyz : y ≠ z) (hy : M y = some ⟨6, g.v.map ndC⟩) (hz : M z = some ⟨1, (g.opn ++ junk).map noC⟩) (ho : ∀ w, (M w).isSome = true → w ∈ [y, z]) :
    Ev cx 31 nm [.agg [.own y 0 g.v.length, .own z 0 g.opn.length], .agg (tkC t), .bool txt] M (.tup [.agg [.own y 0 g.v.length, .own z 0 g.opn.length], .int .i64 80]) [(y, some ⟨6, g.v.map ndC⟩), (z, some ⟨1, (g.opn ++ junk).map noC⟩)] := by
  have q4 : ((t.kind : Int) == 4) = false := beq_false_of_ne (by omega)
  have q2 : ((t.kind : Int) == 2) = true := by rw [hk]; rfl
  have hvl := hg.len
  have hl12 := hg.deep
  have ho0 := len_opn g.opn
  by_cases h0 : g.opn = []
  · have hop : g.opn.isEmpty = true := by rw [h0]; rfl
    rw [hop] at ho0
    refine ev_go (fun cargs w => Tryd.call31 cargs w) Tryd.func31 rfl mixed (by kernel_rfl) rfl ?_; intro b0 hb0
    have ly : y < b0 := below_of hb0 (by rw [hy]; rfl)
    have y0 := lt_ne ly; have y1 := lt_ne_add ly; have y2 := lt_ne' ly; have y3 := lt_ne_add' ly
    have lz : z < b0 := below_of hb0 (by rw [hz]; rfl)
    have w0 := lt_ne lz; have w1 := lt_ne_add lz; have w2 := lt_ne' lz; have w3 := lt_ne_add' lz
    have n3 := eq_false hyz; have n6 := eq_false (Ne.symm hyz)
    repeat' first | simp only [Tryd.results31, Tryd.ntmps31, κt, wks, plain_pr, tkC, q4, q2, ho0, hy, hz, y0, y1, y2, y3, w0, w1, w2, w3, n3, n6, Bool.not_true, Bool.not_false, List.length_map, vcs, κa, κb, κc, κd, κe, κf, κg, κh, κi, κj, κk, κl, κm, reduceCtorEq, reduceIte, κn, κo, κp, κq, κr, κs, tys] | exact rfl | ((first | (refine call_val (g := ?_) ?_ ?_) | (refine call_valg (g := ?_) ?_ ?_)); rotate_left 1; (focus (simp only [Tryd.results31, Tryd.ntmps31, κt, wks, plain_pr, tkC, q4, q2, ho0, hy, hz, y0, y1, y2, y3, w0, w1, w2, w3, n3, n6, Bool.not_true, Bool.not_false, List.length_map, vcs, κa, κb, κc, κd, κe, κf, κg, κh, κi, κj, κk, κl, κm, reduceCtorEq, reduceIte, κn, κo, κp, κq, κr, κs, tys] <;> exact rfl))) | refine draw_end' (ps := [(0, 5), (2, 5)]) (by decide +kernel) (by simp only [List.forall_mem_cons, List.getD_cons_zero, List.getD_cons_succ, Tryd.results31, Tryd.ntmps31, κt, wks, plain_pr, tkC, q4, q2, ho0, hy, hz, y0, y1, y2, y3, w0, w1, w2, w3, n3, n6, Bool.not_true, Bool.not_false, List.length_map, vcs, κa, κb, κc, κd, κe, κf, κg, κh, κi, κj, κk, κl, κm, reduceCtorEq, reduceIte, κn, κo, κp, κq, κr, κs, tys] <;> (try simp) <;> (try omega)) ?_ | refine draw_end (by decide +kernel) ?_ | refine cond_bool (fun hb => ?_) (fun hb => ?_) | refine cond_bit (fun hb => ?_) (fun hb => ?_) | refine And.intro (by omega) ?_ | refine And.intro (fun hb => ?_) (fun hb => ?_) | fail
    all_goals ((refine Fin.give [(y, none), (z, none)] [] ?_ ?_ ?_ ?_ ?_ (fun q hq => by have hqq := ho q hq; first | (simp only [gives, tgt, List.map_cons, List.map_nil, List.mem_cons, List.not_mem_nil, or_false] at hqq ⊢; omega) | (simp only [gives, tgt, List.map_cons, List.map_nil, List.mem_cons, List.not_mem_nil, or_false] at hqq)) <;> (try simp only [Tryd.results31, Tryd.ntmps31, wks, tkC, hy, hz, y0, y1, y2, y3, w0, w1, w2, w3, n3, n6, Bool.and_self, Bool.false_and, plain_nd, plain_no, List.length_map, giv, vcs, κa, κb, κc, κd, κe, κf, κg, κh, κi, κj, κk, κl, κm, reduceCtorEq, reduceIte, κn, κo, κp, κq, κr, κs, tys]) <;> (try simp only [injs]) <;> (try omega)))
  · obtain ⟨k, hk0⟩ := last_some h0
    obtain ⟨_, hk2, hk3⟩ := last_get hk0
    have hop : g.opn.isEmpty = false := by simpa using h0
    rw [hop] at ho0
    have hkv := hg.in_ k (List.mem_of_getElem? hk2)
    obtain ⟨x0, hx0⟩ : ∃ x0, g.v[k]? = some x0 := ⟨_, List.getElem?_eq_getElem hkv⟩
    have hwl : IntKind.i64.wrap ((g.opn.length : Int) - 1) = ((g.opn.length - 1 : Nat) : Int) := by rw [wrap_in (by omega) (by omega)]; omega
    have hlt : g.opn.length - 1 < g.opn.length := by omega
    have hno := no_at (m := junk) hk2
    have hnd := nd_at hx0
    have hne : (x0.name == t.name) = false := beq_false_of_ne (fun e => hlast (by unfold lastName; rw [hk0]; simp [hx0, e]))
    refine ev_go (fun cargs w => Tryd.call31 cargs w) Tryd.func31 rfl mixed (by kernel_rfl) rfl ?_; intro b0 hb0
    have ly : y < b0 := below_of hb0 (by rw [hy]; rfl)
    have y0 := lt_ne ly; have y1 := lt_ne_add ly; have y2 := lt_ne' ly; have y3 := lt_ne_add' ly
    have lz : z < b0 := below_of hb0 (by rw [hz]; rfl)
    have w0 := lt_ne lz; have w1 := lt_ne_add lz; have w2 := lt_ne' lz; have w3 := lt_ne_add' lz
    have n3 := eq_false hyz; have n6 := eq_false (Ne.symm hyz)
    repeat' first | simp only [Tryd.results31, Tryd.ntmps31, κt, wks, plain_pr, tkC, q4, q2, ho0, hwl, hlt, hno, noC, hnd, ndC, hkv, hne, hy, hz, y0, y1, y2, y3, w0, w1, w2, w3, n3, n6, Bool.not_true, Bool.not_false, List.length_map, vcs, κa, κb, κc, κd, κe, κf, κg, κh, κi, κj, κk, κl, κm, reduceCtorEq, reduceIte, κn, κo, κp, κq, κr, κs, tys] | exact rfl | ((first | (refine call_val (g := ?_) ?_ ?_) | (refine call_valg (g := ?_) ?_ ?_)); rotate_left 1; (focus (simp only [Tryd.results31, Tryd.ntmps31, κt, wks, plain_pr, tkC, q4, q2, ho0, hwl, hlt, hno, noC, hnd, ndC, hkv, hne, hy, hz, y0, y1, y2, y3, w0, w1, w2, w3, n3, n6, Bool.not_true, Bool.not_false, List.length_map, vcs, κa, κb, κc, κd, κe, κf, κg, κh, κi, κj, κk, κl, κm, reduceCtorEq, reduceIte, κn, κo, κp, κq, κr, κs, tys] <;> exact rfl))) | refine draw_end' (ps := [(0, 5), (2, 5)]) (by decide +kernel) (by simp only [List.forall_mem_cons, List.getD_cons_zero, List.getD_cons_succ, Tryd.results31, Tryd.ntmps31, κt, wks, plain_pr, tkC, q4, q2, ho0, hwl, hlt, hno, noC, hnd, ndC, hkv, hne, hy, hz, y0, y1, y2, y3, w0, w1, w2, w3, n3, n6, Bool.not_true, Bool.not_false, List.length_map, vcs, κa, κb, κc, κd, κe, κf, κg, κh, κi, κj, κk, κl, κm, reduceCtorEq, reduceIte, κn, κo, κp, κq, κr, κs, tys] <;> (try simp) <;> (try omega)) ?_ | refine draw_end (by decide +kernel) ?_ | refine cond_bool (fun hb => ?_) (fun hb => ?_) | refine cond_bit (fun hb => ?_) (fun hb => ?_) | refine And.intro (by omega) ?_ | refine And.intro (fun hb => ?_) (fun hb => ?_) | fail
    all_goals ((refine Fin.give [(y, none), (z, none)] [] ?_ ?_ ?_ ?_ ?_ (fun q hq => by have hqq := ho q hq; first | (simp only [gives, tgt, List.map_cons, List.map_nil, List.mem_cons, List.not_mem_nil, or_false] at hqq ⊢; omega) | (simp only [gives, tgt, List.map_cons, List.map_nil, List.mem_cons, List.not_mem_nil, or_false] at hqq)) <;> (try simp only [Tryd.results31, Tryd.ntmps31, wks, tkC, hy, hz, y0, y1, y2, y3, w0, w1, w2, w3, n3, n6, Bool.and_self, Bool.false_and, plain_nd, plain_no, List.length_map, giv, vcs, κa, κb, κc, κd, κe, κf, κg, κh, κi, κj, κk, κl, κm, reduceCtorEq, reduceIte, κn, κo, κp, κq, κr, κs, tys]) <;> (try simp only [injs]) <;> (try omega)))
set_option maxRecDepth 100000 in
set_option maxHeartbeats 8000000 in
theorem rShut_yes (g : Gr) (n : Nat) (hg : g.Ok n) (hn : n ≤ 1000) (junk : List Nat) (y z : Nat) (t : Tk) (txt : Bool) (hk : t.kind = 2) (hlast : lastName g = some t.name) (M : Mem) (nm : Nat) (hyz : y ≠ z) (hy : M y = some ⟨6, g.v.map ndC⟩) (hz : M z = some ⟨1, (g.opn ++ junk).map noC⟩) (ho : ∀ w, (M w).isSome = true → w ∈ [y, z]) :
    Ev cx 31 nm [.agg [.own y 0 g.v.length, .own z 0 g.opn.length], .agg (tkC t), .bool txt] M (.tup [.agg [.own y 0 g.v.length, .own z 0 (g.opn.length - 1)], .int .i64 0]) [(y, some ⟨6, g.v.map ndC⟩), (z, some ⟨1, (g.opn ++ junk).map noC⟩)] := by
  have q4 : ((t.kind : Int) == 4) = false := beq_false_of_ne (by omega)
  have q2 : ((t.kind : Int) == 2) = true := by rw [hk]; rfl
  have hvl := hg.len
  have hl12 := hg.deep
  have ho0 := len_opn g.opn
  obtain ⟨k, hk0, hkn⟩ := Option.bind_eq_some_iff.1 hlast
  obtain ⟨x0, hx0, hxn⟩ := Option.map_eq_some_iff.1 hkn
  obtain ⟨h0, hk2, hk3⟩ := last_get hk0
  have hop : g.opn.isEmpty = false := by simpa using h0
  rw [hop] at ho0
  have hkv := hg.in_ k (List.mem_of_getElem? hk2)
  have hwl : IntKind.i64.wrap ((g.opn.length : Int) - 1) = ((g.opn.length - 1 : Nat) : Int) := by rw [wrap_in (by omega) (by omega)]; omega
  have hlt : g.opn.length - 1 < g.opn.length := by omega
  have hle : g.opn.length - 1 ≤ g.opn.length := by omega
  have hle2 : ((g.opn.length - 1 : Nat) : Int) ≤ (g.opn.length : Int) := by omega
  have hno := no_at (m := junk) hk2
  have hnd := nd_at hx0
  have hne : (x0.name == t.name) = true := by rw [hxn]; simp
  refine ev_go (fun cargs w => Tryd.call31 cargs w) Tryd.func31 rfl mixed (by kernel_rfl) rfl ?_; intro b0 hb0
  have ly : y < b0 := below_of hb0 (by rw [hy]; rfl)
  have y0 := lt_ne ly; have y1 := lt_ne_add ly; have y2 := lt_ne' ly; have y3 := lt_ne_add' ly
  have lz : z < b0 := below_of hb0 (by rw [hz]; rfl)
  have w0 := lt_ne lz; have w1 := lt_ne_add lz; have w2 := lt_ne' lz; have w3 := lt_ne_add' lz
  have n3 := eq_false hyz; have n6 := eq_false (Ne.symm hyz)
  repeat' first | simp only [Tryd.results31, Tryd.ntmps31, κt, wks, plain_pr, tkC, q4, q2, ho0, hwl, hlt, hle, hle2, hno, noC, hnd, ndC, hkv, hne, hy, hz, y0, y1, y2, y3, w0, w1, w2, w3, n3, n6, Bool.not_true, Bool.not_false, List.length_map, vcs, κa, κb, κc, κd, κe, κf, κg, κh, κi, κj, κk, κl, κm, reduceCtorEq, reduceIte, κn, κo, κp, κq, κr, κs, tys] | exact rfl | ((first | (refine call_val (g := ?_) ?_ ?_) | (refine call_valg (g := ?_) ?_ ?_)); rotate_left 1; (focus (simp only [Tryd.results31, Tryd.ntmps31, κt, wks, plain_pr, tkC, q4, q2, ho0, hwl, hlt, hle, hle2, hno, noC, hnd, ndC, hkv, hne, hy, hz, y0, y1, y2, y3, w0, w1, w2, w3, n3, n6, Bool.not_true, Bool.not_false, List.length_map, vcs, κa, κb, κc, κd, κe, κf, κg, κh, κi, κj, κk, κl, κm, reduceCtorEq, reduceIte, κn, κo, κp, κq, κr, κs, tys] <;> exact rfl))) | refine draw_end' (ps := [(0, 5), (2, 5)]) (by decide +kernel) (by simp only [List.forall_mem_cons, List.getD_cons_zero, List.getD_cons_succ, Tryd.results31, Tryd.ntmps31, κt, wks, plain_pr, tkC, q4, q2, ho0, hwl, hlt, hle, hle2, hno, noC, hnd, ndC, hkv, hne, hy, hz, y0, y1, y2, y3, w0, w1, w2, w3, n3, n6, Bool.not_true, Bool.not_false, List.length_map, vcs, κa, κb, κc, κd, κe, κf, κg, κh, κi, κj, κk, κl, κm, reduceCtorEq, reduceIte, κn, κo, κp, κq, κr, κs, tys] <;> (try simp) <;> (try omega)) ?_ | refine draw_end (by decide +kernel) ?_ | refine cond_bool (fun hb => ?_) (fun hb => ?_) | refine cond_bit (fun hb => ?_) (fun hb => ?_) | refine And.intro (by omega) ?_ | refine And.intro (fun hb => ?_) (fun hb => ?_) | fail
  all_goals ((refine Fin.give [(y, none), (z, none)] [] ?_ ?_ ?_ ?_ ?_ (fun q hq => by have hqq := ho q hq; first | (simp only [gives, tgt, List.map_cons, List.map_nil, List.mem_cons, List.not_mem_nil, or_false] at hqq ⊢; omega) | (simp only [gives, tgt, List.map_cons, List.map_nil, List.mem_cons, List.not_mem_nil, or_false] at hqq)) <;> (try simp only [Tryd.results31, Tryd.ntmps31, wks, tkC, hy, hz, y0, y1, y2, y3, w0, w1, w2, w3, n3, n6, Bool.and_self, Bool.false_and, plain_nd, plain_no, List.length_map, giv, vcs, κa, κb, κc, κd, κe, κf, κg, κh, κi, κj, κk, κl, κm, reduceCtorEq, reduceIte, κn, κo, κp, κq, κr, κs, tys]) <;> (try simp only [injs]) <;> (try omega)))
set_option maxRecDepth 100000 in
set_option maxHeartbeats 8000000 in
theorem rElem_no (g : Gr) (n : Nat) (hg : g.Ok n) (hn : n ≤ 1000) (junk : List Nat) (y z : Nat) (t : Tk) (txt : Bool) (hk4 : t.kind ≠ 4) (hk2 : t.kind ≠ 2) (e : Int) (he : ((g.opn.isEmpty && !g.v.isEmpty) = true ∧ e = 80) ∨ ((g.opn.isEmpty && !g.v.isEmpty) = false ∧ 12 ≤ g.opn.length ∧ e = 100)) (M : Mem) (nm : Nat) (hyz : y ≠ z) (hy : M y = some ⟨6, g.v.map ndC⟩) (hz : M z = some ⟨1, (g.opn ++ junk).map noC⟩) (ho : ∀ w, (M w).isSome = true → w ∈ [y, z]) :
    Ev cx 31 nm [.agg [.own y 0 g.v.length, .own z 0 g.opn.length], .agg (tkC t), .bool txt] M (.tup [.agg [.own y 0 g.v.length, .own z 0 g.opn.length], .int .i64 e]) [(y, some ⟨6, g.v.map ndC⟩), (z, some ⟨1, (g.opn ++ junk).map noC⟩)] := by
  have q4 : ((t.kind : Int) == 4) = false := beq_false_of_ne (by omega)
  have q2 : ((t.kind : Int) == 2) = false := beq_false_of_ne (by omega)
  have hvl := hg.len
  have hl12 := hg.deep
  have ho0 := len_opn g.opn
  have hv0 : decide ((0 : Int) < (g.v.length : Int)) = !g.v.isEmpty := by
    cases h : g.v with
    | nil => rfl
    | cons a b => simp
  have hop : g.opn.isEmpty = true → g.opn.length = 0 := fun h => by rw [List.isEmpty_iff.1 h]; rfl
  generalize hA : g.opn.isEmpty = bA at he ho0 hop
  generalize hB : g.v.isEmpty = bB at he hv0
  have hcs : (bA = true ∧ bB = false ∧ e = 80) ∨ (bA = false ∧ 12 ≤ g.opn.length ∧ e = 100) := by
    rcases he with ⟨h1, h2⟩ | ⟨h1, h2, h3⟩
    · cases bA <;> cases bB <;> simp at h1 ⊢; exact h2
    · cases bA with
      | true => have := hop rfl; omega
      | false => right; exact ⟨rfl, h2, h3⟩
  clear he
  rcases hcs with ⟨rfl, rfl, rfl⟩ | ⟨rfl, h12', rfl⟩
  · refine ev_go (fun cargs w => Tryd.call31 cargs w) Tryd.func31 rfl mixed (by kernel_rfl) rfl ?_; intro b0 hb0
    have ly : y < b0 := below_of hb0 (by rw [hy]; rfl)
    have y0 := lt_ne ly; have y1 := lt_ne_add ly; have y2 := lt_ne' ly; have y3 := lt_ne_add' ly
    have lz : z < b0 := below_of hb0 (by rw [hz]; rfl)
    have w0 := lt_ne lz; have w1 := lt_ne_add lz; have w2 := lt_ne' lz; have w3 := lt_ne_add' lz
    have n3 := eq_false hyz; have n6 := eq_false (Ne.symm hyz)
    repeat' first | simp only [Tryd.results31, Tryd.ntmps31, κt, wks, plain_pr, tkC, q4, q2, ho0, hv0, hy, hz, y0, y1, y2, y3, w0, w1, w2, w3, n3, n6, Bool.not_true, Bool.not_false, List.length_map, vcs, κa, κb, κc, κd, κe, κf, κg, κh, κi, κj, κk, κl, κm, reduceCtorEq, reduceIte, κn, κo, κp, κq, κr, κs, tys] | exact rfl | ((first | (refine call_val (g := ?_) ?_ ?_) | (refine call_valg (g := ?_) ?_ ?_)); rotate_left 1; (focus (simp only [Tryd.results31, Tryd.ntmps31, κt, wks, plain_pr, tkC, q4, q2, ho0, hv0, hy, hz, y0, y1, y2, y3, w0, w1, w2, w3, n3, n6, Bool.not_true, Bool.not_false, List.length_map, vcs, κa, κb, κc, κd, κe, κf, κg, κh, κi, κj, κk, κl, κm, reduceCtorEq, reduceIte, κn, κo, κp, κq, κr, κs, tys] <;> exact rfl))) | refine draw_end' (ps := [(0, 5), (2, 5)]) (by decide +kernel) (by simp only [List.forall_mem_cons, List.getD_cons_zero, List.getD_cons_succ, Tryd.results31, Tryd.ntmps31, κt, wks, plain_pr, tkC, q4, q2, ho0, hv0, hy, hz, y0, y1, y2, y3, w0, w1, w2, w3, n3, n6, Bool.not_true, Bool.not_false, List.length_map, vcs, κa, κb, κc, κd, κe, κf, κg, κh, κi, κj, κk, κl, κm, reduceCtorEq, reduceIte, κn, κo, κp, κq, κr, κs, tys] <;> (try simp) <;> (try omega)) ?_ | refine draw_end (by decide +kernel) ?_ | refine cond_bool (fun hb => ?_) (fun hb => ?_) | refine cond_bit (fun hb => ?_) (fun hb => ?_) | refine And.intro (by omega) ?_ | refine And.intro (fun hb => ?_) (fun hb => ?_) | fail
    all_goals ((refine Fin.give [(y, none), (z, none)] [] ?_ ?_ ?_ ?_ ?_ (fun q hq => by have hqq := ho q hq; first | (simp only [gives, tgt, List.map_cons, List.map_nil, List.mem_cons, List.not_mem_nil, or_false] at hqq ⊢; omega) | (simp only [gives, tgt, List.map_cons, List.map_nil, List.mem_cons, List.not_mem_nil, or_false] at hqq)) <;> (try simp only [Tryd.results31, Tryd.ntmps31, wks, tkC, hy, hz, y0, y1, y2, y3, w0, w1, w2, w3, n3, n6, Bool.and_self, Bool.false_and, plain_nd, plain_no, List.length_map, giv, vcs, κa, κb, κc, κd, κe, κf, κg, κh, κi, κj, κk, κl, κm, reduceCtorEq, reduceIte, κn, κo, κp, κq, κr, κs, tys]) <;> (try simp only [injs]) <;> (try omega)))
  · have hd12 : ((g.opn.length : Int) == 12) = true := by rw [beq_iff_eq]; omega
    refine ev_go (fun cargs w => Tryd.call31 cargs w) Tryd.func31 rfl mixed (by kernel_rfl) rfl ?_; intro b0 hb0
    have ly : y < b0 := below_of hb0 (by rw [hy]; rfl)
    have y0 := lt_ne ly; have y1 := lt_ne_add ly; have y2 := lt_ne' ly; have y3 := lt_ne_add' ly
    have lz : z < b0 := below_of hb0 (by rw [hz]; rfl)
    have w0 := lt_ne lz; have w1 := lt_ne_add lz; have w2 := lt_ne' lz; have w3 := lt_ne_add' lz
    have n3 := eq_false hyz; have n6 := eq_false (Ne.symm hyz)
    repeat' first | simp only [Tryd.results31, Tryd.ntmps31, κt, wks, plain_pr, tkC, q4, q2, ho0, hd12, hy, hz, y0, y1, y2, y3, w0, w1, w2, w3, n3, n6, Bool.not_true, Bool.not_false, List.length_map, vcs, κa, κb, κc, κd, κe, κf, κg, κh, κi, κj, κk, κl, κm, reduceCtorEq, reduceIte, κn, κo, κp, κq, κr, κs, tys] | exact rfl | ((first | (refine call_val (g := ?_) ?_ ?_) | (refine call_valg (g := ?_) ?_ ?_)); rotate_left 1; (focus (simp only [Tryd.results31, Tryd.ntmps31, κt, wks, plain_pr, tkC, q4, q2, ho0, hd12, hy, hz, y0, y1, y2, y3, w0, w1, w2, w3, n3, n6, Bool.not_true, Bool.not_false, List.length_map, vcs, κa, κb, κc, κd, κe, κf, κg, κh, κi, κj, κk, κl, κm, reduceCtorEq, reduceIte, κn, κo, κp, κq, κr, κs, tys] <;> exact rfl))) | refine draw_end' (ps := [(0, 5), (2, 5)]) (by decide +kernel) (by simp only [List.forall_mem_cons, List.getD_cons_zero, List.getD_cons_succ, Tryd.results31, Tryd.ntmps31, κt, wks, plain_pr, tkC, q4, q2, ho0, hd12, hy, hz, y0, y1, y2, y3, w0, w1, w2, w3, n3, n6, Bool.not_true, Bool.not_false, List.length_map, vcs, κa, κb, κc, κd, κe, κf, κg, κh, κi, κj, κk, κl, κm, reduceCtorEq, reduceIte, κn, κo, κp, κq, κr, κs, tys] <;> (try simp) <;> (try omega)) ?_ | refine draw_end (by decide +kernel) ?_ | refine cond_bool (fun hb => ?_) (fun hb => ?_) | refine cond_bit (fun hb => ?_) (fun hb => ?_) | refine And.intro (by omega) ?_ | refine And.intro (fun hb => ?_) (fun hb => ?_) | fail
    all_goals ((refine Fin.give [(y, none), (z, none)] [] ?_ ?_ ?_ ?_ ?_ (fun q hq => by have hqq := ho q hq; first | (simp only [gives, tgt, List.map_cons, List.map_nil, List.mem_cons, List.not_mem_nil, or_false] at hqq ⊢; omega) | (simp only [gives, tgt, List.map_cons, List.map_nil, List.mem_cons, List.not_mem_nil, or_false] at hqq)) <;> (try simp only [Tryd.results31, Tryd.ntmps31, wks, tkC, hy, hz, y0, y1, y2, y3, w0, w1, w2, w3, n3, n6, Bool.and_self, Bool.false_and, plain_nd, plain_no, List.length_map, giv, vcs, κa, κb, κc, κd, κe, κf, κg, κh, κi, κj, κk, κl, κm, reduceCtorEq, reduceIte, κn, κo, κp, κq, κr, κs, tys]) <;> (try simp only [injs]) <;> (try omega)))
set_option maxRecDepth 100000 in
set_option maxHeartbeats 8000000 in
theorem rElem_yes (g : Gr) (n : Nat) (hg : g.Ok n) (hn : n ≤ 1000) (junk : List Nat) (y z : Nat) (t : Tk) (txt : Bool) (hta : t.attrs.length ≤ 1000) (hk4 : t.kind ≠ 4) (hk2 : t.kind ≠ 2) (h1 : (g.opn.isEmpty && !g.v.isEmpty) = false) (h2 : g.opn.length < 12) (b3 : Bool) (hb3 : ((t.kind : Int) == 3) = b3) (M : Mem) (nm : Nat) (hyz : y ≠ z) (hy : M y = some ⟨6, g.v.map ndC⟩) (hz : M z = some ⟨1, (g.opn ++ junk).map noC⟩) (ho : ∀ w, (M w).isSome = true → w ∈ [y, z]) (hyn : y < nm) (hzn : z < nm) :
    Ev cx 31 nm [.agg [.own y 0 g.v.length, .own z 0 g.opn.length], .agg (tkC t), .bool txt] M (.tup [.agg [.own nm 0 (g.v.length + 1), .own (nm + 1) 0 (if b3 then g.opn.length else g.opn.length + 1)], .int .i64 0]) [(y, none), (z, none), (nm, some ⟨6, (incG g.v g.opn).map ndC ++ [[.int .u8 1, .str [], .str t.name, .sl false 3 ((givenL t.attrs).map atC), .str [], .int .i64 0]]⟩), (nm + 1, some ⟨1, g.opn.map noC ++ [noC g.v.length]⟩)] := by
  have q4 : ((t.kind : Int) == 4) = false := beq_false_of_ne (by omega)
  have q2 : ((t.kind : Int) == 2) = false := beq_false_of_ne (by omega)
  have hvl := hg.len
  have hl12 := hg.deep
  have ho0 := len_opn g.opn
  have hv0 : decide ((0 : Int) < (g.v.length : Int)) = !g.v.isEmpty := by
    cases h : g.v with
    | nil => rfl
    | cons a b => simp
  have hd12 : ((g.opn.length : Int) == 12) = false := beq_false_of_ne (by omega)
  generalize hA : g.opn.isEmpty = bA at h1 ho0
  generalize hB : g.v.isEmpty = bB at h1 hv0
  have hcs : bA = false ∨ (bA = true ∧ bB = true) := by cases bA <;> cases bB <;> simp at h1 ⊢
  clear h1
  have hwl : IntKind.i64.wrap (((g.opn.length + 1 : Nat) : Int) - 1) = (g.opn.length : Int) := by rw [wrap_in (by omega) (by omega)]; omega
  have hwl2 : IntKind.i64.wrap ((g.opn.length : Int) + 1 - 1) = (g.opn.length : Int) := by rw [wrap_in (by omega) (by omega)]; omega
  have hle : g.opn.length ≤ g.opn.length + 1 := by omega
  have hle2 : (g.opn.length : Int) ≤ ((g.opn.length + 1 : Nat) : Int) := by omega
  have hgv := given_ev t.attrs hta
  rcases hcs with rfl | ⟨rfl, rfl⟩ <;> cases b3
  all_goals (
    refine ev_go (fun cargs w => Tryd.call31 cargs w) Tryd.func31 rfl mixed (by kernel_rfl) rfl ?_; intro b0 hb0
    have ly : y < b0 := below_of hb0 (by rw [hy]; rfl)
    have y0 := lt_ne ly; have y1 := lt_ne_add ly; have y2 := lt_ne' ly; have y3 := lt_ne_add' ly
    have lz : z < b0 := below_of hb0 (by rw [hz]; rfl)
    have w0 := lt_ne lz; have w1 := lt_ne_add lz; have w2 := lt_ne' lz; have w3 := lt_ne_add' lz
    have n3 := eq_false hyz; have n6 := eq_false (Ne.symm hyz)
    have hw := fun (M' : Mem) (b : M' y = some ⟨6, g.v.map ndC⟩) (c : M' z = some ⟨1, (g.opn ++ junk).map noC⟩) (d : ∀ w, (M' w).isSome = true → w ∈ [y, z]) (m : Nat) (h1 : y < m) (h2 : z < m) => with_elem g n hg hn junk y z t.name (givenL t.attrs) M' m hyz b c d h1 h2
    repeat' first | simp only [Tryd.results31, Tryd.ntmps31, κt, wks, plain_pr, tkC, q4, q2, hb3, ho0, hv0, hd12, hwl, hwl2, hle, hle2, hy, hz, fresh_lit2, fresh_selfU, y0, y1, y2, y3, w0, w1, w2, w3, n3, n6, Bool.not_true, Bool.not_false, List.length_map, vcs, κa, κb, κc, κd, κe, κf, κg, κh, κi, κj, κk, κl, κm, reduceCtorEq, reduceIte, κn, κo, κp, κq, κr, κs, tys] | exact rfl | ((refine call_fn_full ?_ [y, z] (hw _ ?_ ?_ only_mem _ (by omega) (by omega)) ?_ ?_); iterate 4 (focus (simp only [mems, Tryd.results31, Tryd.ntmps31, κt, wks, plain_pr, tkC, q4, q2, hb3, ho0, hv0, hd12, hwl, hwl2, hle, hle2, hy, hz, fresh_lit2, fresh_selfU, y0, y1, y2, y3, w0, w1, w2, w3, n3, n6, Bool.not_true, Bool.not_false, List.length_map, vcs, κa, κb, κc, κd, κe, κf, κg, κh, κi, κj, κk, κl, κm, reduceCtorEq, reduceIte, κn, κo, κp, κq, κr, κs, tys] <;> exact rfl))) | ((refine call_F (xs := ?_) (xs' := ?_) [] ?_ ?_ ?_ ?_ ((hgv _).args_le ?_) ?_); rotate_left 2; iterate 5 (focus (simp only [fins, mems, Tryd.results31, Tryd.ntmps31, κt, wks, plain_pr, tkC, q4, q2, hb3, ho0, hv0, hd12, hwl, hwl2, hle, hle2, hy, hz, fresh_lit2, fresh_selfU, y0, y1, y2, y3, w0, w1, w2, w3, n3, n6, Bool.not_true, Bool.not_false, List.length_map, vcs, κa, κb, κc, κd, κe, κf, κg, κh, κi, κj, κk, κl, κm, reduceCtorEq, reduceIte, κn, κo, κp, κq, κr, κs, tys] <;> (first | exact rfl | omega)))) | ((first | (refine call_val (g := ?_) ?_ ?_) | (refine call_valg (g := ?_) ?_ ?_)); rotate_left 1; (focus (simp only [Tryd.results31, Tryd.ntmps31, κt, wks, plain_pr, tkC, q4, q2, hb3, ho0, hv0, hd12, hwl, hwl2, hle, hle2, hy, hz, fresh_lit2, fresh_selfU, y0, y1, y2, y3, w0, w1, w2, w3, n3, n6, Bool.not_true, Bool.not_false, List.length_map, vcs, κa, κb, κc, κd, κe, κf, κg, κh, κi, κj, κk, κl, κm, reduceCtorEq, reduceIte, κn, κo, κp, κq, κr, κs, tys] <;> exact rfl))) | refine draw_end' (ps := [(0, 5), (2, 5)]) (by decide +kernel) (by simp only [List.forall_mem_cons, List.getD_cons_zero, List.getD_cons_succ, Tryd.results31, Tryd.ntmps31, κt, wks, plain_pr, tkC, q4, q2, hb3, ho0, hv0, hd12, hwl, hwl2, hle, hle2, hy, hz, fresh_lit2, fresh_selfU, y0, y1, y2, y3, w0, w1, w2, w3, n3, n6, Bool.not_true, Bool.not_false, List.length_map, vcs, κa, κb, κc, κd, κe, κf, κg, κh, κi, κj, κk, κl, κm, reduceCtorEq, reduceIte, κn, κo, κp, κq, κr, κs, tys] <;> (try simp) <;> (try omega)) ?_ | refine draw_end (by decide +kernel) ?_ | refine cond_bool (fun hb => ?_) (fun hb => ?_) | refine cond_bit (fun hb => ?_) (fun hb => ?_) | refine And.intro (by omega) ?_ | refine And.intro (fun hb => ?_) (fun hb => ?_) | fail
    all_goals ((refine Fin.give [(b0 + 496, some 0), (b0 + 497, some 1)] [y, z] ?_ ?_ ?_ ?_ ?_ (fun q hq => by have hqq := ho q hq; first | (simp only [gives, tgt, List.map_cons, List.map_nil, List.mem_cons, List.not_mem_nil, or_false] at hqq ⊢; omega) | (simp only [gives, tgt, List.map_cons, List.map_nil, List.mem_cons, List.not_mem_nil, or_false] at hqq)) <;> (try simp only [Tryd.results31, Tryd.ntmps31, wks, tkC, hy, hz, noC, y0, y1, y2, y3, w0, w1, w2, w3, n3, n6, plain_at, Bool.and_self, Bool.false_and, plainLL_append, plain_nd, plain_no, List.length_map, giv, vcs, κa, κb, κc, κd, κe, κf, κg, κh, κi, κj, κk, κl, κm, reduceCtorEq, reduceIte, κn, κo, κp, κq, κr, κs, tys]) <;> (try simp only [injs]) <;> (try omega))))
end Go.Proofs.YtanahnknjboplaaDoor
