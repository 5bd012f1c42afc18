/-
  Texts joined: XUh, XUi, XUj, XDa.
-/
import Derived.Test.YtanahnknjboplaaDoorCards
import Derived.Test.YtanahnknjboplaaDoorTie
import Derived.Lib.LaidIn
import Derived.Lib.LaidU8
import Derived.Deep.DeepHandedRow
import Derived.Deep.DeepWitnessRowRef
import Derived.ProofKit
import Derived.OpenShut
import Derived.ShutString
import Derived.ChangeOld
import Derived.Test.YtanahnknjboplaaDoorMj
/-
  The document's answer for layer 10 by the machine: the tree of tokens.
-/
namespace Go.Proofs.YtanahnknjboplaaDoor
set_option linter.unusedSimpArgs false
set_option linter.unusedVariables false
open Nat renaming reduceAdd → κa, reduceMul → κb, reduceEqDiff → κc, reduceLeDiff → κd, reduceSub → κe, reduceLT → κf, reduceBEq → κr, reduceBNe → κs, reducePow → κt
open Int renaming reduceToNat → κg, reduceLE → κh, reduceLT → κi, reduceAdd → κj, reduceSub → κk, reduceMul → κl, reduceNeg → κm, reduceBEq → κn, reduceBNe → κo, reduceEq → κp, reduceNe → κq
open Go Go.RowKit Go.Proofs.YtanahnknjboplaaDoor.Vm Go.Lib

def PSt.inv2 (l : List Tk) (x : PSt) : Prop := x.inv l ∧ ((x.k = 0 ∧ x.last = 0) ∨ ∃ m p, x.k = m + 1 ∧ l[m]? = some p ∧ p.kind = x.last)
set_option maxRecDepth 100000 in
set_option maxHeartbeats 16000000 in
theorem rParse_all (l : List Tk) (hl : l.length ≤ 600) (hs : ∀ t ∈ l, t.okTo 1000000 ∧ t.attrs.length ≤ 30) (nm : Nat) (v : V) (eff : List (Nat × Option Blk)) (hve : (parseE l ≠ 0 ∧ v = .tup [.nils, .int .i64 (parseE l)] ∧ eff = []) ∨ (parseE l = 0 ∧ v = .tup [.own nm 0 (parseT l).length, .int .i64 0] ∧ eff = [(nm, some ⟨6, (parseT l).map ndC⟩)])) :
    Ev cx 10 nm [.sl false 4 (l.map tkC)] Mem.nil v eff := by
  have hlim : ∀ t ∈ l, t.okTo lim := fun t ht => by
    obtain ⟨⟨h1, h2, h3, h4⟩, _⟩ := hs t ht
    unfold lim
    exact ⟨by omega, by omega, by omega, fun a ha => by have := h4 a ha; omega⟩
  by_cases h512 : 512 < l.length
  · have he := parse_many h512
    have hd : decide ((512 : Int) < (l.length : Int)) = true := decide_eq_true (by omega)
    rcases hve with ⟨_, rfl, rfl⟩ | ⟨h0, _⟩
    · rw [he]
      refine ev_go (fun cargs w => Tryd.call10 cargs w) Tryd.func10 rfl mixed (by kernel_rfl) rfl ?_; intro b0 hb0
      ((repeat' first | simp only [Tryd.results10, Tryd.ntmps10, κt, wks, hd, List.length_map, vcs, κa, κb, κc, κd, κe, κf, κg, κh, κi, κj, κk, κl, κm, reduceCtorEq, reduceIte, κn, κo, κp, κq, κr, κs, tys] | exact rfl | ((first | (refine call_val (g := ?_) ?_ ?_) | (refine call_valg (g := ?_) ?_ ?_)); rotate_left 1; (focus (simp only [Tryd.results10, Tryd.ntmps10, κt, wks, hd, List.length_map, vcs, κa, κb, κc, κd, κe, κf, κg, κh, κi, κj, κk, κl, κm, reduceCtorEq, reduceIte, κn, κo, κp, κq, κr, κs, tys] <;> exact rfl))) | refine draw_end' (ps := [(0, 20), (3, 20), (4, 20), (11, 20), (13, 20), (16, 20)]) (by decide +kernel) (by simp only [List.forall_mem_cons, List.getD_cons_zero, List.getD_cons_succ, Tryd.results10, Tryd.ntmps10, κt, wks, hd, List.length_map, vcs, κa, κb, κc, κd, κe, κf, κg, κh, κi, κj, κk, κl, κm, reduceCtorEq, reduceIte, κn, κo, κp, κq, κr, κs, tys] <;> (try simp) <;> (try omega)) ?_ | refine draw_end (by decide +kernel) ?_ | refine cond_bool (fun hb => ?_) (fun hb => ?_) | refine cond_bit (fun hb => ?_) (fun hb => ?_) | refine And.intro (by omega) ?_ | refine And.intro (fun hb => ?_) (fun hb => ?_) | fail); (all_goals (first | (refine Fin.pure ?_ ?_ ?_ <;> (try simp only [Tryd.results10, Tryd.ntmps10, wks, hd, List.length_map, vcs, κa, κb, κc, κd, κe, κf, κg, κh, κi, κj, κk, κl, κm, reduceCtorEq, reduceIte, κn, κo, κp, κq, κr, κs, tys]) <;> (try simp only [injs])) | skip)))
    · omega
  · have hd : decide ((512 : Int) < (l.length : Int)) = false := decide_eq_false (by omega)
    refine ev_go (fun cargs w => Tryd.call10 cargs w) Tryd.func10 rfl mixed (by kernel_rfl) rfl ?_; intro b0 hb0
    repeat' first | simp only [Tryd.results10, Tryd.ntmps10, κt, wks, hd, List.length_map, vcs, κa, κb, κc, κd, κe, κf, κg, κh, κi, κj, κk, κl, κm, reduceCtorEq, reduceIte, κn, κo, κp, κq, κr, κs, tys] | exact rfl | ((first | (refine call_val (g := ?_) ?_ ?_) | (refine call_valg (g := ?_) ?_ ?_)); rotate_left 1; (focus (simp only [Tryd.results10, Tryd.ntmps10, κt, wks, hd, List.length_map, vcs, κa, κb, κc, κd, κe, κf, κg, κh, κi, κj, κk, κl, κm, reduceCtorEq, reduceIte, κn, κo, κp, κq, κr, κs, tys] <;> exact rfl))) | refine draw_end' (ps := [(0, 20), (3, 20), (4, 20), (11, 20), (13, 20), (16, 20)]) (by decide +kernel) (by simp only [List.forall_mem_cons, List.getD_cons_zero, List.getD_cons_succ, Tryd.results10, Tryd.ntmps10, κt, wks, hd, List.length_map, vcs, κa, κb, κc, κd, κe, κf, κg, κh, κi, κj, κk, κl, κm, reduceCtorEq, reduceIte, κn, κo, κp, κq, κr, κs, tys] <;> (try simp) <;> (try omega)) ?_ | refine draw_end (by decide +kernel) ?_ | refine cond_bool (fun hb => ?_) (fun hb => ?_) | refine cond_bit (fun hb => ?_) (fun hb => ?_) | refine And.intro (by omega) ?_ | refine And.intro (fun hb => ?_) (fun hb => ?_) | fail
    (refine loop_can2 cxG (fun x : Nat => l.length - x) (fun x => x ≤ l.length ∧ ((l.take x).any fun t => !tokL t) = false) (b0 + 16) (fun x => [(0, .sl false 4 (l.map tkC)), (4, .int .i64 x)]) (fun x => []) (0) [] ?_ ?_ ?_ ?_; rotate_left 1; (focus (show b0 ≤ _; omega)); (focus (refine ⟨?_, ?_⟩ <;> (try simp only [cans, plain_tk, List.length_map, vcs, κa, κb, κc, κd, κe, κf, κg, κh, κi, κj, κk, κl, κm, reduceCtorEq, reduceIte, κn, κo, κp, κq, κr, κs, tys, injs]) <;> (try omega))); rotate_left 1)
    · exact ⟨Nat.zero_le _, by simp⟩
    · rintro k ⟨hk, hno⟩
      by_cases hlt : k < l.length
      · obtain ⟨t, ht⟩ : ∃ t, l[k]? = some t := ⟨_, List.getElem?_eq_getElem hlt⟩
        have hat := tk_at ht
        have hd1 : decide (k < l.length) = true := decide_eq_true hlt
        have hwk : IntKind.i64.wrap ((k : Int) + 1) = ((k + 1 : Nat) : Int) := wrap_in (by omega) (by omega)
        have hmy := rMayT_ev t (hlim t (List.mem_of_getElem? ht))
        cases hp : tokL t with
        | false =>
          rw [hp] at hmy
          have he := parse_bad h512 (List.any_eq_true.2 ⟨t, List.mem_of_getElem? ht, by simp [hp]⟩)
          rcases hve with ⟨_, rfl, rfl⟩ | ⟨h0, _⟩
          · rw [he]
            ((repeat' first | simp only [Tryd.results10, Tryd.ntmps10, κt, wks, plain_pr, hat, tkC, hd1, hlt, Bool.not_false, List.length_map, vcs, κa, κb, κc, κd, κe, κf, κg, κh, κi, κj, κk, κl, κm, reduceCtorEq, reduceIte, κn, κo, κp, κq, κr, κs, tys] | exact rfl | ((first | (refine call_fn ?_ (hmy _) ?_) | (refine call_fn_g ?_ (fun _ => hmy _) ?_)); (focus (simp only [Tryd.results10, Tryd.ntmps10, κt, wks, plain_pr, hat, tkC, hd1, hlt, Bool.not_false, List.length_map, vcs, κa, κb, κc, κd, κe, κf, κg, κh, κi, κj, κk, κl, κm, reduceCtorEq, reduceIte, κn, κo, κp, κq, κr, κs, tys] <;> exact rfl))) | ((first | (refine call_val (g := ?_) ?_ ?_) | (refine call_valg (g := ?_) ?_ ?_)); rotate_left 1; (focus (simp only [Tryd.results10, Tryd.ntmps10, κt, wks, plain_pr, hat, tkC, hd1, hlt, Bool.not_false, List.length_map, vcs, κa, κb, κc, κd, κe, κf, κg, κh, κi, κj, κk, κl, κm, reduceCtorEq, reduceIte, κn, κo, κp, κq, κr, κs, tys] <;> exact rfl))) | refine draw_end' (ps := [(0, 20), (3, 20), (4, 20), (11, 20), (13, 20), (16, 20)]) (by decide +kernel) (by simp only [List.forall_mem_cons, List.getD_cons_zero, List.getD_cons_succ, Tryd.results10, Tryd.ntmps10, κt, wks, plain_pr, hat, tkC, hd1, hlt, Bool.not_false, List.length_map, vcs, κa, κb, κc, κd, κe, κf, κg, κh, κi, κj, κk, κl, κm, reduceCtorEq, reduceIte, κn, κo, κp, κq, κr, κs, tys] <;> (try simp) <;> (try omega)) ?_ | refine draw_end (by decide +kernel) ?_ | refine cond_bool (fun hb => ?_) (fun hb => ?_) | refine cond_bit (fun hb => ?_) (fun hb => ?_) | refine And.intro (by omega) ?_ | refine And.intro (fun hb => ?_) (fun hb => ?_) | fail); (all_goals (first | (refine Fin.pure ?_ ?_ ?_ <;> (try simp only [Tryd.results10, Tryd.ntmps10, wks, plain_pr, hat, tkC, hd1, hlt, Bool.not_false, List.length_map, vcs, κa, κb, κc, κd, κe, κf, κg, κh, κi, κj, κk, κl, κm, reduceCtorEq, reduceIte, κn, κo, κp, κq, κr, κs, tys]) <;> (try simp only [injs])) | skip)))
          · omega
        | true =>
          rw [hp] at hmy
          have hno' := notany_succ (p := fun t => !tokL t) hno ht (by simp [hp])
          repeat' first | simp only [Tryd.results10, Tryd.ntmps10, κt, wks, plain_pr, hat, tkC, hd1, hlt, Bool.not_true, List.length_map, vcs, κa, κb, κc, κd, κe, κf, κg, κh, κi, κj, κk, κl, κm, reduceCtorEq, reduceIte, κn, κo, κp, κq, κr, κs, tys] | exact rfl | ((first | (refine call_fn ?_ (hmy _) ?_) | (refine call_fn_g ?_ (fun _ => hmy _) ?_)); (focus (simp only [Tryd.results10, Tryd.ntmps10, κt, wks, plain_pr, hat, tkC, hd1, hlt, Bool.not_true, List.length_map, vcs, κa, κb, κc, κd, κe, κf, κg, κh, κi, κj, κk, κl, κm, reduceCtorEq, reduceIte, κn, κo, κp, κq, κr, κs, tys] <;> exact rfl))) | ((first | (refine call_val (g := ?_) ?_ ?_) | (refine call_valg (g := ?_) ?_ ?_)); rotate_left 1; (focus (simp only [Tryd.results10, Tryd.ntmps10, κt, wks, plain_pr, hat, tkC, hd1, hlt, Bool.not_true, List.length_map, vcs, κa, κb, κc, κd, κe, κf, κg, κh, κi, κj, κk, κl, κm, reduceCtorEq, reduceIte, κn, κo, κp, κq, κr, κs, tys] <;> exact rfl))) | refine draw_end' (ps := [(0, 20), (3, 20), (4, 20), (11, 20), (13, 20), (16, 20)]) (by decide +kernel) (by simp only [List.forall_mem_cons, List.getD_cons_zero, List.getD_cons_succ, Tryd.results10, Tryd.ntmps10, κt, wks, plain_pr, hat, tkC, hd1, hlt, Bool.not_true, List.length_map, vcs, κa, κb, κc, κd, κe, κf, κg, κh, κi, κj, κk, κl, κm, reduceCtorEq, reduceIte, κn, κo, κp, κq, κr, κs, tys] <;> (try simp) <;> (try omega)) ?_ | refine draw_end (by decide +kernel) ?_ | refine cond_bool (fun hb => ?_) (fun hb => ?_) | refine cond_bit (fun hb => ?_) (fun hb => ?_) | refine And.intro (by omega) ?_ | refine And.intro (fun hb => ?_) (fun hb => ?_) | fail
          all_goals ((refine again_can2 cxG (k + 1) [] ?_ ?_ ?_ ?_; rotate_left 2; (focus (show b0 ≤ _; omega)); (focus (refine ⟨?_, ?_⟩ <;> (try simp only [cans, plain_tk, hwk, List.length_map, vcs, κa, κb, κc, κd, κe, κf, κg, κh, κi, κj, κk, κl, κm, reduceCtorEq, reduceIte, κn, κo, κp, κq, κr, κs, tys, injs]) <;> (try omega)))))
          all_goals (first | (show l.length - (k + 1) < l.length - k; omega) | exact ⟨hlt, hno'⟩ | skip)
      · have hke : k = l.length := by omega
        subst hke
        rw [List.take_length] at hno
        have hany := hno
        have hd1 : decide (l.length < l.length) = false := decide_eq_false (by omega)
        repeat' first | simp only [Tryd.results10, Tryd.ntmps10, κt, wks, hd1, List.length_map, vcs, κa, κb, κc, κd, κe, κf, κg, κh, κi, κj, κk, κl, κm, reduceCtorEq, reduceIte, κn, κo, κp, κq, κr, κs, tys] | exact rfl | ((first | (refine call_val (g := ?_) ?_ ?_) | (refine call_valg (g := ?_) ?_ ?_)); rotate_left 1; (focus (simp only [Tryd.results10, Tryd.ntmps10, κt, wks, hd1, List.length_map, vcs, κa, κb, κc, κd, κe, κf, κg, κh, κi, κj, κk, κl, κm, reduceCtorEq, reduceIte, κn, κo, κp, κq, κr, κs, tys] <;> exact rfl))) | refine draw_end' (ps := [(0, 20), (3, 20), (4, 20), (11, 20), (13, 20), (16, 20)]) (by decide +kernel) (by simp only [List.forall_mem_cons, List.getD_cons_zero, List.getD_cons_succ, Tryd.results10, Tryd.ntmps10, κt, wks, hd1, List.length_map, vcs, κa, κb, κc, κd, κe, κf, κg, κh, κi, κj, κk, κl, κm, reduceCtorEq, reduceIte, κn, κo, κp, κq, κr, κs, tys] <;> (try simp) <;> (try omega)) ?_ | refine draw_end (by decide +kernel) ?_ | refine cond_bool (fun hb => ?_) (fun hb => ?_) | refine cond_bit (fun hb => ?_) (fun hb => ?_) | refine And.intro (by omega) ?_ | refine And.intro (fun hb => ?_) (fun hb => ?_) | fail
        (refine loop_can2 cxG (fun x : PSt => l.length - x.k) (fun x => x.inv2 l) (b0 + 16) (fun x => [(0, .sl false 4 (l.map tkC)), (5, .ptr b0 0 0), (6, .int .i64 x.k)]) (fun x => [(b0, ⟨2, [[.own (b0 + 1) 0 x.g.v.length, .own (b0 + 2) 0 x.g.opn.length]]⟩), (b0 + 1, ⟨6, x.g.v.map ndC⟩), (b0 + 2, ⟨1, (x.g.opn ++ x.junk).map noC⟩)]) (PSt.mk 0 (Gr.mk [] []) [] 0) [some (b0 + 80), none, none] ?_ ?_ ?_ ?_; rotate_left 1; (focus (show b0 ≤ _; omega)); (focus (refine ⟨?_, ?_⟩ <;> (try simp only [cans, plain_tk, plain_nd, plain_no, isRow_inst, Bool.and_self, Bool.false_and, List.map_nil, List.append_nil, List.length_nil, List.length_map, vcs, κa, κb, κc, κd, κe, κf, κg, κh, κi, κj, κk, κl, κm, reduceCtorEq, reduceIte, κn, κo, κp, κq, κr, κs, tys, injs]) <;> (try omega))); rotate_left 1)
        · exact ⟨⟨Nat.zero_le _, start_ok, rfl⟩, .inl ⟨rfl, rfl⟩⟩
        · rintro ⟨k, g, junk, last⟩ hinv2
          have hinv := hinv2.1
          have hprev := hinv2.2
          simp only at hprev
          obtain ⟨hk, hg, hgo⟩ := hinv
          simp only at hk hg hgo
          have hvl := hg.len
          by_cases hlt : k < l.length
          · obtain ⟨t, ht⟩ : ∃ t, l[k]? = some t := ⟨_, List.getElem?_eq_getElem hlt⟩
            have hat := tk_at ht
            have hd1 : decide (k < l.length) = true := decide_eq_true hlt
            have hwk : IntKind.i64.wrap ((k : Int) + 1) = ((k + 1 : Nat) : Int) := wrap_in (by omega) (by omega)
            obtain ⟨hto, h30⟩ := hs t (List.mem_of_getElem? ht)
            have htok : tokL t = true := by
              cases hh : tokL t with
              | true => rfl
              | false => rw [List.any_eq_true.2 ⟨t, List.mem_of_getElem? ht, by simp [hh]⟩] at hany; cases hany
            have herr : ∀ e : Int, (stepG g t (last == 4)).2 = e → e ≠ 0 → parseE l = e := fun e h1 h2 => parse_err h512 hany (inv_err hinv2.1 ht h1 h2) h2
            have hnext : ∀ (g' : Gr) (junk' : List Nat), stepG g t (last == 4) = (g', 0) → PSt.inv2 l ⟨k + 1, g', junk', t.kind⟩ := fun g' junk' h => ⟨inv_next hinv2.1 ht h junk', .inr ⟨k, t, rfl, ht, rfl⟩⟩
            -- was the last one a text
            obtain ⟨dk, pk, m, p, hdk, hpk, hmp, hwm⟩ : ∃ (dk pk : Bool) (m : Nat) (p : Tk), decide ((0 : Int) < (k : Int)) = dk ∧ (dk = false → (last == 4) = false) ∧ (dk = true → k = m + 1 ∧ l[m]? = some p ∧ m < l.length ∧ ((p.kind : Int) == 4) = pk ∧ (last == 4) = pk) ∧ (dk = true → IntKind.i64.wrap ((k : Int) - 1) = (m : Int)) := by
              rcases hprev with ⟨rfl, rfl⟩ | ⟨m, p, rfl, hm, hpl⟩
              · exact ⟨false, false, 0, t, rfl, (fun _ => rfl), (fun h => by cases h), (fun h => by cases h)⟩
              · refine ⟨true, (last == 4), m, p, decide_eq_true (by omega), (fun h => by cases h), (fun _ => ⟨rfl, hm, by omega, ?_, rfl⟩), (fun _ => by rw [wrap_in (by omega) (by omega)]; omega)⟩
                rw [hpl, Bool.eq_iff_iff]; simp; omega
            rcases kind_cases htok with hk1 | hk1 | hk1 | hk1
            · have hs0 : stepG g t (last == 4) = (if (g.opn.isEmpty && !g.v.isEmpty) = true then (g, 80) else if 12 ≤ g.opn.length then (g, 100) else (⟨addG g (elemN t), if t.kind = 1 then g.opn ++ [g.v.length] else g.opn⟩, 0)) := by unfold stepG; rw [if_neg (by omega), if_neg (by omega)]
              by_cases c1 : (g.opn.isEmpty && !g.v.isEmpty) = true
              · have hst : stepG g t (last == 4) = (g, 80) := by rw [hs0, if_pos c1]
                have he := herr 80 (by rw [hst]) (by omega)
                rcases hve with ⟨_, rfl, rfl⟩ | ⟨h0, _⟩
                · rw [he]
                  · cases dk with
                    | false =>
                      have hlast := hpk rfl
                      have hc := fun (M' : Mem) (b : M' (b0 + 1) = some ⟨6, g.v.map ndC⟩) (c : M' (b0 + 2) = some ⟨1, (g.opn ++ junk).map noC⟩) (d : ∀ w, (M' w).isSome = true → w ∈ [b0 + 1, b0 + 2]) (m : Nat) => rElem_no g k hg (by omega) junk (b0 + 1) (b0 + 2) t (last == 4) (by omega) (by omega) 80 (.inl ⟨c1, rfl⟩) M' m (by omega) b c d
                      rw [hlast] at hc
                      ((repeat' first | simp only [Tryd.results10, Tryd.ntmps10, κt, wks, plain_pr, tkC, hat, hlt, hd1, fresh_lit2, hdk, List.length_map, vcs, κa, κb, κc, κd, κe, κf, κg, κh, κi, κj, κk, κl, κm, reduceCtorEq, reduceIte, κn, κo, κp, κq, κr, κs, tys] | exact rfl | ((refine call_fn_full ?_ [b0 + 1, b0 + 2] (hc _ ?_ ?_ only_mem _) ?_ ?_); iterate 4 (focus (simp only [mems, Tryd.results10, Tryd.ntmps10, κt, wks, plain_pr, tkC, hat, hlt, hd1, fresh_lit2, hdk, List.length_map, vcs, κa, κb, κc, κd, κe, κf, κg, κh, κi, κj, κk, κl, κm, reduceCtorEq, reduceIte, κn, κo, κp, κq, κr, κs, tys] <;> exact rfl))) | ((first | (refine call_val (g := ?_) ?_ ?_) | (refine call_valg (g := ?_) ?_ ?_)); rotate_left 1; (focus (simp only [Tryd.results10, Tryd.ntmps10, κt, wks, plain_pr, tkC, hat, hlt, hd1, fresh_lit2, hdk, List.length_map, vcs, κa, κb, κc, κd, κe, κf, κg, κh, κi, κj, κk, κl, κm, reduceCtorEq, reduceIte, κn, κo, κp, κq, κr, κs, tys] <;> exact rfl))) | refine draw_end' (ps := [(0, 20), (3, 20), (4, 20), (11, 20), (13, 20), (16, 20)]) (by decide +kernel) (by simp only [List.forall_mem_cons, List.getD_cons_zero, List.getD_cons_succ, Tryd.results10, Tryd.ntmps10, κt, wks, plain_pr, tkC, hat, hlt, hd1, fresh_lit2, hdk, List.length_map, vcs, κa, κb, κc, κd, κe, κf, κg, κh, κi, κj, κk, κl, κm, reduceCtorEq, reduceIte, κn, κo, κp, κq, κr, κs, tys] <;> (try simp) <;> (try omega)) ?_ | refine draw_end (by decide +kernel) ?_ | refine cond_bool (fun hb => ?_) (fun hb => ?_) | refine cond_bit (fun hb => ?_) (fun hb => ?_) | refine And.intro (by omega) ?_ | refine And.intro (fun hb => ?_) (fun hb => ?_) | fail); (all_goals (first | (refine Fin.pure ?_ ?_ ?_ <;> (try simp only [Tryd.results10, Tryd.ntmps10, wks, plain_pr, tkC, hat, hlt, hd1, fresh_lit2, hdk, List.length_map, vcs, κa, κb, κc, κd, κe, κf, κg, κh, κi, κj, κk, κl, κm, reduceCtorEq, reduceIte, κn, κo, κp, κq, κr, κs, tys]) <;> (try simp only [injs])) | skip)))
                    | true =>
                      obtain ⟨hkm, hmp1, hmp2, hmp3, hlast⟩ := hmp rfl
                      have hwm1 := hwm rfl
                      have hpt := tk_at hmp1
                      have hc := fun (M' : Mem) (b : M' (b0 + 1) = some ⟨6, g.v.map ndC⟩) (c : M' (b0 + 2) = some ⟨1, (g.opn ++ junk).map noC⟩) (d : ∀ w, (M' w).isSome = true → w ∈ [b0 + 1, b0 + 2]) (m : Nat) => rElem_no g k hg (by omega) junk (b0 + 1) (b0 + 2) t (last == 4) (by omega) (by omega) 80 (.inl ⟨c1, rfl⟩) M' m (by omega) b c d
                      rw [hlast] at hc
                      ((repeat' first | simp only [Tryd.results10, Tryd.ntmps10, κt, wks, plain_pr, tkC, hat, hlt, hd1, fresh_lit2, hdk, hwm1, hpt, hmp2, hmp3, List.length_map, vcs, κa, κb, κc, κd, κe, κf, κg, κh, κi, κj, κk, κl, κm, reduceCtorEq, reduceIte, κn, κo, κp, κq, κr, κs, tys] | exact rfl | ((refine call_fn_full ?_ [b0 + 1, b0 + 2] (hc _ ?_ ?_ only_mem _) ?_ ?_); iterate 4 (focus (simp only [mems, Tryd.results10, Tryd.ntmps10, κt, wks, plain_pr, tkC, hat, hlt, hd1, fresh_lit2, hdk, hwm1, hpt, hmp2, hmp3, List.length_map, vcs, κa, κb, κc, κd, κe, κf, κg, κh, κi, κj, κk, κl, κm, reduceCtorEq, reduceIte, κn, κo, κp, κq, κr, κs, tys] <;> exact rfl))) | ((first | (refine call_val (g := ?_) ?_ ?_) | (refine call_valg (g := ?_) ?_ ?_)); rotate_left 1; (focus (simp only [Tryd.results10, Tryd.ntmps10, κt, wks, plain_pr, tkC, hat, hlt, hd1, fresh_lit2, hdk, hwm1, hpt, hmp2, hmp3, List.length_map, vcs, κa, κb, κc, κd, κe, κf, κg, κh, κi, κj, κk, κl, κm, reduceCtorEq, reduceIte, κn, κo, κp, κq, κr, κs, tys] <;> exact rfl))) | refine draw_end' (ps := [(0, 20), (3, 20), (4, 20), (11, 20), (13, 20), (16, 20)]) (by decide +kernel) (by simp only [List.forall_mem_cons, List.getD_cons_zero, List.getD_cons_succ, Tryd.results10, Tryd.ntmps10, κt, wks, plain_pr, tkC, hat, hlt, hd1, fresh_lit2, hdk, hwm1, hpt, hmp2, hmp3, List.length_map, vcs, κa, κb, κc, κd, κe, κf, κg, κh, κi, κj, κk, κl, κm, reduceCtorEq, reduceIte, κn, κo, κp, κq, κr, κs, tys] <;> (try simp) <;> (try omega)) ?_ | refine draw_end (by decide +kernel) ?_ | refine cond_bool (fun hb => ?_) (fun hb => ?_) | refine cond_bit (fun hb => ?_) (fun hb => ?_) | refine And.intro (by omega) ?_ | refine And.intro (fun hb => ?_) (fun hb => ?_) | fail); (all_goals (first | (refine Fin.pure ?_ ?_ ?_ <;> (try simp only [Tryd.results10, Tryd.ntmps10, wks, plain_pr, tkC, hat, hlt, hd1, fresh_lit2, hdk, hwm1, hpt, hmp2, hmp3, List.length_map, vcs, κa, κb, κc, κd, κe, κf, κg, κh, κi, κj, κk, κl, κm, reduceCtorEq, reduceIte, κn, κo, κp, κq, κr, κs, tys]) <;> (try simp only [injs])) | skip)))
                · omega
              · have c1' : (g.opn.isEmpty && !g.v.isEmpty) = false := by simpa using c1
                by_cases c2 : 12 ≤ g.opn.length
                · have hst : stepG g t (last == 4) = (g, 100) := by rw [hs0, if_neg c1, if_pos c2]
                  have he := herr 100 (by rw [hst]) (by omega)
                  rcases hve with ⟨_, rfl, rfl⟩ | ⟨h0, _⟩
                  · rw [he]
                    · cases dk with
                      | false =>
                        have hlast := hpk rfl
                        have hc := fun (M' : Mem) (b : M' (b0 + 1) = some ⟨6, g.v.map ndC⟩) (c : M' (b0 + 2) = some ⟨1, (g.opn ++ junk).map noC⟩) (d : ∀ w, (M' w).isSome = true → w ∈ [b0 + 1, b0 + 2]) (m : Nat) => rElem_no g k hg (by omega) junk (b0 + 1) (b0 + 2) t (last == 4) (by omega) (by omega) 100 (.inr ⟨c1', c2, rfl⟩) M' m (by omega) b c d
                        rw [hlast] at hc
                        ((repeat' first | simp only [Tryd.results10, Tryd.ntmps10, κt, wks, plain_pr, tkC, hat, hlt, hd1, fresh_lit2, hdk, List.length_map, vcs, κa, κb, κc, κd, κe, κf, κg, κh, κi, κj, κk, κl, κm, reduceCtorEq, reduceIte, κn, κo, κp, κq, κr, κs, tys] | exact rfl | ((refine call_fn_full ?_ [b0 + 1, b0 + 2] (hc _ ?_ ?_ only_mem _) ?_ ?_); iterate 4 (focus (simp only [mems, Tryd.results10, Tryd.ntmps10, κt, wks, plain_pr, tkC, hat, hlt, hd1, fresh_lit2, hdk, List.length_map, vcs, κa, κb, κc, κd, κe, κf, κg, κh, κi, κj, κk, κl, κm, reduceCtorEq, reduceIte, κn, κo, κp, κq, κr, κs, tys] <;> exact rfl))) | ((first | (refine call_val (g := ?_) ?_ ?_) | (refine call_valg (g := ?_) ?_ ?_)); rotate_left 1; (focus (simp only [Tryd.results10, Tryd.ntmps10, κt, wks, plain_pr, tkC, hat, hlt, hd1, fresh_lit2, hdk, List.length_map, vcs, κa, κb, κc, κd, κe, κf, κg, κh, κi, κj, κk, κl, κm, reduceCtorEq, reduceIte, κn, κo, κp, κq, κr, κs, tys] <;> exact rfl))) | refine draw_end' (ps := [(0, 20), (3, 20), (4, 20), (11, 20), (13, 20), (16, 20)]) (by decide +kernel) (by simp only [List.forall_mem_cons, List.getD_cons_zero, List.getD_cons_succ, Tryd.results10, Tryd.ntmps10, κt, wks, plain_pr, tkC, hat, hlt, hd1, fresh_lit2, hdk, List.length_map, vcs, κa, κb, κc, κd, κe, κf, κg, κh, κi, κj, κk, κl, κm, reduceCtorEq, reduceIte, κn, κo, κp, κq, κr, κs, tys] <;> (try simp) <;> (try omega)) ?_ | refine draw_end (by decide +kernel) ?_ | refine cond_bool (fun hb => ?_) (fun hb => ?_) | refine cond_bit (fun hb => ?_) (fun hb => ?_) | refine And.intro (by omega) ?_ | refine And.intro (fun hb => ?_) (fun hb => ?_) | fail); (all_goals (first | (refine Fin.pure ?_ ?_ ?_ <;> (try simp only [Tryd.results10, Tryd.ntmps10, wks, plain_pr, tkC, hat, hlt, hd1, fresh_lit2, hdk, List.length_map, vcs, κa, κb, κc, κd, κe, κf, κg, κh, κi, κj, κk, κl, κm, reduceCtorEq, reduceIte, κn, κo, κp, κq, κr, κs, tys]) <;> (try simp only [injs])) | skip)))
                      | true =>
                        obtain ⟨hkm, hmp1, hmp2, hmp3, hlast⟩ := hmp rfl
                        have hwm1 := hwm rfl
                        have hpt := tk_at hmp1
                        have hc := fun (M' : Mem) (b : M' (b0 + 1) = some ⟨6, g.v.map ndC⟩) (c : M' (b0 + 2) = some ⟨1, (g.opn ++ junk).map noC⟩) (d : ∀ w, (M' w).isSome = true → w ∈ [b0 + 1, b0 + 2]) (m : Nat) => rElem_no g k hg (by omega) junk (b0 + 1) (b0 + 2) t (last == 4) (by omega) (by omega) 100 (.inr ⟨c1', c2, rfl⟩) M' m (by omega) b c d
                        rw [hlast] at hc
                        ((repeat' first | simp only [Tryd.results10, Tryd.ntmps10, κt, wks, plain_pr, tkC, hat, hlt, hd1, fresh_lit2, hdk, hwm1, hpt, hmp2, hmp3, List.length_map, vcs, κa, κb, κc, κd, κe, κf, κg, κh, κi, κj, κk, κl, κm, reduceCtorEq, reduceIte, κn, κo, κp, κq, κr, κs, tys] | exact rfl | ((refine call_fn_full ?_ [b0 + 1, b0 + 2] (hc _ ?_ ?_ only_mem _) ?_ ?_); iterate 4 (focus (simp only [mems, Tryd.results10, Tryd.ntmps10, κt, wks, plain_pr, tkC, hat, hlt, hd1, fresh_lit2, hdk, hwm1, hpt, hmp2, hmp3, List.length_map, vcs, κa, κb, κc, κd, κe, κf, κg, κh, κi, κj, κk, κl, κm, reduceCtorEq, reduceIte, κn, κo, κp, κq, κr, κs, tys] <;> exact rfl))) | ((first | (refine call_val (g := ?_) ?_ ?_) | (refine call_valg (g := ?_) ?_ ?_)); rotate_left 1; (focus (simp only [Tryd.results10, Tryd.ntmps10, κt, wks, plain_pr, tkC, hat, hlt, hd1, fresh_lit2, hdk, hwm1, hpt, hmp2, hmp3, List.length_map, vcs, κa, κb, κc, κd, κe, κf, κg, κh, κi, κj, κk, κl, κm, reduceCtorEq, reduceIte, κn, κo, κp, κq, κr, κs, tys] <;> exact rfl))) | refine draw_end' (ps := [(0, 20), (3, 20), (4, 20), (11, 20), (13, 20), (16, 20)]) (by decide +kernel) (by simp only [List.forall_mem_cons, List.getD_cons_zero, List.getD_cons_succ, Tryd.results10, Tryd.ntmps10, κt, wks, plain_pr, tkC, hat, hlt, hd1, fresh_lit2, hdk, hwm1, hpt, hmp2, hmp3, List.length_map, vcs, κa, κb, κc, κd, κe, κf, κg, κh, κi, κj, κk, κl, κm, reduceCtorEq, reduceIte, κn, κo, κp, κq, κr, κs, tys] <;> (try simp) <;> (try omega)) ?_ | refine draw_end (by decide +kernel) ?_ | refine cond_bool (fun hb => ?_) (fun hb => ?_) | refine cond_bit (fun hb => ?_) (fun hb => ?_) | refine And.intro (by omega) ?_ | refine And.intro (fun hb => ?_) (fun hb => ?_) | fail); (all_goals (first | (refine Fin.pure ?_ ?_ ?_ <;> (try simp only [Tryd.results10, Tryd.ntmps10, wks, plain_pr, tkC, hat, hlt, hd1, fresh_lit2, hdk, hwm1, hpt, hmp2, hmp3, List.length_map, vcs, κa, κb, κc, κd, κe, κf, κg, κh, κi, κj, κk, κl, κm, reduceCtorEq, reduceIte, κn, κo, κp, κq, κr, κs, tys]) <;> (try simp only [injs])) | skip)))
                  · omega
                · have hst : stepG g t (last == 4) = (⟨addG g (elemN t), g.opn ++ [g.v.length]⟩, 0) := by rw [hs0, if_neg c1, if_neg c2, if_pos hk1]
                  have hal := addG_length g (elemN t)
                  have ham := addG_map g (elemN t)
                  have hb3 : ((t.kind : Int) == 3) = false := by rw [hk1]; rfl
                  have hno2 : g.opn.map noC ++ [noC g.v.length] = (g.opn ++ [g.v.length]).map noC := by simp
                  · cases dk with
                    | false =>
                      have hlast := hpk rfl
                      have hc := fun (M' : Mem) (b : M' (b0 + 1) = some ⟨6, g.v.map ndC⟩) (c : M' (b0 + 2) = some ⟨1, (g.opn ++ junk).map noC⟩) (d : ∀ w, (M' w).isSome = true → w ∈ [b0 + 1, b0 + 2]) (m : Nat) (h1 : b0 + 1 < m) (h2 : b0 + 2 < m) => rElem_yes g k hg (by omega) junk (b0 + 1) (b0 + 2) t (last == 4) (by omega) (by omega) (by omega) c1' (by omega) false hb3 M' m (by omega) b c d h1 h2
                      rw [hlast] at hc
                      repeat' first | simp only [Tryd.results10, Tryd.ntmps10, κt, wks, plain_pr, tkC, hat, hlt, hd1, fresh_lit2, hdk, List.length_map, vcs, κa, κb, κc, κd, κe, κf, κg, κh, κi, κj, κk, κl, κm, reduceCtorEq, reduceIte, κn, κo, κp, κq, κr, κs, tys] | exact rfl | ((refine call_fn_full ?_ [b0 + 1, b0 + 2] (hc _ ?_ ?_ only_mem _ (by omega) (by omega)) ?_ ?_); iterate 4 (focus (simp only [mems, Tryd.results10, Tryd.ntmps10, κt, wks, plain_pr, tkC, hat, hlt, hd1, fresh_lit2, hdk, List.length_map, vcs, κa, κb, κc, κd, κe, κf, κg, κh, κi, κj, κk, κl, κm, reduceCtorEq, reduceIte, κn, κo, κp, κq, κr, κs, tys] <;> exact rfl))) | ((first | (refine call_val (g := ?_) ?_ ?_) | (refine call_valg (g := ?_) ?_ ?_)); rotate_left 1; (focus (simp only [Tryd.results10, Tryd.ntmps10, κt, wks, plain_pr, tkC, hat, hlt, hd1, fresh_lit2, hdk, List.length_map, vcs, κa, κb, κc, κd, κe, κf, κg, κh, κi, κj, κk, κl, κm, reduceCtorEq, reduceIte, κn, κo, κp, κq, κr, κs, tys] <;> exact rfl))) | refine draw_end' (ps := [(0, 20), (3, 20), (4, 20), (11, 20), (13, 20), (16, 20)]) (by decide +kernel) (by simp only [List.forall_mem_cons, List.getD_cons_zero, List.getD_cons_succ, Tryd.results10, Tryd.ntmps10, κt, wks, plain_pr, tkC, hat, hlt, hd1, fresh_lit2, hdk, List.length_map, vcs, κa, κb, κc, κd, κe, κf, κg, κh, κi, κj, κk, κl, κm, reduceCtorEq, reduceIte, κn, κo, κp, κq, κr, κs, tys] <;> (try simp) <;> (try omega)) ?_ | refine draw_end (by decide +kernel) ?_ | refine cond_bool (fun hb => ?_) (fun hb => ?_) | refine cond_bit (fun hb => ?_) (fun hb => ?_) | refine And.intro (by omega) ?_ | refine And.intro (fun hb => ?_) (fun hb => ?_) | fail
                      all_goals ((refine again_can2 cxG (PSt.mk (k + 1) (Gr.mk (addG g (elemN t)) (g.opn ++ [g.v.length])) [] t.kind) [some b0, some (b0 + 336), some (b0 + 337)] ?_ ?_ ?_ ?_; rotate_left 2; (focus (show b0 ≤ _; omega)); (focus (refine ⟨?_, ?_⟩ <;> (try simp only [cans, tkC, hwk, hal, ham, hno2, ndC_elem, plain_at, leLL_snoc, List.append_nil, List.length_append, List.length_cons, List.length_nil, plainLL_append, plain_tk, plain_nd, plain_no, isRow_inst, Bool.and_self, Bool.false_and, List.length_map, vcs, κa, κb, κc, κd, κe, κf, κg, κh, κi, κj, κk, κl, κm, reduceCtorEq, reduceIte, κn, κo, κp, κq, κr, κs, tys, injs]) <;> (try omega)))))
                      all_goals (first | (show l.length - (k + 1) < l.length - k; omega) | exact hnext _ _ hst | skip)
                    | true =>
                      obtain ⟨hkm, hmp1, hmp2, hmp3, hlast⟩ := hmp rfl
                      have hwm1 := hwm rfl
                      have hpt := tk_at hmp1
                      have hc := fun (M' : Mem) (b : M' (b0 + 1) = some ⟨6, g.v.map ndC⟩) (c : M' (b0 + 2) = some ⟨1, (g.opn ++ junk).map noC⟩) (d : ∀ w, (M' w).isSome = true → w ∈ [b0 + 1, b0 + 2]) (m : Nat) (h1 : b0 + 1 < m) (h2 : b0 + 2 < m) => rElem_yes g k hg (by omega) junk (b0 + 1) (b0 + 2) t (last == 4) (by omega) (by omega) (by omega) c1' (by omega) false hb3 M' m (by omega) b c d h1 h2
                      rw [hlast] at hc
                      repeat' first | simp only [Tryd.results10, Tryd.ntmps10, κt, wks, plain_pr, tkC, hat, hlt, hd1, fresh_lit2, hdk, hwm1, hpt, hmp2, hmp3, List.length_map, vcs, κa, κb, κc, κd, κe, κf, κg, κh, κi, κj, κk, κl, κm, reduceCtorEq, reduceIte, κn, κo, κp, κq, κr, κs, tys] | exact rfl | ((refine call_fn_full ?_ [b0 + 1, b0 + 2] (hc _ ?_ ?_ only_mem _ (by omega) (by omega)) ?_ ?_); iterate 4 (focus (simp only [mems, Tryd.results10, Tryd.ntmps10, κt, wks, plain_pr, tkC, hat, hlt, hd1, fresh_lit2, hdk, hwm1, hpt, hmp2, hmp3, List.length_map, vcs, κa, κb, κc, κd, κe, κf, κg, κh, κi, κj, κk, κl, κm, reduceCtorEq, reduceIte, κn, κo, κp, κq, κr, κs, tys] <;> exact rfl))) | ((first | (refine call_val (g := ?_) ?_ ?_) | (refine call_valg (g := ?_) ?_ ?_)); rotate_left 1; (focus (simp only [Tryd.results10, Tryd.ntmps10, κt, wks, plain_pr, tkC, hat, hlt, hd1, fresh_lit2, hdk, hwm1, hpt, hmp2, hmp3, List.length_map, vcs, κa, κb, κc, κd, κe, κf, κg, κh, κi, κj, κk, κl, κm, reduceCtorEq, reduceIte, κn, κo, κp, κq, κr, κs, tys] <;> exact rfl))) | refine draw_end' (ps := [(0, 20), (3, 20), (4, 20), (11, 20), (13, 20), (16, 20)]) (by decide +kernel) (by simp only [List.forall_mem_cons, List.getD_cons_zero, List.getD_cons_succ, Tryd.results10, Tryd.ntmps10, κt, wks, plain_pr, tkC, hat, hlt, hd1, fresh_lit2, hdk, hwm1, hpt, hmp2, hmp3, List.length_map, vcs, κa, κb, κc, κd, κe, κf, κg, κh, κi, κj, κk, κl, κm, reduceCtorEq, reduceIte, κn, κo, κp, κq, κr, κs, tys] <;> (try simp) <;> (try omega)) ?_ | refine draw_end (by decide +kernel) ?_ | refine cond_bool (fun hb => ?_) (fun hb => ?_) | refine cond_bit (fun hb => ?_) (fun hb => ?_) | refine And.intro (by omega) ?_ | refine And.intro (fun hb => ?_) (fun hb => ?_) | fail
                      all_goals ((refine again_can2 cxG (PSt.mk (k + 1) (Gr.mk (addG g (elemN t)) (g.opn ++ [g.v.length])) [] t.kind) [some b0, some (b0 + 336), some (b0 + 337)] ?_ ?_ ?_ ?_; rotate_left 2; (focus (show b0 ≤ _; omega)); (focus (refine ⟨?_, ?_⟩ <;> (try simp only [cans, tkC, hwk, hal, ham, hno2, ndC_elem, plain_at, leLL_snoc, List.append_nil, List.length_append, List.length_cons, List.length_nil, plainLL_append, plain_tk, plain_nd, plain_no, isRow_inst, Bool.and_self, Bool.false_and, List.length_map, vcs, κa, κb, κc, κd, κe, κf, κg, κh, κi, κj, κk, κl, κm, reduceCtorEq, reduceIte, κn, κo, κp, κq, κr, κs, tys, injs]) <;> (try omega)))))
                      all_goals (first | (show l.length - (k + 1) < l.length - k; omega) | exact hnext _ _ hst | skip)
            · have hs0 : stepG g t (last == 4) = (if (g.opn.isEmpty && !g.v.isEmpty) = true then (g, 80) else if 12 ≤ g.opn.length then (g, 100) else (⟨addG g (elemN t), if t.kind = 1 then g.opn ++ [g.v.length] else g.opn⟩, 0)) := by unfold stepG; rw [if_neg (by omega), if_neg (by omega)]
              by_cases c1 : (g.opn.isEmpty && !g.v.isEmpty) = true
              · have hst : stepG g t (last == 4) = (g, 80) := by rw [hs0, if_pos c1]
                have he := herr 80 (by rw [hst]) (by omega)
                rcases hve with ⟨_, rfl, rfl⟩ | ⟨h0, _⟩
                · rw [he]
                  · cases dk with
                    | false =>
                      have hlast := hpk rfl
                      have hc := fun (M' : Mem) (b : M' (b0 + 1) = some ⟨6, g.v.map ndC⟩) (c : M' (b0 + 2) = some ⟨1, (g.opn ++ junk).map noC⟩) (d : ∀ w, (M' w).isSome = true → w ∈ [b0 + 1, b0 + 2]) (m : Nat) => rElem_no g k hg (by omega) junk (b0 + 1) (b0 + 2) t (last == 4) (by omega) (by omega) 80 (.inl ⟨c1, rfl⟩) M' m (by omega) b c d
                      rw [hlast] at hc
                      ((repeat' first | simp only [Tryd.results10, Tryd.ntmps10, κt, wks, plain_pr, tkC, hat, hlt, hd1, fresh_lit2, hdk, List.length_map, vcs, κa, κb, κc, κd, κe, κf, κg, κh, κi, κj, κk, κl, κm, reduceCtorEq, reduceIte, κn, κo, κp, κq, κr, κs, tys] | exact rfl | ((refine call_fn_full ?_ [b0 + 1, b0 + 2] (hc _ ?_ ?_ only_mem _) ?_ ?_); iterate 4 (focus (simp only [mems, Tryd.results10, Tryd.ntmps10, κt, wks, plain_pr, tkC, hat, hlt, hd1, fresh_lit2, hdk, List.length_map, vcs, κa, κb, κc, κd, κe, κf, κg, κh, κi, κj, κk, κl, κm, reduceCtorEq, reduceIte, κn, κo, κp, κq, κr, κs, tys] <;> exact rfl))) | ((first | (refine call_val (g := ?_) ?_ ?_) | (refine call_valg (g := ?_) ?_ ?_)); rotate_left 1; (focus (simp only [Tryd.results10, Tryd.ntmps10, κt, wks, plain_pr, tkC, hat, hlt, hd1, fresh_lit2, hdk, List.length_map, vcs, κa, κb, κc, κd, κe, κf, κg, κh, κi, κj, κk, κl, κm, reduceCtorEq, reduceIte, κn, κo, κp, κq, κr, κs, tys] <;> exact rfl))) | refine draw_end' (ps := [(0, 20), (3, 20), (4, 20), (11, 20), (13, 20), (16, 20)]) (by decide +kernel) (by simp only [List.forall_mem_cons, List.getD_cons_zero, List.getD_cons_succ, Tryd.results10, Tryd.ntmps10, κt, wks, plain_pr, tkC, hat, hlt, hd1, fresh_lit2, hdk, List.length_map, vcs, κa, κb, κc, κd, κe, κf, κg, κh, κi, κj, κk, κl, κm, reduceCtorEq, reduceIte, κn, κo, κp, κq, κr, κs, tys] <;> (try simp) <;> (try omega)) ?_ | refine draw_end (by decide +kernel) ?_ | refine cond_bool (fun hb => ?_) (fun hb => ?_) | refine cond_bit (fun hb => ?_) (fun hb => ?_) | refine And.intro (by omega) ?_ | refine And.intro (fun hb => ?_) (fun hb => ?_) | fail); (all_goals (first | (refine Fin.pure ?_ ?_ ?_ <;> (try simp only [Tryd.results10, Tryd.ntmps10, wks, plain_pr, tkC, hat, hlt, hd1, fresh_lit2, hdk, List.length_map, vcs, κa, κb, κc, κd, κe, κf, κg, κh, κi, κj, κk, κl, κm, reduceCtorEq, reduceIte, κn, κo, κp, κq, κr, κs, tys]) <;> (try simp only [injs])) | skip)))
                    | true =>
                      obtain ⟨hkm, hmp1, hmp2, hmp3, hlast⟩ := hmp rfl
                      have hwm1 := hwm rfl
                      have hpt := tk_at hmp1
                      have hc := fun (M' : Mem) (b : M' (b0 + 1) = some ⟨6, g.v.map ndC⟩) (c : M' (b0 + 2) = some ⟨1, (g.opn ++ junk).map noC⟩) (d : ∀ w, (M' w).isSome = true → w ∈ [b0 + 1, b0 + 2]) (m : Nat) => rElem_no g k hg (by omega) junk (b0 + 1) (b0 + 2) t (last == 4) (by omega) (by omega) 80 (.inl ⟨c1, rfl⟩) M' m (by omega) b c d
                      rw [hlast] at hc
                      ((repeat' first | simp only [Tryd.results10, Tryd.ntmps10, κt, wks, plain_pr, tkC, hat, hlt, hd1, fresh_lit2, hdk, hwm1, hpt, hmp2, hmp3, List.length_map, vcs, κa, κb, κc, κd, κe, κf, κg, κh, κi, κj, κk, κl, κm, reduceCtorEq, reduceIte, κn, κo, κp, κq, κr, κs, tys] | exact rfl | ((refine call_fn_full ?_ [b0 + 1, b0 + 2] (hc _ ?_ ?_ only_mem _) ?_ ?_); iterate 4 (focus (simp only [mems, Tryd.results10, Tryd.ntmps10, κt, wks, plain_pr, tkC, hat, hlt, hd1, fresh_lit2, hdk, hwm1, hpt, hmp2, hmp3, List.length_map, vcs, κa, κb, κc, κd, κe, κf, κg, κh, κi, κj, κk, κl, κm, reduceCtorEq, reduceIte, κn, κo, κp, κq, κr, κs, tys] <;> exact rfl))) | ((first | (refine call_val (g := ?_) ?_ ?_) | (refine call_valg (g := ?_) ?_ ?_)); rotate_left 1; (focus (simp only [Tryd.results10, Tryd.ntmps10, κt, wks, plain_pr, tkC, hat, hlt, hd1, fresh_lit2, hdk, hwm1, hpt, hmp2, hmp3, List.length_map, vcs, κa, κb, κc, κd, κe, κf, κg, κh, κi, κj, κk, κl, κm, reduceCtorEq, reduceIte, κn, κo, κp, κq, κr, κs, tys] <;> exact rfl))) | refine draw_end' (ps := [(0, 20), (3, 20), (4, 20), (11, 20), (13, 20), (16, 20)]) (by decide +kernel) (by simp only [List.forall_mem_cons, List.getD_cons_zero, List.getD_cons_succ, Tryd.results10, Tryd.ntmps10, κt, wks, plain_pr, tkC, hat, hlt, hd1, fresh_lit2, hdk, hwm1, hpt, hmp2, hmp3, List.length_map, vcs, κa, κb, κc, κd, κe, κf, κg, κh, κi, κj, κk, κl, κm, reduceCtorEq, reduceIte, κn, κo, κp, κq, κr, κs, tys] <;> (try simp) <;> (try omega)) ?_ | refine draw_end (by decide +kernel) ?_ | refine cond_bool (fun hb => ?_) (fun hb => ?_) | refine cond_bit (fun hb => ?_) (fun hb => ?_) | refine And.intro (by omega) ?_ | refine And.intro (fun hb => ?_) (fun hb => ?_) | fail); (all_goals (first | (refine Fin.pure ?_ ?_ ?_ <;> (try simp only [Tryd.results10, Tryd.ntmps10, wks, plain_pr, tkC, hat, hlt, hd1, fresh_lit2, hdk, hwm1, hpt, hmp2, hmp3, List.length_map, vcs, κa, κb, κc, κd, κe, κf, κg, κh, κi, κj, κk, κl, κm, reduceCtorEq, reduceIte, κn, κo, κp, κq, κr, κs, tys]) <;> (try simp only [injs])) | skip)))
                · omega
              · have c1' : (g.opn.isEmpty && !g.v.isEmpty) = false := by simpa using c1
                by_cases c2 : 12 ≤ g.opn.length
                · have hst : stepG g t (last == 4) = (g, 100) := by rw [hs0, if_neg c1, if_pos c2]
                  have he := herr 100 (by rw [hst]) (by omega)
                  rcases hve with ⟨_, rfl, rfl⟩ | ⟨h0, _⟩
                  · rw [he]
                    · cases dk with
                      | false =>
                        have hlast := hpk rfl
                        have hc := fun (M' : Mem) (b : M' (b0 + 1) = some ⟨6, g.v.map ndC⟩) (c : M' (b0 + 2) = some ⟨1, (g.opn ++ junk).map noC⟩) (d : ∀ w, (M' w).isSome = true → w ∈ [b0 + 1, b0 + 2]) (m : Nat) => rElem_no g k hg (by omega) junk (b0 + 1) (b0 + 2) t (last == 4) (by omega) (by omega) 100 (.inr ⟨c1', c2, rfl⟩) M' m (by omega) b c d
                        rw [hlast] at hc
                        ((repeat' first | simp only [Tryd.results10, Tryd.ntmps10, κt, wks, plain_pr, tkC, hat, hlt, hd1, fresh_lit2, hdk, List.length_map, vcs, κa, κb, κc, κd, κe, κf, κg, κh, κi, κj, κk, κl, κm, reduceCtorEq, reduceIte, κn, κo, κp, κq, κr, κs, tys] | exact rfl | ((refine call_fn_full ?_ [b0 + 1, b0 + 2] (hc _ ?_ ?_ only_mem _) ?_ ?_); iterate 4 (focus (simp only [mems, Tryd.results10, Tryd.ntmps10, κt, wks, plain_pr, tkC, hat, hlt, hd1, fresh_lit2, hdk, List.length_map, vcs, κa, κb, κc, κd, κe, κf, κg, κh, κi, κj, κk, κl, κm, reduceCtorEq, reduceIte, κn, κo, κp, κq, κr, κs, tys] <;> exact rfl))) | ((first | (refine call_val (g := ?_) ?_ ?_) | (refine call_valg (g := ?_) ?_ ?_)); rotate_left 1; (focus (simp only [Tryd.results10, Tryd.ntmps10, κt, wks, plain_pr, tkC, hat, hlt, hd1, fresh_lit2, hdk, List.length_map, vcs, κa, κb, κc, κd, κe, κf, κg, κh, κi, κj, κk, κl, κm, reduceCtorEq, reduceIte, κn, κo, κp, κq, κr, κs, tys] <;> exact rfl))) | refine draw_end' (ps := [(0, 20), (3, 20), (4, 20), (11, 20), (13, 20), (16, 20)]) (by decide +kernel) (by simp only [List.forall_mem_cons, List.getD_cons_zero, List.getD_cons_succ, Tryd.results10, Tryd.ntmps10, κt, wks, plain_pr, tkC, hat, hlt, hd1, fresh_lit2, hdk, List.length_map, vcs, κa, κb, κc, κd, κe, κf, κg, κh, κi, κj, κk, κl, κm, reduceCtorEq, reduceIte, κn, κo, κp, κq, κr, κs, tys] <;> (try simp) <;> (try omega)) ?_ | refine draw_end (by decide +kernel) ?_ | refine cond_bool (fun hb => ?_) (fun hb => ?_) | refine cond_bit (fun hb => ?_) (fun hb => ?_) | refine And.intro (by omega) ?_ | refine And.intro (fun hb => ?_) (fun hb => ?_) | fail); (all_goals (first | (refine Fin.pure ?_ ?_ ?_ <;> (try simp only [Tryd.results10, Tryd.ntmps10, wks, plain_pr, tkC, hat, hlt, hd1, fresh_lit2, hdk, List.length_map, vcs, κa, κb, κc, κd, κe, κf, κg, κh, κi, κj, κk, κl, κm, reduceCtorEq, reduceIte, κn, κo, κp, κq, κr, κs, tys]) <;> (try simp only [injs])) | skip)))
                      | true =>
                        obtain ⟨hkm, hmp1, hmp2, hmp3, hlast⟩ := hmp rfl
                        have hwm1 := hwm rfl
                        have hpt := tk_at hmp1
                        have hc := fun (M' : Mem) (b : M' (b0 + 1) = some ⟨6, g.v.map ndC⟩) (c : M' (b0 + 2) = some ⟨1, (g.opn ++ junk).map noC⟩) (d : ∀ w, (M' w).isSome = true → w ∈ [b0 + 1, b0 + 2]) (m : Nat) => rElem_no g k hg (by omega) junk (b0 + 1) (b0 + 2) t (last == 4) (by omega) (by omega) 100 (.inr ⟨c1', c2, rfl⟩) M' m (by omega) b c d
                        rw [hlast] at hc
                        ((repeat' first | simp only [Tryd.results10, Tryd.ntmps10, κt, wks, plain_pr, tkC, hat, hlt, hd1, fresh_lit2, hdk, hwm1, hpt, hmp2, hmp3, List.length_map, vcs, κa, κb, κc, κd, κe, κf, κg, κh, κi, κj, κk, κl, κm, reduceCtorEq, reduceIte, κn, κo, κp, κq, κr, κs, tys] | exact rfl | ((refine call_fn_full ?_ [b0 + 1, b0 + 2] (hc _ ?_ ?_ only_mem _) ?_ ?_); iterate 4 (focus (simp only [mems, Tryd.results10, Tryd.ntmps10, κt, wks, plain_pr, tkC, hat, hlt, hd1, fresh_lit2, hdk, hwm1, hpt, hmp2, hmp3, List.length_map, vcs, κa, κb, κc, κd, κe, κf, κg, κh, κi, κj, κk, κl, κm, reduceCtorEq, reduceIte, κn, κo, κp, κq, κr, κs, tys] <;> exact rfl))) | ((first | (refine call_val (g := ?_) ?_ ?_) | (refine call_valg (g := ?_) ?_ ?_)); rotate_left 1; (focus (simp only [Tryd.results10, Tryd.ntmps10, κt, wks, plain_pr, tkC, hat, hlt, hd1, fresh_lit2, hdk, hwm1, hpt, hmp2, hmp3, List.length_map, vcs, κa, κb, κc, κd, κe, κf, κg, κh, κi, κj, κk, κl, κm, reduceCtorEq, reduceIte, κn, κo, κp, κq, κr, κs, tys] <;> exact rfl))) | refine draw_end' (ps := [(0, 20), (3, 20), (4, 20), (11, 20), (13, 20), (16, 20)]) (by decide +kernel) (by simp only [List.forall_mem_cons, List.getD_cons_zero, List.getD_cons_succ, Tryd.results10, Tryd.ntmps10, κt, wks, plain_pr, tkC, hat, hlt, hd1, fresh_lit2, hdk, hwm1, hpt, hmp2, hmp3, List.length_map, vcs, κa, κb, κc, κd, κe, κf, κg, κh, κi, κj, κk, κl, κm, reduceCtorEq, reduceIte, κn, κo, κp, κq, κr, κs, tys] <;> (try simp) <;> (try omega)) ?_ | refine draw_end (by decide +kernel) ?_ | refine cond_bool (fun hb => ?_) (fun hb => ?_) | refine cond_bit (fun hb => ?_) (fun hb => ?_) | refine And.intro (by omega) ?_ | refine And.intro (fun hb => ?_) (fun hb => ?_) | fail); (all_goals (first | (refine Fin.pure ?_ ?_ ?_ <;> (try simp only [Tryd.results10, Tryd.ntmps10, wks, plain_pr, tkC, hat, hlt, hd1, fresh_lit2, hdk, hwm1, hpt, hmp2, hmp3, List.length_map, vcs, κa, κb, κc, κd, κe, κf, κg, κh, κi, κj, κk, κl, κm, reduceCtorEq, reduceIte, κn, κo, κp, κq, κr, κs, tys]) <;> (try simp only [injs])) | skip)))
                  · omega
                · have hst : stepG g t (last == 4) = (⟨addG g (elemN t), g.opn⟩, 0) := by rw [hs0, if_neg c1, if_neg c2, if_neg (by omega)]
                  have hal := addG_length g (elemN t)
                  have ham := addG_map g (elemN t)
                  have hb3 : ((t.kind : Int) == 3) = true := by rw [hk1]; rfl
                  have hno2 : g.opn.map noC ++ [noC g.v.length] = (g.opn ++ [g.v.length]).map noC := by simp
                  · cases dk with
                    | false =>
                      have hlast := hpk rfl
                      have hc := fun (M' : Mem) (b : M' (b0 + 1) = some ⟨6, g.v.map ndC⟩) (c : M' (b0 + 2) = some ⟨1, (g.opn ++ junk).map noC⟩) (d : ∀ w, (M' w).isSome = true → w ∈ [b0 + 1, b0 + 2]) (m : Nat) (h1 : b0 + 1 < m) (h2 : b0 + 2 < m) => rElem_yes g k hg (by omega) junk (b0 + 1) (b0 + 2) t (last == 4) (by omega) (by omega) (by omega) c1' (by omega) true hb3 M' m (by omega) b c d h1 h2
                      rw [hlast] at hc
                      repeat' first | simp only [Tryd.results10, Tryd.ntmps10, κt, wks, plain_pr, tkC, hat, hlt, hd1, fresh_lit2, hdk, List.length_map, vcs, κa, κb, κc, κd, κe, κf, κg, κh, κi, κj, κk, κl, κm, reduceCtorEq, reduceIte, κn, κo, κp, κq, κr, κs, tys] | exact rfl | ((refine call_fn_full ?_ [b0 + 1, b0 + 2] (hc _ ?_ ?_ only_mem _ (by omega) (by omega)) ?_ ?_); iterate 4 (focus (simp only [mems, Tryd.results10, Tryd.ntmps10, κt, wks, plain_pr, tkC, hat, hlt, hd1, fresh_lit2, hdk, List.length_map, vcs, κa, κb, κc, κd, κe, κf, κg, κh, κi, κj, κk, κl, κm, reduceCtorEq, reduceIte, κn, κo, κp, κq, κr, κs, tys] <;> exact rfl))) | ((first | (refine call_val (g := ?_) ?_ ?_) | (refine call_valg (g := ?_) ?_ ?_)); rotate_left 1; (focus (simp only [Tryd.results10, Tryd.ntmps10, κt, wks, plain_pr, tkC, hat, hlt, hd1, fresh_lit2, hdk, List.length_map, vcs, κa, κb, κc, κd, κe, κf, κg, κh, κi, κj, κk, κl, κm, reduceCtorEq, reduceIte, κn, κo, κp, κq, κr, κs, tys] <;> exact rfl))) | refine draw_end' (ps := [(0, 20), (3, 20), (4, 20), (11, 20), (13, 20), (16, 20)]) (by decide +kernel) (by simp only [List.forall_mem_cons, List.getD_cons_zero, List.getD_cons_succ, Tryd.results10, Tryd.ntmps10, κt, wks, plain_pr, tkC, hat, hlt, hd1, fresh_lit2, hdk, List.length_map, vcs, κa, κb, κc, κd, κe, κf, κg, κh, κi, κj, κk, κl, κm, reduceCtorEq, reduceIte, κn, κo, κp, κq, κr, κs, tys] <;> (try simp) <;> (try omega)) ?_ | refine draw_end (by decide +kernel) ?_ | refine cond_bool (fun hb => ?_) (fun hb => ?_) | refine cond_bit (fun hb => ?_) (fun hb => ?_) | refine And.intro (by omega) ?_ | refine And.intro (fun hb => ?_) (fun hb => ?_) | fail
                      all_goals ((refine again_can2 cxG (PSt.mk (k + 1) (Gr.mk (addG g (elemN t)) (g.opn)) [g.v.length] t.kind) [some b0, some (b0 + 336), some (b0 + 337)] ?_ ?_ ?_ ?_; rotate_left 2; (focus (show b0 ≤ _; omega)); (focus (refine ⟨?_, ?_⟩ <;> (try simp only [cans, tkC, hwk, hal, ham, hno2, ndC_elem, plain_at, leLL_snoc, List.append_nil, List.length_append, List.length_cons, List.length_nil, plainLL_append, plain_tk, plain_nd, plain_no, isRow_inst, Bool.and_self, Bool.false_and, List.length_map, vcs, κa, κb, κc, κd, κe, κf, κg, κh, κi, κj, κk, κl, κm, reduceCtorEq, reduceIte, κn, κo, κp, κq, κr, κs, tys, injs]) <;> (try omega)))))
                      all_goals (first | (show l.length - (k + 1) < l.length - k; omega) | exact hnext _ _ hst | skip)
                    | true =>
                      obtain ⟨hkm, hmp1, hmp2, hmp3, hlast⟩ := hmp rfl
                      have hwm1 := hwm rfl
                      have hpt := tk_at hmp1
                      have hc := fun (M' : Mem) (b : M' (b0 + 1) = some ⟨6, g.v.map ndC⟩) (c : M' (b0 + 2) = some ⟨1, (g.opn ++ junk).map noC⟩) (d : ∀ w, (M' w).isSome = true → w ∈ [b0 + 1, b0 + 2]) (m : Nat) (h1 : b0 + 1 < m) (h2 : b0 + 2 < m) => rElem_yes g k hg (by omega) junk (b0 + 1) (b0 + 2) t (last == 4) (by omega) (by omega) (by omega) c1' (by omega) true hb3 M' m (by omega) b c d h1 h2
                      rw [hlast] at hc
                      repeat' first | simp only [Tryd.results10, Tryd.ntmps10, κt, wks, plain_pr, tkC, hat, hlt, hd1, fresh_lit2, hdk, hwm1, hpt, hmp2, hmp3, List.length_map, vcs, κa, κb, κc, κd, κe, κf, κg, κh, κi, κj, κk, κl, κm, reduceCtorEq, reduceIte, κn, κo, κp, κq, κr, κs, tys] | exact rfl | ((refine call_fn_full ?_ [b0 + 1, b0 + 2] (hc _ ?_ ?_ only_mem _ (by omega) (by omega)) ?_ ?_); iterate 4 (focus (simp only [mems, Tryd.results10, Tryd.ntmps10, κt, wks, plain_pr, tkC, hat, hlt, hd1, fresh_lit2, hdk, hwm1, hpt, hmp2, hmp3, List.length_map, vcs, κa, κb, κc, κd, κe, κf, κg, κh, κi, κj, κk, κl, κm, reduceCtorEq, reduceIte, κn, κo, κp, κq, κr, κs, tys] <;> exact rfl))) | ((first | (refine call_val (g := ?_) ?_ ?_) | (refine call_valg (g := ?_) ?_ ?_)); rotate_left 1; (focus (simp only [Tryd.results10, Tryd.ntmps10, κt, wks, plain_pr, tkC, hat, hlt, hd1, fresh_lit2, hdk, hwm1, hpt, hmp2, hmp3, List.length_map, vcs, κa, κb, κc, κd, κe, κf, κg, κh, κi, κj, κk, κl, κm, reduceCtorEq, reduceIte, κn, κo, κp, κq, κr, κs, tys] <;> exact rfl))) | refine draw_end' (ps := [(0, 20), (3, 20), (4, 20), (11, 20), (13, 20), (16, 20)]) (by decide +kernel) (by simp only [List.forall_mem_cons, List.getD_cons_zero, List.getD_cons_succ, Tryd.results10, Tryd.ntmps10, κt, wks, plain_pr, tkC, hat, hlt, hd1, fresh_lit2, hdk, hwm1, hpt, hmp2, hmp3, List.length_map, vcs, κa, κb, κc, κd, κe, κf, κg, κh, κi, κj, κk, κl, κm, reduceCtorEq, reduceIte, κn, κo, κp, κq, κr, κs, tys] <;> (try simp) <;> (try omega)) ?_ | refine draw_end (by decide +kernel) ?_ | refine cond_bool (fun hb => ?_) (fun hb => ?_) | refine cond_bit (fun hb => ?_) (fun hb => ?_) | refine And.intro (by omega) ?_ | refine And.intro (fun hb => ?_) (fun hb => ?_) | fail
                      all_goals ((refine again_can2 cxG (PSt.mk (k + 1) (Gr.mk (addG g (elemN t)) (g.opn)) [g.v.length] t.kind) [some b0, some (b0 + 336), some (b0 + 337)] ?_ ?_ ?_ ?_; rotate_left 2; (focus (show b0 ≤ _; omega)); (focus (refine ⟨?_, ?_⟩ <;> (try simp only [cans, tkC, hwk, hal, ham, hno2, ndC_elem, plain_at, leLL_snoc, List.append_nil, List.length_append, List.length_cons, List.length_nil, plainLL_append, plain_tk, plain_nd, plain_no, isRow_inst, Bool.and_self, Bool.false_and, List.length_map, vcs, κa, κb, κc, κd, κe, κf, κg, κh, κi, κj, κk, κl, κm, reduceCtorEq, reduceIte, κn, κo, κp, κq, κr, κs, tys, injs]) <;> (try omega)))))
                      all_goals (first | (show l.length - (k + 1) < l.length - k; omega) | exact hnext _ _ hst | skip)
            · by_cases hln : lastName g = some t.name
              · have hst : stepG g t (last == 4) = (⟨g.v, g.opn.dropLast⟩, 0) := by unfold stepG; rw [if_neg (by omega), if_pos hk1, if_pos hln]
                obtain ⟨kl, hkl, _⟩ := Option.bind_eq_some_iff.1 hln
                have hne := (last_get hkl).1
                have hdl : g.opn.dropLast.length = g.opn.length - 1 := by simp
                have hjk : g.opn.dropLast ++ (kl :: junk) = g.opn ++ junk := by
                  have : g.opn = g.opn.dropLast ++ [kl] := by
                    rw [List.getLast?_eq_some_getLast hne] at hkl
                    cases hkl
                    exact (List.dropLast_concat_getLast hne).symm
                  conv => rhs; rw [this]
                  simp
                · cases dk with
                  | false =>
                    have hlast := hpk rfl
                    have hc := fun (M' : Mem) (b : M' (b0 + 1) = some ⟨6, g.v.map ndC⟩) (c : M' (b0 + 2) = some ⟨1, (g.opn ++ junk).map noC⟩) (d : ∀ w, (M' w).isSome = true → w ∈ [b0 + 1, b0 + 2]) (m : Nat) => rShut_yes g k hg (by omega) junk (b0 + 1) (b0 + 2) t (last == 4) hk1 hln M' m (by omega) b c d
                    rw [hlast] at hc
                    repeat' first | simp only [Tryd.results10, Tryd.ntmps10, κt, wks, plain_pr, tkC, hat, hlt, hd1, fresh_lit2, hdk, List.length_map, vcs, κa, κb, κc, κd, κe, κf, κg, κh, κi, κj, κk, κl, κm, reduceCtorEq, reduceIte, κn, κo, κp, κq, κr, κs, tys] | exact rfl | ((refine call_fn_full ?_ [b0 + 1, b0 + 2] (hc _ ?_ ?_ only_mem _) ?_ ?_); iterate 4 (focus (simp only [mems, Tryd.results10, Tryd.ntmps10, κt, wks, plain_pr, tkC, hat, hlt, hd1, fresh_lit2, hdk, List.length_map, vcs, κa, κb, κc, κd, κe, κf, κg, κh, κi, κj, κk, κl, κm, reduceCtorEq, reduceIte, κn, κo, κp, κq, κr, κs, tys] <;> exact rfl))) | ((first | (refine call_val (g := ?_) ?_ ?_) | (refine call_valg (g := ?_) ?_ ?_)); rotate_left 1; (focus (simp only [Tryd.results10, Tryd.ntmps10, κt, wks, plain_pr, tkC, hat, hlt, hd1, fresh_lit2, hdk, List.length_map, vcs, κa, κb, κc, κd, κe, κf, κg, κh, κi, κj, κk, κl, κm, reduceCtorEq, reduceIte, κn, κo, κp, κq, κr, κs, tys] <;> exact rfl))) | refine draw_end' (ps := [(0, 20), (3, 20), (4, 20), (11, 20), (13, 20), (16, 20)]) (by decide +kernel) (by simp only [List.forall_mem_cons, List.getD_cons_zero, List.getD_cons_succ, Tryd.results10, Tryd.ntmps10, κt, wks, plain_pr, tkC, hat, hlt, hd1, fresh_lit2, hdk, List.length_map, vcs, κa, κb, κc, κd, κe, κf, κg, κh, κi, κj, κk, κl, κm, reduceCtorEq, reduceIte, κn, κo, κp, κq, κr, κs, tys] <;> (try simp) <;> (try omega)) ?_ | refine draw_end (by decide +kernel) ?_ | refine cond_bool (fun hb => ?_) (fun hb => ?_) | refine cond_bit (fun hb => ?_) (fun hb => ?_) | refine And.intro (by omega) ?_ | refine And.intro (fun hb => ?_) (fun hb => ?_) | fail
                    all_goals ((refine again_can2 cxG (PSt.mk (k + 1) (Gr.mk g.v g.opn.dropLast) (kl :: junk) t.kind) [some b0, some (b0 + 1), some (b0 + 2)] ?_ ?_ ?_ ?_; rotate_left 2; (focus (show b0 ≤ _; omega)); (focus (refine ⟨?_, ?_⟩ <;> (try simp only [cans, tkC, hwk, hdl, hjk, plain_tk, plain_nd, plain_no, isRow_inst, Bool.and_self, Bool.false_and, List.length_map, vcs, κa, κb, κc, κd, κe, κf, κg, κh, κi, κj, κk, κl, κm, reduceCtorEq, reduceIte, κn, κo, κp, κq, κr, κs, tys, injs]) <;> (try omega)))))
                    all_goals (first | (show l.length - (k + 1) < l.length - k; omega) | exact hnext _ _ hst | skip)
                  | true =>
                    obtain ⟨hkm, hmp1, hmp2, hmp3, hlast⟩ := hmp rfl
                    have hwm1 := hwm rfl
                    have hpt := tk_at hmp1
                    have hc := fun (M' : Mem) (b : M' (b0 + 1) = some ⟨6, g.v.map ndC⟩) (c : M' (b0 + 2) = some ⟨1, (g.opn ++ junk).map noC⟩) (d : ∀ w, (M' w).isSome = true → w ∈ [b0 + 1, b0 + 2]) (m : Nat) => rShut_yes g k hg (by omega) junk (b0 + 1) (b0 + 2) t (last == 4) hk1 hln M' m (by omega) b c d
                    rw [hlast] at hc
                    repeat' first | simp only [Tryd.results10, Tryd.ntmps10, κt, wks, plain_pr, tkC, hat, hlt, hd1, fresh_lit2, hdk, hwm1, hpt, hmp2, hmp3, List.length_map, vcs, κa, κb, κc, κd, κe, κf, κg, κh, κi, κj, κk, κl, κm, reduceCtorEq, reduceIte, κn, κo, κp, κq, κr, κs, tys] | exact rfl | ((refine call_fn_full ?_ [b0 + 1, b0 + 2] (hc _ ?_ ?_ only_mem _) ?_ ?_); iterate 4 (focus (simp only [mems, Tryd.results10, Tryd.ntmps10, κt, wks, plain_pr, tkC, hat, hlt, hd1, fresh_lit2, hdk, hwm1, hpt, hmp2, hmp3, List.length_map, vcs, κa, κb, κc, κd, κe, κf, κg, κh, κi, κj, κk, κl, κm, reduceCtorEq, reduceIte, κn, κo, κp, κq, κr, κs, tys] <;> exact rfl))) | ((first | (refine call_val (g := ?_) ?_ ?_) | (refine call_valg (g := ?_) ?_ ?_)); rotate_left 1; (focus (simp only [Tryd.results10, Tryd.ntmps10, κt, wks, plain_pr, tkC, hat, hlt, hd1, fresh_lit2, hdk, hwm1, hpt, hmp2, hmp3, List.length_map, vcs, κa, κb, κc, κd, κe, κf, κg, κh, κi, κj, κk, κl, κm, reduceCtorEq, reduceIte, κn, κo, κp, κq, κr, κs, tys] <;> exact rfl))) | refine draw_end' (ps := [(0, 20), (3, 20), (4, 20), (11, 20), (13, 20), (16, 20)]) (by decide +kernel) (by simp only [List.forall_mem_cons, List.getD_cons_zero, List.getD_cons_succ, Tryd.results10, Tryd.ntmps10, κt, wks, plain_pr, tkC, hat, hlt, hd1, fresh_lit2, hdk, hwm1, hpt, hmp2, hmp3, List.length_map, vcs, κa, κb, κc, κd, κe, κf, κg, κh, κi, κj, κk, κl, κm, reduceCtorEq, reduceIte, κn, κo, κp, κq, κr, κs, tys] <;> (try simp) <;> (try omega)) ?_ | refine draw_end (by decide +kernel) ?_ | refine cond_bool (fun hb => ?_) (fun hb => ?_) | refine cond_bit (fun hb => ?_) (fun hb => ?_) | refine And.intro (by omega) ?_ | refine And.intro (fun hb => ?_) (fun hb => ?_) | fail
                    all_goals ((refine again_can2 cxG (PSt.mk (k + 1) (Gr.mk g.v g.opn.dropLast) (kl :: junk) t.kind) [some b0, some (b0 + 1), some (b0 + 2)] ?_ ?_ ?_ ?_; rotate_left 2; (focus (show b0 ≤ _; omega)); (focus (refine ⟨?_, ?_⟩ <;> (try simp only [cans, tkC, hwk, hdl, hjk, plain_tk, plain_nd, plain_no, isRow_inst, Bool.and_self, Bool.false_and, List.length_map, vcs, κa, κb, κc, κd, κe, κf, κg, κh, κi, κj, κk, κl, κm, reduceCtorEq, reduceIte, κn, κo, κp, κq, κr, κs, tys, injs]) <;> (try omega)))))
                    all_goals (first | (show l.length - (k + 1) < l.length - k; omega) | exact hnext _ _ hst | skip)
              · have hst : stepG g t (last == 4) = (g, 80) := by unfold stepG; rw [if_neg (by omega), if_pos hk1, if_neg hln]
                have he := herr 80 (by rw [hst]) (by omega)
                rcases hve with ⟨_, rfl, rfl⟩ | ⟨h0, _⟩
                · rw [he]
                  · cases dk with
                    | false =>
                      have hlast := hpk rfl
                      have hc := fun (M' : Mem) (b : M' (b0 + 1) = some ⟨6, g.v.map ndC⟩) (c : M' (b0 + 2) = some ⟨1, (g.opn ++ junk).map noC⟩) (d : ∀ w, (M' w).isSome = true → w ∈ [b0 + 1, b0 + 2]) (m : Nat) => rShut_no g k hg (by omega) junk (b0 + 1) (b0 + 2) t (last == 4) hk1 hln M' m (by omega) b c d
                      rw [hlast] at hc
                      ((repeat' first | simp only [Tryd.results10, Tryd.ntmps10, κt, wks, plain_pr, tkC, hat, hlt, hd1, fresh_lit2, hdk, List.length_map, vcs, κa, κb, κc, κd, κe, κf, κg, κh, κi, κj, κk, κl, κm, reduceCtorEq, reduceIte, κn, κo, κp, κq, κr, κs, tys] | exact rfl | ((refine call_fn_full ?_ [b0 + 1, b0 + 2] (hc _ ?_ ?_ only_mem _) ?_ ?_); iterate 4 (focus (simp only [mems, Tryd.results10, Tryd.ntmps10, κt, wks, plain_pr, tkC, hat, hlt, hd1, fresh_lit2, hdk, List.length_map, vcs, κa, κb, κc, κd, κe, κf, κg, κh, κi, κj, κk, κl, κm, reduceCtorEq, reduceIte, κn, κo, κp, κq, κr, κs, tys] <;> exact rfl))) | ((first | (refine call_val (g := ?_) ?_ ?_) | (refine call_valg (g := ?_) ?_ ?_)); rotate_left 1; (focus (simp only [Tryd.results10, Tryd.ntmps10, κt, wks, plain_pr, tkC, hat, hlt, hd1, fresh_lit2, hdk, List.length_map, vcs, κa, κb, κc, κd, κe, κf, κg, κh, κi, κj, κk, κl, κm, reduceCtorEq, reduceIte, κn, κo, κp, κq, κr, κs, tys] <;> exact rfl))) | refine draw_end' (ps := [(0, 20), (3, 20), (4, 20), (11, 20), (13, 20), (16, 20)]) (by decide +kernel) (by simp only [List.forall_mem_cons, List.getD_cons_zero, List.getD_cons_succ, Tryd.results10, Tryd.ntmps10, κt, wks, plain_pr, tkC, hat, hlt, hd1, fresh_lit2, hdk, List.length_map, vcs, κa, κb, κc, κd, κe, κf, κg, κh, κi, κj, κk, κl, κm, reduceCtorEq, reduceIte, κn, κo, κp, κq, κr, κs, tys] <;> (try simp) <;> (try omega)) ?_ | refine draw_end (by decide +kernel) ?_ | refine cond_bool (fun hb => ?_) (fun hb => ?_) | refine cond_bit (fun hb => ?_) (fun hb => ?_) | refine And.intro (by omega) ?_ | refine And.intro (fun hb => ?_) (fun hb => ?_) | fail); (all_goals (first | (refine Fin.pure ?_ ?_ ?_ <;> (try simp only [Tryd.results10, Tryd.ntmps10, wks, plain_pr, tkC, hat, hlt, hd1, fresh_lit2, hdk, List.length_map, vcs, κa, κb, κc, κd, κe, κf, κg, κh, κi, κj, κk, κl, κm, reduceCtorEq, reduceIte, κn, κo, κp, κq, κr, κs, tys]) <;> (try simp only [injs])) | skip)))
                    | true =>
                      obtain ⟨hkm, hmp1, hmp2, hmp3, hlast⟩ := hmp rfl
                      have hwm1 := hwm rfl
                      have hpt := tk_at hmp1
                      have hc := fun (M' : Mem) (b : M' (b0 + 1) = some ⟨6, g.v.map ndC⟩) (c : M' (b0 + 2) = some ⟨1, (g.opn ++ junk).map noC⟩) (d : ∀ w, (M' w).isSome = true → w ∈ [b0 + 1, b0 + 2]) (m : Nat) => rShut_no g k hg (by omega) junk (b0 + 1) (b0 + 2) t (last == 4) hk1 hln M' m (by omega) b c d
                      rw [hlast] at hc
                      ((repeat' first | simp only [Tryd.results10, Tryd.ntmps10, κt, wks, plain_pr, tkC, hat, hlt, hd1, fresh_lit2, hdk, hwm1, hpt, hmp2, hmp3, List.length_map, vcs, κa, κb, κc, κd, κe, κf, κg, κh, κi, κj, κk, κl, κm, reduceCtorEq, reduceIte, κn, κo, κp, κq, κr, κs, tys] | exact rfl | ((refine call_fn_full ?_ [b0 + 1, b0 + 2] (hc _ ?_ ?_ only_mem _) ?_ ?_); iterate 4 (focus (simp only [mems, Tryd.results10, Tryd.ntmps10, κt, wks, plain_pr, tkC, hat, hlt, hd1, fresh_lit2, hdk, hwm1, hpt, hmp2, hmp3, List.length_map, vcs, κa, κb, κc, κd, κe, κf, κg, κh, κi, κj, κk, κl, κm, reduceCtorEq, reduceIte, κn, κo, κp, κq, κr, κs, tys] <;> exact rfl))) | ((first | (refine call_val (g := ?_) ?_ ?_) | (refine call_valg (g := ?_) ?_ ?_)); rotate_left 1; (focus (simp only [Tryd.results10, Tryd.ntmps10, κt, wks, plain_pr, tkC, hat, hlt, hd1, fresh_lit2, hdk, hwm1, hpt, hmp2, hmp3, List.length_map, vcs, κa, κb, κc, κd, κe, κf, κg, κh, κi, κj, κk, κl, κm, reduceCtorEq, reduceIte, κn, κo, κp, κq, κr, κs, tys] <;> exact rfl))) | refine draw_end' (ps := [(0, 20), (3, 20), (4, 20), (11, 20), (13, 20), (16, 20)]) (by decide +kernel) (by simp only [List.forall_mem_cons, List.getD_cons_zero, List.getD_cons_succ, Tryd.results10, Tryd.ntmps10, κt, wks, plain_pr, tkC, hat, hlt, hd1, fresh_lit2, hdk, hwm1, hpt, hmp2, hmp3, List.length_map, vcs, κa, κb, κc, κd, κe, κf, κg, κh, κi, κj, κk, κl, κm, reduceCtorEq, reduceIte, κn, κo, κp, κq, κr, κs, tys] <;> (try simp) <;> (try omega)) ?_ | refine draw_end (by decide +kernel) ?_ | refine cond_bool (fun hb => ?_) (fun hb => ?_) | refine cond_bit (fun hb => ?_) (fun hb => ?_) | refine And.intro (by omega) ?_ | refine And.intro (fun hb => ?_) (fun hb => ?_) | fail); (all_goals (first | (refine Fin.pure ?_ ?_ ?_ <;> (try simp only [Tryd.results10, Tryd.ntmps10, wks, plain_pr, tkC, hat, hlt, hd1, fresh_lit2, hdk, hwm1, hpt, hmp2, hmp3, List.length_map, vcs, κa, κb, κc, κd, κe, κf, κg, κh, κi, κj, κk, κl, κm, reduceCtorEq, reduceIte, κn, κo, κp, κq, κr, κs, tys]) <;> (try simp only [injs])) | skip)))
                · omega
            · have htl : t.text.length ≤ lim := by have := hto.2.2.1; unfold lim; omega
              have hs0 : stepG g t (last == 4) = (if ((last == 4) || (g.opn.isEmpty && !blankL t.text)) = true then (g, 80) else if g.opn.isEmpty = true then (g, 0) else (⟨addG g (textN t.text), g.opn⟩, 0)) := by unfold stepG; rw [if_pos hk1]
              by_cases c1 : ((last == 4) || (g.opn.isEmpty && !blankL t.text)) = true
              · have hst : stepG g t (last == 4) = (g, 80) := by rw [hs0, if_pos c1]
                have he := herr 80 (by rw [hst]) (by omega)
                rcases hve with ⟨_, rfl, rfl⟩ | ⟨h0, _⟩
                · rw [he]
                  · cases dk with
                    | false =>
                      have hlast := hpk rfl
                      have hc := fun (M' : Mem) (b : M' (b0 + 1) = some ⟨6, g.v.map ndC⟩) (c : M' (b0 + 2) = some ⟨1, (g.opn ++ junk).map noC⟩) (d : ∀ w, (M' w).isSome = true → w ∈ [b0 + 1, b0 + 2]) (m : Nat) => rText_no g k hg (by omega) junk (b0 + 1) (b0 + 2) t (last == 4) htl hk1 80 (.inl ⟨c1, rfl⟩) M' m (by omega) b c d
                      rw [hlast] at hc
                      ((repeat' first | simp only [Tryd.results10, Tryd.ntmps10, κt, wks, plain_pr, tkC, hat, hlt, hd1, fresh_lit2, hdk, List.length_map, vcs, κa, κb, κc, κd, κe, κf, κg, κh, κi, κj, κk, κl, κm, reduceCtorEq, reduceIte, κn, κo, κp, κq, κr, κs, tys] | exact rfl | ((refine call_fn_full ?_ [b0 + 1, b0 + 2] (hc _ ?_ ?_ only_mem _) ?_ ?_); iterate 4 (focus (simp only [mems, Tryd.results10, Tryd.ntmps10, κt, wks, plain_pr, tkC, hat, hlt, hd1, fresh_lit2, hdk, List.length_map, vcs, κa, κb, κc, κd, κe, κf, κg, κh, κi, κj, κk, κl, κm, reduceCtorEq, reduceIte, κn, κo, κp, κq, κr, κs, tys] <;> exact rfl))) | ((first | (refine call_val (g := ?_) ?_ ?_) | (refine call_valg (g := ?_) ?_ ?_)); rotate_left 1; (focus (simp only [Tryd.results10, Tryd.ntmps10, κt, wks, plain_pr, tkC, hat, hlt, hd1, fresh_lit2, hdk, List.length_map, vcs, κa, κb, κc, κd, κe, κf, κg, κh, κi, κj, κk, κl, κm, reduceCtorEq, reduceIte, κn, κo, κp, κq, κr, κs, tys] <;> exact rfl))) | refine draw_end' (ps := [(0, 20), (3, 20), (4, 20), (11, 20), (13, 20), (16, 20)]) (by decide +kernel) (by simp only [List.forall_mem_cons, List.getD_cons_zero, List.getD_cons_succ, Tryd.results10, Tryd.ntmps10, κt, wks, plain_pr, tkC, hat, hlt, hd1, fresh_lit2, hdk, List.length_map, vcs, κa, κb, κc, κd, κe, κf, κg, κh, κi, κj, κk, κl, κm, reduceCtorEq, reduceIte, κn, κo, κp, κq, κr, κs, tys] <;> (try simp) <;> (try omega)) ?_ | refine draw_end (by decide +kernel) ?_ | refine cond_bool (fun hb => ?_) (fun hb => ?_) | refine cond_bit (fun hb => ?_) (fun hb => ?_) | refine And.intro (by omega) ?_ | refine And.intro (fun hb => ?_) (fun hb => ?_) | fail); (all_goals (first | (refine Fin.pure ?_ ?_ ?_ <;> (try simp only [Tryd.results10, Tryd.ntmps10, wks, plain_pr, tkC, hat, hlt, hd1, fresh_lit2, hdk, List.length_map, vcs, κa, κb, κc, κd, κe, κf, κg, κh, κi, κj, κk, κl, κm, reduceCtorEq, reduceIte, κn, κo, κp, κq, κr, κs, tys]) <;> (try simp only [injs])) | skip)))
                    | true =>
                      obtain ⟨hkm, hmp1, hmp2, hmp3, hlast⟩ := hmp rfl
                      have hwm1 := hwm rfl
                      have hpt := tk_at hmp1
                      have hc := fun (M' : Mem) (b : M' (b0 + 1) = some ⟨6, g.v.map ndC⟩) (c : M' (b0 + 2) = some ⟨1, (g.opn ++ junk).map noC⟩) (d : ∀ w, (M' w).isSome = true → w ∈ [b0 + 1, b0 + 2]) (m : Nat) => rText_no g k hg (by omega) junk (b0 + 1) (b0 + 2) t (last == 4) htl hk1 80 (.inl ⟨c1, rfl⟩) M' m (by omega) b c d
                      rw [hlast] at hc
                      ((repeat' first | simp only [Tryd.results10, Tryd.ntmps10, κt, wks, plain_pr, tkC, hat, hlt, hd1, fresh_lit2, hdk, hwm1, hpt, hmp2, hmp3, List.length_map, vcs, κa, κb, κc, κd, κe, κf, κg, κh, κi, κj, κk, κl, κm, reduceCtorEq, reduceIte, κn, κo, κp, κq, κr, κs, tys] | exact rfl | ((refine call_fn_full ?_ [b0 + 1, b0 + 2] (hc _ ?_ ?_ only_mem _) ?_ ?_); iterate 4 (focus (simp only [mems, Tryd.results10, Tryd.ntmps10, κt, wks, plain_pr, tkC, hat, hlt, hd1, fresh_lit2, hdk, hwm1, hpt, hmp2, hmp3, List.length_map, vcs, κa, κb, κc, κd, κe, κf, κg, κh, κi, κj, κk, κl, κm, reduceCtorEq, reduceIte, κn, κo, κp, κq, κr, κs, tys] <;> exact rfl))) | ((first | (refine call_val (g := ?_) ?_ ?_) | (refine call_valg (g := ?_) ?_ ?_)); rotate_left 1; (focus (simp only [Tryd.results10, Tryd.ntmps10, κt, wks, plain_pr, tkC, hat, hlt, hd1, fresh_lit2, hdk, hwm1, hpt, hmp2, hmp3, List.length_map, vcs, κa, κb, κc, κd, κe, κf, κg, κh, κi, κj, κk, κl, κm, reduceCtorEq, reduceIte, κn, κo, κp, κq, κr, κs, tys] <;> exact rfl))) | refine draw_end' (ps := [(0, 20), (3, 20), (4, 20), (11, 20), (13, 20), (16, 20)]) (by decide +kernel) (by simp only [List.forall_mem_cons, List.getD_cons_zero, List.getD_cons_succ, Tryd.results10, Tryd.ntmps10, κt, wks, plain_pr, tkC, hat, hlt, hd1, fresh_lit2, hdk, hwm1, hpt, hmp2, hmp3, List.length_map, vcs, κa, κb, κc, κd, κe, κf, κg, κh, κi, κj, κk, κl, κm, reduceCtorEq, reduceIte, κn, κo, κp, κq, κr, κs, tys] <;> (try simp) <;> (try omega)) ?_ | refine draw_end (by decide +kernel) ?_ | refine cond_bool (fun hb => ?_) (fun hb => ?_) | refine cond_bit (fun hb => ?_) (fun hb => ?_) | refine And.intro (by omega) ?_ | refine And.intro (fun hb => ?_) (fun hb => ?_) | fail); (all_goals (first | (refine Fin.pure ?_ ?_ ?_ <;> (try simp only [Tryd.results10, Tryd.ntmps10, wks, plain_pr, tkC, hat, hlt, hd1, fresh_lit2, hdk, hwm1, hpt, hmp2, hmp3, List.length_map, vcs, κa, κb, κc, κd, κe, κf, κg, κh, κi, κj, κk, κl, κm, reduceCtorEq, reduceIte, κn, κo, κp, κq, κr, κs, tys]) <;> (try simp only [injs])) | skip)))
                · omega
              · have c1' : ((last == 4) || (g.opn.isEmpty && !blankL t.text)) = false := by simpa using c1
                by_cases c2 : g.opn.isEmpty = true
                · have hst : stepG g t (last == 4) = (g, 0) := by rw [hs0, if_neg c1, if_pos c2]
                  · cases dk with
                    | false =>
                      have hlast := hpk rfl
                      have hc := fun (M' : Mem) (b : M' (b0 + 1) = some ⟨6, g.v.map ndC⟩) (c : M' (b0 + 2) = some ⟨1, (g.opn ++ junk).map noC⟩) (d : ∀ w, (M' w).isSome = true → w ∈ [b0 + 1, b0 + 2]) (m : Nat) => rText_no g k hg (by omega) junk (b0 + 1) (b0 + 2) t (last == 4) htl hk1 0 (.inr ⟨c1', c2, rfl⟩) M' m (by omega) b c d
                      rw [hlast] at hc
                      repeat' first | simp only [Tryd.results10, Tryd.ntmps10, κt, wks, plain_pr, tkC, hat, hlt, hd1, fresh_lit2, hdk, List.length_map, vcs, κa, κb, κc, κd, κe, κf, κg, κh, κi, κj, κk, κl, κm, reduceCtorEq, reduceIte, κn, κo, κp, κq, κr, κs, tys] | exact rfl | ((refine call_fn_full ?_ [b0 + 1, b0 + 2] (hc _ ?_ ?_ only_mem _) ?_ ?_); iterate 4 (focus (simp only [mems, Tryd.results10, Tryd.ntmps10, κt, wks, plain_pr, tkC, hat, hlt, hd1, fresh_lit2, hdk, List.length_map, vcs, κa, κb, κc, κd, κe, κf, κg, κh, κi, κj, κk, κl, κm, reduceCtorEq, reduceIte, κn, κo, κp, κq, κr, κs, tys] <;> exact rfl))) | ((first | (refine call_val (g := ?_) ?_ ?_) | (refine call_valg (g := ?_) ?_ ?_)); rotate_left 1; (focus (simp only [Tryd.results10, Tryd.ntmps10, κt, wks, plain_pr, tkC, hat, hlt, hd1, fresh_lit2, hdk, List.length_map, vcs, κa, κb, κc, κd, κe, κf, κg, κh, κi, κj, κk, κl, κm, reduceCtorEq, reduceIte, κn, κo, κp, κq, κr, κs, tys] <;> exact rfl))) | refine draw_end' (ps := [(0, 20), (3, 20), (4, 20), (11, 20), (13, 20), (16, 20)]) (by decide +kernel) (by simp only [List.forall_mem_cons, List.getD_cons_zero, List.getD_cons_succ, Tryd.results10, Tryd.ntmps10, κt, wks, plain_pr, tkC, hat, hlt, hd1, fresh_lit2, hdk, List.length_map, vcs, κa, κb, κc, κd, κe, κf, κg, κh, κi, κj, κk, κl, κm, reduceCtorEq, reduceIte, κn, κo, κp, κq, κr, κs, tys] <;> (try simp) <;> (try omega)) ?_ | refine draw_end (by decide +kernel) ?_ | refine cond_bool (fun hb => ?_) (fun hb => ?_) | refine cond_bit (fun hb => ?_) (fun hb => ?_) | refine And.intro (by omega) ?_ | refine And.intro (fun hb => ?_) (fun hb => ?_) | fail
                      all_goals ((refine again_can2 cxG (PSt.mk (k + 1) g junk t.kind) [some b0, some (b0 + 1), some (b0 + 2)] ?_ ?_ ?_ ?_; rotate_left 2; (focus (show b0 ≤ _; omega)); (focus (refine ⟨?_, ?_⟩ <;> (try simp only [cans, tkC, hwk, plain_tk, plain_nd, plain_no, isRow_inst, Bool.and_self, Bool.false_and, List.length_map, vcs, κa, κb, κc, κd, κe, κf, κg, κh, κi, κj, κk, κl, κm, reduceCtorEq, reduceIte, κn, κo, κp, κq, κr, κs, tys, injs]) <;> (try omega)))))
                      all_goals (first | (show l.length - (k + 1) < l.length - k; omega) | exact hnext _ _ hst | skip)
                    | true =>
                      obtain ⟨hkm, hmp1, hmp2, hmp3, hlast⟩ := hmp rfl
                      have hwm1 := hwm rfl
                      have hpt := tk_at hmp1
                      have hc := fun (M' : Mem) (b : M' (b0 + 1) = some ⟨6, g.v.map ndC⟩) (c : M' (b0 + 2) = some ⟨1, (g.opn ++ junk).map noC⟩) (d : ∀ w, (M' w).isSome = true → w ∈ [b0 + 1, b0 + 2]) (m : Nat) => rText_no g k hg (by omega) junk (b0 + 1) (b0 + 2) t (last == 4) htl hk1 0 (.inr ⟨c1', c2, rfl⟩) M' m (by omega) b c d
                      rw [hlast] at hc
                      repeat' first | simp only [Tryd.results10, Tryd.ntmps10, κt, wks, plain_pr, tkC, hat, hlt, hd1, fresh_lit2, hdk, hwm1, hpt, hmp2, hmp3, List.length_map, vcs, κa, κb, κc, κd, κe, κf, κg, κh, κi, κj, κk, κl, κm, reduceCtorEq, reduceIte, κn, κo, κp, κq, κr, κs, tys] | exact rfl | ((refine call_fn_full ?_ [b0 + 1, b0 + 2] (hc _ ?_ ?_ only_mem _) ?_ ?_); iterate 4 (focus (simp only [mems, Tryd.results10, Tryd.ntmps10, κt, wks, plain_pr, tkC, hat, hlt, hd1, fresh_lit2, hdk, hwm1, hpt, hmp2, hmp3, List.length_map, vcs, κa, κb, κc, κd, κe, κf, κg, κh, κi, κj, κk, κl, κm, reduceCtorEq, reduceIte, κn, κo, κp, κq, κr, κs, tys] <;> exact rfl))) | ((first | (refine call_val (g := ?_) ?_ ?_) | (refine call_valg (g := ?_) ?_ ?_)); rotate_left 1; (focus (simp only [Tryd.results10, Tryd.ntmps10, κt, wks, plain_pr, tkC, hat, hlt, hd1, fresh_lit2, hdk, hwm1, hpt, hmp2, hmp3, List.length_map, vcs, κa, κb, κc, κd, κe, κf, κg, κh, κi, κj, κk, κl, κm, reduceCtorEq, reduceIte, κn, κo, κp, κq, κr, κs, tys] <;> exact rfl))) | refine draw_end' (ps := [(0, 20), (3, 20), (4, 20), (11, 20), (13, 20), (16, 20)]) (by decide +kernel) (by simp only [List.forall_mem_cons, List.getD_cons_zero, List.getD_cons_succ, Tryd.results10, Tryd.ntmps10, κt, wks, plain_pr, tkC, hat, hlt, hd1, fresh_lit2, hdk, hwm1, hpt, hmp2, hmp3, List.length_map, vcs, κa, κb, κc, κd, κe, κf, κg, κh, κi, κj, κk, κl, κm, reduceCtorEq, reduceIte, κn, κo, κp, κq, κr, κs, tys] <;> (try simp) <;> (try omega)) ?_ | refine draw_end (by decide +kernel) ?_ | refine cond_bool (fun hb => ?_) (fun hb => ?_) | refine cond_bit (fun hb => ?_) (fun hb => ?_) | refine And.intro (by omega) ?_ | refine And.intro (fun hb => ?_) (fun hb => ?_) | fail
                      all_goals ((refine again_can2 cxG (PSt.mk (k + 1) g junk t.kind) [some b0, some (b0 + 1), some (b0 + 2)] ?_ ?_ ?_ ?_; rotate_left 2; (focus (show b0 ≤ _; omega)); (focus (refine ⟨?_, ?_⟩ <;> (try simp only [cans, tkC, hwk, plain_tk, plain_nd, plain_no, isRow_inst, Bool.and_self, Bool.false_and, List.length_map, vcs, κa, κb, κc, κd, κe, κf, κg, κh, κi, κj, κk, κl, κm, reduceCtorEq, reduceIte, κn, κo, κp, κq, κr, κs, tys, injs]) <;> (try omega)))))
                      all_goals (first | (show l.length - (k + 1) < l.length - k; omega) | exact hnext _ _ hst | skip)
                · have c3 : g.opn.isEmpty = false := by simpa using c2
                  have c4 : (last == 4) = false := by simp only [Bool.or_eq_false_iff] at c1'; exact c1'.1
                  have hst : stepG g t (last == 4) = (⟨addG g (textN t.text), g.opn⟩, 0) := by rw [hs0, if_neg c1, if_neg c2]
                  have hal := addG_length g (textN t.text)
                  have ham := addG_map g (textN t.text)
                  · cases dk with
                    | false =>
                      have hlast := hpk rfl
                      have hc := fun (M' : Mem) (b : M' (b0 + 1) = some ⟨6, g.v.map ndC⟩) (c : M' (b0 + 2) = some ⟨1, (g.opn ++ junk).map noC⟩) (d : ∀ w, (M' w).isSome = true → w ∈ [b0 + 1, b0 + 2]) (m : Nat) (h1 : b0 + 1 < m) (h2 : b0 + 2 < m) => rText_yes g k hg (by omega) junk (b0 + 1) (b0 + 2) t (last == 4) hk1 c4 c3 M' m (by omega) b c d h1 h2
                      rw [hlast] at hc
                      repeat' first | simp only [Tryd.results10, Tryd.ntmps10, κt, wks, plain_pr, tkC, hat, hlt, hd1, fresh_lit2, hdk, List.length_map, vcs, κa, κb, κc, κd, κe, κf, κg, κh, κi, κj, κk, κl, κm, reduceCtorEq, reduceIte, κn, κo, κp, κq, κr, κs, tys] | exact rfl | ((refine call_fn_full ?_ [b0 + 1, b0 + 2] (hc _ ?_ ?_ only_mem _ (by omega) (by omega)) ?_ ?_); iterate 4 (focus (simp only [mems, Tryd.results10, Tryd.ntmps10, κt, wks, plain_pr, tkC, hat, hlt, hd1, fresh_lit2, hdk, List.length_map, vcs, κa, κb, κc, κd, κe, κf, κg, κh, κi, κj, κk, κl, κm, reduceCtorEq, reduceIte, κn, κo, κp, κq, κr, κs, tys] <;> exact rfl))) | ((first | (refine call_val (g := ?_) ?_ ?_) | (refine call_valg (g := ?_) ?_ ?_)); rotate_left 1; (focus (simp only [Tryd.results10, Tryd.ntmps10, κt, wks, plain_pr, tkC, hat, hlt, hd1, fresh_lit2, hdk, List.length_map, vcs, κa, κb, κc, κd, κe, κf, κg, κh, κi, κj, κk, κl, κm, reduceCtorEq, reduceIte, κn, κo, κp, κq, κr, κs, tys] <;> exact rfl))) | refine draw_end' (ps := [(0, 20), (3, 20), (4, 20), (11, 20), (13, 20), (16, 20)]) (by decide +kernel) (by simp only [List.forall_mem_cons, List.getD_cons_zero, List.getD_cons_succ, Tryd.results10, Tryd.ntmps10, κt, wks, plain_pr, tkC, hat, hlt, hd1, fresh_lit2, hdk, List.length_map, vcs, κa, κb, κc, κd, κe, κf, κg, κh, κi, κj, κk, κl, κm, reduceCtorEq, reduceIte, κn, κo, κp, κq, κr, κs, tys] <;> (try simp) <;> (try omega)) ?_ | refine draw_end (by decide +kernel) ?_ | refine cond_bool (fun hb => ?_) (fun hb => ?_) | refine cond_bit (fun hb => ?_) (fun hb => ?_) | refine And.intro (by omega) ?_ | refine And.intro (fun hb => ?_) (fun hb => ?_) | fail
                      all_goals ((refine again_can2 cxG (PSt.mk (k + 1) (Gr.mk (addG g (textN t.text)) g.opn) junk t.kind) [some b0, some (b0 + 336), some (b0 + 2)] ?_ ?_ ?_ ?_; rotate_left 2; (focus (show b0 ≤ _; omega)); (focus (refine ⟨?_, ?_⟩ <;> (try simp only [cans, tkC, hwk, hal, ham, ndC_text, leLL_snoc, List.map_nil, plainLL_append, plain_tk, plain_nd, plain_no, isRow_inst, Bool.and_self, Bool.false_and, List.length_map, vcs, κa, κb, κc, κd, κe, κf, κg, κh, κi, κj, κk, κl, κm, reduceCtorEq, reduceIte, κn, κo, κp, κq, κr, κs, tys, injs]) <;> (try omega)))))
                      all_goals (first | (show l.length - (k + 1) < l.length - k; omega) | exact hnext _ _ hst | skip)
                    | true =>
                      obtain ⟨hkm, hmp1, hmp2, hmp3, hlast⟩ := hmp rfl
                      have hwm1 := hwm rfl
                      have hpt := tk_at hmp1
                      have hc := fun (M' : Mem) (b : M' (b0 + 1) = some ⟨6, g.v.map ndC⟩) (c : M' (b0 + 2) = some ⟨1, (g.opn ++ junk).map noC⟩) (d : ∀ w, (M' w).isSome = true → w ∈ [b0 + 1, b0 + 2]) (m : Nat) (h1 : b0 + 1 < m) (h2 : b0 + 2 < m) => rText_yes g k hg (by omega) junk (b0 + 1) (b0 + 2) t (last == 4) hk1 c4 c3 M' m (by omega) b c d h1 h2
                      rw [hlast] at hc
                      repeat' first | simp only [Tryd.results10, Tryd.ntmps10, κt, wks, plain_pr, tkC, hat, hlt, hd1, fresh_lit2, hdk, hwm1, hpt, hmp2, hmp3, List.length_map, vcs, κa, κb, κc, κd, κe, κf, κg, κh, κi, κj, κk, κl, κm, reduceCtorEq, reduceIte, κn, κo, κp, κq, κr, κs, tys] | exact rfl | ((refine call_fn_full ?_ [b0 + 1, b0 + 2] (hc _ ?_ ?_ only_mem _ (by omega) (by omega)) ?_ ?_); iterate 4 (focus (simp only [mems, Tryd.results10, Tryd.ntmps10, κt, wks, plain_pr, tkC, hat, hlt, hd1, fresh_lit2, hdk, hwm1, hpt, hmp2, hmp3, List.length_map, vcs, κa, κb, κc, κd, κe, κf, κg, κh, κi, κj, κk, κl, κm, reduceCtorEq, reduceIte, κn, κo, κp, κq, κr, κs, tys] <;> exact rfl))) | ((first | (refine call_val (g := ?_) ?_ ?_) | (refine call_valg (g := ?_) ?_ ?_)); rotate_left 1; (focus (simp only [Tryd.results10, Tryd.ntmps10, κt, wks, plain_pr, tkC, hat, hlt, hd1, fresh_lit2, hdk, hwm1, hpt, hmp2, hmp3, List.length_map, vcs, κa, κb, κc, κd, κe, κf, κg, κh, κi, κj, κk, κl, κm, reduceCtorEq, reduceIte, κn, κo, κp, κq, κr, κs, tys] <;> exact rfl))) | refine draw_end' (ps := [(0, 20), (3, 20), (4, 20), (11, 20), (13, 20), (16, 20)]) (by decide +kernel) (by simp only [List.forall_mem_cons, List.getD_cons_zero, List.getD_cons_succ, Tryd.results10, Tryd.ntmps10, κt, wks, plain_pr, tkC, hat, hlt, hd1, fresh_lit2, hdk, hwm1, hpt, hmp2, hmp3, List.length_map, vcs, κa, κb, κc, κd, κe, κf, κg, κh, κi, κj, κk, κl, κm, reduceCtorEq, reduceIte, κn, κo, κp, κq, κr, κs, tys] <;> (try simp) <;> (try omega)) ?_ | refine draw_end (by decide +kernel) ?_ | refine cond_bool (fun hb => ?_) (fun hb => ?_) | refine cond_bit (fun hb => ?_) (fun hb => ?_) | refine And.intro (by omega) ?_ | refine And.intro (fun hb => ?_) (fun hb => ?_) | fail
                      all_goals ((refine again_can2 cxG (PSt.mk (k + 1) (Gr.mk (addG g (textN t.text)) g.opn) junk t.kind) [some b0, some (b0 + 336), some (b0 + 2)] ?_ ?_ ?_ ?_; rotate_left 2; (focus (show b0 ≤ _; omega)); (focus (refine ⟨?_, ?_⟩ <;> (try simp only [cans, tkC, hwk, hal, ham, ndC_text, leLL_snoc, List.map_nil, plainLL_append, plain_tk, plain_nd, plain_no, isRow_inst, Bool.and_self, Bool.false_and, List.length_map, vcs, κa, κb, κc, κd, κe, κf, κg, κh, κi, κj, κk, κl, κm, reduceCtorEq, reduceIte, κn, κo, κp, κq, κr, κs, tys, injs]) <;> (try omega)))))
                      all_goals (first | (show l.length - (k + 1) < l.length - k; omega) | exact hnext _ _ hst | skip)
          · have hke : k = l.length := by omega
            subst hke
            have hd1 : decide (l.length < l.length) = false := decide_eq_false (by omega)
            rw [List.drop_length, goG_nil] at hgo
            have hv0 : ((g.v.length : Int) == 0) = g.v.isEmpty := len_zero _
            have ho0 : decide ((0 : Int) < (g.opn.length : Int)) = !g.opn.isEmpty := by
              cases h : g.opn with
              | nil => rfl
              | cons a b => simp
            have htn := tak_nd g.v
            by_cases hx : g.v.isEmpty = true ∨ g.opn.isEmpty = false
            · have he := parse_xml h512 hany hgo hx
              rcases hve with ⟨_, rfl, rfl⟩ | ⟨h0, _⟩
              · rw [he]
                generalize hA : g.v.isEmpty = bA at hx hv0
                generalize hB : g.opn.isEmpty = bB at hx ho0
                cases bA <;> cases bB
                all_goals (try (exfalso; simp at hx; done))
                all_goals (((repeat' first | simp only [Tryd.results10, Tryd.ntmps10, κt, wks, hd1, hv0, ho0, Bool.not_true, Bool.not_false, List.length_map, vcs, κa, κb, κc, κd, κe, κf, κg, κh, κi, κj, κk, κl, κm, reduceCtorEq, reduceIte, κn, κo, κp, κq, κr, κs, tys] | exact rfl | ((first | (refine call_val (g := ?_) ?_ ?_) | (refine call_valg (g := ?_) ?_ ?_)); rotate_left 1; (focus (simp only [Tryd.results10, Tryd.ntmps10, κt, wks, hd1, hv0, ho0, Bool.not_true, Bool.not_false, List.length_map, vcs, κa, κb, κc, κd, κe, κf, κg, κh, κi, κj, κk, κl, κm, reduceCtorEq, reduceIte, κn, κo, κp, κq, κr, κs, tys] <;> exact rfl))) | refine draw_end' (ps := [(0, 20), (3, 20), (4, 20), (11, 20), (13, 20), (16, 20)]) (by decide +kernel) (by simp only [List.forall_mem_cons, List.getD_cons_zero, List.getD_cons_succ, Tryd.results10, Tryd.ntmps10, κt, wks, hd1, hv0, ho0, Bool.not_true, Bool.not_false, List.length_map, vcs, κa, κb, κc, κd, κe, κf, κg, κh, κi, κj, κk, κl, κm, reduceCtorEq, reduceIte, κn, κo, κp, κq, κr, κs, tys] <;> (try simp) <;> (try omega)) ?_ | refine draw_end (by decide +kernel) ?_ | refine cond_bool (fun hb => ?_) (fun hb => ?_) | refine cond_bit (fun hb => ?_) (fun hb => ?_) | refine And.intro (by omega) ?_ | refine And.intro (fun hb => ?_) (fun hb => ?_) | fail); (all_goals (first | (refine Fin.pure ?_ ?_ ?_ <;> (try simp only [Tryd.results10, Tryd.ntmps10, wks, hd1, hv0, ho0, Bool.not_true, Bool.not_false, List.length_map, vcs, κa, κb, κc, κd, κe, κf, κg, κh, κi, κj, κk, κl, κm, reduceCtorEq, reduceIte, κn, κo, κp, κq, κr, κs, tys]) <;> (try simp only [injs])) | skip))))
              · omega
            · obtain ⟨he, hpt⟩ := parse_ok h512 hany hgo hx
              rcases hve with ⟨h0, _⟩ | ⟨_, rfl, rfl⟩
              · omega
              · rw [hpt]
                generalize hA : g.v.isEmpty = bA at hx hv0
                generalize hB : g.opn.isEmpty = bB at hx ho0
                cases bA <;> cases bB
                all_goals (try (exfalso; simp at hx; done))
                all_goals (((repeat' first | simp only [Tryd.results10, Tryd.ntmps10, κt, wks, hd1, hv0, ho0, htn, plain_nd, memL_cons, memL_nil, Bool.not_true, Bool.not_false, List.length_map, vcs, κa, κb, κc, κd, κe, κf, κg, κh, κi, κj, κk, κl, κm, reduceCtorEq, reduceIte, κn, κo, κp, κq, κr, κs, tys] | exact rfl | ((first | (refine call_val (g := ?_) ?_ ?_) | (refine call_valg (g := ?_) ?_ ?_)); rotate_left 1; (focus (simp only [Tryd.results10, Tryd.ntmps10, κt, wks, hd1, hv0, ho0, htn, plain_nd, memL_cons, memL_nil, Bool.not_true, Bool.not_false, List.length_map, vcs, κa, κb, κc, κd, κe, κf, κg, κh, κi, κj, κk, κl, κm, reduceCtorEq, reduceIte, κn, κo, κp, κq, κr, κs, tys] <;> exact rfl))) | refine draw_end' (ps := [(0, 20), (3, 20), (4, 20), (11, 20), (13, 20), (16, 20)]) (by decide +kernel) (by simp only [List.forall_mem_cons, List.getD_cons_zero, List.getD_cons_succ, Tryd.results10, Tryd.ntmps10, κt, wks, hd1, hv0, ho0, htn, plain_nd, memL_cons, memL_nil, Bool.not_true, Bool.not_false, List.length_map, vcs, κa, κb, κc, κd, κe, κf, κg, κh, κi, κj, κk, κl, κm, reduceCtorEq, reduceIte, κn, κo, κp, κq, κr, κs, tys] <;> (try simp) <;> (try omega)) ?_ | refine draw_end (by decide +kernel) ?_ | refine cond_bool (fun hb => ?_) (fun hb => ?_) | refine cond_bit (fun hb => ?_) (fun hb => ?_) | refine And.intro (by omega) ?_ | refine And.intro (fun hb => ?_) (fun hb => ?_) | fail); (all_goals (first | (refine Fin.auto (r := ?_) (l := ?_) ?_ ?_ ?_ ?_ ?_ ?_ ?_; rotate_left 1; (simp only [Tryd.results10, Tryd.ntmps10, envL_cons, envL_nil, memL_cons, memL_nil, hd1, hv0, ho0, htn, plain_nd, memL_cons, memL_nil, Bool.not_true, Bool.not_false, List.length_map, vcs, κa, κb, κc, κd, κe, κf, κg, κh, κi, κj, κk, κl, κm, reduceCtorEq, reduceIte, κn, κo, κp, κq, κr, κs, tys]); (exact rfl); rotate_left 1; (simp only [V.owns, ownsL, List.cons_append, List.nil_append]); (exact rfl); all_goals (try simp only [Tryd.results10, Tryd.ntmps10, envL_cons, envL_nil, memL_cons, memL_nil, hd1, hv0, ho0, htn, plain_nd, memL_cons, memL_nil, Bool.not_true, Bool.not_false, List.length_map, ownx, vcs, κa, κb, κc, κd, κe, κf, κg, κh, κi, κj, κk, κl, κm, reduceCtorEq, reduceIte, κn, κo, κp, κq, κr, κs, tys]); all_goals (try simp only [injs])) | skip))))
end Go.Proofs.YtanahnknjboplaaDoor
/-
  The document's answer for layer 10 by the machine: lists of nodes compared.
-/
namespace Go.Proofs.YtanahnknjboplaaDoor
set_option linter.unusedSimpArgs false
set_option linter.unusedVariables false
open Nat renaming reduceAdd → κa, reduceMul → κb, reduceEqDiff → κc, reduceLeDiff → κd, reduceSub → κe, reduceLT → κf, reduceBEq → κr, reduceBNe → κs, reducePow → κt
open Int renaming reduceToNat → κg, reduceLE → κh, reduceLT → κi, reduceAdd → κj, reduceSub → κk, reduceMul → κl, reduceNeg → κm, reduceBEq → κn, reduceBNe → κo, reduceEq → κp, reduceNe → κq
open Go Go.RowKit Go.Proofs.YtanahnknjboplaaDoor.Vm Go.Lib

theorem nd_eq {x y : Nd} : x = y ↔ x.kind = y.kind ∧ x.space = y.space ∧ x.name = y.name ∧ x.text = y.text ∧ x.many = y.many ∧ x.attrs = y.attrs := by
  cases x; cases y; simp only [Nd.mk.injEq]; constructor
  · rintro ⟨h1, h2, h3, h4, h5, h6⟩; exact ⟨h1, h2, h3, h5, h6, h4⟩
  · rintro ⟨h1, h2, h3, h4, h5, h6⟩; exact ⟨h1, h2, h3, h6, h4, h5⟩
set_option maxRecDepth 100000 in
set_option maxHeartbeats 8000000 in
theorem sameAt_ev (a b : List At) (ha : a.length ≤ lim) (hb : b.length ≤ lim) (nm : Nat) : Ev cx 32 nm [.sl false 3 (a.map atC), .sl false 3 (b.map atC)] Mem.nil (.bool (decide (a = b))) [] := by
  unfold lim at ha hb
  by_cases hl : a.length = b.length
  · have e1 : (((a.length : Nat) : Int) != ((b.length : Nat) : Int)) = false := len_bne_eq hl
    refine ev_go (fun cargs w => Tryd.call32 cargs w) Tryd.func32 rfl mixed (by kernel_rfl) rfl ?_; intro b0 hb0
    repeat' first | simp only [Tryd.results32, Tryd.ntmps32, κt, wks, e1, Bool.not_true, List.length_map, vcs, κa, κb, κc, κd, κe, κf, κg, κh, κi, κj, κk, κl, κm, reduceCtorEq, reduceIte, κn, κo, κp, κq, κr, κs, tys] | exact rfl | ((first | (refine call_val (g := ?_) ?_ ?_) | (refine call_valg (g := ?_) ?_ ?_)); rotate_left 1; (focus (simp only [Tryd.results32, Tryd.ntmps32, κt, wks, e1, Bool.not_true, List.length_map, vcs, κa, κb, κc, κd, κe, κf, κg, κh, κi, κj, κk, κl, κm, reduceCtorEq, reduceIte, κn, κo, κp, κq, κr, κs, tys] <;> exact rfl))) | refine draw_end (by decide +kernel) ?_ | refine cond_bool (fun hb => ?_) (fun hb => ?_) | refine cond_bit (fun hb => ?_) (fun hb => ?_) | refine And.intro (by omega) ?_ | refine And.intro (fun hb => ?_) (fun hb => ?_) | fail
    (refine loop_can2 cxG (fun x : Nat => a.length - x) (fun x => x ≤ a.length ∧ sameTo a b x) (b0 + 16) (fun x => [(0, .sl false 3 (a.map atC)), (1, .sl false 3 (b.map atC)), (5, .int .i64 x)]) (fun x => []) (0) [] ?_ ?_ ?_ ?_; rotate_left 1; (focus (show b0 ≤ _; omega)); (focus (refine ⟨?_, ?_⟩ <;> (try simp only [cans, plain_at, List.length_map, vcs, κa, κb, κc, κd, κe, κf, κg, κh, κi, κj, κk, κl, κm, reduceCtorEq, reduceIte, κn, κo, κp, κq, κr, κs, tys, injs]) <;> (try omega))); rotate_left 1)
    · exact ⟨Nat.zero_le _, fun i hi => by omega⟩
    · rintro k ⟨hk, hsm⟩
      by_cases hlt : k < a.length
      · obtain ⟨x, hx⟩ : ∃ x, a[k]? = some x := ⟨_, List.getElem?_eq_getElem hlt⟩
        obtain ⟨y, hy⟩ : ∃ y, b[k]? = some y := ⟨_, List.getElem?_eq_getElem (hl ▸ hlt)⟩
        have hax := at_at hx
        have hby := at_at hy
        have hd : decide (k < a.length) = true := decide_eq_true hlt
        have hlt2 : k < b.length := hl ▸ hlt
        have hwk : IntKind.i64.wrap ((k : Int) + 1) = ((k + 1 : Nat) : Int) := wrap_in (by omega) (by omega)
        by_cases hxy : x = y
        · subst hxy
          have hsm' := sameTo_succ hsm hx hy
          repeat' first | simp only [Tryd.results32, Tryd.ntmps32, κt, wks, plain_at, hax, hby, atC, hd, hlt, hlt2, beq_self_eq_true, Bool.and_self, Bool.not_true, List.length_map, vcs, κa, κb, κc, κd, κe, κf, κg, κh, κi, κj, κk, κl, κm, reduceCtorEq, reduceIte, κn, κo, κp, κq, κr, κs, tys] | exact rfl | ((first | (refine call_val (g := ?_) ?_ ?_) | (refine call_valg (g := ?_) ?_ ?_)); rotate_left 1; (focus (simp only [Tryd.results32, Tryd.ntmps32, κt, wks, plain_at, hax, hby, atC, hd, hlt, hlt2, beq_self_eq_true, Bool.and_self, Bool.not_true, List.length_map, vcs, κa, κb, κc, κd, κe, κf, κg, κh, κi, κj, κk, κl, κm, reduceCtorEq, reduceIte, κn, κo, κp, κq, κr, κs, tys] <;> exact rfl))) | refine draw_end (by decide +kernel) ?_ | refine cond_bool (fun hb => ?_) (fun hb => ?_) | refine cond_bit (fun hb => ?_) (fun hb => ?_) | refine And.intro (by omega) ?_ | refine And.intro (fun hb => ?_) (fun hb => ?_) | fail
          all_goals ((refine again_can2 cxG (k + 1) [] ?_ ?_ ?_ ?_; rotate_left 2; (focus (show b0 ≤ _; omega)); (focus (refine ⟨?_, ?_⟩ <;> (try simp only [cans, plain_at, hwk, List.length_map, vcs, κa, κb, κc, κd, κe, κf, κg, κh, κi, κj, κk, κl, κm, reduceCtorEq, reduceIte, κn, κo, κp, κq, κr, κs, tys, injs]) <;> (try omega)))))
          all_goals (first | (show a.length - (k + 1) < a.length - k; omega) | exact ⟨hlt, hsm'⟩ | skip)
        · have hr : decide (a = b) = false := decide_eq_false (same_no hx hy hxy)
          have e2 : ((x.space == y.space) && ((x.name == y.name) && (x.value == y.value))) = false := by
            cases x with | mk xs xn xv => cases y with | mk ys yn yv =>
            simp only [At.mk.injEq, not_and] at hxy
            by_cases h0 : xs = ys
            · by_cases h1 : xn = yn
              · have := hxy h0 h1
                simp [this]
              · simp [h1]
            · simp [h0]
          ((repeat' first | simp only [Tryd.results32, Tryd.ntmps32, κt, wks, plain_at, hax, hby, atC, hd, hlt, hlt2, hr, e2, Bool.and_true, Bool.not_false, List.length_map, vcs, κa, κb, κc, κd, κe, κf, κg, κh, κi, κj, κk, κl, κm, reduceCtorEq, reduceIte, κn, κo, κp, κq, κr, κs, tys] | exact rfl | ((first | (refine call_val (g := ?_) ?_ ?_) | (refine call_valg (g := ?_) ?_ ?_)); rotate_left 1; (focus (simp only [Tryd.results32, Tryd.ntmps32, κt, wks, plain_at, hax, hby, atC, hd, hlt, hlt2, hr, e2, Bool.and_true, Bool.not_false, List.length_map, vcs, κa, κb, κc, κd, κe, κf, κg, κh, κi, κj, κk, κl, κm, reduceCtorEq, reduceIte, κn, κo, κp, κq, κr, κs, tys] <;> exact rfl))) | refine draw_end (by decide +kernel) ?_ | refine cond_bool (fun hb => ?_) (fun hb => ?_) | refine cond_bit (fun hb => ?_) (fun hb => ?_) | refine And.intro (by omega) ?_ | refine And.intro (fun hb => ?_) (fun hb => ?_) | fail); (all_goals (first | (refine Fin.pure ?_ ?_ ?_ <;> (try simp only [Tryd.results32, Tryd.ntmps32, wks, plain_at, hax, hby, atC, hd, hlt, hlt2, hr, e2, Bool.and_true, Bool.not_false, List.length_map, vcs, κa, κb, κc, κd, κe, κf, κg, κh, κi, κj, κk, κl, κm, reduceCtorEq, reduceIte, κn, κo, κp, κq, κr, κs, tys]) <;> (try simp only [injs])) | skip)))
      · have hke : k = a.length := by omega
        subst hke
        have hr : decide (a = b) = true := decide_eq_true (same_all hl hsm)
        have hd : decide (a.length < a.length) = false := decide_eq_false (by omega)
        ((repeat' first | simp only [Tryd.results32, Tryd.ntmps32, κt, wks, hd, hr, List.length_map, vcs, κa, κb, κc, κd, κe, κf, κg, κh, κi, κj, κk, κl, κm, reduceCtorEq, reduceIte, κn, κo, κp, κq, κr, κs, tys] | exact rfl | ((first | (refine call_val (g := ?_) ?_ ?_) | (refine call_valg (g := ?_) ?_ ?_)); rotate_left 1; (focus (simp only [Tryd.results32, Tryd.ntmps32, κt, wks, hd, hr, List.length_map, vcs, κa, κb, κc, κd, κe, κf, κg, κh, κi, κj, κk, κl, κm, reduceCtorEq, reduceIte, κn, κo, κp, κq, κr, κs, tys] <;> exact rfl))) | refine draw_end (by decide +kernel) ?_ | refine cond_bool (fun hb => ?_) (fun hb => ?_) | refine cond_bit (fun hb => ?_) (fun hb => ?_) | refine And.intro (by omega) ?_ | refine And.intro (fun hb => ?_) (fun hb => ?_) | fail); (all_goals (first | (refine Fin.pure ?_ ?_ ?_ <;> (try simp only [Tryd.results32, Tryd.ntmps32, wks, hd, hr, List.length_map, vcs, κa, κb, κc, κd, κe, κf, κg, κh, κi, κj, κk, κl, κm, reduceCtorEq, reduceIte, κn, κo, κp, κq, κr, κs, tys]) <;> (try simp only [injs])) | skip)))
  · have e1 : (((a.length : Nat) : Int) != ((b.length : Nat) : Int)) = true := len_bne_ne hl
    have hr : decide (a = b) = false := decide_eq_false (fun e => hl (congrArg List.length e))
    refine ev_go (fun cargs w => Tryd.call32 cargs w) Tryd.func32 rfl mixed (by kernel_rfl) rfl ?_; intro b0 hb0
    ((repeat' first | simp only [Tryd.results32, Tryd.ntmps32, κt, wks, e1, hr, Bool.not_false, List.length_map, vcs, κa, κb, κc, κd, κe, κf, κg, κh, κi, κj, κk, κl, κm, reduceCtorEq, reduceIte, κn, κo, κp, κq, κr, κs, tys] | exact rfl | ((first | (refine call_val (g := ?_) ?_ ?_) | (refine call_valg (g := ?_) ?_ ?_)); rotate_left 1; (focus (simp only [Tryd.results32, Tryd.ntmps32, κt, wks, e1, hr, Bool.not_false, List.length_map, vcs, κa, κb, κc, κd, κe, κf, κg, κh, κi, κj, κk, κl, κm, reduceCtorEq, reduceIte, κn, κo, κp, κq, κr, κs, tys] <;> exact rfl))) | refine draw_end (by decide +kernel) ?_ | refine cond_bool (fun hb => ?_) (fun hb => ?_) | refine cond_bit (fun hb => ?_) (fun hb => ?_) | refine And.intro (by omega) ?_ | refine And.intro (fun hb => ?_) (fun hb => ?_) | fail); (all_goals (first | (refine Fin.pure ?_ ?_ ?_ <;> (try simp only [Tryd.results32, Tryd.ntmps32, wks, e1, hr, Bool.not_false, List.length_map, vcs, κa, κb, κc, κd, κe, κf, κg, κh, κi, κj, κk, κl, κm, reduceCtorEq, reduceIte, κn, κo, κp, κq, κr, κs, tys]) <;> (try simp only [injs])) | skip)))
set_option maxRecDepth 100000 in
set_option maxHeartbeats 8000000 in
theorem sameNd_ev (a b : List Nd) (ha : a.length ≤ lim) (hb : b.length ≤ lim) (ha2 : ∀ t ∈ a, t.attrs.length ≤ lim) (hb2 : ∀ t ∈ b, t.attrs.length ≤ lim) (nm : Nat) : Ev cx 11 nm [.sl false 6 (a.map ndC), .sl false 6 (b.map ndC)] Mem.nil (.bool (decide (a = b))) [] := by
  unfold lim at ha hb
  by_cases hl : a.length = b.length
  · have e1 : (((a.length : Nat) : Int) != ((b.length : Nat) : Int)) = false := len_bne_eq hl
    refine ev_go (fun cargs w => Tryd.call11 cargs w) Tryd.func11 rfl mixed (by kernel_rfl) rfl ?_; intro b0 hb0
    repeat' first | simp only [Tryd.results11, Tryd.ntmps11, κt, wks, e1, List.length_map, vcs, κa, κb, κc, κd, κe, κf, κg, κh, κi, κj, κk, κl, κm, reduceCtorEq, reduceIte, κn, κo, κp, κq, κr, κs, tys] | exact rfl | ((first | (refine call_val (g := ?_) ?_ ?_) | (refine call_valg (g := ?_) ?_ ?_)); rotate_left 1; (focus (simp only [Tryd.results11, Tryd.ntmps11, κt, wks, e1, List.length_map, vcs, κa, κb, κc, κd, κe, κf, κg, κh, κi, κj, κk, κl, κm, reduceCtorEq, reduceIte, κn, κo, κp, κq, κr, κs, tys] <;> exact rfl))) | refine draw_end (by decide +kernel) ?_ | refine cond_bool (fun hb => ?_) (fun hb => ?_) | refine cond_bit (fun hb => ?_) (fun hb => ?_) | refine And.intro (by omega) ?_ | refine And.intro (fun hb => ?_) (fun hb => ?_) | fail
    (refine loop_can2 cxG (fun x : Nat => a.length - x) (fun x => x ≤ a.length ∧ sameTo a b x) (b0 + 16) (fun x => [(0, .sl false 6 (a.map ndC)), (1, .sl false 6 (b.map ndC)), (5, .int .i64 x)]) (fun x => []) (0) [] ?_ ?_ ?_ ?_; rotate_left 1; (focus (show b0 ≤ _; omega)); (focus (refine ⟨?_, ?_⟩ <;> (try simp only [cans, plain_nd, List.length_map, vcs, κa, κb, κc, κd, κe, κf, κg, κh, κi, κj, κk, κl, κm, reduceCtorEq, reduceIte, κn, κo, κp, κq, κr, κs, tys, injs]) <;> (try omega))); rotate_left 1)
    · exact ⟨Nat.zero_le _, fun i hi => by omega⟩
    · rintro k ⟨hk, hsm⟩
      by_cases hlt : k < a.length
      · obtain ⟨x, hx⟩ : ∃ x, a[k]? = some x := ⟨_, List.getElem?_eq_getElem hlt⟩
        obtain ⟨y, hy⟩ : ∃ y, b[k]? = some y := ⟨_, List.getElem?_eq_getElem (hl ▸ hlt)⟩
        have hax := nd_at hx
        have hby := nd_at hy
        have hd : decide (k < a.length) = true := decide_eq_true hlt
        have hlt2 : k < b.length := hl ▸ hlt
        have hwk : IntKind.i64.wrap ((k : Int) + 1) = ((k + 1 : Nat) : Int) := wrap_in (by omega) (by omega)
        have hsp := sameAt_ev x.attrs y.attrs (ha2 x (List.mem_of_getElem? hx)) (hb2 y (List.mem_of_getElem? hy))
        by_cases hxy : x = y
        · subst hxy
          have hsm' := sameTo_succ hsm hx hy
          have hz : decide (x.attrs = x.attrs) = true := decide_eq_true rfl
          rw [hz] at hsp
          repeat' first | simp (maxSteps := 4000000) only [Tryd.results11, Tryd.ntmps11, κt, wks, List.append_eq, plain_at, hax, hby, ndC, hd, hlt, hlt2, beq_self_eq_true, bne_self_eq_false, Bool.and_self, Bool.not_true, List.length_map, vcs, κa, κb, κc, κd, κe, κf, κg, κh, κi, κj, κk, κl, κm, reduceCtorEq, reduceIte, κn, κo, κp, κq, κr, κs, tys] | exact rfl | ((first | (refine call_fn ?_ (hsp _) ?_) | (refine call_fn_g ?_ (fun _ => hsp _) ?_)); (focus (simp only [Tryd.results11, Tryd.ntmps11, κt, wks, List.append_eq, plain_at, hax, hby, ndC, hd, hlt, hlt2, beq_self_eq_true, bne_self_eq_false, Bool.and_self, Bool.not_true, List.length_map, vcs, κa, κb, κc, κd, κe, κf, κg, κh, κi, κj, κk, κl, κm, reduceCtorEq, reduceIte, κn, κo, κp, κq, κr, κs, tys] <;> exact rfl))) | ((first | (refine call_val (g := ?_) ?_ ?_) | (refine call_valg (g := ?_) ?_ ?_)); rotate_left 1; (focus (simp only [Tryd.results11, Tryd.ntmps11, κt, wks, List.append_eq, plain_at, hax, hby, ndC, hd, hlt, hlt2, beq_self_eq_true, bne_self_eq_false, Bool.and_self, Bool.not_true, List.length_map, vcs, κa, κb, κc, κd, κe, κf, κg, κh, κi, κj, κk, κl, κm, reduceCtorEq, reduceIte, κn, κo, κp, κq, κr, κs, tys] <;> exact rfl))) | refine draw_end (by decide +kernel) ?_ | refine cond_bool (fun hb => ?_) (fun hb => ?_) | refine cond_bit (fun hb => ?_) (fun hb => ?_) | refine And.intro (by omega) ?_ | refine And.intro (fun hb => ?_) (fun hb => ?_) | fail
          all_goals ((refine again_can2 cxG (k + 1) [] ?_ ?_ ?_ ?_; rotate_left 2; (focus (show b0 ≤ _; omega)); (focus (refine ⟨?_, ?_⟩ <;> (try simp only [cans, plain_nd, hwk, List.length_map, vcs, κa, κb, κc, κd, κe, κf, κg, κh, κi, κj, κk, κl, κm, reduceCtorEq, reduceIte, κn, κo, κp, κq, κr, κs, tys, injs]) <;> (try omega)))))
          all_goals (first | (show a.length - (k + 1) < a.length - k; omega) | exact ⟨hlt, hsm'⟩ | skip)
        · have hr : decide (a = b) = false := decide_eq_false (same_no hx hy hxy)
          have hk1 : ((x.kind : Int) != (y.kind : Int)) = !decide (x.kind = y.kind) := by rw [bne, len_beq]
          have hk2 : (x.many != y.many) = !decide (x.many = y.many) := by
            rw [bne]; congr 1
          have hcs : decide (x.kind = y.kind) = false ∨ (decide (x.kind = y.kind) = true ∧ (x.space == y.space) = false) ∨ (decide (x.kind = y.kind) = true ∧ (x.space == y.space) = true ∧ (x.name == y.name) = false) ∨ (decide (x.kind = y.kind) = true ∧ (x.space == y.space) = true ∧ (x.name == y.name) = true ∧ (x.text == y.text) = false) ∨ (decide (x.kind = y.kind) = true ∧ (x.space == y.space) = true ∧ (x.name == y.name) = true ∧ (x.text == y.text) = true ∧ decide (x.many = y.many) = false) ∨ (decide (x.kind = y.kind) = true ∧ (x.space == y.space) = true ∧ (x.name == y.name) = true ∧ (x.text == y.text) = true ∧ decide (x.many = y.many) = true ∧ decide (x.attrs = y.attrs) = false) := by
            have hx2 : ¬ (decide (x.kind = y.kind) = true ∧ (x.space == y.space) = true ∧ (x.name == y.name) = true ∧ (x.text == y.text) = true ∧ decide (x.many = y.many) = true ∧ decide (x.attrs = y.attrs) = true) := by
              rintro ⟨h1, h2, h3, h4, h5, h6⟩
              exact hxy (nd_eq.2 ⟨of_decide_eq_true h1, eq_of_beq h2, eq_of_beq h3, eq_of_beq h4, of_decide_eq_true h5, of_decide_eq_true h6⟩)
            generalize decide (x.kind = y.kind) = p1 at hx2 ⊢
            generalize (x.space == y.space) = p2 at hx2 ⊢
            generalize (x.name == y.name) = p3 at hx2 ⊢
            generalize (x.text == y.text) = p4 at hx2 ⊢
            generalize decide (x.many = y.many) = p5 at hx2 ⊢
            generalize decide (x.attrs = y.attrs) = p6 at hx2 ⊢
            cases p1 <;> cases p2 <;> cases p3 <;> cases p4 <;> cases p5 <;> cases p6 <;> simp at hx2 ⊢
          generalize hg1 : decide (x.kind = y.kind) = g1 at hcs hk1
          generalize hg2 : (x.space == y.space) = g2 at hcs
          generalize hg3 : (x.name == y.name) = g3 at hcs
          generalize hg4 : (x.text == y.text) = g4 at hcs
          generalize hg5 : decide (x.many = y.many) = g5 at hcs hk2
          generalize hg6 : decide (x.attrs = y.attrs) = g6 at hcs hsp
          rcases hcs with rfl | ⟨rfl, rfl⟩ | ⟨rfl, rfl, rfl⟩ | ⟨rfl, rfl, rfl, rfl⟩ | ⟨rfl, rfl, rfl, rfl, rfl⟩ | ⟨rfl, rfl, rfl, rfl, rfl, rfl⟩
          all_goals (((repeat' first | simp (maxSteps := 4000000) only [Tryd.results11, Tryd.ntmps11, κt, wks, List.append_eq, plain_at, hax, hby, ndC, hd, hlt, hlt2, hr, hk1, hk2, hg2, hg3, hg4, Bool.not_true, Bool.not_false, List.length_map, vcs, κa, κb, κc, κd, κe, κf, κg, κh, κi, κj, κk, κl, κm, reduceCtorEq, reduceIte, κn, κo, κp, κq, κr, κs, tys] | exact rfl | ((first | (refine call_fn ?_ (hsp _) ?_) | (refine call_fn_g ?_ (fun _ => hsp _) ?_)); (focus (simp only [Tryd.results11, Tryd.ntmps11, κt, wks, List.append_eq, plain_at, hax, hby, ndC, hd, hlt, hlt2, hr, hk1, hk2, hg2, hg3, hg4, Bool.not_true, Bool.not_false, List.length_map, vcs, κa, κb, κc, κd, κe, κf, κg, κh, κi, κj, κk, κl, κm, reduceCtorEq, reduceIte, κn, κo, κp, κq, κr, κs, tys] <;> exact rfl))) | (refine call_off (v := .any) ?_) | ((first | (refine call_val (g := ?_) ?_ ?_) | (refine call_valg (g := ?_) ?_ ?_)); rotate_left 1; (focus (simp only [Tryd.results11, Tryd.ntmps11, κt, wks, List.append_eq, plain_at, hax, hby, ndC, hd, hlt, hlt2, hr, hk1, hk2, hg2, hg3, hg4, Bool.not_true, Bool.not_false, List.length_map, vcs, κa, κb, κc, κd, κe, κf, κg, κh, κi, κj, κk, κl, κm, reduceCtorEq, reduceIte, κn, κo, κp, κq, κr, κs, tys] <;> exact rfl))) | refine draw_end (by decide +kernel) ?_ | refine cond_bool (fun hb => ?_) (fun hb => ?_) | refine cond_bit (fun hb => ?_) (fun hb => ?_) | refine And.intro (by omega) ?_ | refine And.intro (fun hb => ?_) (fun hb => ?_) | fail); (all_goals (first | (refine Fin.pure ?_ ?_ ?_ <;> (try simp only [Tryd.results11, Tryd.ntmps11, wks, List.append_eq, plain_at, hax, hby, ndC, hd, hlt, hlt2, hr, hk1, hk2, hg2, hg3, hg4, Bool.not_true, Bool.not_false, List.length_map, vcs, κa, κb, κc, κd, κe, κf, κg, κh, κi, κj, κk, κl, κm, reduceCtorEq, reduceIte, κn, κo, κp, κq, κr, κs, tys]) <;> (try simp only [injs])) | skip))))
      · have hke : k = a.length := by omega
        subst hke
        have hr : decide (a = b) = true := decide_eq_true (same_all hl hsm)
        have hd : decide (a.length < a.length) = false := decide_eq_false (by omega)
        ((repeat' first | simp only [Tryd.results11, Tryd.ntmps11, κt, wks, hd, hr, List.length_map, vcs, κa, κb, κc, κd, κe, κf, κg, κh, κi, κj, κk, κl, κm, reduceCtorEq, reduceIte, κn, κo, κp, κq, κr, κs, tys] | exact rfl | ((first | (refine call_val (g := ?_) ?_ ?_) | (refine call_valg (g := ?_) ?_ ?_)); rotate_left 1; (focus (simp only [Tryd.results11, Tryd.ntmps11, κt, wks, hd, hr, List.length_map, vcs, κa, κb, κc, κd, κe, κf, κg, κh, κi, κj, κk, κl, κm, reduceCtorEq, reduceIte, κn, κo, κp, κq, κr, κs, tys] <;> exact rfl))) | refine draw_end (by decide +kernel) ?_ | refine cond_bool (fun hb => ?_) (fun hb => ?_) | refine cond_bit (fun hb => ?_) (fun hb => ?_) | refine And.intro (by omega) ?_ | refine And.intro (fun hb => ?_) (fun hb => ?_) | fail); (all_goals (first | (refine Fin.pure ?_ ?_ ?_ <;> (try simp only [Tryd.results11, Tryd.ntmps11, wks, hd, hr, List.length_map, vcs, κa, κb, κc, κd, κe, κf, κg, κh, κi, κj, κk, κl, κm, reduceCtorEq, reduceIte, κn, κo, κp, κq, κr, κs, tys]) <;> (try simp only [injs])) | skip)))
  · have e1 : (((a.length : Nat) : Int) != ((b.length : Nat) : Int)) = true := len_bne_ne hl
    have hr : decide (a = b) = false := decide_eq_false (fun e => hl (congrArg List.length e))
    refine ev_go (fun cargs w => Tryd.call11 cargs w) Tryd.func11 rfl mixed (by kernel_rfl) rfl ?_; intro b0 hb0
    ((repeat' first | simp only [Tryd.results11, Tryd.ntmps11, κt, wks, e1, hr, List.length_map, vcs, κa, κb, κc, κd, κe, κf, κg, κh, κi, κj, κk, κl, κm, reduceCtorEq, reduceIte, κn, κo, κp, κq, κr, κs, tys] | exact rfl | ((first | (refine call_val (g := ?_) ?_ ?_) | (refine call_valg (g := ?_) ?_ ?_)); rotate_left 1; (focus (simp only [Tryd.results11, Tryd.ntmps11, κt, wks, e1, hr, List.length_map, vcs, κa, κb, κc, κd, κe, κf, κg, κh, κi, κj, κk, κl, κm, reduceCtorEq, reduceIte, κn, κo, κp, κq, κr, κs, tys] <;> exact rfl))) | refine draw_end (by decide +kernel) ?_ | refine cond_bool (fun hb => ?_) (fun hb => ?_) | refine cond_bit (fun hb => ?_) (fun hb => ?_) | refine And.intro (by omega) ?_ | refine And.intro (fun hb => ?_) (fun hb => ?_) | fail); (all_goals (first | (refine Fin.pure ?_ ?_ ?_ <;> (try simp only [Tryd.results11, Tryd.ntmps11, wks, e1, hr, List.length_map, vcs, κa, κb, κc, κd, κe, κf, κg, κh, κi, κj, κk, κl, κm, reduceCtorEq, reduceIte, κn, κo, κp, κq, κr, κs, tys]) <;> (try simp only [injs])) | skip)))
end Go.Proofs.YtanahnknjboplaaDoor
/-
  Layer 10: TreeParses, of all that can be handed in.
-/
namespace Go.Proofs.YtanahnknjboplaaDoor
set_option linter.unusedSimpArgs false
set_option linter.unusedVariables false
open Nat renaming reduceAdd → κa, reduceMul → κb, reduceEqDiff → κc, reduceLeDiff → κd, reduceSub → κe, reduceLT → κf, reduceBEq → κr, reduceBNe → κs, reducePow → κt
open Int renaming reduceToNat → κg, reduceLE → κh, reduceLT → κi, reduceAdd → κj, reduceSub → κk, reduceMul → κl, reduceNeg → κm, reduceBEq → κn, reduceBNe → κo, reduceEq → κp, reduceNe → κq
open Go Go.RowKit Go.Proofs.YtanahnknjboplaaDoor.Vm Go.Lib

def smallV (v : List Nd) : Prop := ∀ x ∈ v, x.attrs.length ≤ 30
theorem inc_small {v : List Nd} {o : List Nat} (h : smallV v) : smallV (incG v o) := by
  intro x hx
  unfold incG at hx
  split at hx
  · rename_i k _
    obtain ⟨i, hi⟩ := List.mem_iff_getElem?.1 hx
    rw [List.getElem?_modify] at hi
    cases hv : v[i]? with
    | none => rw [hv] at hi; simp at hi
    | some y =>
      rw [hv] at hi
      have := h y (List.mem_of_getElem? hv)
      split at hi
      · simp at hi; subst hi; exact this
      · simp at hi; subst hi; exact this
  · exact h x hx
theorem add_small {g : Gr} (h : smallV g.v) {x : Nd} (hx : x.attrs.length ≤ 30) : smallV (addG g x) := by
  intro y hy
  rcases List.mem_append.1 hy with hy | hy
  · exact inc_small h y hy
  · simp at hy; subst hy; exact hx
theorem step_small {g : Gr} (h : smallV g.v) (t : Tk) (ht : t.attrs.length ≤ 30) (txt : Bool) : smallV (stepG g t txt).1.v := by
  unfold stepG
  split
  · split
    · exact h
    · split
      · exact h
      · exact add_small h (by simp [textN])
  · split
    · split <;> exact h
    · split
      · exact h
      · split
        · exact h
        · exact add_small h (by simp [elemN, givenL, ht])
theorem go_small : ∀ (l : List Tk) (g : Gr) (txt : Bool) (n : Nat), smallV g.v → g.Ok n → (∀ t ∈ l, t.attrs.length ≤ 30) → smallV (goG g txt l).1.v ∧ (goG g txt l).1.v.length ≤ n + l.length
  | [], g, txt, n, h, hg, _ => ⟨h, by simpa [goG] using hg.len⟩
  | t :: r, g, txt, n, h, hg, hl => by
    have h1 := step_small h t (hl t (by simp)) txt
    have h2 := step_ok hg t txt
    rw [goG]
    split
    · obtain ⟨h3, h4⟩ := go_small r (stepG g t txt).1 (t.kind == 4) (n + 1) h1 h2 (fun u hu => hl u (by simp [hu]))
      exact ⟨h3, by simp; omega⟩
    · exact ⟨h1, by have := h2.len; simp; omega⟩
theorem parse_small {l : List Tk} (hl : ∀ t ∈ l, t.attrs.length ≤ 30) : (∀ x ∈ parseT l, x.attrs.length ≤ 30) ∧ (parseT l).length ≤ l.length := by
  obtain ⟨h1, h2⟩ := go_small l (Gr.mk [] []) false 0 (fun x h => by simp at h) start_ok hl
  unfold parseT
  split
  · exact ⟨h1, by omega⟩
  · exact ⟨fun x h => by simp at h, by simp⟩
theorem one_pr2 (l : List Pr) : ((l.map prC).all fun r => r.all V.one) = true := by
  rw [List.all_eq_true]
  intro r hr
  obtain ⟨c, _, rfl⟩ := List.mem_map.1 hr
  rfl
theorem isRow_inst2 : Ob.isRow instCells = true := rfl
set_option maxRecDepth 100000 in
set_option maxHeartbeats 8000000 in
theorem parses_ev (l : List Tk) (hl : l.length ≤ lim) (hs : ∀ t ∈ l, t.okTo lim) (nm : Nat) : Ev cx 3 nm [.sl false 4 (l.map tkC)] Mem.nil (.bool true) [] := by
  have hgr := great_ev l 2000 (by omega) hl hs
  cases hg : greatL l 2000 with
  | true =>
    rw [hg] at hgr
    refine ev_go (fun cargs w => Tryd.call3 cargs w) Tryd.func3 rfl mixed (by kernel_rfl) rfl ?_; intro b0 hb0
    ((repeat' first | simp only [Tryd.results3, Tryd.ntmps3, κt, wks, plain_tk, vcs, κa, κb, κc, κd, κe, κf, κg, κh, κi, κj, κk, κl, κm, reduceCtorEq, reduceIte, κn, κo, κp, κq, κr, κs, tys] | exact rfl | ((first | (refine call_fn ?_ (hgr _) ?_) | (refine call_fn_g ?_ (fun _ => hgr _) ?_)); (focus (simp only [Tryd.results3, Tryd.ntmps3, κt, wks, plain_tk, vcs, κa, κb, κc, κd, κe, κf, κg, κh, κi, κj, κk, κl, κm, reduceCtorEq, reduceIte, κn, κo, κp, κq, κr, κs, tys] <;> exact rfl))) | ((first | (refine call_val (g := ?_) ?_ ?_) | (refine call_valg (g := ?_) ?_ ?_)); rotate_left 1; (focus (simp only [Tryd.results3, Tryd.ntmps3, κt, wks, plain_tk, vcs, κa, κb, κc, κd, κe, κf, κg, κh, κi, κj, κk, κl, κm, reduceCtorEq, reduceIte, κn, κo, κp, κq, κr, κs, tys] <;> exact rfl))) | refine draw_end (by decide +kernel) ?_ | refine cond_bool (fun hb => ?_) (fun hb => ?_) | refine cond_bit (fun hb => ?_) (fun hb => ?_) | refine And.intro (by omega) ?_ | refine And.intro (fun hb => ?_) (fun hb => ?_) | fail); (all_goals (first | (refine Fin.pure ?_ ?_ ?_ <;> (try simp only [Tryd.results3, Tryd.ntmps3, wks, plain_tk, vcs, κa, κb, κc, κd, κe, κf, κg, κh, κi, κj, κk, κl, κm, reduceCtorEq, reduceIte, κn, κo, κp, κq, κr, κs, tys]) <;> (try simp only [injs])) | skip)))
  | false =>
    rw [hg] at hgr
    obtain ⟨hl6, hsm⟩ := great_small (by omega) hg
    have hs2 : ∀ t ∈ l, t.okTo 1000000 ∧ t.attrs.length ≤ 30 := fun t ht => by
      obtain ⟨h1, h2, h3, h4⟩ := hsm t ht
      exact ⟨⟨by omega, by omega, by omega, fun a ha => by have := h4 a ha; omega⟩, h1⟩
    have hsame := sameTk_ev l l (by unfold lim; omega) (by unfold lim; omega) (fun t ht => (hs t ht).1) (fun t ht => (hs t ht).1)
    rw [decide_eq_true rfl] at hsame
    obtain ⟨hp1, hp2⟩ := parse_small (l := l) (fun t ht => (hs2 t ht).2)
    have hsn := sameNd_ev (parseT l) (parseT l) (by unfold lim; omega) (by unfold lim; omega) (fun t ht => by have := hp1 t ht; unfold lim; omega) (fun t ht => by have := hp1 t ht; unfold lim; omega)
    rw [decide_eq_true rfl] at hsn
    have hsn0 := sameNd_ev [] [] (by simp) (by simp) (fun t ht => by simp at ht) (fun t ht => by simp at ht)
    rw [decide_eq_true rfl] at hsn0
    refine ev_go (fun cargs w => Tryd.call3 cargs w) Tryd.func3 rfl mixed (by kernel_rfl) rfl ?_; intro b0 hb0
    repeat' first | simp only [Tryd.results3, Tryd.ntmps3, κt, wks, plain_tk, vcs, κa, κb, κc, κd, κe, κf, κg, κh, κi, κj, κk, κl, κm, reduceCtorEq, reduceIte, κn, κo, κp, κq, κr, κs, tys] | exact rfl | ((first | (refine call_fn ?_ (hgr _) ?_) | (refine call_fn_g ?_ (fun _ => hgr _) ?_)); (focus (simp only [Tryd.results3, Tryd.ntmps3, κt, wks, plain_tk, vcs, κa, κb, κc, κd, κe, κf, κg, κh, κi, κj, κk, κl, κm, reduceCtorEq, reduceIte, κn, κo, κp, κq, κr, κs, tys] <;> exact rfl))) | ((first | (refine call_val (g := ?_) ?_ ?_) | (refine call_valg (g := ?_) ?_ ?_)); rotate_left 1; (focus (simp only [Tryd.results3, Tryd.ntmps3, κt, wks, plain_tk, vcs, κa, κb, κc, κd, κe, κf, κg, κh, κi, κj, κk, κl, κm, reduceCtorEq, reduceIte, κn, κo, κp, κq, κr, κs, tys] <;> exact rfl))) | refine draw_end (by decide +kernel) ?_ | refine cond_bool (fun hb => ?_) (fun hb => ?_) | refine cond_bit (fun hb => ?_) (fun hb => ?_) | refine And.intro (by omega) ?_ | refine And.intro (fun hb => ?_) (fun hb => ?_) | fail
    (refine loop_can2F cxG (fun x : Nat => l.length - x) (fun x => x ≤ l.length) (b0 + 16) (fun x => [(0, .sl false 4 (l.map tkC)), (3, .own b0 0 x), (4, .int .i64 x)]) (fun x => [(b0, ⟨4, (l.take x).map tkC⟩)]) (0) [none] ?_ ?_ ?_ ?_; rotate_left 1; (focus (show b0 ≤ _; omega)); (focus (refine ⟨?_, ?_⟩ <;> (try simp only [cans, canfs, isRow_inst2, plain_tk, List.length_map, List.take_zero, List.map_nil, List.length_nil, vcs, κa, κb, κc, κd, κe, κf, κg, κh, κi, κj, κk, κl, κm, reduceCtorEq, reduceIte, κn, κo, κp, κq, κr, κs, tys, injs]) <;> (try omega))); rotate_left 1)
    · exact Nat.zero_le _
    · intro k hk
      by_cases hlt : k < l.length
      · obtain ⟨t, ht⟩ : ∃ t, l[k]? = some t := ⟨_, List.getElem?_eq_getElem hlt⟩
        have hat := tk_at ht
        have hd : decide (k < l.length) = true := decide_eq_true hlt
        have hwk : IntKind.i64.wrap ((k : Int) + 1) = ((k + 1 : Nat) : Int) := wrap_in (by omega) (by omega)
        have hnx : (l.take (k + 1)).map tkC = (l.take k).map tkC ++ [tkC t] := by
          obtain ⟨hk', rfl⟩ := List.getElem?_eq_some_iff.1 ht
          rw [List.take_succ_eq_append_getElem hk', List.map_append]; rfl
        have htl : (l.take k).length = k := by rw [List.length_take]; omega
        have htk : ((l.take k).map tkC).take k = (l.take k).map tkC := List.take_of_length_le (by simp; omega)
        have htp : (t.attrs.map prC).take t.attrs.length = t.attrs.map prC := List.take_of_length_le (by simp)
        have h30 := (hs2 t (List.mem_of_getElem? ht)).2
        repeat' first | simp only [Tryd.results3, Tryd.ntmps3, κt, wks, plain_pr, plain_tk, hat, tkC, hd, hlt, htl, htk, htp, one_pr2, List.length_map, vcs, κa, κb, κc, κd, κe, κf, κg, κh, κi, κj, κk, κl, κm, reduceCtorEq, reduceIte, κn, κo, κp, κq, κr, κs, tys] | exact rfl | ((first | (refine call_val (g := ?_) ?_ ?_) | (refine call_valg (g := ?_) ?_ ?_)); rotate_left 1; (focus (simp only [Tryd.results3, Tryd.ntmps3, κt, wks, plain_pr, plain_tk, hat, tkC, hd, hlt, htl, htk, htp, one_pr2, List.length_map, vcs, κa, κb, κc, κd, κe, κf, κg, κh, κi, κj, κk, κl, κm, reduceCtorEq, reduceIte, κn, κo, κp, κq, κr, κs, tys] <;> exact rfl))) | refine draw_end (by decide +kernel) ?_ | refine cond_bool (fun hb => ?_) (fun hb => ?_) | refine cond_bit (fun hb => ?_) (fun hb => ?_) | refine And.intro (by omega) ?_ | refine And.intro (fun hb => ?_) (fun hb => ?_) | fail
        all_goals ((refine again_can2F cxG (k + 1) [some (b0 + 320)] ?_ ?_ ?_ ?_; rotate_left 2; (focus (show b0 ≤ _; omega)); (focus (refine ⟨?_, ?_⟩ <;> (try simp only [cans, canfs, isRow_inst2, plain_pr, plain_tk, hwk, hnx, htp, htk, tkC, finLL_plain _ _ (plain_tk _), finLLOk_plain _ _ (plain_tk _), List.length_map, vcs, κa, κb, κc, κd, κe, κf, κg, κh, κi, κj, κk, κl, κm, reduceCtorEq, reduceIte, κn, κo, κp, κq, κr, κs, tys, injs]) <;> (try omega)))))
        all_goals (first | (show l.length - (k + 1) < l.length - k; omega) | (show k + 1 ≤ l.length; omega) | skip)
      · have hke : k = l.length := by omega
        subst hke
        have hd : decide (l.length < l.length) = false := decide_eq_false (by omega)
        have htk : (l.map tkC).take l.length = l.map tkC := List.take_of_length_le (by simp)
        have htn := tak_nd (parseT l)
        by_cases he : parseE l = 0
        · have hpv := fun (M' : Mem) (a : M' b0 = some ⟨4, l.map tkC⟩) (d : ∀ w, (M' w).isSome = true → w ∈ [b0]) (m : Nat) (h1 : b0 < m) => (parse_ev l hl6 hs2 b0 M' m a d h1).2 he
          have hrv := fun (m : Nat) => rParse_all l hl6 hs2 m _ _ (.inr ⟨he, rfl, rfl⟩)
          ((repeat' first | simp only [Tryd.results3, Tryd.ntmps3, κt, wks, plain_tk, plain_nd, hd, htk, htn, he, fresh_selfU, beq_self_eq_true, Nat.le_refl, List.take_length, List.length_map, vcs, κa, κb, κc, κd, κe, κf, κg, κh, κi, κj, κk, κl, κm, reduceCtorEq, reduceIte, κn, κo, κp, κq, κr, κs, tys] | exact rfl | ((refine call_fn_new ?_ (hrv _) ?_ ?_); (focus (simp only [Tryd.results3, Tryd.ntmps3, κt, wks, plain_tk, plain_nd, hd, htk, htn, he, fresh_selfU, beq_self_eq_true, Nat.le_refl, List.take_length, List.length_map, vcs, κa, κb, κc, κd, κe, κf, κg, κh, κi, κj, κk, κl, κm, reduceCtorEq, reduceIte, κn, κo, κp, κq, κr, κs, tys] <;> exact rfl)); (focus (simp only [mems, Tryd.results3, Tryd.ntmps3, κt, wks, plain_tk, plain_nd, hd, htk, htn, he, fresh_selfU, beq_self_eq_true, Nat.le_refl, List.take_length, List.length_map, vcs, κa, κb, κc, κd, κe, κf, κg, κh, κi, κj, κk, κl, κm, reduceCtorEq, reduceIte, κn, κo, κp, κq, κr, κs, tys] <;> omega))) | ((first | (refine call_fn_vx (xs := ?_) [b0 + 96, b0 + 208] ?_ ?_ ?_ rfl (hsn _) ?_) | (refine call_fn_gvx (xs := ?_) [b0] ?_ (fun _ => ?_) (fun _ => ?_) rfl ((fun _ => hsame _)) ?_)); rotate_left 1; iterate 3 (focus (simp only [fins, mems, Tryd.results3, Tryd.ntmps3, κt, wks, plain_tk, plain_nd, hd, htk, htn, he, fresh_selfU, beq_self_eq_true, Nat.le_refl, List.take_length, List.length_map, vcs, κa, κb, κc, κd, κe, κf, κg, κh, κi, κj, κk, κl, κm, reduceCtorEq, reduceIte, κn, κo, κp, κq, κr, κs, tys] <;> (first | exact rfl | omega)))) | ((refine call_fn_full ?_ [b0] (hpv _ ?_ only_mem _ (by omega)) ?_ ?_); iterate 3 (focus (simp only [mems, Tryd.results3, Tryd.ntmps3, κt, wks, plain_tk, plain_nd, hd, htk, htn, he, fresh_selfU, beq_self_eq_true, Nat.le_refl, List.take_length, List.length_map, vcs, κa, κb, κc, κd, κe, κf, κg, κh, κi, κj, κk, κl, κm, reduceCtorEq, reduceIte, κn, κo, κp, κq, κr, κs, tys] <;> exact rfl))) | ((first | (refine call_val (g := ?_) ?_ ?_) | (refine call_valg (g := ?_) ?_ ?_)); rotate_left 1; (focus (simp only [Tryd.results3, Tryd.ntmps3, κt, wks, plain_tk, plain_nd, hd, htk, htn, he, fresh_selfU, beq_self_eq_true, Nat.le_refl, List.take_length, List.length_map, vcs, κa, κb, κc, κd, κe, κf, κg, κh, κi, κj, κk, κl, κm, reduceCtorEq, reduceIte, κn, κo, κp, κq, κr, κs, tys] <;> exact rfl))) | refine draw_end (by decide +kernel) ?_ | refine cond_bool (fun hb => ?_) (fun hb => ?_) | refine cond_bit (fun hb => ?_) (fun hb => ?_) | refine And.intro (by omega) ?_ | refine And.intro (fun hb => ?_) (fun hb => ?_) | fail); (all_goals (first | (refine Fin.pure ?_ ?_ ?_ <;> (try simp only [Tryd.results3, Tryd.ntmps3, wks, plain_tk, plain_nd, hd, htk, htn, he, fresh_selfU, beq_self_eq_true, Nat.le_refl, List.take_length, List.length_map, vcs, κa, κb, κc, κd, κe, κf, κg, κh, κi, κj, κk, κl, κm, reduceCtorEq, reduceIte, κn, κo, κp, κq, κr, κs, tys]) <;> (try simp only [injs])) | skip)))
        · have hpv := fun (M' : Mem) (a : M' b0 = some ⟨4, l.map tkC⟩) (d : ∀ w, (M' w).isSome = true → w ∈ [b0]) (m : Nat) (h1 : b0 < m) => (parse_ev l hl6 hs2 b0 M' m a d h1).1 he
          have hrv := fun (m : Nat) => rParse_all l hl6 hs2 m _ _ (.inl ⟨he, rfl, rfl⟩)
          ((repeat' first | simp only [Tryd.results3, Tryd.ntmps3, κt, wks, plain_tk, plain_nd, hd, htk, htn, fresh_selfU, beq_self_eq_true, Nat.le_refl, List.take_length, List.map_nil, List.length_map, vcs, κa, κb, κc, κd, κe, κf, κg, κh, κi, κj, κk, κl, κm, reduceCtorEq, reduceIte, κn, κo, κp, κq, κr, κs, tys] | exact rfl | ((first | (refine call_fn ?_ (hrv _) ?_) | (refine call_fn_g ?_ (fun _ => hrv _) ?_)); (focus (simp only [Tryd.results3, Tryd.ntmps3, κt, wks, plain_tk, plain_nd, hd, htk, htn, fresh_selfU, beq_self_eq_true, Nat.le_refl, List.take_length, List.map_nil, List.length_map, vcs, κa, κb, κc, κd, κe, κf, κg, κh, κi, κj, κk, κl, κm, reduceCtorEq, reduceIte, κn, κo, κp, κq, κr, κs, tys] <;> exact rfl))) | ((refine call_fn_gvx (xs := ?_) [b0] ?_ (fun _ => ?_) (fun _ => ?_) rfl ((fun _ => hsame _)) ?_); rotate_left 1; iterate 3 (focus (simp only [fins, mems, Tryd.results3, Tryd.ntmps3, κt, wks, plain_tk, plain_nd, hd, htk, htn, fresh_selfU, beq_self_eq_true, Nat.le_refl, List.take_length, List.map_nil, List.length_map, vcs, κa, κb, κc, κd, κe, κf, κg, κh, κi, κj, κk, κl, κm, reduceCtorEq, reduceIte, κn, κo, κp, κq, κr, κs, tys] <;> (first | exact rfl | omega)))) | ((refine call_fn_full ?_ [b0] (hpv _ ?_ only_mem _ (by omega)) ?_ ?_); iterate 3 (focus (simp only [mems, Tryd.results3, Tryd.ntmps3, κt, wks, plain_tk, plain_nd, hd, htk, htn, fresh_selfU, beq_self_eq_true, Nat.le_refl, List.take_length, List.map_nil, List.length_map, vcs, κa, κb, κc, κd, κe, κf, κg, κh, κi, κj, κk, κl, κm, reduceCtorEq, reduceIte, κn, κo, κp, κq, κr, κs, tys] <;> exact rfl))) | ((refine call_fn_x (xs := ?_) ?_ (Ev.args_le (hsn0 _) ?_) ?_); rotate_left 1; iterate 2 (focus (simp only [Tryd.results3, Tryd.ntmps3, κt, wks, plain_tk, plain_nd, hd, htk, htn, fresh_selfU, beq_self_eq_true, Nat.le_refl, List.take_length, List.map_nil, List.length_map, vcs, κa, κb, κc, κd, κe, κf, κg, κh, κi, κj, κk, κl, κm, reduceCtorEq, reduceIte, κn, κo, κp, κq, κr, κs, tys] <;> exact rfl))) | ((first | (refine call_val (g := ?_) ?_ ?_) | (refine call_valg (g := ?_) ?_ ?_)); rotate_left 1; (focus (simp only [Tryd.results3, Tryd.ntmps3, κt, wks, plain_tk, plain_nd, hd, htk, htn, fresh_selfU, beq_self_eq_true, Nat.le_refl, List.take_length, List.map_nil, List.length_map, vcs, κa, κb, κc, κd, κe, κf, κg, κh, κi, κj, κk, κl, κm, reduceCtorEq, reduceIte, κn, κo, κp, κq, κr, κs, tys] <;> exact rfl))) | refine draw_end (by decide +kernel) ?_ | refine cond_bool (fun hb => ?_) (fun hb => ?_) | refine cond_bit (fun hb => ?_) (fun hb => ?_) | refine And.intro (by omega) ?_ | refine And.intro (fun hb => ?_) (fun hb => ?_) | fail); (all_goals (first | (refine Fin.pure ?_ ?_ ?_ <;> (try simp only [Tryd.results3, Tryd.ntmps3, wks, plain_tk, plain_nd, hd, htk, htn, fresh_selfU, beq_self_eq_true, Nat.le_refl, List.take_length, List.map_nil, List.length_map, vcs, κa, κb, κc, κd, κe, κf, κg, κh, κi, κj, κk, κl, κm, reduceCtorEq, reduceIte, κn, κo, κp, κq, κr, κs, tys]) <;> (try simp only [injs])) | skip)))
theorem treeParses_args (xs : List V) (h : ShapeArgs cx.P Tryd.f3.params.toList xs) : Ev cx 3 0 xs Mem.nil (.bool true) [] := by
  rw [Tryd.params3] at h
  obtain ⟨_, v1, _, rfl, h1, h2⟩ := h
  obtain rfl := args_nil h2
  obtain ⟨l, rfl, hl, hs⟩ := tks_shape h1
  rw [argV_one kind_22 (by simp)]
  exact parses_ev l hl hs 0
end Go.Proofs.YtanahnknjboplaaDoor
/-
  The rows that list the two tables of utf8: the witness's world.
-/
namespace Go.Proofs.YtanahnknjboplaaDoor
set_option linter.unusedSimpArgs false
set_option linter.unusedVariables false
open Go Go.RowKit Go.Lib

theorem own : ownKnob Tryd.prog.godebug = none := by kernel_rfl
theorem laidOut : laidOutB Tryd.prog = true := by kernel_rfl
theorem accept_eq : (Rows.laid_unicode_utf8_acceptRanges : DataW Unit) = Lib.acceptData := by kernel_rfl
theorem first_eq : Rows.laid_unicode_utf8_first = Lib.firstData := by kernel_rfl
noncomputable def laidWorld (os : Os) : World :=
  let w0 := World.holding Tryd.prog os ⟨#[], #[], []⟩
  let put (h : Array Obj) (g : Nat) (cs : Array Value) : Array Obj := h.modify g fun
    | .cells _ t frozen => .cells cs t frozen
    | o => o
  let h1 := put w0.heap 2 (Lib.firstTab.map fun z => Value.int .u8 z).toArray
  let h2 := put h1 3 ((List.range 16).flatMap fun i => [Value.int .u8 (Lib.accLo i), Value.int .u8 (Lib.accHi i)]).toArray
  { w0 with heap := h2 }
theorem laid_met (os : Os) (args : Array Value) : laidMet Tryd.prog [("unicode/utf8.acceptRanges", Rows.laid_unicode_utf8_acceptRanges), ("unicode/utf8.first", Rows.laid_unicode_utf8_first)] ((laidWorld os).forCall (fun _ _ => 0) ⟨#[], args, []⟩).memory := by
  rw [accept_eq, first_eq]
  exact (LaidIn.of_run (l := [("unicode/utf8.acceptRanges", Lib.acceptData), ("unicode/utf8.first", Lib.firstData)]) [3, 2] 8 (by kernel_rfl) (by kernel_rfl) (by kernel_rfl) (by kernel_rfl)).met
end Go.Proofs.YtanahnknjboplaaDoor
