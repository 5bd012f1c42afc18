/-
  Texts joined: XGk.
-/
import Derived.Test.YtanahnknjboplaaDoorMh
/-
  EscBack by the machine: what is written is read as that text.
-/
namespace Go.Proofs.YtanahnknjboplaaDoor
set_option linter.unusedSimpArgs false
set_option linter.unusedVariables false
open Nat renaming reduceAdd → κa, reduceMul → κb, reduceEqDiff → κc, reduceLeDiff → κd, reduceSub → κe, reduceLT → κf, reduceBEq → κr, reduceBNe → κs, reducePow → κt
open Int renaming reduceToNat → κg, reduceLE → κh, reduceLT → κi, reduceAdd → κj, reduceSub → κk, reduceMul → κl, reduceNeg → κm, reduceBEq → κn, reduceBNe → κo, reduceEq → κp, reduceNe → κq
open Go Go.RowKit Go.Proofs.YtanahnknjboplaaDoor.Vm Go.Lib

theorem pts_iff {s : List UInt8} : ptsErr s = 0 ↔ s.length ≤ 16384 ∧ (dec s).isSome = true := by
  unfold ptsErr
  split
  · simp; omega
  · cases dec s <;> simp <;> omega
theorem put_err {s : List UInt8} {q : Bool} (hl : s.length ≤ 2000) (h : putE q s ≠ 0) : ptsErr s = putE q s ∧ putT q s = [] := by
  have hw := escW_length q s
  have ht : putT q s = [] := by unfold putT; rw [if_neg h]
  refine ⟨?_, ht⟩
  unfold putE at h ⊢
  split at h
  · rename_i hz; rw [if_pos hz]
  · rw [if_neg (by omega)] at h; exact absurd rfl h
theorem put_ok {s : List UInt8} {q : Bool} (h : putE q s = 0) : ptsErr s = 0 ∧ putT q s = escW q s ∧ (escW q s).length ≤ 16384 := by
  have ht : putT q s = escW q s := by unfold putT; rw [if_pos h]
  unfold putE at h
  split at h
  · rename_i hz; exact absurd h hz
  · rename_i hz
    split at h
    · cases h
    · exact ⟨by simpa using hz, ht, by omega⟩
theorem pts_escW {s : List UInt8} (q : Bool) (h : ptsErr s = 0) (hl : (escW q s).length ≤ 16384) : ptsErr (escW q s) = 0 := pts_iff.2 ⟨hl, dec_escW q (pts_iff.1 h).2⟩
theorem reads_back {s : List UInt8} (q : Bool) (h : ptsErr s = 0) (hl : (escW q s).length ≤ 16384) : readsB (escW q s) s = true := by
  have hp := pts_escW q h hl
  have hr := readL_escW q s
  have he : getE (escW q s) = 0 := by unfold getE; rw [if_neg (by simp [hp]), hr]
  have ht : getT (escW q s) = s := by unfold getT; rw [if_pos he, hr]; rfl
  unfold readsB; rw [he, ht]; simp
set_option maxRecDepth 100000 in
set_option maxHeartbeats 16000000 in
theorem escBack_main (s : List UInt8) (q : Bool) (hs : s.length ≤ lim) (nm : Nat) : Ev cx 5 nm [.str s, .bool q] Mem.nil (.bool true) [] := by
  by_cases h2 : 2000 < s.length
  · have hd : decide ((2000 : Int) < (s.length : Int)) = true := decide_eq_true (by omega)
    refine ev_go (fun cargs w => Tryd.call5 cargs w) Tryd.func5 rfl mixed (by kernel_rfl) rfl ?_; intro b0 hb0
    ((repeat' first | simp only [fins, mems, Tryd.results5, Tryd.ntmps5, κt, wks, hd, vcs, κa, κb, κc, κd, κe, κf, κg, κh, κi, κj, κk, κl, κm, reduceCtorEq, reduceIte, κn, κo, κp, κq, κr, κs, tys] | exact rfl | refine call_off (v := .any) ?_ | (first | (refine call_fn ?_ (alive_ev _) ?_) | (refine call_fn_g ?_ (fun _ => alive_ev _) ?_)) | ((first | (refine call_val (g := ?_) ?_ ?_) | (refine call_valg (g := ?_) ?_ ?_)); rotate_left 1; (focus (simp only [Tryd.results5, Tryd.ntmps5, κt, wks, hd, vcs, κa, κb, κc, κd, κe, κf, κg, κh, κi, κj, κk, κl, κm, reduceCtorEq, reduceIte, κn, κo, κp, κq, κr, κs, tys] <;> exact rfl))) | refine draw_end (by decide +kernel) ?_ | refine cond_bool (fun hb => ?_) (fun hb => ?_) | refine cond_bit (fun hb => ?_) (fun hb => ?_) | refine And.intro (by omega) ?_ | refine And.intro (fun hb => ?_) (fun hb => ?_) | fail); (all_goals (first | (refine Fin.pure ?_ ?_ ?_ <;> (try simp only [Tryd.results5, Tryd.ntmps5, wks, hd, vcs, κa, κb, κc, κd, κe, κf, κg, κh, κi, κj, κk, κl, κm, reduceCtorEq, reduceIte, κn, κo, κp, κq, κr, κs, tys]) <;> (try simp only [injs])) | skip)))
  have hd : decide ((2000 : Int) < (s.length : Int)) = false := decide_eq_false (by omega)
  have hp := ePut_ev s q hs
  by_cases he : putE q s = 0
  · obtain ⟨h3, h4, h5⟩ := put_ok he
    rw [he, h4] at hp
    have hw := escW_length q s
    have hrb := reads_ev (escW q s) s (by unfold lim; omega)
    rw [reads_back q h3 h5] at hrb
    have hck := tCheck_ev (escW q s) (by unfold lim; omega)
    rw [pts_escW q h3 h5] at hck
    have hge : decide ((s.length : Int) ≤ ((escW q s).length : Int)) = true := decide_eq_true (by omega)
    have hge' : decide (s.length ≤ (escW q s).length) = true := decide_eq_true (by omega)
    refine ev_go (fun cargs w => Tryd.call5 cargs w) Tryd.func5 rfl mixed (by kernel_rfl) rfl ?_; intro b0 hb0
    repeat' first | simp only [fins, mems, Tryd.results5, Tryd.ntmps5, κt, wks, hd, Bool.not_true, vcs, κa, κb, κc, κd, κe, κf, κg, κh, κi, κj, κk, κl, κm, reduceCtorEq, reduceIte, κn, κo, κp, κq, κr, κs, tys] | exact rfl | refine call_off (v := .any) ?_ | (first | (refine call_fn ?_ (alive_ev _) ?_) | (refine call_fn_g ?_ (fun _ => alive_ev _) ?_) | (refine call_fn ?_ (hp _) ?_) | (refine call_fn_g ?_ (fun _ => hp _) ?_)) | ((first | (refine call_val (g := ?_) ?_ ?_) | (refine call_valg (g := ?_) ?_ ?_)); rotate_left 1; (focus (simp only [Tryd.results5, Tryd.ntmps5, κt, wks, hd, Bool.not_true, vcs, κa, κb, κc, κd, κe, κf, κg, κh, κi, κj, κk, κl, κm, reduceCtorEq, reduceIte, κn, κo, κp, κq, κr, κs, tys] <;> exact rfl))) | refine draw_end (by decide +kernel) ?_ | refine cond_bool (fun hb => ?_) (fun hb => ?_) | refine cond_bit (fun hb => ?_) (fun hb => ?_) | refine And.intro (by omega) ?_ | refine And.intro (fun hb => ?_) (fun hb => ?_) | fail
    (refine loop_can2 cxG (fun x : Nat => (escW q s).length - x) (fun x => x ≤ (escW q s).length) (b0 + 16) (fun x => [(0, .str s), (1, .bool q), (5, .bool true), (6, .str (escW q s)), (8, .int .i64 x)]) (fun x => []) (0) [] ?_ ?_ ?_ ?_; rotate_left 1; (focus (show b0 ≤ _; omega)); (focus (refine ⟨?_, ?_⟩ <;> (try simp only [cans, Int.ofNat_zero, vcs, κa, κb, κc, κd, κe, κf, κg, κh, κi, κj, κk, κl, κm, reduceCtorEq, reduceIte, κn, κo, κp, κq, κr, κs, tys, injs]) <;> (try omega))); rotate_left 1)
    · exact Nat.zero_le _
    · intro k hk
      by_cases hlt : k < (escW q s).length
      · obtain ⟨c, hc⟩ : ∃ c, (escW q s)[k]? = some c := ⟨_, List.getElem?_eq_getElem hlt⟩
        have hdk : decide (k < (escW q s).length) = true := decide_eq_true hlt
        have hwk : IntKind.i64.wrap ((k : Int) + 1) = ((k + 1 : Nat) : Int) := wrap_in (by omega) (by omega)
        have hall := escW_all q (List.mem_of_getElem? hc)
        have b60 : ((c.toNat : Int) == 60) = decide (c = 60) := beq_byte c 60
        have b62 : ((c.toNat : Int) == 62) = decide (c = 62) := beq_byte c 62
        have b13 : ((c.toNat : Int) == 13) = decide (c = 13) := beq_byte c 13
        have b34 : ((c.toNat : Int) == 34) = decide (c = 34) := beq_byte c 34
        have b9 : ((c.toNat : Int) == 9) = decide (c = 9) := beq_byte c 9
        have b10 : ((c.toNat : Int) == 10) = decide (c = 10) := beq_byte c 10
        simp only [Bool.and_eq_true, bne_iff_ne, ne_eq] at hall
        obtain ⟨⟨⟨h60, h62⟩, h13⟩, hq⟩ := hall
        rw [decide_eq_false h60] at b60
        rw [decide_eq_false h62] at b62
        rw [decide_eq_false h13] at b13
        cases q with
        | false =>
          repeat' first | simp only [fins, mems, Tryd.results5, Tryd.ntmps5, κt, wks, hc, hdk, hlt, hwk, b60, b62, b13, vcs, κa, κb, κc, κd, κe, κf, κg, κh, κi, κj, κk, κl, κm, reduceCtorEq, reduceIte, κn, κo, κp, κq, κr, κs, tys] | exact rfl | refine call_off (v := .any) ?_ | ((first | (refine call_val (g := ?_) ?_ ?_) | (refine call_valg (g := ?_) ?_ ?_)); rotate_left 1; (focus (simp only [Tryd.results5, Tryd.ntmps5, κt, wks, hc, hdk, hlt, hwk, b60, b62, b13, vcs, κa, κb, κc, κd, κe, κf, κg, κh, κi, κj, κk, κl, κm, reduceCtorEq, reduceIte, κn, κo, κp, κq, κr, κs, tys] <;> exact rfl))) | refine draw_end (by decide +kernel) ?_ | refine cond_bool (fun hb => ?_) (fun hb => ?_) | refine cond_bit (fun hb => ?_) (fun hb => ?_) | refine And.intro (by omega) ?_ | refine And.intro (fun hb => ?_) (fun hb => ?_) | fail
          all_goals ((refine again_can2 cxG (k + 1) [] ?_ ?_ ?_ ?_; rotate_left 2; (focus (show b0 ≤ _; omega)); (focus (refine ⟨?_, ?_⟩ <;> (try simp only [cans, hwk, vcs, κa, κb, κc, κd, κe, κf, κg, κh, κi, κj, κk, κl, κm, reduceCtorEq, reduceIte, κn, κo, κp, κq, κr, κs, tys, injs]) <;> (try omega)))))
          all_goals (first | (show (escW false s).length - (k + 1) < (escW false s).length - k; omega) | (show k + 1 ≤ (escW false s).length; omega) | skip)
        | true =>
          simp only [Bool.not_true, Bool.false_or, Bool.and_eq_true, bne_iff_ne, ne_eq] at hq
          obtain ⟨⟨h34, h9⟩, h10⟩ := hq
          rw [decide_eq_false h34] at b34
          rw [decide_eq_false h9] at b9
          rw [decide_eq_false h10] at b10
          repeat' first | simp only [fins, mems, Tryd.results5, Tryd.ntmps5, κt, wks, hc, hdk, hlt, hwk, b60, b62, b13, b34, b9, b10, vcs, κa, κb, κc, κd, κe, κf, κg, κh, κi, κj, κk, κl, κm, reduceCtorEq, reduceIte, κn, κo, κp, κq, κr, κs, tys] | exact rfl | refine call_off (v := .any) ?_ | ((first | (refine call_val (g := ?_) ?_ ?_) | (refine call_valg (g := ?_) ?_ ?_)); rotate_left 1; (focus (simp only [Tryd.results5, Tryd.ntmps5, κt, wks, hc, hdk, hlt, hwk, b60, b62, b13, b34, b9, b10, vcs, κa, κb, κc, κd, κe, κf, κg, κh, κi, κj, κk, κl, κm, reduceCtorEq, reduceIte, κn, κo, κp, κq, κr, κs, tys] <;> exact rfl))) | refine draw_end (by decide +kernel) ?_ | refine cond_bool (fun hb => ?_) (fun hb => ?_) | refine cond_bit (fun hb => ?_) (fun hb => ?_) | refine And.intro (by omega) ?_ | refine And.intro (fun hb => ?_) (fun hb => ?_) | fail
          all_goals ((refine again_can2 cxG (k + 1) [] ?_ ?_ ?_ ?_; rotate_left 2; (focus (show b0 ≤ _; omega)); (focus (refine ⟨?_, ?_⟩ <;> (try simp only [cans, hwk, vcs, κa, κb, κc, κd, κe, κf, κg, κh, κi, κj, κk, κl, κm, reduceCtorEq, reduceIte, κn, κo, κp, κq, κr, κs, tys, injs]) <;> (try omega)))))
          all_goals (first | (show (escW true s).length - (k + 1) < (escW true s).length - k; omega) | (show k + 1 ≤ (escW true s).length; omega) | skip)
      · have hke : k = (escW q s).length := by omega
        subst hke
        have hdk : decide ((escW q s).length < (escW q s).length) = false := decide_eq_false (by omega)
        ((repeat' first | simp only [fins, mems, Tryd.results5, Tryd.ntmps5, κt, wks, hdk, hge, hge', vcs, κa, κb, κc, κd, κe, κf, κg, κh, κi, κj, κk, κl, κm, reduceCtorEq, reduceIte, κn, κo, κp, κq, κr, κs, tys] | exact rfl | refine call_off (v := .any) ?_ | (first | (refine call_fn ?_ (hrb _) ?_) | (refine call_fn_g ?_ (fun _ => hrb _) ?_) | (refine call_fn ?_ (hck _) ?_) | (refine call_fn_g ?_ (fun _ => hck _) ?_)) | ((first | (refine call_val (g := ?_) ?_ ?_) | (refine call_valg (g := ?_) ?_ ?_)); rotate_left 1; (focus (simp only [Tryd.results5, Tryd.ntmps5, κt, wks, hdk, hge, hge', vcs, κa, κb, κc, κd, κe, κf, κg, κh, κi, κj, κk, κl, κm, reduceCtorEq, reduceIte, κn, κo, κp, κq, κr, κs, tys] <;> exact rfl))) | refine draw_end (by decide +kernel) ?_ | refine cond_bool (fun hb => ?_) (fun hb => ?_) | refine cond_bit (fun hb => ?_) (fun hb => ?_) | refine And.intro (by omega) ?_ | refine And.intro (fun hb => ?_) (fun hb => ?_) | fail); (all_goals (first | (refine Fin.pure ?_ ?_ ?_ <;> (try simp only [Tryd.results5, Tryd.ntmps5, wks, hdk, hge, hge', vcs, κa, κb, κc, κd, κe, κf, κg, κh, κi, κj, κk, κl, κm, reduceCtorEq, reduceIte, κn, κo, κp, κq, κr, κs, tys]) <;> (try simp only [injs])) | skip)))
  · obtain ⟨h3, h4⟩ := put_err (by omega) he
    rw [h4] at hp
    have hck := tCheck_ev s hs
    rw [h3] at hck
    have hne : (putE q s != 0) = true := by rw [bne_iff_ne]; exact he
    have heq : (putE q s == putE q s) = true := by simp
    have e0 : (([] : List UInt8) == []) = true := rfl
    refine ev_go (fun cargs w => Tryd.call5 cargs w) Tryd.func5 rfl mixed (by kernel_rfl) rfl ?_; intro b0 hb0
    ((repeat' first | simp only [fins, mems, Tryd.results5, Tryd.ntmps5, κt, wks, hd, hne, heq, e0, Bool.not_true, vcs, κa, κb, κc, κd, κe, κf, κg, κh, κi, κj, κk, κl, κm, reduceCtorEq, reduceIte, κn, κo, κp, κq, κr, κs, tys] | exact rfl | refine call_off (v := .any) ?_ | (first | (refine call_fn ?_ (alive_ev _) ?_) | (refine call_fn_g ?_ (fun _ => alive_ev _) ?_) | (refine call_fn ?_ (hp _) ?_) | (refine call_fn_g ?_ (fun _ => hp _) ?_) | (refine call_fn ?_ (hck _) ?_) | (refine call_fn_g ?_ (fun _ => hck _) ?_)) | ((first | (refine call_val (g := ?_) ?_ ?_) | (refine call_valg (g := ?_) ?_ ?_)); rotate_left 1; (focus (simp only [Tryd.results5, Tryd.ntmps5, κt, wks, hd, hne, heq, e0, Bool.not_true, vcs, κa, κb, κc, κd, κe, κf, κg, κh, κi, κj, κk, κl, κm, reduceCtorEq, reduceIte, κn, κo, κp, κq, κr, κs, tys] <;> exact rfl))) | refine draw_end (by decide +kernel) ?_ | refine cond_bool (fun hb => ?_) (fun hb => ?_) | refine cond_bit (fun hb => ?_) (fun hb => ?_) | refine And.intro (by omega) ?_ | refine And.intro (fun hb => ?_) (fun hb => ?_) | fail); (all_goals (first | (refine Fin.pure ?_ ?_ ?_ <;> (try simp only [Tryd.results5, Tryd.ntmps5, wks, hd, hne, heq, e0, Bool.not_true, vcs, κa, κb, κc, κd, κe, κf, κg, κh, κi, κj, κk, κl, κm, reduceCtorEq, reduceIte, κn, κo, κp, κq, κr, κs, tys]) <;> (try simp only [injs])) | skip)))
theorem escBack_args (xs : List V) (h : ShapeArgs cx.P Tryd.f5.params.toList xs) : Ev cx 5 0 xs Mem.nil (.bool true) [] := by
  rw [Tryd.params5] at h
  obtain ⟨_, v1, _, rfl, h1, _, v2, _, rfl, h2, h3⟩ := h
  obtain rfl := args_nil h3
  obtain ⟨s, rfl, hs⟩ := shape_str kind_9 h1
  obtain ⟨q, rfl⟩ := shape_bool kind_4 h2
  rw [argV_one kind_9 (by simp), argV_one kind_4 (by simp)]
  exact escBack_main s q (by unfold lim; omega) 0
end Go.Proofs.YtanahnknjboplaaDoor
