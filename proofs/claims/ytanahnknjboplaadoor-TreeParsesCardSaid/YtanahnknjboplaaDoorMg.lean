/-
  Texts joined: XEi, XEk, XEl, XEm, XLb, XLc.
-/
import Derived.Test.YtanahnknjboplaaDoorMf
/-
  The document's answer for layer 5 by the machine: the code point that a text begins with; all of a text's; is it one.
-/
namespace Go.Proofs.YtanahnknjboplaaDoor
set_option linter.unusedSimpArgs false
set_option linter.unusedVariables false
open Nat renaming reduceAdd → κa, reduceMul → κb, reduceEqDiff → κc, reduceLeDiff → κd, reduceSub → κe, reduceLT → κf, reduceBEq → κr, reduceBNe → κs, reducePow → κt
open Int renaming reduceToNat → κg, reduceLE → κh, reduceLT → κi, reduceAdd → κj, reduceSub → κk, reduceMul → κl, reduceNeg → κm, reduceBEq → κn, reduceBNe → κo, reduceEq → κp, reduceNe → κq
open Go Go.RowKit Go.Proofs.YtanahnknjboplaaDoor.Vm Go.Lib

theorem contN_take {n : Int} {l : List UInt8} {k : Nat} {b : UInt8} (h : l[k]? = some b) : contN n (l.take (k + 1)) = 64 * contN n (l.take k) + (b.toNat : Int) % 64 := by
  obtain ⟨hk, rfl⟩ := List.getElem?_eq_some_iff.1 h
  rw [List.take_succ_eq_append_getElem hk, contN_snoc]
theorem contN_nil (n : Int) : contN n [] = n := rfl
theorem one_nil : one [] = none := rfl
theorem oneZ_none {s : List UInt8} (h : one s = none) : oneZ s = 0 := by unfold oneZ; rw [h]
theorem oneK_none {s : List UInt8} (h : one s = none) : oneK s = 0 := by unfold oneK; rw [h]
theorem oneZ_some {s : List UInt8} {z : Int} {k : Nat} (h : one s = some (z, k)) : oneZ s = z := by unfold oneZ; rw [h]
theorem oneK_some {s : List UInt8} {z : Int} {k : Nat} (h : one s = some (z, k)) : oneK s = k := by unfold oneK; rw [h]
set_option maxRecDepth 100000 in
set_option maxHeartbeats 4000000 in
theorem rOne_ev (s : List UInt8) (hs : s.length ≤ lim) (nm : Nat) : Ev cx 106 nm [.str s] Mem.nil (.tup [.int .i64 (oneZ s), .int .i64 (oneK s)]) [] := by
  unfold lim at hs
  by_cases hne : s = []
  · subst hne
    have e1 := oneZ_none one_nil
    have e2 := oneK_none one_nil
    have hd : (([] : List UInt8) == []) = true := rfl
    refine ev_go (fun cargs w => Tryd.call106 cargs w) Tryd.func106 rfl mixed (by kernel_rfl) rfl ?_; intro b0 hb0
    ((repeat' first | simp only [Tryd.results106, Tryd.ntmps106, κt, wks, e1, e2, hd, vcs, κa, κb, κc, κd, κe, κf, κg, κh, κi, κj, κk, κl, κm, reduceCtorEq, reduceIte, κn, κo, κp, κq, κr, κs, tys] | exact rfl | ((first | (refine call_val (g := ?_) ?_ ?_) | (refine call_valg (g := ?_) ?_ ?_)); rotate_left 1; (focus (simp only [Tryd.results106, Tryd.ntmps106, κt, wks, e1, e2, hd, vcs, κa, κb, κc, κd, κe, κf, κg, κh, κi, κj, κk, κl, κm, reduceCtorEq, reduceIte, κn, κo, κp, κq, κr, κs, tys] <;> exact rfl))) | refine draw_end' (ps := [(5, 9)]) (by decide +kernel) (by simp only [List.forall_mem_cons, List.getD_cons_zero, List.getD_cons_succ, Tryd.results106, Tryd.ntmps106, κt, wks, e1, e2, hd, vcs, κa, κb, κc, κd, κe, κf, κg, κh, κi, κj, κk, κl, κm, reduceCtorEq, reduceIte, κn, κo, κp, κq, κr, κs, tys] <;> (try simp) <;> (try omega)) ?_ | refine draw_end (by decide +kernel) ?_ | refine cond_bool (fun hb => ?_) (fun hb => ?_) | refine cond_bit (fun hb => ?_) (fun hb => ?_) | refine And.intro (by omega) ?_ | refine And.intro (fun hb => ?_) (fun hb => ?_) | fail); (all_goals (first | (refine Fin.pure ?_ ?_ ?_ <;> (try simp only [Tryd.results106, Tryd.ntmps106, wks, e1, e2, hd, vcs, κa, κb, κc, κd, κe, κf, κg, κh, κi, κj, κk, κl, κm, reduceCtorEq, reduceIte, κn, κo, κp, κq, κr, κs, tys]) <;> (try simp only [injs])) | skip)))
  obtain ⟨b, l, rfl⟩ := List.exists_cons_of_ne_nil hne
  have hd : ((b :: l) == []) = false := rfl
  have hb : (b.toNat : Int) < 256 := by have := b.toNat_lt; omega
  have hb0 : (0 : Int) ≤ (b.toNat : Int) := by omega
  have hwb : IntKind.i64.wrap (b.toNat : Int) = (b.toNat : Int) := wrap_in (by omega) (by omega)
  obtain ⟨hr1, hr2⟩ := headS_range (b.toNat : Int)
  obtain ⟨hn1, hn2, hn3⟩ := headN_range (c := (b.toNat : Int)) ⟨hb0, hb⟩
  have hhd := head_ev (b.toNat : Int) hb0 hb
  obtain ⟨k, hk⟩ : ∃ k : Nat, headS (b.toNat : Int) = k := ⟨(headS (b.toNat : Int)).toNat, by omega⟩
  have hk4 : k ≤ 4 := by omega
  rw [hk] at hhd
  generalize hN : headN (b.toNat : Int) = n0 at hhd hn1 hn2 hn3
  by_cases hbad : k = 0 ∨ (b :: l).length < k
  · have ho : one (b :: l) = none := one_no hk (by rcases hbad with h | h; exact .inl h; exact .inr (.inl h))
    have e1 := oneZ_none ho
    have e2 := oneK_none ho
    by_cases h0 : k = 0
    · subst h0
      refine ev_go (fun cargs w => Tryd.call106 cargs w) Tryd.func106 rfl mixed (by kernel_rfl) rfl ?_; intro b0 hb0
      ((repeat' first | simp only [Tryd.results106, Tryd.ntmps106, κt, wks, e1, e2, hd, hwb, vcs, κa, κb, κc, κd, κe, κf, κg, κh, κi, κj, κk, κl, κm, reduceCtorEq, reduceIte, κn, κo, κp, κq, κr, κs, tys] | exact rfl | ((first | (refine call_fn ?_ (hhd _) ?_) | (refine call_fn_g ?_ (fun _ => hhd _) ?_)); (focus (simp only [Tryd.results106, Tryd.ntmps106, κt, wks, e1, e2, hd, hwb, vcs, κa, κb, κc, κd, κe, κf, κg, κh, κi, κj, κk, κl, κm, reduceCtorEq, reduceIte, κn, κo, κp, κq, κr, κs, tys] <;> exact rfl))) | ((first | (refine call_val (g := ?_) ?_ ?_) | (refine call_valg (g := ?_) ?_ ?_)); rotate_left 1; (focus (simp only [Tryd.results106, Tryd.ntmps106, κt, wks, e1, e2, hd, hwb, vcs, κa, κb, κc, κd, κe, κf, κg, κh, κi, κj, κk, κl, κm, reduceCtorEq, reduceIte, κn, κo, κp, κq, κr, κs, tys] <;> exact rfl))) | refine draw_end' (ps := [(5, 9)]) (by decide +kernel) (by simp only [List.forall_mem_cons, List.getD_cons_zero, List.getD_cons_succ, Tryd.results106, Tryd.ntmps106, κt, wks, e1, e2, hd, hwb, vcs, κa, κb, κc, κd, κe, κf, κg, κh, κi, κj, κk, κl, κm, reduceCtorEq, reduceIte, κn, κo, κp, κq, κr, κs, tys] <;> (try simp) <;> (try omega)) ?_ | refine draw_end (by decide +kernel) ?_ | refine cond_bool (fun hb => ?_) (fun hb => ?_) | refine cond_bit (fun hb => ?_) (fun hb => ?_) | refine And.intro (by omega) ?_ | refine And.intro (fun hb => ?_) (fun hb => ?_) | fail); (all_goals (first | (refine Fin.pure ?_ ?_ ?_ <;> (try simp only [Tryd.results106, Tryd.ntmps106, wks, e1, e2, hd, hwb, vcs, κa, κb, κc, κd, κe, κf, κg, κh, κi, κj, κk, κl, κm, reduceCtorEq, reduceIte, κn, κo, κp, κq, κr, κs, tys]) <;> (try simp only [injs])) | skip)))
    · have hg : decide (l.length + 1 < k) = true := decide_eq_true (by simpa using hbad.resolve_left h0)
      have hg0 : ((k : Int) == 0) = false := beq_false_of_ne (by omega)
      refine ev_go (fun cargs w => Tryd.call106 cargs w) Tryd.func106 rfl mixed (by kernel_rfl) rfl ?_; intro b0 hb0
      ((repeat' first | simp only [Tryd.results106, Tryd.ntmps106, κt, wks, e1, e2, hd, hwb, hg, hg0, List.length_cons, vcs, κa, κb, κc, κd, κe, κf, κg, κh, κi, κj, κk, κl, κm, reduceCtorEq, reduceIte, κn, κo, κp, κq, κr, κs, tys] | exact rfl | ((first | (refine call_fn ?_ (hhd _) ?_) | (refine call_fn_g ?_ (fun _ => hhd _) ?_)); (focus (simp only [Tryd.results106, Tryd.ntmps106, κt, wks, e1, e2, hd, hwb, hg, hg0, List.length_cons, vcs, κa, κb, κc, κd, κe, κf, κg, κh, κi, κj, κk, κl, κm, reduceCtorEq, reduceIte, κn, κo, κp, κq, κr, κs, tys] <;> exact rfl))) | ((first | (refine call_val (g := ?_) ?_ ?_) | (refine call_valg (g := ?_) ?_ ?_)); rotate_left 1; (focus (simp only [Tryd.results106, Tryd.ntmps106, κt, wks, e1, e2, hd, hwb, hg, hg0, List.length_cons, vcs, κa, κb, κc, κd, κe, κf, κg, κh, κi, κj, κk, κl, κm, reduceCtorEq, reduceIte, κn, κo, κp, κq, κr, κs, tys] <;> exact rfl))) | refine draw_end' (ps := [(5, 9)]) (by decide +kernel) (by simp only [List.forall_mem_cons, List.getD_cons_zero, List.getD_cons_succ, Tryd.results106, Tryd.ntmps106, κt, wks, e1, e2, hd, hwb, hg, hg0, List.length_cons, vcs, κa, κb, κc, κd, κe, κf, κg, κh, κi, κj, κk, κl, κm, reduceCtorEq, reduceIte, κn, κo, κp, κq, κr, κs, tys] <;> (try simp) <;> (try omega)) ?_ | refine draw_end (by decide +kernel) ?_ | refine cond_bool (fun hb => ?_) (fun hb => ?_) | refine cond_bit (fun hb => ?_) (fun hb => ?_) | refine And.intro (by omega) ?_ | refine And.intro (fun hb => ?_) (fun hb => ?_) | fail); (all_goals (first | (refine Fin.pure ?_ ?_ ?_ <;> (try simp only [Tryd.results106, Tryd.ntmps106, wks, e1, e2, hd, hwb, hg, hg0, List.length_cons, vcs, κa, κb, κc, κd, κe, κf, κg, κh, κi, κj, κk, κl, κm, reduceCtorEq, reduceIte, κn, κo, κp, κq, κr, κs, tys]) <;> (try simp only [injs])) | skip)))
  · have hg : decide (l.length + 1 < k) = false := decide_eq_false (by simp at hbad; omega)
    have hg0 : ((k : Int) == 0) = false := beq_false_of_ne (by omega)
    have hkl : k ≤ l.length + 1 := by simp at hbad; omega
    have hk1 : 1 ≤ k := by omega
    simp only [List.length_cons] at hs
    refine ev_go (fun cargs w => Tryd.call106 cargs w) Tryd.func106 rfl mixed (by kernel_rfl) rfl ?_; intro b0 hb0
    repeat' first | simp only [Tryd.results106, Tryd.ntmps106, κt, wks, hd, hwb, hg, hg0, List.length_cons, vcs, κa, κb, κc, κd, κe, κf, κg, κh, κi, κj, κk, κl, κm, reduceCtorEq, reduceIte, κn, κo, κp, κq, κr, κs, tys] | exact rfl | ((first | (refine call_fn ?_ (hhd _) ?_) | (refine call_fn_g ?_ (fun _ => hhd _) ?_)); (focus (simp only [Tryd.results106, Tryd.ntmps106, κt, wks, hd, hwb, hg, hg0, List.length_cons, vcs, κa, κb, κc, κd, κe, κf, κg, κh, κi, κj, κk, κl, κm, reduceCtorEq, reduceIte, κn, κo, κp, κq, κr, κs, tys] <;> exact rfl))) | ((first | (refine call_val (g := ?_) ?_ ?_) | (refine call_valg (g := ?_) ?_ ?_)); rotate_left 1; (focus (simp only [Tryd.results106, Tryd.ntmps106, κt, wks, hd, hwb, hg, hg0, List.length_cons, vcs, κa, κb, κc, κd, κe, κf, κg, κh, κi, κj, κk, κl, κm, reduceCtorEq, reduceIte, κn, κo, κp, κq, κr, κs, tys] <;> exact rfl))) | refine draw_end' (ps := [(5, 9)]) (by decide +kernel) (by simp only [List.forall_mem_cons, List.getD_cons_zero, List.getD_cons_succ, Tryd.results106, Tryd.ntmps106, κt, wks, hd, hwb, hg, hg0, List.length_cons, vcs, κa, κb, κc, κd, κe, κf, κg, κh, κi, κj, κk, κl, κm, reduceCtorEq, reduceIte, κn, κo, κp, κq, κr, κs, tys] <;> (try simp) <;> (try omega)) ?_ | refine draw_end (by decide +kernel) ?_ | refine And.intro (by omega) ?_ | fail
    (refine loop_can2 cxG (fun x : Nat => k - x) (fun x => 1 ≤ x ∧ x ≤ k) (b0 + 16) (fun x => [(0, .str (b :: l)), (4, .int .i64 k), (5, .int .i64 (contN n0 (l.take (x - 1)))), (6, .int .i64 x)]) (fun x => []) (1) [] ?_ ?_ ?_ ?_; rotate_left 1; (focus (show b0 ≤ _; omega)); (focus (refine ⟨?_, ?_⟩ <;> (try simp only [cans, List.take_zero, contN_nil, vcs, κa, κb, κc, κd, κe, κf, κg, κh, κi, κj, κk, κl, κm, reduceCtorEq, reduceIte, κn, κo, κp, κq, κr, κs, tys, injs]) <;> (try omega))); rotate_left 1)
    · exact ⟨Nat.le_refl _, hk1⟩
    · rintro i ⟨hi1, hi2⟩
      by_cases hlt : i < k
      · have hdi : decide (i < k) = true := decide_eq_true hlt
        obtain ⟨j, rfl⟩ : ∃ j, i = j + 1 := ⟨i - 1, by omega⟩
        simp only [Nat.add_sub_cancel] at *
        obtain ⟨c, hc⟩ : ∃ c, l[j]? = some c := ⟨_, List.getElem?_eq_getElem (by omega)⟩
        have hcs : contN n0 (l.take (j + 1)) = 64 * contN n0 (l.take j) + (c.toNat : Int) % 64 := contN_take hc
        have hcl := contN_le (l.take j) n0 hn1
        have hj2 : (l.take j).length = j := by rw [List.length_take]; omega
        rw [hj2] at hcl
        have hj3 : j ≤ 2 := by omega
        have hn31 : n0 ≤ 31 := by
          refine hn3 ?_
          omega
        have hpw : (n0 + 1) * 64 ^ j ≤ 131072 := by
          rcases (show j = 0 ∨ j = 1 ∨ j = 2 by omega) with rfl | rfl | rfl <;> simp only [Int.pow_zero, Int.pow_one, show (64:Int) ^ 1 = 64 from rfl, show (64:Int) ^ 2 = 4096 from rfl] <;> omega
        have hcw : (c.toNat : Int) < 256 := by have := c.toNat_lt; omega
        have hcm : (c.toNat : Int).tmod 64 = (c.toNat : Int) % 64 := Int.tmod_eq_emod_of_nonneg (by omega)
        have w1 : IntKind.i64.wrap (64 * contN n0 (l.take j)) = 64 * contN n0 (l.take j) := wrap_in (by omega) (by omega)
        have w2 : IntKind.i64.wrap (c.toNat : Int) = (c.toNat : Int) := wrap_in (by omega) (by omega)
        have w3 : IntKind.i64.wrap ((c.toNat : Int) % 64) = (c.toNat : Int) % 64 := wrap_in (by omega) (by omega)
        have w4 : IntKind.i64.wrap (64 * contN n0 (l.take j) + (c.toNat : Int) % 64) = contN n0 (l.take (j + 1)) := by
          rw [hcs]; exact wrap_in (by omega) (by omega)
        have w5 : IntKind.i64.wrap (((j + 1 : Nat) : Int) + 1) = ((j + 1 + 1 : Nat) : Int) := wrap_in (by omega) (by omega)
        repeat' first | simp only [Tryd.results106, Tryd.ntmps106, κt, wks, hdi, hc, hcm, w1, w2, w3, w4, w5, List.getElem?_cons_succ, List.length_cons, vcs, κa, κb, κc, κd, κe, κf, κg, κh, κi, κj, κk, κl, κm, reduceCtorEq, reduceIte, κn, κo, κp, κq, κr, κs, tys] | exact rfl | ((first | (refine call_val (g := ?_) ?_ ?_) | (refine call_valg (g := ?_) ?_ ?_)); rotate_left 1; (focus (simp only [Tryd.results106, Tryd.ntmps106, κt, wks, hdi, hc, hcm, w1, w2, w3, w4, w5, List.getElem?_cons_succ, List.length_cons, vcs, κa, κb, κc, κd, κe, κf, κg, κh, κi, κj, κk, κl, κm, reduceCtorEq, reduceIte, κn, κo, κp, κq, κr, κs, tys] <;> exact rfl))) | refine draw_end' (ps := [(5, 9)]) (by decide +kernel) (by simp only [List.forall_mem_cons, List.getD_cons_zero, List.getD_cons_succ, Tryd.results106, Tryd.ntmps106, κt, wks, hdi, hc, hcm, w1, w2, w3, w4, w5, List.getElem?_cons_succ, List.length_cons, vcs, κa, κb, κc, κd, κe, κf, κg, κh, κi, κj, κk, κl, κm, reduceCtorEq, reduceIte, κn, κo, κp, κq, κr, κs, tys] <;> (try simp) <;> (try omega)) ?_ | refine draw_end (by decide +kernel) ?_ | refine cond_bool (fun hb => ?_) (fun hb => ?_) | refine cond_bit (fun hb => ?_) (fun hb => ?_) | refine And.intro (by omega) ?_ | refine And.intro (fun hb => ?_) (fun hb => ?_) | fail
        ((refine again_can2 cxG (j + 1 + 1) [] ?_ ?_ ?_ ?_; rotate_left 2; (focus (show b0 ≤ _; omega)); (focus (refine ⟨?_, ?_⟩ <;> (try simp only [cans, hdi, hcm, w1, w2, w3, w4, w5, Nat.add_sub_cancel, show j + 2 - 1 = j + 1 from rfl, vcs, κa, κb, κc, κd, κe, κf, κg, κh, κi, κj, κk, κl, κm, reduceCtorEq, reduceIte, κn, κo, κp, κq, κr, κs, tys, injs]) <;> (try omega)))))
        all_goals (first | (show k - (j + 1 + 1) < k - (j + 1); omega) | (show 1 ≤ j + 1 + 1 ∧ j + 1 + 1 ≤ k; omega) | skip)
      · have hke : i = k := by omega
        subst hke
        have hdi : decide (i < i) = false := decide_eq_false (by omega)
        cases hm : may (contN n0 (l.take (i - 1))) with
        | false =>
          have ho : one (b :: l) = none := one_no hk (.inr (.inr ⟨by simp only [List.length_cons]; exact hkl, fun n hn hmn => by rw [hn, hN, hm] at hmn; cases hmn⟩))
          have e1 := oneZ_none ho
          have e2 := oneK_none ho
          ((repeat' first | simp only [Tryd.results106, Tryd.ntmps106, κt, wks, hdi, e1, e2, vcs, κa, κb, κc, κd, κe, κf, κg, κh, κi, κj, κk, κl, κm, reduceCtorEq, reduceIte, κn, κo, κp, κq, κr, κs, tys] | exact rfl | ((first | (refine call_fn ?_ ((by have := rMay_ev (contN n0 (l.take (i - 1))); rw [hm] at this; exact this _)) ?_) | (refine call_fn_g ?_ (fun _ => (by have := rMay_ev (contN n0 (l.take (i - 1))); rw [hm] at this; exact this _)) ?_)); (focus (simp only [Tryd.results106, Tryd.ntmps106, κt, wks, hdi, e1, e2, vcs, κa, κb, κc, κd, κe, κf, κg, κh, κi, κj, κk, κl, κm, reduceCtorEq, reduceIte, κn, κo, κp, κq, κr, κs, tys] <;> exact rfl))) | (refine call_off (v := .any) ?_) | (refine ext_toStr (v := ?_) (bs := ?_) ?_ ?_ ?_ ?_ ?_ ?_ ?_; rotate_left 2; (iterate 2 (focus (simp only [Tryd.results106, Tryd.ntmps106, κt, wks, hdi, e1, e2, vcs, κa, κb, κc, κd, κe, κf, κg, κh, κi, κj, κk, κl, κm, reduceCtorEq, reduceIte, κn, κo, κp, κq, κr, κs, tys]; done))); (focus (simp only [Tryd.results106, Tryd.ntmps106, κt, wks, hdi, e1, e2, vcs, κa, κb, κc, κd, κe, κf, κg, κh, κi, κj, κk, κl, κm, reduceCtorEq, reduceIte, κn, κo, κp, κq, κr, κs, tys] <;> exact rfl)); (focus (exact rfl)); (focus (simp only [mems, Tryd.results106, Tryd.ntmps106, κt, wks, hdi, e1, e2, vcs, κa, κb, κc, κd, κe, κf, κg, κh, κi, κj, κk, κl, κm, reduceCtorEq, reduceIte, κn, κo, κp, κq, κr, κs, tys]; done)); (focus (simp only [Tryd.results106, Tryd.ntmps106, κt, wks, hdi, e1, e2, vcs, κa, κb, κc, κd, κe, κf, κg, κh, κi, κj, κk, κl, κm, reduceCtorEq, reduceIte, κn, κo, κp, κq, κr, κs, tys] <;> exact rfl))) | (refine extG_true ?_) | (refine extG_false ?_) | ((first | (refine call_val (g := ?_) ?_ ?_) | (refine call_valg (g := ?_) ?_ ?_)); rotate_left 1; (focus (simp only [Tryd.results106, Tryd.ntmps106, κt, wks, hdi, e1, e2, vcs, κa, κb, κc, κd, κe, κf, κg, κh, κi, κj, κk, κl, κm, reduceCtorEq, reduceIte, κn, κo, κp, κq, κr, κs, tys] <;> exact rfl))) | refine draw_end' (ps := [(5, 9)]) (by decide +kernel) (by simp only [List.forall_mem_cons, List.getD_cons_zero, List.getD_cons_succ, Tryd.results106, Tryd.ntmps106, κt, wks, hdi, e1, e2, vcs, κa, κb, κc, κd, κe, κf, κg, κh, κi, κj, κk, κl, κm, reduceCtorEq, reduceIte, κn, κo, κp, κq, κr, κs, tys] <;> (try simp) <;> (try omega)) ?_ | refine draw_end (by decide +kernel) ?_ | refine cond_bool (fun hb => ?_) (fun hb => ?_) | refine cond_bit (fun hb => ?_) (fun hb => ?_) | refine And.intro (by omega) ?_ | refine And.intro (fun hb => ?_) (fun hb => ?_) | fail); (all_goals (first | (refine Fin.pure ?_ ?_ ?_ <;> (try simp only [Tryd.results106, Tryd.ntmps106, wks, hdi, e1, e2, vcs, κa, κb, κc, κd, κe, κf, κg, κh, κi, κj, κk, κl, κm, reduceCtorEq, reduceIte, κn, κo, κp, κq, κr, κs, tys]) <;> (try simp only [injs])) | skip)))
        | true =>
          have hc0 : ((l.length : Int) + 1) = ((l.length + 1 : Nat) : Int) := by omega
          have hsl : (i : Int) ≤ ((l.length + 1 : Nat) : Int) := by omega
          have hnn : i ≤ (b :: l).length := by simp only [List.length_cons]; exact hkl
          by_cases heq : encodeRune (contN n0 (l.take (i - 1))) = (b :: l).take i
          · have ho : one (b :: l) = some (contN n0 (l.take (i - 1)), i) := one_yes hm heq hnn
            have e1 := oneZ_some ho
            have e2 := oneK_some ho
            have hq : (encodeRune (contN n0 (l.take (i - 1))) == (b :: l).take i) = true := by rw [heq]; simp
            ((repeat' first | simp only [Tryd.results106, Tryd.ntmps106, κt, wks, hdi, e1, e2, hq, hnn, hsl, hkl, vcs, κa, κb, κc, κd, κe, κf, κg, κh, κi, κj, κk, κl, κm, reduceCtorEq, reduceIte, κn, κo, κp, κq, κr, κs, tys] | exact rfl | ((first | (refine call_fn ?_ ((by have := rMay_ev (contN n0 (l.take (i - 1))); rw [hm] at this; exact this _)) ?_) | (refine call_fn_g ?_ (fun _ => (by have := rMay_ev (contN n0 (l.take (i - 1))); rw [hm] at this; exact this _)) ?_) | (refine call_fn ?_ (rBytes_ev (contN n0 (l.take (i - 1))) hm _) ?_) | (refine call_fn_g ?_ (fun _ => rBytes_ev (contN n0 (l.take (i - 1))) hm _) ?_)); (focus (simp only [Tryd.results106, Tryd.ntmps106, κt, wks, hdi, e1, e2, hq, hnn, hsl, hkl, vcs, κa, κb, κc, κd, κe, κf, κg, κh, κi, κj, κk, κl, κm, reduceCtorEq, reduceIte, κn, κo, κp, κq, κr, κs, tys] <;> exact rfl))) | (refine ext_toStr (v := ?_) (bs := ?_) ?_ ?_ ?_ ?_ ?_ ?_ ?_; rotate_left 2; (iterate 2 (focus (simp only [Tryd.results106, Tryd.ntmps106, κt, wks, hdi, e1, e2, hq, hnn, hsl, hkl, vcs, κa, κb, κc, κd, κe, κf, κg, κh, κi, κj, κk, κl, κm, reduceCtorEq, reduceIte, κn, κo, κp, κq, κr, κs, tys]; done))); (focus (simp only [Tryd.results106, Tryd.ntmps106, κt, wks, hdi, e1, e2, hq, hnn, hsl, hkl, vcs, κa, κb, κc, κd, κe, κf, κg, κh, κi, κj, κk, κl, κm, reduceCtorEq, reduceIte, κn, κo, κp, κq, κr, κs, tys] <;> exact rfl)); (focus (exact rfl)); (focus (simp only [mems, Tryd.results106, Tryd.ntmps106, κt, wks, hdi, e1, e2, hq, hnn, hsl, hkl, vcs, κa, κb, κc, κd, κe, κf, κg, κh, κi, κj, κk, κl, κm, reduceCtorEq, reduceIte, κn, κo, κp, κq, κr, κs, tys]; done)); (focus (simp only [Tryd.results106, Tryd.ntmps106, κt, wks, hdi, e1, e2, hq, hnn, hsl, hkl, vcs, κa, κb, κc, κd, κe, κf, κg, κh, κi, κj, κk, κl, κm, reduceCtorEq, reduceIte, κn, κo, κp, κq, κr, κs, tys] <;> exact rfl))) | (refine extG_true ?_) | (refine extG_false ?_) | ((first | (refine call_val (g := ?_) ?_ ?_) | (refine call_valg (g := ?_) ?_ ?_)); rotate_left 1; (focus (simp only [Tryd.results106, Tryd.ntmps106, κt, wks, hdi, e1, e2, hq, hnn, hsl, hkl, vcs, κa, κb, κc, κd, κe, κf, κg, κh, κi, κj, κk, κl, κm, reduceCtorEq, reduceIte, κn, κo, κp, κq, κr, κs, tys] <;> exact rfl))) | refine draw_end' (ps := [(5, 9)]) (by decide +kernel) (by simp only [List.forall_mem_cons, List.getD_cons_zero, List.getD_cons_succ, Tryd.results106, Tryd.ntmps106, κt, wks, hdi, e1, e2, hq, hnn, hsl, hkl, vcs, κa, κb, κc, κd, κe, κf, κg, κh, κi, κj, κk, κl, κm, reduceCtorEq, reduceIte, κn, κo, κp, κq, κr, κs, tys] <;> (try simp) <;> (try omega)) ?_ | refine draw_end (by decide +kernel) ?_ | refine cond_bool (fun hb => ?_) (fun hb => ?_) | refine cond_bit (fun hb => ?_) (fun hb => ?_) | refine And.intro (by omega) ?_ | refine And.intro (fun hb => ?_) (fun hb => ?_) | fail); (all_goals (first | (refine Fin.pure ?_ ?_ ?_ <;> (try simp only [Tryd.results106, Tryd.ntmps106, wks, hdi, e1, e2, hq, hnn, hsl, hkl, vcs, κa, κb, κc, κd, κe, κf, κg, κh, κi, κj, κk, κl, κm, reduceCtorEq, reduceIte, κn, κo, κp, κq, κr, κs, tys]) <;> (try simp only [injs])) | skip)))
          · have ho : one (b :: l) = none := one_no hk (.inr (.inr ⟨hnn, fun n hn _ => by rw [hn, hN]; exact heq⟩))
            have e1 := oneZ_none ho
            have e2 := oneK_none ho
            have hq : (encodeRune (contN n0 (l.take (i - 1))) == (b :: l).take i) = false := beq_false_of_ne heq
            ((repeat' first | simp only [Tryd.results106, Tryd.ntmps106, κt, wks, hdi, e1, e2, hq, hnn, hsl, hkl, vcs, κa, κb, κc, κd, κe, κf, κg, κh, κi, κj, κk, κl, κm, reduceCtorEq, reduceIte, κn, κo, κp, κq, κr, κs, tys] | exact rfl | ((first | (refine call_fn ?_ ((by have := rMay_ev (contN n0 (l.take (i - 1))); rw [hm] at this; exact this _)) ?_) | (refine call_fn_g ?_ (fun _ => (by have := rMay_ev (contN n0 (l.take (i - 1))); rw [hm] at this; exact this _)) ?_) | (refine call_fn ?_ (rBytes_ev (contN n0 (l.take (i - 1))) hm _) ?_) | (refine call_fn_g ?_ (fun _ => rBytes_ev (contN n0 (l.take (i - 1))) hm _) ?_)); (focus (simp only [Tryd.results106, Tryd.ntmps106, κt, wks, hdi, e1, e2, hq, hnn, hsl, hkl, vcs, κa, κb, κc, κd, κe, κf, κg, κh, κi, κj, κk, κl, κm, reduceCtorEq, reduceIte, κn, κo, κp, κq, κr, κs, tys] <;> exact rfl))) | (refine ext_toStr (v := ?_) (bs := ?_) ?_ ?_ ?_ ?_ ?_ ?_ ?_; rotate_left 2; (iterate 2 (focus (simp only [Tryd.results106, Tryd.ntmps106, κt, wks, hdi, e1, e2, hq, hnn, hsl, hkl, vcs, κa, κb, κc, κd, κe, κf, κg, κh, κi, κj, κk, κl, κm, reduceCtorEq, reduceIte, κn, κo, κp, κq, κr, κs, tys]; done))); (focus (simp only [Tryd.results106, Tryd.ntmps106, κt, wks, hdi, e1, e2, hq, hnn, hsl, hkl, vcs, κa, κb, κc, κd, κe, κf, κg, κh, κi, κj, κk, κl, κm, reduceCtorEq, reduceIte, κn, κo, κp, κq, κr, κs, tys] <;> exact rfl)); (focus (exact rfl)); (focus (simp only [mems, Tryd.results106, Tryd.ntmps106, κt, wks, hdi, e1, e2, hq, hnn, hsl, hkl, vcs, κa, κb, κc, κd, κe, κf, κg, κh, κi, κj, κk, κl, κm, reduceCtorEq, reduceIte, κn, κo, κp, κq, κr, κs, tys]; done)); (focus (simp only [Tryd.results106, Tryd.ntmps106, κt, wks, hdi, e1, e2, hq, hnn, hsl, hkl, vcs, κa, κb, κc, κd, κe, κf, κg, κh, κi, κj, κk, κl, κm, reduceCtorEq, reduceIte, κn, κo, κp, κq, κr, κs, tys] <;> exact rfl))) | (refine extG_true ?_) | (refine extG_false ?_) | ((first | (refine call_val (g := ?_) ?_ ?_) | (refine call_valg (g := ?_) ?_ ?_)); rotate_left 1; (focus (simp only [Tryd.results106, Tryd.ntmps106, κt, wks, hdi, e1, e2, hq, hnn, hsl, hkl, vcs, κa, κb, κc, κd, κe, κf, κg, κh, κi, κj, κk, κl, κm, reduceCtorEq, reduceIte, κn, κo, κp, κq, κr, κs, tys] <;> exact rfl))) | refine draw_end' (ps := [(5, 9)]) (by decide +kernel) (by simp only [List.forall_mem_cons, List.getD_cons_zero, List.getD_cons_succ, Tryd.results106, Tryd.ntmps106, κt, wks, hdi, e1, e2, hq, hnn, hsl, hkl, vcs, κa, κb, κc, κd, κe, κf, κg, κh, κi, κj, κk, κl, κm, reduceCtorEq, reduceIte, κn, κo, κp, κq, κr, κs, tys] <;> (try simp) <;> (try omega)) ?_ | refine draw_end (by decide +kernel) ?_ | refine cond_bool (fun hb => ?_) (fun hb => ?_) | refine cond_bit (fun hb => ?_) (fun hb => ?_) | refine And.intro (by omega) ?_ | refine And.intro (fun hb => ?_) (fun hb => ?_) | fail); (all_goals (first | (refine Fin.pure ?_ ?_ ?_ <;> (try simp only [Tryd.results106, Tryd.ntmps106, wks, hdi, e1, e2, hq, hnn, hsl, hkl, vcs, κa, κb, κc, κd, κe, κf, κg, κh, κi, κj, κk, κl, κm, reduceCtorEq, reduceIte, κn, κo, κp, κq, κr, κs, tys]) <;> (try simp only [injs])) | skip)))
set_option maxRecDepth 100000 in
set_option maxHeartbeats 4000000 in
theorem rAll_ev (s : List UInt8) (hs : s.length ≤ 16384) (nm : Nat) : Ev cx 95 nm [.str s] Mem.nil (.tup [.sl false 1 (((dec s).getD []).map intRow), .bool (dec s).isSome]) [] := by
  refine ev_go (fun cargs w => Tryd.call95 cargs w) Tryd.func95 rfl mixed (by kernel_rfl) rfl ?_; intro b0 hb0
  repeat' first | simp only [Tryd.results95, Tryd.ntmps95, κt, wks, vcs, κa, κb, κc, κd, κe, κf, κg, κh, κi, κj, κk, κl, κm, reduceCtorEq, reduceIte, κn, κo, κp, κq, κr, κs, tys] | exact rfl | ((first | (refine call_val (g := ?_) ?_ ?_) | (refine call_valg (g := ?_) ?_ ?_)); rotate_left 1; (focus (simp only [Tryd.results95, Tryd.ntmps95, κt, wks, vcs, κa, κb, κc, κd, κe, κf, κg, κh, κi, κj, κk, κl, κm, reduceCtorEq, reduceIte, κn, κo, κp, κq, κr, κs, tys] <;> exact rfl))) | refine draw_end (by decide +kernel) ?_ | refine cond_bool (fun hb => ?_) (fun hb => ?_) | refine cond_bit (fun hb => ?_) (fun hb => ?_) | refine And.intro (by omega) ?_ | refine And.intro (fun hb => ?_) (fun hb => ?_) | fail
  (refine loop_can2 cxG (fun x : List UInt8 × List Int => x.1.length) (fun x => x.1.length + x.2.length ≤ s.length ∧ dec s = (dec x.1).map (x.2 ++ ·)) (b0 + 16) (fun x => [(0, .str x.1), (4, .own b0 0 x.2.length)]) (fun x => [(b0, ⟨1, x.2.map intRow⟩)]) ((s, [])) [none] ?_ ?_ ?_ ?_; rotate_left 1; (focus (show b0 ≤ _; omega)); (focus (refine ⟨?_, ?_⟩ <;> (try simp only [cans, isRow_inst, plain_i, List.map_nil, vcs, κa, κb, κc, κd, κe, κf, κg, κh, κi, κj, κk, κl, κm, reduceCtorEq, reduceIte, κn, κo, κp, κq, κr, κs, tys, injs]) <;> (try omega))); rotate_left 1)
  · refine ⟨by simp, ?_⟩
    cases dec s <;> rfl
  · rintro ⟨r, zs⟩ ⟨h1, h2⟩
    simp only at h1 h2
    have hr : r.length ≤ lim := by unfold lim; omega
    by_cases hne : r = []
    · subst hne
      have hd : (([] : List UInt8) == []) = true := rfl
      have e0 : dec s = some zs := by rw [h2, dec_nil]; simp
      have e1 : (dec s).isSome = true := by rw [e0]; rfl
      have e2 : (dec s).getD [] = zs := by rw [e0]; rfl
      ((repeat' first | simp only [Tryd.results95, Tryd.ntmps95, κt, wks, hd, e1, e2, plain_i, take_i, memL_cons, memL_nil, List.length_map, Nat.le_refl, vcs, κa, κb, κc, κd, κe, κf, κg, κh, κi, κj, κk, κl, κm, reduceCtorEq, reduceIte, κn, κo, κp, κq, κr, κs, tys] | exact rfl | ((first | (refine call_val (g := ?_) ?_ ?_) | (refine call_valg (g := ?_) ?_ ?_)); rotate_left 1; (focus (simp only [Tryd.results95, Tryd.ntmps95, κt, wks, hd, e1, e2, plain_i, take_i, memL_cons, memL_nil, List.length_map, Nat.le_refl, vcs, κa, κb, κc, κd, κe, κf, κg, κh, κi, κj, κk, κl, κm, reduceCtorEq, reduceIte, κn, κo, κp, κq, κr, κs, tys] <;> exact rfl))) | refine draw_end (by decide +kernel) ?_ | refine cond_bool (fun hb => ?_) (fun hb => ?_) | refine cond_bit (fun hb => ?_) (fun hb => ?_) | refine And.intro (by omega) ?_ | refine And.intro (fun hb => ?_) (fun hb => ?_) | fail); (all_goals (first | (refine Fin.pure ?_ ?_ ?_ <;> (try simp only [Tryd.results95, Tryd.ntmps95, wks, hd, e1, e2, plain_i, take_i, memL_cons, memL_nil, List.length_map, Nat.le_refl, vcs, κa, κb, κc, κd, κe, κf, κg, κh, κi, κj, κk, κl, κm, reduceCtorEq, reduceIte, κn, κo, κp, κq, κr, κs, tys]) <;> (try simp only [injs])) | skip)))
    · have hd : (r == []) = false := beq_false_of_ne hne
      cases ho : one r with
      | none =>
        have k1 := oneZ_none ho
        have k2 := oneK_none ho
        have e0 : dec s = none := by rw [h2, dec_bad hne ho]; rfl
        have e1 : (dec s).isSome = false := by rw [e0]; rfl
        have e2 : (dec s).getD [] = [] := by rw [e0]; rfl
        ((repeat' first | simp only [Tryd.results95, Tryd.ntmps95, κt, wks, hd, e1, e2, k1, k2, plain_i, List.map_nil, vcs, κa, κb, κc, κd, κe, κf, κg, κh, κi, κj, κk, κl, κm, reduceCtorEq, reduceIte, κn, κo, κp, κq, κr, κs, tys] | exact rfl | ((first | (refine call_fn ?_ (rOne_ev r hr _) ?_) | (refine call_fn_g ?_ (fun _ => rOne_ev r hr _) ?_)); (focus (simp only [Tryd.results95, Tryd.ntmps95, κt, wks, hd, e1, e2, k1, k2, plain_i, List.map_nil, vcs, κa, κb, κc, κd, κe, κf, κg, κh, κi, κj, κk, κl, κm, reduceCtorEq, reduceIte, κn, κo, κp, κq, κr, κs, tys] <;> exact rfl))) | ((first | (refine call_val (g := ?_) ?_ ?_) | (refine call_valg (g := ?_) ?_ ?_)); rotate_left 1; (focus (simp only [Tryd.results95, Tryd.ntmps95, κt, wks, hd, e1, e2, k1, k2, plain_i, List.map_nil, vcs, κa, κb, κc, κd, κe, κf, κg, κh, κi, κj, κk, κl, κm, reduceCtorEq, reduceIte, κn, κo, κp, κq, κr, κs, tys] <;> exact rfl))) | refine draw_end (by decide +kernel) ?_ | refine cond_bool (fun hb => ?_) (fun hb => ?_) | refine cond_bit (fun hb => ?_) (fun hb => ?_) | refine And.intro (by omega) ?_ | refine And.intro (fun hb => ?_) (fun hb => ?_) | fail); (all_goals (first | (refine Fin.pure ?_ ?_ ?_ <;> (try simp only [Tryd.results95, Tryd.ntmps95, wks, hd, e1, e2, k1, k2, plain_i, List.map_nil, vcs, κa, κb, κc, κd, κe, κf, κg, κh, κi, κj, κk, κl, κm, reduceCtorEq, reduceIte, κn, κo, κp, κq, κr, κs, tys]) <;> (try simp only [injs])) | skip)))
      | some p =>
        obtain ⟨z, k⟩ := p
        obtain ⟨_, hm, _, hk1, hk2⟩ := one_some ho
        have k1 := oneZ_some ho
        have k2 := oneK_some ho
        have hk0 : ((k : Int) == 0) = false := beq_false_of_ne (by omega)
        have hds : dec s = (dec (r.drop k)).map ((zs ++ [z]) ++ ·) := by
          rw [h2, dec_step ho]
          cases dec (r.drop k) <;> simp
        have hlen : (r.drop k).length = r.length - k := by simp
        have hsn : zs.map intRow ++ [[V.int .i64 z]] = (zs ++ [z]).map intRow := by simp [intRow]
        repeat' first | simp only [Tryd.results95, Tryd.ntmps95, κt, wks, hd, hk0, k1, k2, hk2, plain_i, hsn, List.map_nil, List.length_map, Nat.le_refl, Option.bind_some, Option.bind_none, vcs, κa, κb, κc, κd, κe, κf, κg, κh, κi, κj, κk, κl, κm, reduceCtorEq, reduceIte, κn, κo, κp, κq, κr, κs, tys] | exact rfl | ((first | (refine call_fn ?_ (rOne_ev r hr _) ?_) | (refine call_fn_g ?_ (fun _ => rOne_ev r hr _) ?_)); (focus (simp only [Tryd.results95, Tryd.ntmps95, κt, wks, hd, hk0, k1, k2, hk2, plain_i, hsn, List.map_nil, List.length_map, Nat.le_refl, Option.bind_some, Option.bind_none, vcs, κa, κb, κc, κd, κe, κf, κg, κh, κi, κj, κk, κl, κm, reduceCtorEq, reduceIte, κn, κo, κp, κq, κr, κs, tys] <;> exact rfl))) | ((first | (refine call_val (g := ?_) ?_ ?_) | (refine call_valg (g := ?_) ?_ ?_)); rotate_left 1; (focus (simp only [Tryd.results95, Tryd.ntmps95, κt, wks, hd, hk0, k1, k2, hk2, plain_i, hsn, List.map_nil, List.length_map, Nat.le_refl, Option.bind_some, Option.bind_none, vcs, κa, κb, κc, κd, κe, κf, κg, κh, κi, κj, κk, κl, κm, reduceCtorEq, reduceIte, κn, κo, κp, κq, κr, κs, tys] <;> exact rfl))) | refine draw_end (by decide +kernel) ?_ | refine cond_bool (fun hb => ?_) (fun hb => ?_) | refine cond_bit (fun hb => ?_) (fun hb => ?_) | refine And.intro (by omega) ?_ | refine And.intro (fun hb => ?_) (fun hb => ?_) | fail

        ((refine again_can2 cxG ((r.drop k, zs ++ [z])) [some (b0 + 240)] ?_ ?_ ?_ ?_; rotate_left 2; (focus (show b0 ≤ _; omega)); (focus (refine ⟨?_, ?_⟩ <;> (try simp only [cans, isRow_inst, plain_i, ren_ints, List.length_append, List.length_cons, List.length_nil, vcs, κa, κb, κc, κd, κe, κf, κg, κh, κi, κj, κk, κl, κm, reduceCtorEq, reduceIte, κn, κo, κp, κq, κr, κs, tys, injs]) <;> (try omega)))))
        all_goals (first | (show (r.drop k).length < r.length; omega) | exact ⟨by simp only [List.length_append, List.length_cons, List.length_nil]; omega, hds⟩ | skip)
theorem rIs_ev (s : List UInt8) (hs : s.length ≤ 16384) (nm : Nat) : Ev cx 81 nm [.str s] Mem.nil (.bool (dec s).isSome) [] := by
  refine ev_go (fun cargs w => Tryd.call81 cargs w) Tryd.func81 rfl mixed (by kernel_rfl) rfl ?_; intro b0 hb0
  ((repeat' first | simp only [Tryd.results81, Tryd.ntmps81, κt, wks, vcs, κa, κb, κc, κd, κe, κf, κg, κh, κi, κj, κk, κl, κm, reduceCtorEq, reduceIte, κn, κo, κp, κq, κr, κs, tys] | exact rfl | ((first | (refine call_fn ?_ (rAll_ev s hs _) ?_) | (refine call_fn_g ?_ (fun _ => rAll_ev s hs _) ?_)); (focus (simp only [Tryd.results81, Tryd.ntmps81, κt, wks, vcs, κa, κb, κc, κd, κe, κf, κg, κh, κi, κj, κk, κl, κm, reduceCtorEq, reduceIte, κn, κo, κp, κq, κr, κs, tys] <;> exact rfl))) | ((first | (refine call_val (g := ?_) ?_ ?_) | (refine call_valg (g := ?_) ?_ ?_)); rotate_left 1; (focus (simp only [Tryd.results81, Tryd.ntmps81, κt, wks, vcs, κa, κb, κc, κd, κe, κf, κg, κh, κi, κj, κk, κl, κm, reduceCtorEq, reduceIte, κn, κo, κp, κq, κr, κs, tys] <;> exact rfl))) | refine draw_end (by decide +kernel) ?_ | refine cond_bool (fun hb => ?_) (fun hb => ?_) | refine cond_bit (fun hb => ?_) (fun hb => ?_) | refine And.intro (by omega) ?_ | refine And.intro (fun hb => ?_) (fun hb => ?_) | fail); (all_goals (first | (refine Fin.pure ?_ ?_ ?_ <;> (try simp only [Tryd.results81, Tryd.ntmps81, wks, vcs, κa, κb, κc, κd, κe, κf, κg, κh, κi, κj, κk, κl, κm, reduceCtorEq, reduceIte, κn, κo, κp, κq, κr, κs, tys]) <;> (try simp only [injs])) | skip)))
theorem rCheck_ev (s : List UInt8) (hs : s.length ≤ lim) (nm : Nat) : Ev cx 56 nm [.str s] Mem.nil (.int .i64 (ptsErr s)) [] := by
  unfold lim at hs
  by_cases hb : 16384 < s.length
  · have hd : decide ((16384 : Int) < s.length) = true := decide_eq_true (by omega)
    have he : ptsErr s = 4 := by unfold ptsErr; rw [if_pos hb]
    refine ev_go (fun cargs w => Tryd.call56 cargs w) Tryd.func56 rfl mixed (by kernel_rfl) rfl ?_; intro b0 hb0
    ((repeat' first | simp only [Tryd.results56, Tryd.ntmps56, κt, wks, hd, he, vcs, κa, κb, κc, κd, κe, κf, κg, κh, κi, κj, κk, κl, κm, reduceCtorEq, reduceIte, κn, κo, κp, κq, κr, κs, tys] | exact rfl | ((first | (refine call_val (g := ?_) ?_ ?_) | (refine call_valg (g := ?_) ?_ ?_)); rotate_left 1; (focus (simp only [Tryd.results56, Tryd.ntmps56, κt, wks, hd, he, vcs, κa, κb, κc, κd, κe, κf, κg, κh, κi, κj, κk, κl, κm, reduceCtorEq, reduceIte, κn, κo, κp, κq, κr, κs, tys] <;> exact rfl))) | refine draw_end (by decide +kernel) ?_ | refine cond_bool (fun hb => ?_) (fun hb => ?_) | refine cond_bit (fun hb => ?_) (fun hb => ?_) | refine And.intro (by omega) ?_ | refine And.intro (fun hb => ?_) (fun hb => ?_) | fail); (all_goals (first | (refine Fin.pure ?_ ?_ ?_ <;> (try simp only [Tryd.results56, Tryd.ntmps56, wks, hd, he, vcs, κa, κb, κc, κd, κe, κf, κg, κh, κi, κj, κk, κl, κm, reduceCtorEq, reduceIte, κn, κo, κp, κq, κr, κs, tys]) <;> (try simp only [injs])) | skip)))
  · have hd : decide ((16384 : Int) < s.length) = false := decide_eq_false (by omega)
    cases hq : dec s with
    | none =>
      have he : ptsErr s = 50 := by unfold ptsErr; rw [if_neg hb, hq]
      have hi : (dec s).isSome = false := by rw [hq]; rfl
      have hev := rIs_ev s (by omega)
      rw [hi] at hev
      refine ev_go (fun cargs w => Tryd.call56 cargs w) Tryd.func56 rfl mixed (by kernel_rfl) rfl ?_; intro b0 hb0
      ((repeat' first | simp only [Tryd.results56, Tryd.ntmps56, κt, wks, hd, he, vcs, κa, κb, κc, κd, κe, κf, κg, κh, κi, κj, κk, κl, κm, reduceCtorEq, reduceIte, κn, κo, κp, κq, κr, κs, tys] | exact rfl | ((first | (refine call_fn ?_ (hev _) ?_) | (refine call_fn_g ?_ (fun _ => hev _) ?_)); (focus (simp only [Tryd.results56, Tryd.ntmps56, κt, wks, hd, he, vcs, κa, κb, κc, κd, κe, κf, κg, κh, κi, κj, κk, κl, κm, reduceCtorEq, reduceIte, κn, κo, κp, κq, κr, κs, tys] <;> exact rfl))) | ((first | (refine call_val (g := ?_) ?_ ?_) | (refine call_valg (g := ?_) ?_ ?_)); rotate_left 1; (focus (simp only [Tryd.results56, Tryd.ntmps56, κt, wks, hd, he, vcs, κa, κb, κc, κd, κe, κf, κg, κh, κi, κj, κk, κl, κm, reduceCtorEq, reduceIte, κn, κo, κp, κq, κr, κs, tys] <;> exact rfl))) | refine draw_end (by decide +kernel) ?_ | refine cond_bool (fun hb => ?_) (fun hb => ?_) | refine cond_bit (fun hb => ?_) (fun hb => ?_) | refine And.intro (by omega) ?_ | refine And.intro (fun hb => ?_) (fun hb => ?_) | fail); (all_goals (first | (refine Fin.pure ?_ ?_ ?_ <;> (try simp only [Tryd.results56, Tryd.ntmps56, wks, hd, he, vcs, κa, κb, κc, κd, κe, κf, κg, κh, κi, κj, κk, κl, κm, reduceCtorEq, reduceIte, κn, κo, κp, κq, κr, κs, tys]) <;> (try simp only [injs])) | skip)))
    | some zs =>
      have he : ptsErr s = 0 := by unfold ptsErr; rw [if_neg hb, hq]
      have hi : (dec s).isSome = true := by rw [hq]; rfl
      have hev := rIs_ev s (by omega)
      rw [hi] at hev
      refine ev_go (fun cargs w => Tryd.call56 cargs w) Tryd.func56 rfl mixed (by kernel_rfl) rfl ?_; intro b0 hb0
      ((repeat' first | simp only [Tryd.results56, Tryd.ntmps56, κt, wks, hd, he, vcs, κa, κb, κc, κd, κe, κf, κg, κh, κi, κj, κk, κl, κm, reduceCtorEq, reduceIte, κn, κo, κp, κq, κr, κs, tys] | exact rfl | ((first | (refine call_fn ?_ (hev _) ?_) | (refine call_fn_g ?_ (fun _ => hev _) ?_)); (focus (simp only [Tryd.results56, Tryd.ntmps56, κt, wks, hd, he, vcs, κa, κb, κc, κd, κe, κf, κg, κh, κi, κj, κk, κl, κm, reduceCtorEq, reduceIte, κn, κo, κp, κq, κr, κs, tys] <;> exact rfl))) | ((first | (refine call_val (g := ?_) ?_ ?_) | (refine call_valg (g := ?_) ?_ ?_)); rotate_left 1; (focus (simp only [Tryd.results56, Tryd.ntmps56, κt, wks, hd, he, vcs, κa, κb, κc, κd, κe, κf, κg, κh, κi, κj, κk, κl, κm, reduceCtorEq, reduceIte, κn, κo, κp, κq, κr, κs, tys] <;> exact rfl))) | refine draw_end (by decide +kernel) ?_ | refine cond_bool (fun hb => ?_) (fun hb => ?_) | refine cond_bit (fun hb => ?_) (fun hb => ?_) | refine And.intro (by omega) ?_ | refine And.intro (fun hb => ?_) (fun hb => ?_) | fail); (all_goals (first | (refine Fin.pure ?_ ?_ ?_ <;> (try simp only [Tryd.results56, Tryd.ntmps56, wks, hd, he, vcs, κa, κb, κc, κd, κe, κf, κg, κh, κi, κj, κk, κl, κm, reduceCtorEq, reduceIte, κn, κo, κp, κq, κr, κs, tys]) <;> (try simp only [injs])) | skip)))
end Go.Proofs.YtanahnknjboplaaDoor
/-
  Layer 9 by the machine: names, by the program and by the document's answer.
-/
namespace Go.Proofs.YtanahnknjboplaaDoor
set_option linter.unusedSimpArgs false
set_option linter.unusedVariables false
open Nat renaming reduceAdd → κa, reduceMul → κb, reduceEqDiff → κc, reduceLeDiff → κd, reduceSub → κe, reduceLT → κf, reduceBEq → κr, reduceBNe → κs, reducePow → κt
open Int renaming reduceToNat → κg, reduceLE → κh, reduceLT → κi, reduceAdd → κj, reduceSub → κk, reduceMul → κl, reduceNeg → κm, reduceBEq → κn, reduceBNe → κo, reduceEq → κp, reduceNe → κq
open Go Go.RowKit Go.Proofs.YtanahnknjboplaaDoor.Vm Go.Lib

theorem letter_leaves : ∀ p1 p2 p3 p4 p5 : Bool, (p1 = true ∧ p2 = true) ∨ (p1 = true ∧ p2 = false ∧ p3 = true ∧ p4 = true) ∨ (p1 = true ∧ p2 = false ∧ p3 = true ∧ p4 = false ∧ p5 = true) ∨ (p1 = true ∧ p2 = false ∧ p3 = true ∧ p4 = false ∧ p5 = false) ∨ (p1 = true ∧ p2 = false ∧ p3 = false ∧ p5 = true) ∨ (p1 = true ∧ p2 = false ∧ p3 = false ∧ p5 = false) ∨
    (p1 = false ∧ p3 = true ∧ p4 = true) ∨ (p1 = false ∧ p3 = true ∧ p4 = false ∧ p5 = true) ∨ (p1 = false ∧ p3 = true ∧ p4 = false ∧ p5 = false) ∨ (p1 = false ∧ p3 = false ∧ p5 = true) ∨ (p1 = false ∧ p3 = false ∧ p5 = false) := by
  intro p1 p2 p3 p4 p5; cases p1 <;> cases p2 <;> cases p3 <;> cases p4 <;> cases p5 <;> simp
theorem letB_eq {c : UInt8} {p1 p2 p3 p4 p5 : Bool} (h1 : decide ((97 : Int) ≤ c.toNat) = p1) (h2 : decide ((c.toNat : Int) ≤ 122) = p2) (h3 : decide ((65 : Int) ≤ c.toNat) = p3) (h4 : decide ((c.toNat : Int) ≤ 90) = p4) (h5 : decide (c = 95) = p5) : letB c = ((p1 && p2) || (p3 && p4) || p5) := by
  unfold letB
  rw [← h1, ← h2, ← h3, ← h4, ← h5]
  have e1 : ((97 : Int) ≤ c.toNat) = (97 ≤ c.toNat) := propext (by omega)
  have e2 : ((c.toNat : Int) ≤ 122) = (c.toNat ≤ 122) := propext (by omega)
  have e3 : ((65 : Int) ≤ c.toNat) = (65 ≤ c.toNat) := propext (by omega)
  have e4 : ((c.toNat : Int) ≤ 90) = (c.toNat ≤ 90) := propext (by omega)
  simp only [e1, e2, e3, e4]
set_option maxRecDepth 100000 in
theorem rLetter_ev (c : UInt8) (nm : Nat) : Ev cx 94 nm [.int .u8 c.toNat] Mem.nil (.bool (letB c)) [] := by
  have hq : ((c.toNat : Int) == 95) = decide (c = 95) := beq_byte c 95
  generalize h1 : decide ((97 : Int) ≤ c.toNat) = p1
  generalize h2 : decide ((c.toNat : Int) ≤ 122) = p2
  generalize h3 : decide ((65 : Int) ≤ c.toNat) = p3
  generalize h4 : decide ((c.toNat : Int) ≤ 90) = p4
  generalize h5 : decide (c = 95) = p5
  have he := letB_eq h1 h2 h3 h4 h5
  rcases letter_leaves p1 p2 p3 p4 p5 with ⟨rfl, rfl⟩ | ⟨rfl, rfl, rfl, rfl⟩ | ⟨rfl, rfl, rfl, rfl, rfl⟩ | ⟨rfl, rfl, rfl, rfl, rfl⟩ | ⟨rfl, rfl, rfl, rfl⟩ | ⟨rfl, rfl, rfl, rfl⟩ | ⟨rfl, rfl, rfl⟩ | ⟨rfl, rfl, rfl, rfl⟩ | ⟨rfl, rfl, rfl, rfl⟩ | ⟨rfl, rfl, rfl⟩ | ⟨rfl, rfl, rfl⟩
  all_goals simp only [Bool.true_and, Bool.false_and, Bool.and_false, Bool.true_or, Bool.or_true, Bool.false_or, Bool.or_false, Bool.and_true] at he
  all_goals (
    refine ev_go (fun cargs w => Tryd.call94 cargs w) Tryd.func94 rfl mixed (by kernel_rfl) rfl ?_; intro b0 hb0
    ((repeat' first | simp only [Tryd.results94, Tryd.ntmps94, κt, wks, hq, h1, h2, h3, h4, h5, he, vcs, κa, κb, κc, κd, κe, κf, κg, κh, κi, κj, κk, κl, κm, reduceCtorEq, reduceIte, κn, κo, κp, κq, κr, κs, tys] | exact rfl | ((first | (refine call_val (g := ?_) ?_ ?_) | (refine call_valg (g := ?_) ?_ ?_)); rotate_left 1; (focus (simp only [Tryd.results94, Tryd.ntmps94, κt, wks, hq, h1, h2, h3, h4, h5, he, vcs, κa, κb, κc, κd, κe, κf, κg, κh, κi, κj, κk, κl, κm, reduceCtorEq, reduceIte, κn, κo, κp, κq, κr, κs, tys] <;> exact rfl))) | refine draw_end (by decide +kernel) ?_ | refine cond_bool (fun hb => ?_) (fun hb => ?_) | refine cond_bit (fun hb => ?_) (fun hb => ?_) | refine And.intro (by omega) ?_ | refine And.intro (fun hb => ?_) (fun hb => ?_) | fail); (all_goals (first | (refine Fin.pure ?_ ?_ ?_ <;> (try simp only [Tryd.results94, Tryd.ntmps94, wks, hq, h1, h2, h3, h4, h5, he, vcs, κa, κb, κc, κd, κe, κf, κg, κh, κi, κj, κk, κl, κm, reduceCtorEq, reduceIte, κn, κo, κp, κq, κr, κs, tys]) <;> (try simp only [injs])) | skip))))
theorem orO : ∀ n : Nat, n < 256 → (decide (97 ≤ IntKind.u8.wrap ((BitVec.ofInt IntKind.u8.bits (n : Int) ||| BitVec.ofInt IntKind.u8.bits 32).toNat : Int)) && decide (IntKind.u8.wrap ((BitVec.ofInt IntKind.u8.bits (n : Int) ||| BitVec.ofInt IntKind.u8.bits 32).toNat : Int) ≤ 122)) = ((decide (97 ≤ n) && decide (n ≤ 122)) || (decide (65 ≤ n) && decide (n ≤ 90))) := by decide +kernel
theorem part_leaves : ∀ p1 p2 p5 f p6 p7 p8 p9 : Bool, (p1 = true ∧ p2 = true) ∨ (p1 = true ∧ p2 = false ∧ p5 = true) ∨ (p1 = false ∧ p5 = true) ∨ (p1 = true ∧ p2 = false ∧ p5 = false ∧ f = true) ∨ (p1 = false ∧ p5 = false ∧ f = true) ∨
    (p1 = true ∧ p2 = false ∧ p5 = false ∧ f = false ∧ p6 = true ∧ p7 = true) ∨ (p1 = true ∧ p2 = false ∧ p5 = false ∧ f = false ∧ p6 = true ∧ p7 = false ∧ p8 = true) ∨ (p1 = true ∧ p2 = false ∧ p5 = false ∧ f = false ∧ p6 = true ∧ p7 = false ∧ p8 = false) ∨
    (p1 = true ∧ p2 = false ∧ p5 = false ∧ f = false ∧ p6 = false ∧ p8 = true) ∨ (p1 = true ∧ p2 = false ∧ p5 = false ∧ f = false ∧ p6 = false ∧ p8 = false) ∨
    (p1 = false ∧ p5 = false ∧ f = false ∧ p6 = true ∧ p7 = true) ∨ (p1 = false ∧ p5 = false ∧ f = false ∧ p6 = true ∧ p7 = false ∧ p8 = true) ∨ (p1 = false ∧ p5 = false ∧ f = false ∧ p6 = true ∧ p7 = false ∧ p8 = false) ∨
    (p1 = false ∧ p5 = false ∧ f = false ∧ p6 = false ∧ p8 = true) ∨ (p1 = false ∧ p5 = false ∧ f = false ∧ p6 = false ∧ p8 = false) := by
  intro p1 p2 p5 f p6 p7 p8 p9; cases p1 <;> cases p2 <;> cases p5 <;> cases f <;> cases p6 <;> cases p7 <;> cases p8 <;> simp
theorem partB_eq {c : UInt8} {f p1 p2 p5 p6 p7 p8 p9 : Bool} (h1 : decide (97 ≤ IntKind.u8.wrap ((BitVec.ofInt IntKind.u8.bits (c.toNat : Int) ||| BitVec.ofInt IntKind.u8.bits 32).toNat : Int)) = p1) (h2 : decide (IntKind.u8.wrap ((BitVec.ofInt IntKind.u8.bits (c.toNat : Int) ||| BitVec.ofInt IntKind.u8.bits 32).toNat : Int) ≤ 122) = p2)
    (h5 : decide (c = 95) = p5) (h6 : decide ((48 : Int) ≤ c.toNat) = p6) (h7 : decide ((c.toNat : Int) ≤ 57) = p7) (h8 : decide (c = 46) = p8) (h9 : decide (c = 45) = p9) : partB f c = ((p1 && p2) || p5 || (!f && ((p6 && p7) || p8 || p9))) := by
  have e := orO c.toNat c.toNat_lt
  rw [h1, h2] at e
  unfold partB letB
  rw [← e, ← h5, ← h6, ← h7, ← h8, ← h9]
  have e1 : ((48 : Int) ≤ c.toNat) = (48 ≤ c.toNat) := propext (by omega)
  have e2 : ((c.toNat : Int) ≤ 57) = (c.toNat ≤ 57) := propext (by omega)
  simp only [e1, e2]
set_option maxRecDepth 100000 in
set_option maxHeartbeats 4000000 in
theorem part_ev (c : UInt8) (f : Bool) (nm : Nat) : Ev cx 89 nm [.int .u8 c.toNat, .bool f] Mem.nil (.bool (partB f c)) [] := by
  have q5 : ((c.toNat : Int) == 95) = decide (c = 95) := beq_byte c 95
  have q8 : ((c.toNat : Int) == 46) = decide (c = 46) := beq_byte c 46
  have q9 : ((c.toNat : Int) == 45) = decide (c = 45) := beq_byte c 45
  generalize h1 : decide (97 ≤ IntKind.u8.wrap ((BitVec.ofInt IntKind.u8.bits (c.toNat : Int) ||| BitVec.ofInt IntKind.u8.bits 32).toNat : Int)) = p1
  generalize h2 : decide (IntKind.u8.wrap ((BitVec.ofInt IntKind.u8.bits (c.toNat : Int) ||| BitVec.ofInt IntKind.u8.bits 32).toNat : Int) ≤ 122) = p2
  generalize h5 : decide (c = 95) = p5
  generalize h6 : decide ((48 : Int) ≤ c.toNat) = p6
  generalize h7 : decide ((c.toNat : Int) ≤ 57) = p7
  generalize h8 : decide (c = 46) = p8
  generalize h9 : decide (c = 45) = p9
  have he := partB_eq (f := f) h1 h2 h5 h6 h7 h8 h9
  rcases part_leaves p1 p2 p5 f p6 p7 p8 p9 with ⟨rfl, rfl⟩ | ⟨rfl, rfl, rfl⟩ | ⟨rfl, rfl⟩ | ⟨rfl, rfl, rfl, rfl⟩ | ⟨rfl, rfl, rfl⟩ | ⟨rfl, rfl, rfl, rfl, rfl, rfl⟩ | ⟨rfl, rfl, rfl, rfl, rfl, rfl, rfl⟩ | ⟨rfl, rfl, rfl, rfl, rfl, rfl, rfl⟩ | ⟨rfl, rfl, rfl, rfl, rfl, rfl⟩ | ⟨rfl, rfl, rfl, rfl, rfl, rfl⟩ | ⟨rfl, rfl, rfl, rfl, rfl⟩ | ⟨rfl, rfl, rfl, rfl, rfl, rfl⟩ | ⟨rfl, rfl, rfl, rfl, rfl, rfl⟩ | ⟨rfl, rfl, rfl, rfl, rfl⟩ | ⟨rfl, rfl, rfl, rfl, rfl⟩
  all_goals simp only [Bool.true_and, Bool.false_and, Bool.and_false, Bool.true_or, Bool.or_true, Bool.false_or, Bool.or_false, Bool.and_true, Bool.not_true, Bool.not_false] at he
  all_goals (
    refine ev_go (fun cargs w => Tryd.call89 cargs w) Tryd.func89 rfl mixed (by kernel_rfl) rfl ?_; intro b0 hb0
    ((repeat' first | simp only [Tryd.results89, Tryd.ntmps89, κt, wks, q5, q8, q9, h1, h2, h5, h6, h7, h8, h9, he, vcs, κa, κb, κc, κd, κe, κf, κg, κh, κi, κj, κk, κl, κm, reduceCtorEq, reduceIte, κn, κo, κp, κq, κr, κs, tys] | exact rfl | ((first | (refine call_val (g := ?_) ?_ ?_) | (refine call_valg (g := ?_) ?_ ?_)); rotate_left 1; (focus (simp only [Tryd.results89, Tryd.ntmps89, κt, wks, q5, q8, q9, h1, h2, h5, h6, h7, h8, h9, he, vcs, κa, κb, κc, κd, κe, κf, κg, κh, κi, κj, κk, κl, κm, reduceCtorEq, reduceIte, κn, κo, κp, κq, κr, κs, tys] <;> exact rfl))) | refine draw_end (by decide +kernel) ?_ | refine cond_bool (fun hb => ?_) (fun hb => ?_) | refine cond_bit (fun hb => ?_) (fun hb => ?_) | refine And.intro (by omega) ?_ | refine And.intro (fun hb => ?_) (fun hb => ?_) | fail); (all_goals (first | (refine Fin.pure ?_ ?_ ?_ <;> (try simp only [Tryd.results89, Tryd.ntmps89, wks, q5, q8, q9, h1, h2, h5, h6, h7, h8, h9, he, vcs, κa, κb, κc, κd, κe, κf, κg, κh, κi, κj, κk, κl, κm, reduceCtorEq, reduceIte, κn, κo, κp, κq, κr, κs, tys]) <;> (try simp only [injs])) | skip))))
end Go.Proofs.YtanahnknjboplaaDoor
/-
  Layer 9 by the machine: names, full names, texts cut at a byte.
-/
namespace Go.Proofs.YtanahnknjboplaaDoor
set_option linter.unusedSimpArgs false
set_option linter.unusedVariables false
open Nat renaming reduceAdd → κa, reduceMul → κb, reduceEqDiff → κc, reduceLeDiff → κd, reduceSub → κe, reduceLT → κf, reduceBEq → κr, reduceBNe → κs, reducePow → κt
open Int renaming reduceToNat → κg, reduceLE → κh, reduceLT → κi, reduceAdd → κj, reduceSub → κk, reduceMul → κl, reduceNeg → κm, reduceBEq → κn, reduceBNe → κo, reduceEq → κp, reduceNe → κq
open Go Go.RowKit Go.Proofs.YtanahnknjboplaaDoor.Vm Go.Lib

theorem rname_leaves : ∀ l z a b p8 p9 : Bool, (l = true) ∨ (l = false ∧ z = true) ∨ (l = false ∧ z = false ∧ a = true ∧ p8 = true) ∨ (l = false ∧ z = false ∧ a = true ∧ p8 = false ∧ p9 = true) ∨ (l = false ∧ z = false ∧ a = true ∧ p8 = false ∧ p9 = false) ∨
    (l = false ∧ z = false ∧ a = false ∧ b = true ∧ p8 = true) ∨ (l = false ∧ z = false ∧ a = false ∧ b = true ∧ p8 = false ∧ p9 = true) ∨ (l = false ∧ z = false ∧ a = false ∧ b = true ∧ p8 = false ∧ p9 = false) ∨ (l = false ∧ z = false ∧ a = false ∧ b = false) := by
  intro l z a b p8 p9; cases l <;> cases z <;> cases a <;> cases b <;> cases p8 <;> cases p9 <;> simp
theorem partB_eq2 {c : UInt8} {f l a b p8 p9 : Bool} (h1 : letB c = l) (h2 : decide ((c.toNat : Int) < 48) = a) (h3 : decide ((57 : Int) < c.toNat) = b) (h8 : decide (c = 46) = p8) (h9 : decide (c = 45) = p9) : partB f c = (l || (!f && ((!a && !b) || p8 || p9))) := by
  unfold partB
  rw [h1, ← h2, ← h3, ← h8, ← h9]
  have e1 : decide (48 ≤ c.toNat) = !decide ((c.toNat : Int) < 48) := by rw [Bool.eq_iff_iff]; simp; omega
  have e2 : decide (c.toNat ≤ 57) = !decide ((57 : Int) < c.toNat) := by rw [Bool.eq_iff_iff]; simp; omega
  rw [e1, e2]
theorem namedTo_succ {s : List UInt8} {k : Nat} {c : UInt8} (h : namedTo s k) (hc : s[k]? = some c) (hp : partB (k == 0) c = true) : namedTo s (k + 1) := by
  intro i x hi hx
  by_cases e : i = k
  · subst e; rw [hc] at hx; cases hx; exact hp
  · exact h i x (by omega) hx
theorem zero_int (k : Nat) : ((k : Int) == 0) = (k == 0) := by
  rw [Bool.eq_iff_iff, beq_iff_eq, beq_iff_eq]; omega
set_option maxRecDepth 100000 in
set_option maxHeartbeats 4000000 in
theorem rName_ev (s : List UInt8) (hs : s.length ≤ lim) (nm : Nat) : Ev cx 79 nm [.str s] Mem.nil (.bool (nameL s)) [] := by
  unfold lim at hs
  refine ev_go (fun cargs w => Tryd.call79 cargs w) Tryd.func79 rfl mixed (by kernel_rfl) rfl ?_; intro b0 hb0
  repeat' first | simp only [Tryd.results79, Tryd.ntmps79, κt, wks, vcs, κa, κb, κc, κd, κe, κf, κg, κh, κi, κj, κk, κl, κm, reduceCtorEq, reduceIte, κn, κo, κp, κq, κr, κs, tys] | exact rfl | ((first | (refine call_val (g := ?_) ?_ ?_) | (refine call_valg (g := ?_) ?_ ?_)); rotate_left 1; (focus (simp only [Tryd.results79, Tryd.ntmps79, κt, wks, vcs, κa, κb, κc, κd, κe, κf, κg, κh, κi, κj, κk, κl, κm, reduceCtorEq, reduceIte, κn, κo, κp, κq, κr, κs, tys] <;> exact rfl))) | refine draw_end (by decide +kernel) ?_ | refine cond_bool (fun hb => ?_) (fun hb => ?_) | refine cond_bit (fun hb => ?_) (fun hb => ?_) | refine And.intro (by omega) ?_ | refine And.intro (fun hb => ?_) (fun hb => ?_) | fail
  (refine loop_can2 cxG (fun x : Nat => s.length - x) (fun x => x ≤ s.length ∧ namedTo s x) (b0 + 16) (fun x => [(0, .str s), (3, .int .i64 x)]) (fun x => []) (0) [] ?_ ?_ ?_ ?_; rotate_left 1; (focus (show b0 ≤ _; omega)); (focus (refine ⟨?_, ?_⟩ <;> (try simp only [cans, vcs, κa, κb, κc, κd, κe, κf, κg, κh, κi, κj, κk, κl, κm, reduceCtorEq, reduceIte, κn, κo, κp, κq, κr, κs, tys, injs]) <;> (try omega))); rotate_left 1)
  · exact ⟨Nat.zero_le _, fun i c hi => by omega⟩
  · rintro k ⟨hk, hn⟩
    by_cases hlt : k < s.length
    · obtain ⟨c, hc⟩ : ∃ c, s[k]? = some c := ⟨_, List.getElem?_eq_getElem hlt⟩
      have hd : decide (k < s.length) = true := decide_eq_true hlt
      have hwk : IntKind.i64.wrap ((k : Int) + 1) = ((k + 1 : Nat) : Int) := wrap_in (by omega) (by omega)
      have hle := rLetter_ev c
      have q8 : ((c.toNat : Int) != 46) = !decide (c = 46) := congrArg not (beq_byte c 46)
      have q9 : ((c.toNat : Int) != 45) = !decide (c = 45) := congrArg not (beq_byte c 45)
      have qz := zero_int k
      generalize h1 : letB c = l at hle
      generalize h2 : decide ((c.toNat : Int) < 48) = a
      generalize h3 : decide ((57 : Int) < c.toNat) = b
      generalize h8 : decide (c = 46) = p8
      generalize h9 : decide (c = 45) = p9
      have he := partB_eq2 (f := k == 0) h1 h2 h3 h8 h9
      cases hp : partB (k == 0) c with
      | false =>
        have hnf := nameL_false hc hp
        rw [hp] at he
        generalize hz : (k == 0) = z at he qz
        rcases rname_leaves l z a b p8 p9 with rfl | ⟨rfl, rfl⟩ | ⟨rfl, rfl, rfl, rfl⟩ | ⟨rfl, rfl, rfl, rfl, rfl⟩ | ⟨rfl, rfl, rfl, rfl, rfl⟩ | ⟨rfl, rfl, rfl, rfl, rfl⟩ | ⟨rfl, rfl, rfl, rfl, rfl, rfl⟩ | ⟨rfl, rfl, rfl, rfl, rfl, rfl⟩ | ⟨rfl, rfl, rfl, rfl⟩
        all_goals (try (exfalso; simp at he; done))
        all_goals (((repeat' first | simp only [Tryd.results79, Tryd.ntmps79, κt, wks, hc, hd, hlt, hnf, q8, q9, qz, h2, h3, h8, h9, Bool.not_true, Bool.not_false, vcs, κa, κb, κc, κd, κe, κf, κg, κh, κi, κj, κk, κl, κm, reduceCtorEq, reduceIte, κn, κo, κp, κq, κr, κs, tys] | exact rfl | ((first | (refine call_fn ?_ (hle _) ?_) | (refine call_fn_g ?_ (fun _ => hle _) ?_)); (focus (simp only [Tryd.results79, Tryd.ntmps79, κt, wks, hc, hd, hlt, hnf, q8, q9, qz, h2, h3, h8, h9, Bool.not_true, Bool.not_false, vcs, κa, κb, κc, κd, κe, κf, κg, κh, κi, κj, κk, κl, κm, reduceCtorEq, reduceIte, κn, κo, κp, κq, κr, κs, tys] <;> exact rfl))) | ((first | (refine call_val (g := ?_) ?_ ?_) | (refine call_valg (g := ?_) ?_ ?_)); rotate_left 1; (focus (simp only [Tryd.results79, Tryd.ntmps79, κt, wks, hc, hd, hlt, hnf, q8, q9, qz, h2, h3, h8, h9, Bool.not_true, Bool.not_false, vcs, κa, κb, κc, κd, κe, κf, κg, κh, κi, κj, κk, κl, κm, reduceCtorEq, reduceIte, κn, κo, κp, κq, κr, κs, tys] <;> exact rfl))) | refine draw_end (by decide +kernel) ?_ | refine cond_bool (fun hb => ?_) (fun hb => ?_) | refine cond_bit (fun hb => ?_) (fun hb => ?_) | refine And.intro (by omega) ?_ | refine And.intro (fun hb => ?_) (fun hb => ?_) | fail); (all_goals (first | (refine Fin.pure ?_ ?_ ?_ <;> (try simp only [Tryd.results79, Tryd.ntmps79, wks, hc, hd, hlt, hnf, q8, q9, qz, h2, h3, h8, h9, Bool.not_true, Bool.not_false, vcs, κa, κb, κc, κd, κe, κf, κg, κh, κi, κj, κk, κl, κm, reduceCtorEq, reduceIte, κn, κo, κp, κq, κr, κs, tys]) <;> (try simp only [injs])) | skip))))
      | true =>
        have hn' := namedTo_succ hn hc hp
        rw [hp] at he
        generalize hz : (k == 0) = z at he qz
        rcases rname_leaves l z a b p8 p9 with rfl | ⟨rfl, rfl⟩ | ⟨rfl, rfl, rfl, rfl⟩ | ⟨rfl, rfl, rfl, rfl, rfl⟩ | ⟨rfl, rfl, rfl, rfl, rfl⟩ | ⟨rfl, rfl, rfl, rfl, rfl⟩ | ⟨rfl, rfl, rfl, rfl, rfl, rfl⟩ | ⟨rfl, rfl, rfl, rfl, rfl, rfl⟩ | ⟨rfl, rfl, rfl, rfl⟩
        all_goals (try (exfalso; simp at he; done))
        all_goals (repeat' first | simp only [Tryd.results79, Tryd.ntmps79, κt, wks, hc, hd, hlt, hwk, q8, q9, qz, h2, h3, h8, h9, Bool.not_true, Bool.not_false, vcs, κa, κb, κc, κd, κe, κf, κg, κh, κi, κj, κk, κl, κm, reduceCtorEq, reduceIte, κn, κo, κp, κq, κr, κs, tys] | exact rfl | ((first | (refine call_fn ?_ (hle _) ?_) | (refine call_fn_g ?_ (fun _ => hle _) ?_)); (focus (simp only [Tryd.results79, Tryd.ntmps79, κt, wks, hc, hd, hlt, hwk, q8, q9, qz, h2, h3, h8, h9, Bool.not_true, Bool.not_false, vcs, κa, κb, κc, κd, κe, κf, κg, κh, κi, κj, κk, κl, κm, reduceCtorEq, reduceIte, κn, κo, κp, κq, κr, κs, tys] <;> exact rfl))) | ((first | (refine call_val (g := ?_) ?_ ?_) | (refine call_valg (g := ?_) ?_ ?_)); rotate_left 1; (focus (simp only [Tryd.results79, Tryd.ntmps79, κt, wks, hc, hd, hlt, hwk, q8, q9, qz, h2, h3, h8, h9, Bool.not_true, Bool.not_false, vcs, κa, κb, κc, κd, κe, κf, κg, κh, κi, κj, κk, κl, κm, reduceCtorEq, reduceIte, κn, κo, κp, κq, κr, κs, tys] <;> exact rfl))) | refine draw_end (by decide +kernel) ?_ | refine cond_bool (fun hb => ?_) (fun hb => ?_) | refine cond_bit (fun hb => ?_) (fun hb => ?_) | refine And.intro (by omega) ?_ | refine And.intro (fun hb => ?_) (fun hb => ?_) | fail)
        all_goals ((refine again_can2 cxG (k + 1) [] ?_ ?_ ?_ ?_; rotate_left 2; (focus (show b0 ≤ _; omega)); (focus (refine ⟨?_, ?_⟩ <;> (try simp only [cans, hwk, vcs, κa, κb, κc, κd, κe, κf, κg, κh, κi, κj, κk, κl, κm, reduceCtorEq, reduceIte, κn, κo, κp, κq, κr, κs, tys, injs]) <;> (try omega)))))
        all_goals (first | (show s.length - (k + 1) < s.length - k; omega) | exact ⟨hlt, hn'⟩ | skip)
    · have hke : k = s.length := by omega
      subst hke
      have hd : decide (s.length < s.length) = false := decide_eq_false (by omega)
      by_cases hne : s = []
      · subst hne
        have hb : (([] : List UInt8) == []) = true := rfl
        have e : nameL [] = false := rfl
        ((repeat' first | simp only [Tryd.results79, Tryd.ntmps79, κt, wks, hd, hb, e, vcs, κa, κb, κc, κd, κe, κf, κg, κh, κi, κj, κk, κl, κm, reduceCtorEq, reduceIte, κn, κo, κp, κq, κr, κs, tys] | exact rfl | ((first | (refine call_val (g := ?_) ?_ ?_) | (refine call_valg (g := ?_) ?_ ?_)); rotate_left 1; (focus (simp only [Tryd.results79, Tryd.ntmps79, κt, wks, hd, hb, e, vcs, κa, κb, κc, κd, κe, κf, κg, κh, κi, κj, κk, κl, κm, reduceCtorEq, reduceIte, κn, κo, κp, κq, κr, κs, tys] <;> exact rfl))) | refine draw_end (by decide +kernel) ?_ | refine cond_bool (fun hb => ?_) (fun hb => ?_) | refine cond_bit (fun hb => ?_) (fun hb => ?_) | refine And.intro (by omega) ?_ | refine And.intro (fun hb => ?_) (fun hb => ?_) | fail); (all_goals (first | (refine Fin.pure ?_ ?_ ?_ <;> (try simp only [Tryd.results79, Tryd.ntmps79, wks, hd, hb, e, vcs, κa, κb, κc, κd, κe, κf, κg, κh, κi, κj, κk, κl, κm, reduceCtorEq, reduceIte, κn, κo, κp, κq, κr, κs, tys]) <;> (try simp only [injs])) | skip)))
      · have hb : (s == []) = false := beq_false_of_ne hne
        have e := nameL_true hne hn
        ((repeat' first | simp only [Tryd.results79, Tryd.ntmps79, κt, wks, hd, hb, e, vcs, κa, κb, κc, κd, κe, κf, κg, κh, κi, κj, κk, κl, κm, reduceCtorEq, reduceIte, κn, κo, κp, κq, κr, κs, tys] | exact rfl | ((first | (refine call_val (g := ?_) ?_ ?_) | (refine call_valg (g := ?_) ?_ ?_)); rotate_left 1; (focus (simp only [Tryd.results79, Tryd.ntmps79, κt, wks, hd, hb, e, vcs, κa, κb, κc, κd, κe, κf, κg, κh, κi, κj, κk, κl, κm, reduceCtorEq, reduceIte, κn, κo, κp, κq, κr, κs, tys] <;> exact rfl))) | refine draw_end (by decide +kernel) ?_ | refine cond_bool (fun hb => ?_) (fun hb => ?_) | refine cond_bit (fun hb => ?_) (fun hb => ?_) | refine And.intro (by omega) ?_ | refine And.intro (fun hb => ?_) (fun hb => ?_) | fail); (all_goals (first | (refine Fin.pure ?_ ?_ ?_ <;> (try simp only [Tryd.results79, Tryd.ntmps79, wks, hd, hb, e, vcs, κa, κb, κc, κd, κe, κf, κg, κh, κi, κj, κk, κl, κm, reduceCtorEq, reduceIte, κn, κo, κp, κq, κr, κs, tys]) <;> (try simp only [injs])) | skip)))
theorem empty_f {s : List UInt8} (h : s ≠ []) : s.isEmpty = false := by cases s with | nil => exact absurd rfl h | cons => rfl
set_option maxRecDepth 100000 in
set_option maxHeartbeats 4000000 in
theorem name_ev (s : List UInt8) (hs : s.length ≤ lim) (nm : Nat) : Ev cx 69 nm [.str s] Mem.nil (.bool (nameL s)) [] := by
  unfold lim at hs
  have hb : (s == []) = s.isEmpty := by cases s <;> rfl
  refine ev_go (fun cargs w => Tryd.call69 cargs w) Tryd.func69 rfl mixed (by kernel_rfl) rfl ?_; intro b0 hb0
  repeat' first | simp only [Tryd.results69, Tryd.ntmps69, κt, wks, hb, vcs, κa, κb, κc, κd, κe, κf, κg, κh, κi, κj, κk, κl, κm, reduceCtorEq, reduceIte, κn, κo, κp, κq, κr, κs, tys] | exact rfl | ((first | (refine call_val (g := ?_) ?_ ?_) | (refine call_valg (g := ?_) ?_ ?_)); rotate_left 1; (focus (simp only [Tryd.results69, Tryd.ntmps69, κt, wks, hb, vcs, κa, κb, κc, κd, κe, κf, κg, κh, κi, κj, κk, κl, κm, reduceCtorEq, reduceIte, κn, κo, κp, κq, κr, κs, tys] <;> exact rfl))) | refine draw_end (by decide +kernel) ?_ | refine cond_bool (fun hb => ?_) (fun hb => ?_) | refine cond_bit (fun hb => ?_) (fun hb => ?_) | refine And.intro (by omega) ?_ | refine And.intro (fun hb => ?_) (fun hb => ?_) | fail
  (refine loop_can2 cxG (fun x : Nat => s.length - x) (fun x => x ≤ s.length ∧ namedTo s x) (b0 + 16) (fun x => [(0, .str s), (3, .bool (!s.isEmpty)), (8, .int .i64 s.length), (9, .int .i64 x)]) (fun x => []) (0) [] ?_ ?_ ?_ ?_; rotate_left 1; (focus (show b0 ≤ _; omega)); (focus (refine ⟨?_, ?_⟩ <;> (try simp only [cans, vcs, κa, κb, κc, κd, κe, κf, κg, κh, κi, κj, κk, κl, κm, reduceCtorEq, reduceIte, κn, κo, κp, κq, κr, κs, tys, injs]) <;> (try omega))); rotate_left 1)
  · exact ⟨Nat.zero_le _, fun i c hi => by omega⟩
  · rintro k ⟨hk, hn⟩
    by_cases hlt : k < s.length
    · obtain ⟨c, hc⟩ : ∃ c, s[k]? = some c := ⟨_, List.getElem?_eq_getElem hlt⟩
      have hne : s ≠ [] := by rintro rfl; simp at hlt
      have hie := empty_f hne
      have hd : decide (k < s.length) = true := decide_eq_true hlt
      have hwk : IntKind.i64.wrap ((k : Int) + 1) = ((k + 1 : Nat) : Int) := wrap_in (by omega) (by omega)
      have hle := part_ev c (k == 0)
      have qz := zero_int k
      cases hp : partB (k == 0) c with
      | false =>
        have hnf := nameL_false hc hp
        rw [hp] at hle
        ((repeat' first | simp only [Tryd.results69, Tryd.ntmps69, κt, wks, hc, hd, hlt, hie, hnf, qz, vcs, κa, κb, κc, κd, κe, κf, κg, κh, κi, κj, κk, κl, κm, reduceCtorEq, reduceIte, κn, κo, κp, κq, κr, κs, tys] | exact rfl | ((first | (refine call_fn ?_ (hle _) ?_) | (refine call_fn_g ?_ (fun _ => hle _) ?_)); (focus (simp only [Tryd.results69, Tryd.ntmps69, κt, wks, hc, hd, hlt, hie, hnf, qz, vcs, κa, κb, κc, κd, κe, κf, κg, κh, κi, κj, κk, κl, κm, reduceCtorEq, reduceIte, κn, κo, κp, κq, κr, κs, tys] <;> exact rfl))) | ((first | (refine call_val (g := ?_) ?_ ?_) | (refine call_valg (g := ?_) ?_ ?_)); rotate_left 1; (focus (simp only [Tryd.results69, Tryd.ntmps69, κt, wks, hc, hd, hlt, hie, hnf, qz, vcs, κa, κb, κc, κd, κe, κf, κg, κh, κi, κj, κk, κl, κm, reduceCtorEq, reduceIte, κn, κo, κp, κq, κr, κs, tys] <;> exact rfl))) | refine draw_end (by decide +kernel) ?_ | refine cond_bool (fun hb => ?_) (fun hb => ?_) | refine cond_bit (fun hb => ?_) (fun hb => ?_) | refine And.intro (by omega) ?_ | refine And.intro (fun hb => ?_) (fun hb => ?_) | fail); (all_goals (first | (refine Fin.pure ?_ ?_ ?_ <;> (try simp only [Tryd.results69, Tryd.ntmps69, wks, hc, hd, hlt, hie, hnf, qz, vcs, κa, κb, κc, κd, κe, κf, κg, κh, κi, κj, κk, κl, κm, reduceCtorEq, reduceIte, κn, κo, κp, κq, κr, κs, tys]) <;> (try simp only [injs])) | skip)))
      | true =>
        have hn' := namedTo_succ hn hc hp
        rw [hp] at hle
        repeat' first | simp only [Tryd.results69, Tryd.ntmps69, κt, wks, hc, hd, hlt, hwk, hie, qz, vcs, κa, κb, κc, κd, κe, κf, κg, κh, κi, κj, κk, κl, κm, reduceCtorEq, reduceIte, κn, κo, κp, κq, κr, κs, tys] | exact rfl | ((first | (refine call_fn ?_ (hle _) ?_) | (refine call_fn_g ?_ (fun _ => hle _) ?_)); (focus (simp only [Tryd.results69, Tryd.ntmps69, κt, wks, hc, hd, hlt, hwk, hie, qz, vcs, κa, κb, κc, κd, κe, κf, κg, κh, κi, κj, κk, κl, κm, reduceCtorEq, reduceIte, κn, κo, κp, κq, κr, κs, tys] <;> exact rfl))) | ((first | (refine call_val (g := ?_) ?_ ?_) | (refine call_valg (g := ?_) ?_ ?_)); rotate_left 1; (focus (simp only [Tryd.results69, Tryd.ntmps69, κt, wks, hc, hd, hlt, hwk, hie, qz, vcs, κa, κb, κc, κd, κe, κf, κg, κh, κi, κj, κk, κl, κm, reduceCtorEq, reduceIte, κn, κo, κp, κq, κr, κs, tys] <;> exact rfl))) | refine draw_end (by decide +kernel) ?_ | refine cond_bool (fun hb => ?_) (fun hb => ?_) | refine cond_bit (fun hb => ?_) (fun hb => ?_) | refine And.intro (by omega) ?_ | refine And.intro (fun hb => ?_) (fun hb => ?_) | fail
        all_goals ((refine again_can2 cxG (k + 1) [] ?_ ?_ ?_ ?_; rotate_left 2; (focus (show b0 ≤ _; omega)); (focus (refine ⟨?_, ?_⟩ <;> (try simp only [cans, hwk, hie, vcs, κa, κb, κc, κd, κe, κf, κg, κh, κi, κj, κk, κl, κm, reduceCtorEq, reduceIte, κn, κo, κp, κq, κr, κs, tys, injs]) <;> (try omega)))))
        all_goals (first | (show s.length - (k + 1) < s.length - k; omega) | exact ⟨hlt, hn'⟩ | skip)
    · have hke : k = s.length := by omega
      subst hke
      have hd : decide (s.length < s.length) = false := decide_eq_false (by omega)
      by_cases hne : s = []
      · subst hne
        have e : nameL [] = false := rfl
        ((repeat' first | simp only [Tryd.results69, Tryd.ntmps69, κt, wks, hd, List.isEmpty_nil, e, vcs, κa, κb, κc, κd, κe, κf, κg, κh, κi, κj, κk, κl, κm, reduceCtorEq, reduceIte, κn, κo, κp, κq, κr, κs, tys] | exact rfl | ((first | (refine call_val (g := ?_) ?_ ?_) | (refine call_valg (g := ?_) ?_ ?_)); rotate_left 1; (focus (simp only [Tryd.results69, Tryd.ntmps69, κt, wks, hd, List.isEmpty_nil, e, vcs, κa, κb, κc, κd, κe, κf, κg, κh, κi, κj, κk, κl, κm, reduceCtorEq, reduceIte, κn, κo, κp, κq, κr, κs, tys] <;> exact rfl))) | refine draw_end (by decide +kernel) ?_ | refine cond_bool (fun hb => ?_) (fun hb => ?_) | refine cond_bit (fun hb => ?_) (fun hb => ?_) | refine And.intro (by omega) ?_ | refine And.intro (fun hb => ?_) (fun hb => ?_) | fail); (all_goals (first | (refine Fin.pure ?_ ?_ ?_ <;> (try simp only [Tryd.results69, Tryd.ntmps69, wks, hd, List.isEmpty_nil, e, vcs, κa, κb, κc, κd, κe, κf, κg, κh, κi, κj, κk, κl, κm, reduceCtorEq, reduceIte, κn, κo, κp, κq, κr, κs, tys]) <;> (try simp only [injs])) | skip)))
      · have hie := empty_f hne
        have e := nameL_true hne hn
        ((repeat' first | simp only [Tryd.results69, Tryd.ntmps69, κt, wks, hd, hie, e, vcs, κa, κb, κc, κd, κe, κf, κg, κh, κi, κj, κk, κl, κm, reduceCtorEq, reduceIte, κn, κo, κp, κq, κr, κs, tys] | exact rfl | ((first | (refine call_val (g := ?_) ?_ ?_) | (refine call_valg (g := ?_) ?_ ?_)); rotate_left 1; (focus (simp only [Tryd.results69, Tryd.ntmps69, κt, wks, hd, hie, e, vcs, κa, κb, κc, κd, κe, κf, κg, κh, κi, κj, κk, κl, κm, reduceCtorEq, reduceIte, κn, κo, κp, κq, κr, κs, tys] <;> exact rfl))) | refine draw_end (by decide +kernel) ?_ | refine cond_bool (fun hb => ?_) (fun hb => ?_) | refine cond_bit (fun hb => ?_) (fun hb => ?_) | refine And.intro (by omega) ?_ | refine And.intro (fun hb => ?_) (fun hb => ?_) | fail); (all_goals (first | (refine Fin.pure ?_ ?_ ?_ <;> (try simp only [Tryd.results69, Tryd.ntmps69, wks, hd, hie, e, vcs, κa, κb, κc, κd, κe, κf, κg, κh, κi, κj, κk, κl, κm, reduceCtorEq, reduceIte, κn, κo, κp, κq, κr, κs, tys]) <;> (try simp only [injs])) | skip)))
end Go.Proofs.YtanahnknjboplaaDoor
/-
  Layer 9 by the machine: texts cut at a byte; full names.
-/
namespace Go.Proofs.YtanahnknjboplaaDoor
set_option linter.unusedSimpArgs false
set_option linter.unusedVariables false
open Nat renaming reduceAdd → κa, reduceMul → κb, reduceEqDiff → κc, reduceLeDiff → κd, reduceSub → κe, reduceLT → κf, reduceBEq → κr, reduceBNe → κs, reducePow → κt
open Int renaming reduceToNat → κg, reduceLE → κh, reduceLT → κi, reduceAdd → κj, reduceSub → κk, reduceMul → κl, reduceNeg → κm, reduceBEq → κn, reduceBNe → κo, reduceEq → κp, reduceNe → κq
open Go Go.RowKit Go.Proofs.YtanahnknjboplaaDoor.Vm Go.Lib

set_option maxRecDepth 100000 in
theorem idxStr_ev (s : List UInt8) (c : UInt8) (M : Mem) (nm : Nat) : Ev cx 126 nm [.str s, .int .u8 c.toNat] M (.int .i64 (indexByte s c)) [] :=
  Ev.indexByte Tryd.func126 (by kernel_rfl) (by kernel_rfl) (by kernel_rfl) (by kernel_rfl) s c M nm
theorem idxB_ev (s : List UInt8) (c : UInt8) (nm : Nat) : Ev cx 107 nm [.str s, .int .u8 c.toNat] Mem.nil (.int .i64 (indexByte s c)) [] := by
  refine ev_go (fun cargs w => Tryd.call107 cargs w) Tryd.func107 rfl mixed (by kernel_rfl) rfl ?_; intro b0 hb0
  ((repeat' first | simp only [Tryd.results107, Tryd.ntmps107, κt, wks, vcs, κa, κb, κc, κd, κe, κf, κg, κh, κi, κj, κk, κl, κm, reduceCtorEq, reduceIte, κn, κo, κp, κq, κr, κs, tys] | exact rfl | ((first | (refine call_fn ?_ (idxStr_ev s c _ _) ?_) | (refine call_fn_g ?_ (fun _ => idxStr_ev s c _ _) ?_)); (focus (simp only [Tryd.results107, Tryd.ntmps107, κt, wks, vcs, κa, κb, κc, κd, κe, κf, κg, κh, κi, κj, κk, κl, κm, reduceCtorEq, reduceIte, κn, κo, κp, κq, κr, κs, tys] <;> exact rfl))) | ((first | (refine call_val (g := ?_) ?_ ?_) | (refine call_valg (g := ?_) ?_ ?_)); rotate_left 1; (focus (simp only [Tryd.results107, Tryd.ntmps107, κt, wks, vcs, κa, κb, κc, κd, κe, κf, κg, κh, κi, κj, κk, κl, κm, reduceCtorEq, reduceIte, κn, κo, κp, κq, κr, κs, tys] <;> exact rfl))) | refine draw_end (by decide +kernel) ?_ | refine cond_bool (fun hb => ?_) (fun hb => ?_) | refine cond_bit (fun hb => ?_) (fun hb => ?_) | refine And.intro (by omega) ?_ | refine And.intro (fun hb => ?_) (fun hb => ?_) | fail); (all_goals (first | (refine Fin.pure ?_ ?_ ?_ <;> (try simp only [Tryd.results107, Tryd.ntmps107, wks, vcs, κa, κb, κc, κd, κe, κf, κg, κh, κi, κj, κk, κl, κm, reduceCtorEq, reduceIte, κn, κo, κp, κq, κr, κs, tys]) <;> (try simp only [injs])) | skip)))
set_option maxRecDepth 100000 in
theorem index1_ev (s : List UInt8) (d : UInt8) (nm : Nat) : Ev cx 96 nm [.str s, .str [d]] Mem.nil (.int .i64 (indexByte s d)) [] := by
  by_cases h : [d] = s
  · subst h
    have e : indexByte [d] d = 0 := by simp [indexByte]
    have e1 : ([d] == [d]) = true := by simp
    refine ev_go (fun cargs w => Tryd.call96 cargs w) Tryd.func96 rfl mixed (by kernel_rfl) rfl ?_; intro b0 hb0
    ((repeat' first | simp only [Tryd.results96, Tryd.ntmps96, κt, wks, e, e1, vcs, κa, κb, κc, κd, κe, κf, κg, κh, κi, κj, κk, κl, κm, reduceCtorEq, reduceIte, κn, κo, κp, κq, κr, κs, tys] | exact rfl | ((first | (refine call_fn ?_ (idxB_ev [d] d _) ?_) | (refine call_fn_g ?_ (fun _ => idxB_ev [d] d _) ?_)); (focus (simp only [Tryd.results96, Tryd.ntmps96, κt, wks, e, e1, vcs, κa, κb, κc, κd, κe, κf, κg, κh, κi, κj, κk, κl, κm, reduceCtorEq, reduceIte, κn, κo, κp, κq, κr, κs, tys] <;> exact rfl))) | ((first | (refine call_val (g := ?_) ?_ ?_) | (refine call_valg (g := ?_) ?_ ?_)); rotate_left 1; (focus (simp only [Tryd.results96, Tryd.ntmps96, κt, wks, e, e1, vcs, κa, κb, κc, κd, κe, κf, κg, κh, κi, κj, κk, κl, κm, reduceCtorEq, reduceIte, κn, κo, κp, κq, κr, κs, tys] <;> exact rfl))) | refine draw_end (by decide +kernel) ?_ | refine cond_bool (fun hb => ?_) (fun hb => ?_) | refine cond_bit (fun hb => ?_) (fun hb => ?_) | refine And.intro (by omega) ?_ | refine And.intro (fun hb => ?_) (fun hb => ?_) | fail); (all_goals (first | (refine Fin.pure ?_ ?_ ?_ <;> (try simp only [Tryd.results96, Tryd.ntmps96, wks, e, e1, vcs, κa, κb, κc, κd, κe, κf, κg, κh, κi, κj, κk, κl, κm, reduceCtorEq, reduceIte, κn, κo, κp, κq, κr, κs, tys]) <;> (try simp only [injs])) | skip)))
  · have e1 : ([d] == s) = false := beq_false_of_ne h
    refine ev_go (fun cargs w => Tryd.call96 cargs w) Tryd.func96 rfl mixed (by kernel_rfl) rfl ?_; intro b0 hb0
    ((repeat' first | simp only [Tryd.results96, Tryd.ntmps96, κt, wks, e1, vcs, κa, κb, κc, κd, κe, κf, κg, κh, κi, κj, κk, κl, κm, reduceCtorEq, reduceIte, κn, κo, κp, κq, κr, κs, tys] | exact rfl | ((first | (refine call_fn ?_ (idxB_ev s d _) ?_) | (refine call_fn_g ?_ (fun _ => idxB_ev s d _) ?_)); (focus (simp only [Tryd.results96, Tryd.ntmps96, κt, wks, e1, vcs, κa, κb, κc, κd, κe, κf, κg, κh, κi, κj, κk, κl, κm, reduceCtorEq, reduceIte, κn, κo, κp, κq, κr, κs, tys] <;> exact rfl))) | ((first | (refine call_val (g := ?_) ?_ ?_) | (refine call_valg (g := ?_) ?_ ?_)); rotate_left 1; (focus (simp only [Tryd.results96, Tryd.ntmps96, κt, wks, e1, vcs, κa, κb, κc, κd, κe, κf, κg, κh, κi, κj, κk, κl, κm, reduceCtorEq, reduceIte, κn, κo, κp, κq, κr, κs, tys] <;> exact rfl))) | refine draw_end (by decide +kernel) ?_ | refine cond_bool (fun hb => ?_) (fun hb => ?_) | refine cond_bit (fun hb => ?_) (fun hb => ?_) | refine And.intro (by omega) ?_ | refine And.intro (fun hb => ?_) (fun hb => ?_) | fail); (all_goals (first | (refine Fin.pure ?_ ?_ ?_ <;> (try simp only [Tryd.results96, Tryd.ntmps96, wks, e1, vcs, κa, κb, κc, κd, κe, κf, κg, κh, κi, κj, κk, κl, κm, reduceCtorEq, reduceIte, κn, κo, κp, κq, κr, κs, tys]) <;> (try simp only [injs])) | skip)))
/-- What strings.Cut yields. -/
def cutV (d : UInt8) (s : List UInt8) : V := match cut1 d s with
  | none => .tup [.str s, .str [], .bool false]
  | some (a, b) => .tup [.str a, .str b, .bool true]
set_option maxRecDepth 100000 in
theorem cutS_ev (s : List UInt8) (d : UInt8) (hs : s.length ≤ lim) (nm : Nat) : Ev cx 83 nm [.str s, .str [d]] Mem.nil (cutV d s) [] := by
  unfold lim at hs
  cases hc : cut1 d s with
  | none =>
    have e : indexByte s d = -1 := index1_none.2 hc
    have ev : cutV d s = .tup [.str s, .str [], .bool false] := by unfold cutV; rw [hc]
    rw [ev]
    refine ev_go (fun cargs w => Tryd.call83 cargs w) Tryd.func83 rfl mixed (by kernel_rfl) rfl ?_; intro b0 hb0
    ((repeat' first | simp only [Tryd.results83, Tryd.ntmps83, κt, wks, vcs, κa, κb, κc, κd, κe, κf, κg, κh, κi, κj, κk, κl, κm, reduceCtorEq, reduceIte, κn, κo, κp, κq, κr, κs, tys] | exact rfl | ((first | (refine call_fn ?_ ((by have := index1_ev s d; rw [e] at this; exact this _)) ?_) | (refine call_fn_g ?_ (fun _ => (by have := index1_ev s d; rw [e] at this; exact this _)) ?_)); (focus (simp only [Tryd.results83, Tryd.ntmps83, κt, wks, vcs, κa, κb, κc, κd, κe, κf, κg, κh, κi, κj, κk, κl, κm, reduceCtorEq, reduceIte, κn, κo, κp, κq, κr, κs, tys] <;> exact rfl))) | ((first | (refine call_val (g := ?_) ?_ ?_) | (refine call_valg (g := ?_) ?_ ?_)); rotate_left 1; (focus (simp only [Tryd.results83, Tryd.ntmps83, κt, wks, vcs, κa, κb, κc, κd, κe, κf, κg, κh, κi, κj, κk, κl, κm, reduceCtorEq, reduceIte, κn, κo, κp, κq, κr, κs, tys] <;> exact rfl))) | refine draw_end (by decide +kernel) ?_ | refine cond_bool (fun hb => ?_) (fun hb => ?_) | refine cond_bit (fun hb => ?_) (fun hb => ?_) | refine And.intro (by omega) ?_ | refine And.intro (fun hb => ?_) (fun hb => ?_) | fail); (all_goals (first | (refine Fin.pure ?_ ?_ ?_ <;> (try simp only [Tryd.results83, Tryd.ntmps83, wks, vcs, κa, κb, κc, κd, κe, κf, κg, κh, κi, κj, κk, κl, κm, reduceCtorEq, reduceIte, κn, κo, κp, κq, κr, κs, tys]) <;> (try simp only [injs])) | skip)))
  | some p =>
    obtain ⟨a, b⟩ := p
    obtain ⟨e, e1, e2, e3⟩ := index1_some hc
    have ev : cutV d s = .tup [.str a, .str b, .bool true] := by unfold cutV; rw [hc]
    have h1 : (a.length : Int) ≤ s.length := by omega
    have h2 : IntKind.i64.wrap ((a.length : Int) + 1) = ((a.length + 1 : Nat) : Int) := wrap_in (by omega) (by omega)
    have h3 : ((a.length + 1 : Nat) : Int) ≤ s.length := by omega
    have h4 : a.length ≤ s.length := by omega
    have h5 : a.length + 1 ≤ s.length := by omega
    rw [ev]
    refine ev_go (fun cargs w => Tryd.call83 cargs w) Tryd.func83 rfl mixed (by kernel_rfl) rfl ?_; intro b0 hb0
    ((repeat' first | simp only [Tryd.results83, Tryd.ntmps83, κt, wks, h1, h2, h3, h4, h5, e1, e2, vcs, κa, κb, κc, κd, κe, κf, κg, κh, κi, κj, κk, κl, κm, reduceCtorEq, reduceIte, κn, κo, κp, κq, κr, κs, tys] | exact rfl | ((first | (refine call_fn ?_ ((by have := index1_ev s d; rw [e] at this; exact this _)) ?_) | (refine call_fn_g ?_ (fun _ => (by have := index1_ev s d; rw [e] at this; exact this _)) ?_)); (focus (simp only [Tryd.results83, Tryd.ntmps83, κt, wks, h1, h2, h3, h4, h5, e1, e2, vcs, κa, κb, κc, κd, κe, κf, κg, κh, κi, κj, κk, κl, κm, reduceCtorEq, reduceIte, κn, κo, κp, κq, κr, κs, tys] <;> exact rfl))) | ((first | (refine call_val (g := ?_) ?_ ?_) | (refine call_valg (g := ?_) ?_ ?_)); rotate_left 1; (focus (simp only [Tryd.results83, Tryd.ntmps83, κt, wks, h1, h2, h3, h4, h5, e1, e2, vcs, κa, κb, κc, κd, κe, κf, κg, κh, κi, κj, κk, κl, κm, reduceCtorEq, reduceIte, κn, κo, κp, κq, κr, κs, tys] <;> exact rfl))) | refine draw_end (by decide +kernel) ?_ | refine cond_bool (fun hb => ?_) (fun hb => ?_) | refine cond_bit (fun hb => ?_) (fun hb => ?_) | refine And.intro (by omega) ?_ | refine And.intro (fun hb => ?_) (fun hb => ?_) | fail); (all_goals (first | (refine Fin.pure ?_ ?_ ?_ <;> (try simp only [Tryd.results83, Tryd.ntmps83, wks, h1, h2, h3, h4, h5, e1, e2, vcs, κa, κb, κc, κd, κe, κf, κg, κh, κi, κj, κk, κl, κm, reduceCtorEq, reduceIte, κn, κo, κp, κq, κr, κs, tys]) <;> (try simp only [injs])) | skip)))
theorem cut_ev (s : List UInt8) (d : UInt8) (hs : s.length ≤ lim) (nm : Nat) : Ev cx 61 nm [.str s, .str [d]] Mem.nil (cutV d s) [] := by
  have hev := cutS_ev s d hs
  cases hc : cut1 d s with
  | none =>
    have ev : cutV d s = .tup [.str s, .str [], .bool false] := by unfold cutV; rw [hc]
    rw [ev] at hev ⊢
    refine ev_go (fun cargs w => Tryd.call61 cargs w) Tryd.func61 rfl mixed (by kernel_rfl) rfl ?_; intro b0 hb0
    ((repeat' first | simp only [Tryd.results61, Tryd.ntmps61, κt, wks, vcs, κa, κb, κc, κd, κe, κf, κg, κh, κi, κj, κk, κl, κm, reduceCtorEq, reduceIte, κn, κo, κp, κq, κr, κs, tys] | exact rfl | ((first | (refine call_fn ?_ (hev _) ?_) | (refine call_fn_g ?_ (fun _ => hev _) ?_)); (focus (simp only [Tryd.results61, Tryd.ntmps61, κt, wks, vcs, κa, κb, κc, κd, κe, κf, κg, κh, κi, κj, κk, κl, κm, reduceCtorEq, reduceIte, κn, κo, κp, κq, κr, κs, tys] <;> exact rfl))) | ((first | (refine call_val (g := ?_) ?_ ?_) | (refine call_valg (g := ?_) ?_ ?_)); rotate_left 1; (focus (simp only [Tryd.results61, Tryd.ntmps61, κt, wks, vcs, κa, κb, κc, κd, κe, κf, κg, κh, κi, κj, κk, κl, κm, reduceCtorEq, reduceIte, κn, κo, κp, κq, κr, κs, tys] <;> exact rfl))) | refine draw_end (by decide +kernel) ?_ | refine cond_bool (fun hb => ?_) (fun hb => ?_) | refine cond_bit (fun hb => ?_) (fun hb => ?_) | refine And.intro (by omega) ?_ | refine And.intro (fun hb => ?_) (fun hb => ?_) | fail); (all_goals (first | (refine Fin.pure ?_ ?_ ?_ <;> (try simp only [Tryd.results61, Tryd.ntmps61, wks, vcs, κa, κb, κc, κd, κe, κf, κg, κh, κi, κj, κk, κl, κm, reduceCtorEq, reduceIte, κn, κo, κp, κq, κr, κs, tys]) <;> (try simp only [injs])) | skip)))
  | some p =>
    have ev : cutV d s = .tup [.str p.1, .str p.2, .bool true] := by unfold cutV; rw [hc]
    rw [ev] at hev ⊢
    refine ev_go (fun cargs w => Tryd.call61 cargs w) Tryd.func61 rfl mixed (by kernel_rfl) rfl ?_; intro b0 hb0
    ((repeat' first | simp only [Tryd.results61, Tryd.ntmps61, κt, wks, vcs, κa, κb, κc, κd, κe, κf, κg, κh, κi, κj, κk, κl, κm, reduceCtorEq, reduceIte, κn, κo, κp, κq, κr, κs, tys] | exact rfl | ((first | (refine call_fn ?_ (hev _) ?_) | (refine call_fn_g ?_ (fun _ => hev _) ?_)); (focus (simp only [Tryd.results61, Tryd.ntmps61, κt, wks, vcs, κa, κb, κc, κd, κe, κf, κg, κh, κi, κj, κk, κl, κm, reduceCtorEq, reduceIte, κn, κo, κp, κq, κr, κs, tys] <;> exact rfl))) | ((first | (refine call_val (g := ?_) ?_ ?_) | (refine call_valg (g := ?_) ?_ ?_)); rotate_left 1; (focus (simp only [Tryd.results61, Tryd.ntmps61, κt, wks, vcs, κa, κb, κc, κd, κe, κf, κg, κh, κi, κj, κk, κl, κm, reduceCtorEq, reduceIte, κn, κo, κp, κq, κr, κs, tys] <;> exact rfl))) | refine draw_end (by decide +kernel) ?_ | refine cond_bool (fun hb => ?_) (fun hb => ?_) | refine cond_bit (fun hb => ?_) (fun hb => ?_) | refine And.intro (by omega) ?_ | refine And.intro (fun hb => ?_) (fun hb => ?_) | fail); (all_goals (first | (refine Fin.pure ?_ ?_ ?_ <;> (try simp only [Tryd.results61, Tryd.ntmps61, wks, vcs, κa, κb, κc, κd, κe, κf, κg, κh, κi, κj, κk, κl, κm, reduceCtorEq, reduceIte, κn, κo, κp, κq, κr, κs, tys]) <;> (try simp only [injs])) | skip)))
set_option maxRecDepth 100000 in
theorem full_ev (s : List UInt8) (hs : s.length ≤ lim) (nm : Nat) : Ev cx 49 nm [.str s] Mem.nil (.bool (fullL s)) [] := by
  have hev := cut_ev s 58 hs
  cases hc : cut1 58 s with
  | none =>
    have ev : cutV 58 s = .tup [.str s, .str [], .bool false] := by unfold cutV; rw [hc]
    have hf : fullL s = nameL s := by unfold fullL; rw [hc]
    have hn := name_ev s hs
    rw [ev] at hev
    rw [hf]
    cases h : nameL s <;> rw [h] at hn <;> (
      refine ev_go (fun cargs w => Tryd.call49 cargs w) Tryd.func49 rfl mixed (by kernel_rfl) rfl ?_; intro b0 hb0
      ((repeat' first | simp only [Tryd.results49, Tryd.ntmps49, κt, wks, vcs, κa, κb, κc, κd, κe, κf, κg, κh, κi, κj, κk, κl, κm, reduceCtorEq, reduceIte, κn, κo, κp, κq, κr, κs, tys] | exact rfl | ((first | (refine call_fn ?_ (hev _) ?_) | (refine call_fn_g ?_ (fun _ => hev _) ?_) | (refine call_fn ?_ (hn _) ?_) | (refine call_fn_g ?_ (fun _ => hn _) ?_)); (focus (simp only [Tryd.results49, Tryd.ntmps49, κt, wks, vcs, κa, κb, κc, κd, κe, κf, κg, κh, κi, κj, κk, κl, κm, reduceCtorEq, reduceIte, κn, κo, κp, κq, κr, κs, tys] <;> exact rfl))) | (refine call_off (v := .any) ?_) | ((first | (refine call_val (g := ?_) ?_ ?_) | (refine call_valg (g := ?_) ?_ ?_)); rotate_left 1; (focus (simp only [Tryd.results49, Tryd.ntmps49, κt, wks, vcs, κa, κb, κc, κd, κe, κf, κg, κh, κi, κj, κk, κl, κm, reduceCtorEq, reduceIte, κn, κo, κp, κq, κr, κs, tys] <;> exact rfl))) | refine draw_end (by decide +kernel) ?_ | refine cond_bool (fun hb => ?_) (fun hb => ?_) | refine cond_bit (fun hb => ?_) (fun hb => ?_) | refine And.intro (by omega) ?_ | refine And.intro (fun hb => ?_) (fun hb => ?_) | fail); (all_goals (first | (refine Fin.pure ?_ ?_ ?_ <;> (try simp only [Tryd.results49, Tryd.ntmps49, wks, vcs, κa, κb, κc, κd, κe, κf, κg, κh, κi, κj, κk, κl, κm, reduceCtorEq, reduceIte, κn, κo, κp, κq, κr, κs, tys]) <;> (try simp only [injs])) | skip))))
  | some p =>
    obtain ⟨a, b⟩ := p
    obtain ⟨_, _, _, e3⟩ := index1_some hc
    have ev : cutV 58 s = .tup [.str a, .str b, .bool true] := by unfold cutV; rw [hc]
    have hf : fullL s = (nameL a && nameL b) := by unfold fullL; rw [hc]
    have hn1 := name_ev a (by omega)
    have hn2 := name_ev b (by omega)
    rw [ev] at hev
    rw [hf]
    cases h1 : nameL a <;> rw [h1] at hn1 <;> (
      refine ev_go (fun cargs w => Tryd.call49 cargs w) Tryd.func49 rfl mixed (by kernel_rfl) rfl ?_; intro b0 hb0
      ((repeat' first | simp only [Tryd.results49, Tryd.ntmps49, κt, wks, vcs, κa, κb, κc, κd, κe, κf, κg, κh, κi, κj, κk, κl, κm, reduceCtorEq, reduceIte, κn, κo, κp, κq, κr, κs, tys] | exact rfl | ((first | (refine call_fn ?_ (hev _) ?_) | (refine call_fn_g ?_ (fun _ => hev _) ?_) | (refine call_fn ?_ (hn1 _) ?_) | (refine call_fn_g ?_ (fun _ => hn1 _) ?_)); (focus (simp only [Tryd.results49, Tryd.ntmps49, κt, wks, vcs, κa, κb, κc, κd, κe, κf, κg, κh, κi, κj, κk, κl, κm, reduceCtorEq, reduceIte, κn, κo, κp, κq, κr, κs, tys] <;> exact rfl))) | ((first | (refine call_fn ?_ (hn2 _) ?_) | (refine call_fn_g ?_ (fun _ => hn2 _) ?_)); (focus (simp only [Tryd.results49, Tryd.ntmps49, κt, wks, vcs, κa, κb, κc, κd, κe, κf, κg, κh, κi, κj, κk, κl, κm, reduceCtorEq, reduceIte, κn, κo, κp, κq, κr, κs, tys] <;> exact rfl))) | (refine call_off (v := .any) ?_) | ((first | (refine call_val (g := ?_) ?_ ?_) | (refine call_valg (g := ?_) ?_ ?_)); rotate_left 1; (focus (simp only [Tryd.results49, Tryd.ntmps49, κt, wks, vcs, κa, κb, κc, κd, κe, κf, κg, κh, κi, κj, κk, κl, κm, reduceCtorEq, reduceIte, κn, κo, κp, κq, κr, κs, tys] <;> exact rfl))) | refine draw_end (by decide +kernel) ?_ | refine cond_bool (fun hb => ?_) (fun hb => ?_) | refine cond_bit (fun hb => ?_) (fun hb => ?_) | refine And.intro (by omega) ?_ | refine And.intro (fun hb => ?_) (fun hb => ?_) | fail); (all_goals (first | (refine Fin.pure ?_ ?_ ?_ <;> (try simp only [Tryd.results49, Tryd.ntmps49, wks, vcs, κa, κb, κc, κd, κe, κf, κg, κh, κi, κj, κk, κl, κm, reduceCtorEq, reduceIte, κn, κo, κp, κq, κr, κs, tys]) <;> (try simp only [injs])) | skip))))
/-- What the document's Parts yields. -/
def partsV (d : UInt8) (s : List UInt8) : V := match cut1 d s with
  | none => .tup [.str [], .str s, .bool false]
  | some (a, b) => .tup [.str a, .str b, .bool true]
theorem notin_succ {d : UInt8} {s : List UInt8} {k : Nat} {c : UInt8} (h : d ∉ s.take k) (hc : s[k]? = some c) (hne : c ≠ d) : d ∉ s.take (k + 1) := by
  obtain ⟨hk, rfl⟩ := List.getElem?_eq_some_iff.1 hc
  rw [List.take_succ_eq_append_getElem hk]
  simp only [List.mem_append, List.mem_singleton, not_or]
  exact ⟨h, fun e => hne e.symm⟩
set_option maxRecDepth 100000 in
set_option maxHeartbeats 4000000 in
theorem rParts_ev (s : List UInt8) (hs : s.length ≤ lim) (nm : Nat) : Ev cx 78 nm [.str s] Mem.nil (partsV 58 s) [] := by
  unfold lim at hs
  refine ev_go (fun cargs w => Tryd.call78 cargs w) Tryd.func78 rfl mixed (by kernel_rfl) rfl ?_; intro b0 hb0
  repeat' first | simp only [Tryd.results78, Tryd.ntmps78, κt, wks, vcs, κa, κb, κc, κd, κe, κf, κg, κh, κi, κj, κk, κl, κm, reduceCtorEq, reduceIte, κn, κo, κp, κq, κr, κs, tys] | exact rfl | ((first | (refine call_val (g := ?_) ?_ ?_) | (refine call_valg (g := ?_) ?_ ?_)); rotate_left 1; (focus (simp only [Tryd.results78, Tryd.ntmps78, κt, wks, vcs, κa, κb, κc, κd, κe, κf, κg, κh, κi, κj, κk, κl, κm, reduceCtorEq, reduceIte, κn, κo, κp, κq, κr, κs, tys] <;> exact rfl))) | refine draw_end (by decide +kernel) ?_ | refine cond_bool (fun hb => ?_) (fun hb => ?_) | refine cond_bit (fun hb => ?_) (fun hb => ?_) | refine And.intro (by omega) ?_ | refine And.intro (fun hb => ?_) (fun hb => ?_) | fail
  (refine loop_can2 cxG (fun x : Nat => s.length - x) (fun x => x ≤ s.length ∧ (58 : UInt8) ∉ s.take x) (b0 + 16) (fun x => [(0, .str s), (5, .int .i64 x)]) (fun x => []) (0) [] ?_ ?_ ?_ ?_; rotate_left 1; (focus (show b0 ≤ _; omega)); (focus (refine ⟨?_, ?_⟩ <;> (try simp only [cans, vcs, κa, κb, κc, κd, κe, κf, κg, κh, κi, κj, κk, κl, κm, reduceCtorEq, reduceIte, κn, κo, κp, κq, κr, κs, tys, injs]) <;> (try omega))); rotate_left 1)
  · exact ⟨Nat.zero_le _, by simp⟩
  · rintro k ⟨hk, hn⟩
    by_cases hlt : k < s.length
    · obtain ⟨c, hc⟩ : ∃ c, s[k]? = some c := ⟨_, List.getElem?_eq_getElem hlt⟩
      have hd : decide (k < s.length) = true := decide_eq_true hlt
      have hwk : IntKind.i64.wrap ((k : Int) + 1) = ((k + 1 : Nat) : Int) := wrap_in (by omega) (by omega)
      have q8 : ((c.toNat : Int) == 58) = decide (c = 58) := beq_byte c 58
      by_cases h8 : c = 58
      · have h8' : decide (c = 58) = true := decide_eq_true h8
        subst h8
        have ev : partsV 58 s = .tup [.str (s.take k), .str (s.drop (k + 1)), .bool true] := by unfold partsV; rw [cut1_at hn hc]
        have h3 : ((k + 1 : Nat) : Int) ≤ s.length := by omega
        have h5 : k + 1 ≤ s.length := by omega
        ((repeat' first | simp only [Tryd.results78, Tryd.ntmps78, κt, wks, hc, hd, hlt, hwk, q8, h8', ev, h3, h5, hk, vcs, κa, κb, κc, κd, κe, κf, κg, κh, κi, κj, κk, κl, κm, reduceCtorEq, reduceIte, κn, κo, κp, κq, κr, κs, tys] | exact rfl | ((first | (refine call_val (g := ?_) ?_ ?_) | (refine call_valg (g := ?_) ?_ ?_)); rotate_left 1; (focus (simp only [Tryd.results78, Tryd.ntmps78, κt, wks, hc, hd, hlt, hwk, q8, h8', ev, h3, h5, hk, vcs, κa, κb, κc, κd, κe, κf, κg, κh, κi, κj, κk, κl, κm, reduceCtorEq, reduceIte, κn, κo, κp, κq, κr, κs, tys] <;> exact rfl))) | refine draw_end (by decide +kernel) ?_ | refine cond_bool (fun hb => ?_) (fun hb => ?_) | refine cond_bit (fun hb => ?_) (fun hb => ?_) | refine And.intro (by omega) ?_ | refine And.intro (fun hb => ?_) (fun hb => ?_) | fail); (all_goals (first | (refine Fin.pure ?_ ?_ ?_ <;> (try simp only [Tryd.results78, Tryd.ntmps78, wks, hc, hd, hlt, hwk, q8, h8', ev, h3, h5, hk, vcs, κa, κb, κc, κd, κe, κf, κg, κh, κi, κj, κk, κl, κm, reduceCtorEq, reduceIte, κn, κo, κp, κq, κr, κs, tys]) <;> (try simp only [injs])) | skip)))
      · have h8' : decide (c = 58) = false := decide_eq_false h8
        repeat' first | simp only [Tryd.results78, Tryd.ntmps78, κt, wks, hc, hd, hlt, hwk, q8, h8', vcs, κa, κb, κc, κd, κe, κf, κg, κh, κi, κj, κk, κl, κm, reduceCtorEq, reduceIte, κn, κo, κp, κq, κr, κs, tys] | exact rfl | ((first | (refine call_val (g := ?_) ?_ ?_) | (refine call_valg (g := ?_) ?_ ?_)); rotate_left 1; (focus (simp only [Tryd.results78, Tryd.ntmps78, κt, wks, hc, hd, hlt, hwk, q8, h8', vcs, κa, κb, κc, κd, κe, κf, κg, κh, κi, κj, κk, κl, κm, reduceCtorEq, reduceIte, κn, κo, κp, κq, κr, κs, tys] <;> exact rfl))) | refine draw_end (by decide +kernel) ?_ | refine cond_bool (fun hb => ?_) (fun hb => ?_) | refine cond_bit (fun hb => ?_) (fun hb => ?_) | refine And.intro (by omega) ?_ | refine And.intro (fun hb => ?_) (fun hb => ?_) | fail
        all_goals ((refine again_can2 cxG (k + 1) [] ?_ ?_ ?_ ?_; rotate_left 2; (focus (show b0 ≤ _; omega)); (focus (refine ⟨?_, ?_⟩ <;> (try simp only [cans, hwk, vcs, κa, κb, κc, κd, κe, κf, κg, κh, κi, κj, κk, κl, κm, reduceCtorEq, reduceIte, κn, κo, κp, κq, κr, κs, tys, injs]) <;> (try omega)))))
        all_goals (first | (show s.length - (k + 1) < s.length - k; omega) | exact ⟨hlt, notin_succ hn hc h8⟩ | skip)
    · have hke : k = s.length := by omega
      subst hke
      rw [List.take_length] at hn
      have hd : decide (s.length < s.length) = false := decide_eq_false (by omega)
      have ev : partsV 58 s = .tup [.str [], .str s, .bool false] := by unfold partsV; rw [cut1_none.2 hn]
      ((repeat' first | simp only [Tryd.results78, Tryd.ntmps78, κt, wks, hd, ev, vcs, κa, κb, κc, κd, κe, κf, κg, κh, κi, κj, κk, κl, κm, reduceCtorEq, reduceIte, κn, κo, κp, κq, κr, κs, tys] | exact rfl | ((first | (refine call_val (g := ?_) ?_ ?_) | (refine call_valg (g := ?_) ?_ ?_)); rotate_left 1; (focus (simp only [Tryd.results78, Tryd.ntmps78, κt, wks, hd, ev, vcs, κa, κb, κc, κd, κe, κf, κg, κh, κi, κj, κk, κl, κm, reduceCtorEq, reduceIte, κn, κo, κp, κq, κr, κs, tys] <;> exact rfl))) | refine draw_end (by decide +kernel) ?_ | refine cond_bool (fun hb => ?_) (fun hb => ?_) | refine cond_bit (fun hb => ?_) (fun hb => ?_) | refine And.intro (by omega) ?_ | refine And.intro (fun hb => ?_) (fun hb => ?_) | fail); (all_goals (first | (refine Fin.pure ?_ ?_ ?_ <;> (try simp only [Tryd.results78, Tryd.ntmps78, wks, hd, ev, vcs, κa, κb, κc, κd, κe, κf, κg, κh, κi, κj, κk, κl, κm, reduceCtorEq, reduceIte, κn, κo, κp, κq, κr, κs, tys]) <;> (try simp only [injs])) | skip)))
set_option maxRecDepth 100000 in
theorem rFull_ev (s : List UInt8) (hs : s.length ≤ lim) (nm : Nat) : Ev cx 54 nm [.str s] Mem.nil (.bool (fullL s)) [] := by
  have hev := rParts_ev s hs
  cases hc : cut1 58 s with
  | none =>
    have ev : partsV 58 s = .tup [.str [], .str s, .bool false] := by unfold partsV; rw [hc]
    have hf : fullL s = nameL s := by unfold fullL; rw [hc]
    have hn := rName_ev s hs
    rw [ev] at hev
    rw [hf]
    cases h : nameL s <;> rw [h] at hn <;> (
      refine ev_go (fun cargs w => Tryd.call54 cargs w) Tryd.func54 rfl mixed (by kernel_rfl) rfl ?_; intro b0 hb0
      ((repeat' first | simp only [Tryd.results54, Tryd.ntmps54, κt, wks, vcs, κa, κb, κc, κd, κe, κf, κg, κh, κi, κj, κk, κl, κm, reduceCtorEq, reduceIte, κn, κo, κp, κq, κr, κs, tys] | exact rfl | ((first | (refine call_fn ?_ (hev _) ?_) | (refine call_fn_g ?_ (fun _ => hev _) ?_) | (refine call_fn ?_ (hn _) ?_) | (refine call_fn_g ?_ (fun _ => hn _) ?_)); (focus (simp only [Tryd.results54, Tryd.ntmps54, κt, wks, vcs, κa, κb, κc, κd, κe, κf, κg, κh, κi, κj, κk, κl, κm, reduceCtorEq, reduceIte, κn, κo, κp, κq, κr, κs, tys] <;> exact rfl))) | (refine call_off (v := .any) ?_) | ((first | (refine call_val (g := ?_) ?_ ?_) | (refine call_valg (g := ?_) ?_ ?_)); rotate_left 1; (focus (simp only [Tryd.results54, Tryd.ntmps54, κt, wks, vcs, κa, κb, κc, κd, κe, κf, κg, κh, κi, κj, κk, κl, κm, reduceCtorEq, reduceIte, κn, κo, κp, κq, κr, κs, tys] <;> exact rfl))) | refine draw_end (by decide +kernel) ?_ | refine cond_bool (fun hb => ?_) (fun hb => ?_) | refine cond_bit (fun hb => ?_) (fun hb => ?_) | refine And.intro (by omega) ?_ | refine And.intro (fun hb => ?_) (fun hb => ?_) | fail); (all_goals (first | (refine Fin.pure ?_ ?_ ?_ <;> (try simp only [Tryd.results54, Tryd.ntmps54, wks, vcs, κa, κb, κc, κd, κe, κf, κg, κh, κi, κj, κk, κl, κm, reduceCtorEq, reduceIte, κn, κo, κp, κq, κr, κs, tys]) <;> (try simp only [injs])) | skip))))
  | some p =>
    obtain ⟨a, b⟩ := p
    obtain ⟨_, _, _, e3⟩ := index1_some hc
    have ev : partsV 58 s = .tup [.str a, .str b, .bool true] := by unfold partsV; rw [hc]
    have hf : fullL s = (nameL b && nameL a) := by unfold fullL; rw [hc, Bool.and_comm]
    have hn1 := rName_ev a (by omega)
    have hn2 := rName_ev b (by omega)
    rw [ev] at hev
    rw [hf]
    cases h1 : nameL b <;> rw [h1] at hn2 <;> (
      refine ev_go (fun cargs w => Tryd.call54 cargs w) Tryd.func54 rfl mixed (by kernel_rfl) rfl ?_; intro b0 hb0
      ((repeat' first | simp only [Tryd.results54, Tryd.ntmps54, κt, wks, vcs, κa, κb, κc, κd, κe, κf, κg, κh, κi, κj, κk, κl, κm, reduceCtorEq, reduceIte, κn, κo, κp, κq, κr, κs, tys] | exact rfl | ((first | (refine call_fn ?_ (hev _) ?_) | (refine call_fn_g ?_ (fun _ => hev _) ?_) | (refine call_fn ?_ (hn1 _) ?_) | (refine call_fn_g ?_ (fun _ => hn1 _) ?_)); (focus (simp only [Tryd.results54, Tryd.ntmps54, κt, wks, vcs, κa, κb, κc, κd, κe, κf, κg, κh, κi, κj, κk, κl, κm, reduceCtorEq, reduceIte, κn, κo, κp, κq, κr, κs, tys] <;> exact rfl))) | ((first | (refine call_fn ?_ (hn2 _) ?_) | (refine call_fn_g ?_ (fun _ => hn2 _) ?_)); (focus (simp only [Tryd.results54, Tryd.ntmps54, κt, wks, vcs, κa, κb, κc, κd, κe, κf, κg, κh, κi, κj, κk, κl, κm, reduceCtorEq, reduceIte, κn, κo, κp, κq, κr, κs, tys] <;> exact rfl))) | (refine call_off (v := .any) ?_) | ((first | (refine call_val (g := ?_) ?_ ?_) | (refine call_valg (g := ?_) ?_ ?_)); rotate_left 1; (focus (simp only [Tryd.results54, Tryd.ntmps54, κt, wks, vcs, κa, κb, κc, κd, κe, κf, κg, κh, κi, κj, κk, κl, κm, reduceCtorEq, reduceIte, κn, κo, κp, κq, κr, κs, tys] <;> exact rfl))) | refine draw_end (by decide +kernel) ?_ | refine cond_bool (fun hb => ?_) (fun hb => ?_) | refine cond_bit (fun hb => ?_) (fun hb => ?_) | refine And.intro (by omega) ?_ | refine And.intro (fun hb => ?_) (fun hb => ?_) | fail); (all_goals (first | (refine Fin.pure ?_ ?_ ?_ <;> (try simp only [Tryd.results54, Tryd.ntmps54, wks, vcs, κa, κb, κc, κd, κe, κf, κg, κh, κi, κj, κk, κl, κm, reduceCtorEq, reduceIte, κn, κo, κp, κq, κr, κs, tys]) <;> (try simp only [injs])) | skip))))
end Go.Proofs.YtanahnknjboplaaDoor
/-
  The document's answer for layer 9 by the machine: which tokens may be.
-/
namespace Go.Proofs.YtanahnknjboplaaDoor
set_option linter.unusedSimpArgs false
set_option linter.unusedVariables false
open Nat renaming reduceAdd → κa, reduceMul → κb, reduceEqDiff → κc, reduceLeDiff → κd, reduceSub → κe, reduceLT → κf, reduceBEq → κr, reduceBNe → κs, reducePow → κt
open Int renaming reduceToNat → κg, reduceLE → κh, reduceLT → κi, reduceAdd → κj, reduceSub → κk, reduceMul → κl, reduceNeg → κm, reduceBEq → κn, reduceBNe → κo, reduceEq → κp, reduceNe → κq
open Go Go.RowKit Go.Proofs.YtanahnknjboplaaDoor.Vm Go.Lib

/-- A pair's cells; a token's. -/
def prC (a : Pr) : List V := [.str a.name, .str a.value]
def tkC (t : Tk) : List V := [.int .u8 t.kind, .str t.name, .sl false 2 (t.attrs.map prC), .str t.text]
def prS (l : List Pr) : V := .sl false 2 (l.map prC)
def tkS (l : List Tk) : V := .sl false 4 (l.map tkC)
theorem pr_at {l : List Pr} {k : Nat} {a : Pr} (h : l[k]? = some a) : (l.map prC)[k]? = some (prC a) := by rw [List.getElem?_map, h]; rfl
theorem tk_at {l : List Tk} {k : Nat} {a : Tk} (h : l[k]? = some a) : (l.map tkC)[k]? = some (tkC a) := by rw [List.getElem?_map, h]; rfl
theorem plain_pr (l : List Pr) : plainLL (l.map prC) = true := plainLL_map _ (fun _ => rfl) l
theorem plain_tk (l : List Tk) : plainLL (l.map tkC) = true := plainLL_map _ (fun t => by simp [tkC, plainL, V.plain, plain_pr]) l
theorem notany_succ {α : Type} {p : α → Bool} {l : List α} {k : Nat} {x : α} (h : (l.take k).any p = false) (hc : l[k]? = some x) (hx : p x = false) : (l.take (k + 1)).any p = false := by
  obtain ⟨hk, rfl⟩ := List.getElem?_eq_some_iff.1 hc
  rw [List.take_succ_eq_append_getElem hk, List.any_append, h]
  simp [hx]
set_option maxRecDepth 100000 in
set_option maxHeartbeats 4000000 in
theorem has_ev (l : List Pr) (s : List UInt8) (hl : l.length ≤ lim) (nm : Nat) : Ev cx 80 nm [.sl false 2 (l.map prC), .str s] Mem.nil (.bool (l.any fun b => s == b.name)) [] := by
  unfold lim at hl
  refine ev_go (fun cargs w => Tryd.call80 cargs w) Tryd.func80 rfl mixed (by kernel_rfl) rfl ?_; intro b0 hb0
  repeat' first | simp only [Tryd.results80, Tryd.ntmps80, κt, wks, vcs, κa, κb, κc, κd, κe, κf, κg, κh, κi, κj, κk, κl, κm, reduceCtorEq, reduceIte, κn, κo, κp, κq, κr, κs, tys] | exact rfl | ((first | (refine call_val (g := ?_) ?_ ?_) | (refine call_valg (g := ?_) ?_ ?_)); rotate_left 1; (focus (simp only [Tryd.results80, Tryd.ntmps80, κt, wks, vcs, κa, κb, κc, κd, κe, κf, κg, κh, κi, κj, κk, κl, κm, reduceCtorEq, reduceIte, κn, κo, κp, κq, κr, κs, tys] <;> exact rfl))) | refine draw_end (by decide +kernel) ?_ | refine cond_bool (fun hb => ?_) (fun hb => ?_) | refine cond_bit (fun hb => ?_) (fun hb => ?_) | refine And.intro (by omega) ?_ | refine And.intro (fun hb => ?_) (fun hb => ?_) | fail
  (refine loop_can2 cxG (fun x : Nat => l.length - x) (fun x => x ≤ l.length ∧ ((l.take x).any fun b => s == b.name) = false) (b0 + 16) (fun x => [(0, .sl false 2 (l.map prC)), (1, .str s), (5, .int .i64 x)]) (fun x => []) (0) [] ?_ ?_ ?_ ?_; rotate_left 1; (focus (show b0 ≤ _; omega)); (focus (refine ⟨?_, ?_⟩ <;> (try simp only [cans, plain_pr, vcs, κa, κb, κc, κd, κe, κf, κg, κh, κi, κj, κk, κl, κm, reduceCtorEq, reduceIte, κn, κo, κp, κq, κr, κs, tys, injs]) <;> (try omega))); rotate_left 1)
  · exact ⟨Nat.zero_le _, by simp⟩
  · rintro k ⟨hk, hn⟩
    by_cases hlt : k < l.length
    · obtain ⟨a, ha⟩ : ∃ a, l[k]? = some a := ⟨_, List.getElem?_eq_getElem hlt⟩
      have hat := pr_at ha
      have hd : decide (k < l.length) = true := decide_eq_true hlt
      have hwk : IntKind.i64.wrap ((k : Int) + 1) = ((k + 1 : Nat) : Int) := wrap_in (by omega) (by omega)
      cases hp : (a.name == s) with
      | true =>
        have hr : (l.any fun b => s == b.name) = true := List.any_eq_true.2 ⟨a, List.mem_of_getElem? ha, by rw [beq_iff_eq] at hp ⊢; exact hp.symm⟩
        ((repeat' first | simp only [Tryd.results80, Tryd.ntmps80, κt, wks, hat, prC, hd, hlt, hp, hr, List.length_map, vcs, κa, κb, κc, κd, κe, κf, κg, κh, κi, κj, κk, κl, κm, reduceCtorEq, reduceIte, κn, κo, κp, κq, κr, κs, tys] | exact rfl | ((first | (refine call_val (g := ?_) ?_ ?_) | (refine call_valg (g := ?_) ?_ ?_)); rotate_left 1; (focus (simp only [Tryd.results80, Tryd.ntmps80, κt, wks, hat, prC, hd, hlt, hp, hr, List.length_map, vcs, κa, κb, κc, κd, κe, κf, κg, κh, κi, κj, κk, κl, κm, reduceCtorEq, reduceIte, κn, κo, κp, κq, κr, κs, tys] <;> exact rfl))) | refine draw_end (by decide +kernel) ?_ | refine cond_bool (fun hb => ?_) (fun hb => ?_) | refine cond_bit (fun hb => ?_) (fun hb => ?_) | refine And.intro (by omega) ?_ | refine And.intro (fun hb => ?_) (fun hb => ?_) | fail); (all_goals (first | (refine Fin.pure ?_ ?_ ?_ <;> (try simp only [Tryd.results80, Tryd.ntmps80, wks, hat, prC, hd, hlt, hp, hr, List.length_map, vcs, κa, κb, κc, κd, κe, κf, κg, κh, κi, κj, κk, κl, κm, reduceCtorEq, reduceIte, κn, κo, κp, κq, κr, κs, tys]) <;> (try simp only [injs])) | skip)))
      | false =>
        have hx : (s == a.name) = false := by
          rw [beq_eq_false_iff_ne] at hp ⊢; exact fun e => hp e.symm
        have hn' := notany_succ (p := fun b : Pr => s == b.name) hn ha hx
        repeat' first | simp only [Tryd.results80, Tryd.ntmps80, κt, wks, hat, prC, hd, hlt, hp, hwk, List.length_map, vcs, κa, κb, κc, κd, κe, κf, κg, κh, κi, κj, κk, κl, κm, reduceCtorEq, reduceIte, κn, κo, κp, κq, κr, κs, tys] | exact rfl | ((first | (refine call_val (g := ?_) ?_ ?_) | (refine call_valg (g := ?_) ?_ ?_)); rotate_left 1; (focus (simp only [Tryd.results80, Tryd.ntmps80, κt, wks, hat, prC, hd, hlt, hp, hwk, List.length_map, vcs, κa, κb, κc, κd, κe, κf, κg, κh, κi, κj, κk, κl, κm, reduceCtorEq, reduceIte, κn, κo, κp, κq, κr, κs, tys] <;> exact rfl))) | refine draw_end (by decide +kernel) ?_ | refine cond_bool (fun hb => ?_) (fun hb => ?_) | refine cond_bit (fun hb => ?_) (fun hb => ?_) | refine And.intro (by omega) ?_ | refine And.intro (fun hb => ?_) (fun hb => ?_) | fail
        all_goals ((refine again_can2 cxG (k + 1) [] ?_ ?_ ?_ ?_; rotate_left 2; (focus (show b0 ≤ _; omega)); (focus (refine ⟨?_, ?_⟩ <;> (try simp only [cans, plain_pr, hwk, vcs, κa, κb, κc, κd, κe, κf, κg, κh, κi, κj, κk, κl, κm, reduceCtorEq, reduceIte, κn, κo, κp, κq, κr, κs, tys, injs]) <;> (try omega)))))
        all_goals (first | (show l.length - (k + 1) < l.length - k; omega) | exact ⟨hlt, hn'⟩ | skip)
    · have hke : k = l.length := by omega
      subst hke
      rw [List.take_length] at hn
      have hd : decide (l.length < l.length) = false := decide_eq_false (by omega)
      ((repeat' first | simp only [Tryd.results80, Tryd.ntmps80, κt, wks, hd, hn, List.length_map, vcs, κa, κb, κc, κd, κe, κf, κg, κh, κi, κj, κk, κl, κm, reduceCtorEq, reduceIte, κn, κo, κp, κq, κr, κs, tys] | exact rfl | ((first | (refine call_val (g := ?_) ?_ ?_) | (refine call_valg (g := ?_) ?_ ?_)); rotate_left 1; (focus (simp only [Tryd.results80, Tryd.ntmps80, κt, wks, hd, hn, List.length_map, vcs, κa, κb, κc, κd, κe, κf, κg, κh, κi, κj, κk, κl, κm, reduceCtorEq, reduceIte, κn, κo, κp, κq, κr, κs, tys] <;> exact rfl))) | refine draw_end (by decide +kernel) ?_ | refine cond_bool (fun hb => ?_) (fun hb => ?_) | refine cond_bit (fun hb => ?_) (fun hb => ?_) | refine And.intro (by omega) ?_ | refine And.intro (fun hb => ?_) (fun hb => ?_) | fail); (all_goals (first | (refine Fin.pure ?_ ?_ ?_ <;> (try simp only [Tryd.results80, Tryd.ntmps80, wks, hd, hn, List.length_map, vcs, κa, κb, κc, κd, κe, κf, κg, κh, κi, κj, κk, κl, κm, reduceCtorEq, reduceIte, κn, κo, κp, κq, κr, κs, tys]) <;> (try simp only [injs])) | skip)))
theorem attrsTo_succ {l : List Pr} {k : Nat} {a : Pr} (h : attrsTo l k) (ha : l[k]? = some a) (ho : okP (l.take k) a = true) : attrsTo l (k + 1) := by
  intro i b hi hb
  by_cases e : i = k
  · subst e; rw [ha] at hb; cases hb; exact ho
  · exact h i b (by omega) hb
theorem attrs_false {l : List Pr} {k : Nat} {a : Pr} (ha : l[k]? = some a) (ho : okP (l.take k) a = false) : attrsL l = false := by
  cases h : attrsL l with
  | false => rfl
  | true =>
    have := (attrs_iff.1 h).2 k a (List.getElem?_eq_some_iff.1 ha).1 ha
    rw [ho] at this; cases this
set_option maxRecDepth 100000 in
set_option maxHeartbeats 4000000 in
theorem rAttrs_ev (l : List Pr) (hl : l.length ≤ lim) (hs : ∀ a ∈ l, a.name.length ≤ lim ∧ a.value.length ≤ lim) (nm : Nat) : Ev cx 55 nm [.sl false 2 (l.map prC)] Mem.nil (.bool (attrsL l)) [] := by
  have hl' := hl
  unfold lim at hl'
  refine ev_go (fun cargs w => Tryd.call55 cargs w) Tryd.func55 rfl mixed (by kernel_rfl) rfl ?_; intro b0 hb0
  repeat' first | simp only [Tryd.results55, Tryd.ntmps55, κt, wks, vcs, κa, κb, κc, κd, κe, κf, κg, κh, κi, κj, κk, κl, κm, reduceCtorEq, reduceIte, κn, κo, κp, κq, κr, κs, tys] | exact rfl | ((first | (refine call_val (g := ?_) ?_ ?_) | (refine call_valg (g := ?_) ?_ ?_)); rotate_left 1; (focus (simp only [Tryd.results55, Tryd.ntmps55, κt, wks, vcs, κa, κb, κc, κd, κe, κf, κg, κh, κi, κj, κk, κl, κm, reduceCtorEq, reduceIte, κn, κo, κp, κq, κr, κs, tys] <;> exact rfl))) | refine draw_end (by decide +kernel) ?_ | refine cond_bool (fun hb => ?_) (fun hb => ?_) | refine cond_bit (fun hb => ?_) (fun hb => ?_) | refine And.intro (by omega) ?_ | refine And.intro (fun hb => ?_) (fun hb => ?_) | fail
  (refine loop_can2 cxG (fun x : Nat => l.length - x) (fun x => x ≤ l.length ∧ attrsTo l x) (b0 + 16) (fun x => [(0, .sl false 2 (l.map prC)), (3, .int .i64 x)]) (fun x => []) (0) [] ?_ ?_ ?_ ?_; rotate_left 1; (focus (show b0 ≤ _; omega)); (focus (refine ⟨?_, ?_⟩ <;> (try simp only [cans, plain_pr, vcs, κa, κb, κc, κd, κe, κf, κg, κh, κi, κj, κk, κl, κm, reduceCtorEq, reduceIte, κn, κo, κp, κq, κr, κs, tys, injs]) <;> (try omega))); rotate_left 1)
  · exact ⟨Nat.zero_le _, fun i a hi => by omega⟩
  · rintro k ⟨hk, hn⟩
    by_cases hlt : k < l.length
    · obtain ⟨a, ha⟩ : ∃ a, l[k]? = some a := ⟨_, List.getElem?_eq_getElem hlt⟩
      obtain ⟨hs1, hs2⟩ := hs a (List.mem_of_getElem? ha)
      have hat := pr_at ha
      have hd : decide (k < l.length) = true := decide_eq_true hlt
      have hwk : IntKind.i64.wrap ((k : Int) + 1) = ((k + 1 : Nat) : Int) := wrap_in (by omega) (by omega)
      have hki : (k : Int) ≤ (l.length : Int) := by omega
      have htk : (l.map prC).take k = (l.take k).map prC := by rw [List.map_take]
      have hlen : (l.take k).length ≤ lim := by rw [List.length_take]; omega
      have hf := rFull_ev a.name hs1
      have hh := has_ev (l.take k) a.name hlen
      have hc := rCheck_ev a.value hs2
      have hok : okP (l.take k) a = (!((l.take k).any fun b => a.name == b.name) && fullL a.name && decide (ptsErr a.value = 0)) := rfl
      generalize h1 : fullL a.name = b1 at hf hok
      generalize h2 : ((l.take k).any fun b => a.name == b.name) = b2 at hh hok
      have h3 : (ptsErr a.value != 0) = !decide (ptsErr a.value = 0) := by
        rw [Bool.eq_iff_iff]; simp
      generalize decide (ptsErr a.value = 0) = b3 at h3 hok
      cases ho : okP (l.take k) a with
      | false =>
        have hr := attrs_false ha ho
        rw [ho] at hok
        cases b1 <;> cases b2 <;> cases b3
        all_goals (try (exfalso; simp at hok; done))
        all_goals (((repeat' first | simp only [Tryd.results55, Tryd.ntmps55, κt, wks, hat, prC, hd, hlt, hk, hki, htk, h3, hr, Bool.not_true, Bool.not_false, List.length_map, vcs, κa, κb, κc, κd, κe, κf, κg, κh, κi, κj, κk, κl, κm, reduceCtorEq, reduceIte, κn, κo, κp, κq, κr, κs, tys] | exact rfl | ((first | (refine call_fn ?_ (hf _) ?_) | (refine call_fn_g ?_ (fun _ => hf _) ?_) | (refine call_fn ?_ (hh _) ?_) | (refine call_fn_g ?_ (fun _ => hh _) ?_) | (refine call_fn ?_ (hc _) ?_) | (refine call_fn_g ?_ (fun _ => hc _) ?_)); (focus (simp only [Tryd.results55, Tryd.ntmps55, κt, wks, hat, prC, hd, hlt, hk, hki, htk, h3, hr, Bool.not_true, Bool.not_false, List.length_map, vcs, κa, κb, κc, κd, κe, κf, κg, κh, κi, κj, κk, κl, κm, reduceCtorEq, reduceIte, κn, κo, κp, κq, κr, κs, tys] <;> exact rfl))) | (refine call_off (v := .any) ?_) | ((first | (refine call_val (g := ?_) ?_ ?_) | (refine call_valg (g := ?_) ?_ ?_)); rotate_left 1; (focus (simp only [Tryd.results55, Tryd.ntmps55, κt, wks, hat, prC, hd, hlt, hk, hki, htk, h3, hr, Bool.not_true, Bool.not_false, List.length_map, vcs, κa, κb, κc, κd, κe, κf, κg, κh, κi, κj, κk, κl, κm, reduceCtorEq, reduceIte, κn, κo, κp, κq, κr, κs, tys] <;> exact rfl))) | refine draw_end (by decide +kernel) ?_ | refine cond_bool (fun hb => ?_) (fun hb => ?_) | refine cond_bit (fun hb => ?_) (fun hb => ?_) | refine And.intro (by omega) ?_ | refine And.intro (fun hb => ?_) (fun hb => ?_) | fail); (all_goals (first | (refine Fin.pure ?_ ?_ ?_ <;> (try simp only [Tryd.results55, Tryd.ntmps55, wks, hat, prC, hd, hlt, hk, hki, htk, h3, hr, Bool.not_true, Bool.not_false, List.length_map, vcs, κa, κb, κc, κd, κe, κf, κg, κh, κi, κj, κk, κl, κm, reduceCtorEq, reduceIte, κn, κo, κp, κq, κr, κs, tys]) <;> (try simp only [injs])) | skip))))
      | true =>
        have hn' := attrsTo_succ hn ha ho
        rw [ho] at hok
        cases b1 <;> cases b2 <;> cases b3
        all_goals (try (exfalso; simp at hok; done))
        all_goals (repeat' first | simp only [Tryd.results55, Tryd.ntmps55, κt, wks, hat, prC, hd, hlt, hk, hki, htk, h3, hwk, Bool.not_true, Bool.not_false, List.length_map, vcs, κa, κb, κc, κd, κe, κf, κg, κh, κi, κj, κk, κl, κm, reduceCtorEq, reduceIte, κn, κo, κp, κq, κr, κs, tys] | exact rfl | ((first | (refine call_fn ?_ (hf _) ?_) | (refine call_fn_g ?_ (fun _ => hf _) ?_) | (refine call_fn ?_ (hh _) ?_) | (refine call_fn_g ?_ (fun _ => hh _) ?_) | (refine call_fn ?_ (hc _) ?_) | (refine call_fn_g ?_ (fun _ => hc _) ?_)); (focus (simp only [Tryd.results55, Tryd.ntmps55, κt, wks, hat, prC, hd, hlt, hk, hki, htk, h3, hwk, Bool.not_true, Bool.not_false, List.length_map, vcs, κa, κb, κc, κd, κe, κf, κg, κh, κi, κj, κk, κl, κm, reduceCtorEq, reduceIte, κn, κo, κp, κq, κr, κs, tys] <;> exact rfl))) | ((first | (refine call_val (g := ?_) ?_ ?_) | (refine call_valg (g := ?_) ?_ ?_)); rotate_left 1; (focus (simp only [Tryd.results55, Tryd.ntmps55, κt, wks, hat, prC, hd, hlt, hk, hki, htk, h3, hwk, Bool.not_true, Bool.not_false, List.length_map, vcs, κa, κb, κc, κd, κe, κf, κg, κh, κi, κj, κk, κl, κm, reduceCtorEq, reduceIte, κn, κo, κp, κq, κr, κs, tys] <;> exact rfl))) | refine draw_end (by decide +kernel) ?_ | refine cond_bool (fun hb => ?_) (fun hb => ?_) | refine cond_bit (fun hb => ?_) (fun hb => ?_) | refine And.intro (by omega) ?_ | refine And.intro (fun hb => ?_) (fun hb => ?_) | fail)
        all_goals ((refine again_can2 cxG (k + 1) [] ?_ ?_ ?_ ?_; rotate_left 2; (focus (show b0 ≤ _; omega)); (focus (refine ⟨?_, ?_⟩ <;> (try simp only [cans, plain_pr, hwk, vcs, κa, κb, κc, κd, κe, κf, κg, κh, κi, κj, κk, κl, κm, reduceCtorEq, reduceIte, κn, κo, κp, κq, κr, κs, tys, injs]) <;> (try omega)))))
        all_goals (first | (show l.length - (k + 1) < l.length - k; omega) | exact ⟨hlt, hn'⟩ | skip)
    · have hke : k = l.length := by omega
      subst hke
      have hd : decide (l.length < l.length) = false := decide_eq_false (by omega)
      have hr : attrsL l = decide (l.length ≤ 16) := by
        rw [Bool.eq_iff_iff, attrs_iff, decide_eq_true_eq]
        exact ⟨fun h => h.1, fun h => ⟨h, hn⟩⟩
      have hz : decide ((l.length : Int) ≤ 16) = decide (l.length ≤ 16) := by
        rw [Bool.eq_iff_iff, decide_eq_true_eq, decide_eq_true_eq]; omega
      ((repeat' first | simp only [Tryd.results55, Tryd.ntmps55, κt, wks, hd, hr, hz, List.length_map, vcs, κa, κb, κc, κd, κe, κf, κg, κh, κi, κj, κk, κl, κm, reduceCtorEq, reduceIte, κn, κo, κp, κq, κr, κs, tys] | exact rfl | ((first | (refine call_val (g := ?_) ?_ ?_) | (refine call_valg (g := ?_) ?_ ?_)); rotate_left 1; (focus (simp only [Tryd.results55, Tryd.ntmps55, κt, wks, hd, hr, hz, List.length_map, vcs, κa, κb, κc, κd, κe, κf, κg, κh, κi, κj, κk, κl, κm, reduceCtorEq, reduceIte, κn, κo, κp, κq, κr, κs, tys] <;> exact rfl))) | refine draw_end (by decide +kernel) ?_ | refine cond_bool (fun hb => ?_) (fun hb => ?_) | refine cond_bit (fun hb => ?_) (fun hb => ?_) | refine And.intro (by omega) ?_ | refine And.intro (fun hb => ?_) (fun hb => ?_) | fail); (all_goals (first | (refine Fin.pure ?_ ?_ ?_ <;> (try simp only [Tryd.results55, Tryd.ntmps55, wks, hd, hr, hz, List.length_map, vcs, κa, κb, κc, κd, κe, κf, κg, κh, κi, κj, κk, κl, κm, reduceCtorEq, reduceIte, κn, κo, κp, κq, κr, κs, tys]) <;> (try simp only [injs])) | skip)))
end Go.Proofs.YtanahnknjboplaaDoor
/-
  Layer 9 by the machine: elements of which something holds; which tokens may be.
-/
namespace Go.Proofs.YtanahnknjboplaaDoor
set_option linter.unusedSimpArgs false
set_option linter.unusedVariables false
open Nat renaming reduceAdd → κa, reduceMul → κb, reduceEqDiff → κc, reduceLeDiff → κd, reduceSub → κe, reduceLT → κf, reduceBEq → κr, reduceBNe → κs, reducePow → κt
open Int renaming reduceToNat → κg, reduceLE → κh, reduceLT → κi, reduceAdd → κj, reduceSub → κk, reduceMul → κl, reduceNeg → κm, reduceBEq → κn, reduceBNe → κo, reduceEq → κp, reduceNe → κq
open Go Go.RowKit Go.Proofs.YtanahnknjboplaaDoor.Vm Go.Lib

def idxI (o : Option Nat) : Int := match o with | some n => n | none => -1
theorem idxI_some (n : Nat) : idxI (some n) = n := rfl
theorem idxI_none : idxI none = -1 := rfl
theorem find_at2 {α : Type} {p : α → Bool} : ∀ {l : List α} {k : Nat} {x : α}, (l.take k).any p = false → l[k]? = some x → p x = true → l.findIdx? p = some k
  | [], k, x, _, h, _ => by simp at h
  | y :: l, 0, x, _, h, hp => by simp at h; subst h; simp [List.findIdx?_cons, hp]
  | y :: l, k + 1, x, hn, h, hp => by
    simp only [List.take_succ_cons, List.any_cons, Bool.or_eq_false_iff] at hn
    rw [List.findIdx?_cons, hn.1]
    simp [find_at2 (l := l) (k := k) (x := x) hn.2 (by simpa using h) hp]
theorem find_none2 {α : Type} {p : α → Bool} {l : List α} (h : l.any p = false) : l.findIdx? p = none := by
  simpa [List.findIdx?_eq_none_iff] using h
theorem any_none {α : Type} {p : α → Bool} {l : List α} (h : l.findIdx? p = none) : l.any p = false := by
  simpa [List.findIdx?_eq_none_iff] using h
theorem any_some {α : Type} {p : α → Bool} {l : List α} {n : Nat} (h : l.findIdx? p = some n) : l.any p = true := by
  cases ha : l.any p with
  | true => rfl
  | false => rw [find_none2 ha] at h; cases h
theorem finL_caps {caps : List V} (h : plainL caps = true) (σ : List (Nat × Nat)) (M : Mem) : finL σ M caps = caps := (finL_plain σ M caps h).1
theorem finLOk_caps {caps : List V} (h : plainL caps = true) (σ : List (Nat × Nat)) (M : Mem) : finLOk σ M caps = True := eq_true (finL_plain σ M caps h).2
set_option maxRecDepth 100000 in
set_option maxHeartbeats 4000000 in
theorem indexpr_ev (l : List Pr) (f : Nat) (caps : List V) (p : Pr → Bool) (hf : ∀ h ∈ l, ∀ nm, Ev cx f nm (.agg (prC h) :: caps) Mem.nil (.bool (p h)) []) (hn : l.length ≤ lim) (hpl : plainL caps = true) (nm : Nat) : Ev cx 70 nm [.sl false 2 (l.map prC), .fn f caps] Mem.nil (.int .i64 (idxI (l.findIdx? p))) [] := by
  unfold lim at hn
  refine ev_go (fun cargs w => Tryd.call70 cargs w) Tryd.func70 rfl mixed (by kernel_rfl) rfl ?_; intro b0 hb0
  repeat' first | simp only [Tryd.results70, Tryd.ntmps70, κt, wks, vcs, κa, κb, κc, κd, κe, κf, κg, κh, κi, κj, κk, κl, κm, reduceCtorEq, reduceIte, κn, κo, κp, κq, κr, κs, tys] | exact rfl | ((first | (refine call_val (g := ?_) ?_ ?_) | (refine call_valg (g := ?_) ?_ ?_)); rotate_left 1; (focus (simp only [Tryd.results70, Tryd.ntmps70, κt, wks, vcs, κa, κb, κc, κd, κe, κf, κg, κh, κi, κj, κk, κl, κm, reduceCtorEq, reduceIte, κn, κo, κp, κq, κr, κs, tys] <;> exact rfl))) | refine draw_end (by decide +kernel) ?_ | refine cond_bool (fun hb => ?_) (fun hb => ?_) | refine cond_bit (fun hb => ?_) (fun hb => ?_) | refine And.intro (by omega) ?_ | refine And.intro (fun hb => ?_) (fun hb => ?_) | fail
  (refine loop_can2 cxG (fun x : Nat => l.length - x) (fun x => x ≤ l.length ∧ (l.take x).any p = false) (b0 + 16) (fun x => [(0, .sl false 2 (l.map prC)), (1, .fn f caps), (7, .int .i64 l.length), (8, .int .i64 x)]) (fun x => []) (0) [] ?_ ?_ ?_ ?_; rotate_left 1; (focus (show b0 ≤ _; omega)); (focus (refine ⟨?_, ?_⟩ <;> (try simp only [cans, List.length_map, plain_pr, finL_caps hpl, finLOk_caps hpl, vcs, κa, κb, κc, κd, κe, κf, κg, κh, κi, κj, κk, κl, κm, reduceCtorEq, reduceIte, κn, κo, κp, κq, κr, κs, tys, injs]) <;> (try omega))); rotate_left 1)
  · exact ⟨Nat.zero_le _, by simp⟩
  · rintro k ⟨hk, hno⟩
    by_cases hlt : k < l.length
    · obtain ⟨h, hh⟩ : ∃ h, l[k]? = some h := ⟨_, List.getElem?_eq_getElem hlt⟩
      have hat : (l.map prC)[k]? = some (prC h) := by rw [List.getElem?_map, hh]; rfl
      have hd : decide (k < l.length) = true := decide_eq_true hlt
      have hwk : IntKind.i64.wrap ((k : Int) + 1) = ((k + 1 : Nat) : Int) := wrap_in (by omega) (by omega)
      have hfh := hf h (List.mem_of_getElem? hh)
      cases hp : p h with
      | true =>
        have hfd := find_at2 hno hh hp
        rw [hp] at hfh
        ((repeat' first | simp only [Tryd.results70, Tryd.ntmps70, κt, wks, hat, prC, hlt, hd, hwk, hfd, idxI_some, List.length_map, vcs, κa, κb, κc, κd, κe, κf, κg, κh, κi, κj, κk, κl, κm, reduceCtorEq, reduceIte, κn, κo, κp, κq, κr, κs, tys] | exact rfl | refine call_pure (g := f) (caps := caps) (by simp only [Tryd.results70, Tryd.ntmps70, κt, wks, hat, prC, hlt, hd, hwk, hfd, idxI_some, List.length_map, vcs, κa, κb, κc, κd, κe, κf, κg, κh, κi, κj, κk, κl, κm, reduceCtorEq, reduceIte, κn, κo, κp, κq, κr, κs, tys] <;> exact rfl) (by simp only [Tryd.results70, Tryd.ntmps70, κt, wks, hat, prC, hlt, hd, hwk, hfd, idxI_some, List.length_map, vcs, κa, κb, κc, κd, κe, κf, κg, κh, κi, κj, κk, κl, κm, reduceCtorEq, reduceIte, κn, κo, κp, κq, κr, κs, tys] <;> exact rfl) (hfh _) ?_ | ((first | (refine call_val (g := ?_) ?_ ?_) | (refine call_valg (g := ?_) ?_ ?_)); rotate_left 1; (focus (simp only [Tryd.results70, Tryd.ntmps70, κt, wks, hat, prC, hlt, hd, hwk, hfd, idxI_some, List.length_map, vcs, κa, κb, κc, κd, κe, κf, κg, κh, κi, κj, κk, κl, κm, reduceCtorEq, reduceIte, κn, κo, κp, κq, κr, κs, tys] <;> exact rfl))) | refine draw_end (by decide +kernel) ?_ | refine cond_bool (fun hb => ?_) (fun hb => ?_) | refine cond_bit (fun hb => ?_) (fun hb => ?_) | refine And.intro (by omega) ?_ | refine And.intro (fun hb => ?_) (fun hb => ?_) | fail); (all_goals (first | (refine Fin.pure ?_ ?_ ?_ <;> (try simp only [Tryd.results70, Tryd.ntmps70, wks, hat, prC, hlt, hd, hwk, hfd, idxI_some, List.length_map, vcs, κa, κb, κc, κd, κe, κf, κg, κh, κi, κj, κk, κl, κm, reduceCtorEq, reduceIte, κn, κo, κp, κq, κr, κs, tys]) <;> (try simp only [injs])) | skip)))
      | false =>
        have hn' := notany_succ (p := p) hno hh hp
        rw [hp] at hfh
        repeat' first | simp only [Tryd.results70, Tryd.ntmps70, κt, wks, hat, prC, hlt, hd, hwk, List.length_map, vcs, κa, κb, κc, κd, κe, κf, κg, κh, κi, κj, κk, κl, κm, reduceCtorEq, reduceIte, κn, κo, κp, κq, κr, κs, tys] | exact rfl | refine call_pure (g := f) (caps := caps) (by simp only [Tryd.results70, Tryd.ntmps70, κt, wks, hat, prC, hlt, hd, hwk, List.length_map, vcs, κa, κb, κc, κd, κe, κf, κg, κh, κi, κj, κk, κl, κm, reduceCtorEq, reduceIte, κn, κo, κp, κq, κr, κs, tys] <;> exact rfl) (by simp only [Tryd.results70, Tryd.ntmps70, κt, wks, hat, prC, hlt, hd, hwk, List.length_map, vcs, κa, κb, κc, κd, κe, κf, κg, κh, κi, κj, κk, κl, κm, reduceCtorEq, reduceIte, κn, κo, κp, κq, κr, κs, tys] <;> exact rfl) (hfh _) ?_ | ((first | (refine call_val (g := ?_) ?_ ?_) | (refine call_valg (g := ?_) ?_ ?_)); rotate_left 1; (focus (simp only [Tryd.results70, Tryd.ntmps70, κt, wks, hat, prC, hlt, hd, hwk, List.length_map, vcs, κa, κb, κc, κd, κe, κf, κg, κh, κi, κj, κk, κl, κm, reduceCtorEq, reduceIte, κn, κo, κp, κq, κr, κs, tys] <;> exact rfl))) | refine draw_end (by decide +kernel) ?_ | refine cond_bool (fun hb => ?_) (fun hb => ?_) | refine cond_bit (fun hb => ?_) (fun hb => ?_) | refine And.intro (by omega) ?_ | refine And.intro (fun hb => ?_) (fun hb => ?_) | fail
        all_goals ((refine again_can2 cxG (k + 1) [] ?_ ?_ ?_ ?_; rotate_left 2; (focus (show b0 ≤ _; omega)); (focus (refine ⟨?_, ?_⟩ <;> (try simp only [cans, plain_pr, finL_caps hpl, finLOk_caps hpl, hwk, vcs, κa, κb, κc, κd, κe, κf, κg, κh, κi, κj, κk, κl, κm, reduceCtorEq, reduceIte, κn, κo, κp, κq, κr, κs, tys, injs]) <;> (try omega)))))
        all_goals (first | (show l.length - (k + 1) < l.length - k; omega) | exact ⟨hlt, hn'⟩ | skip)
    · have hke : k = l.length := by omega
      subst hke
      rw [List.take_length] at hno
      have hfd := find_none2 hno
      have hd : decide (l.length < l.length) = false := decide_eq_false (by omega)
      ((repeat' first | simp only [Tryd.results70, Tryd.ntmps70, κt, wks, hd, hfd, idxI_none, List.length_map, vcs, κa, κb, κc, κd, κe, κf, κg, κh, κi, κj, κk, κl, κm, reduceCtorEq, reduceIte, κn, κo, κp, κq, κr, κs, tys] | exact rfl | ((first | (refine call_val (g := ?_) ?_ ?_) | (refine call_valg (g := ?_) ?_ ?_)); rotate_left 1; (focus (simp only [Tryd.results70, Tryd.ntmps70, κt, wks, hd, hfd, idxI_none, List.length_map, vcs, κa, κb, κc, κd, κe, κf, κg, κh, κi, κj, κk, κl, κm, reduceCtorEq, reduceIte, κn, κo, κp, κq, κr, κs, tys] <;> exact rfl))) | refine draw_end (by decide +kernel) ?_ | refine cond_bool (fun hb => ?_) (fun hb => ?_) | refine cond_bit (fun hb => ?_) (fun hb => ?_) | refine And.intro (by omega) ?_ | refine And.intro (fun hb => ?_) (fun hb => ?_) | fail); (all_goals (first | (refine Fin.pure ?_ ?_ ?_ <;> (try simp only [Tryd.results70, Tryd.ntmps70, wks, hd, hfd, idxI_none, List.length_map, vcs, κa, κb, κc, κd, κe, κf, κg, κh, κi, κj, κk, κl, κm, reduceCtorEq, reduceIte, κn, κo, κp, κq, κr, κs, tys]) <;> (try simp only [injs])) | skip)))
theorem containspr_ev (l : List Pr) (f : Nat) (caps : List V) (p : Pr → Bool) (hf : ∀ h ∈ l, ∀ nm, Ev cx f nm (.agg (prC h) :: caps) Mem.nil (.bool (p h)) []) (hn : l.length ≤ lim) (hpl : plainL caps = true) (nm : Nat) : Ev cx 50 nm [.sl false 2 (l.map prC), .fn f caps] Mem.nil (.bool (l.any p)) [] := by
  have hi := indexpr_ev l f caps p hf hn hpl
  cases h : l.findIdx? p with
  | none =>
    have ha : l.any p = false := any_none h
    rw [h] at hi
    refine ev_go (fun cargs w => Tryd.call50 cargs w) Tryd.func50 rfl mixed (by kernel_rfl) rfl ?_; intro b0 hb0
    ((repeat' first | simp only [Tryd.results50, Tryd.ntmps50, κt, wks, ha, idxI_none, vcs, κa, κb, κc, κd, κe, κf, κg, κh, κi, κj, κk, κl, κm, reduceCtorEq, reduceIte, κn, κo, κp, κq, κr, κs, tys] | exact rfl | ((first | (refine call_fn ?_ (hi _) ?_) | (refine call_fn_g ?_ (fun _ => hi _) ?_)); (focus (simp only [Tryd.results50, Tryd.ntmps50, κt, wks, ha, idxI_none, vcs, κa, κb, κc, κd, κe, κf, κg, κh, κi, κj, κk, κl, κm, reduceCtorEq, reduceIte, κn, κo, κp, κq, κr, κs, tys] <;> exact rfl))) | ((first | (refine call_val (g := ?_) ?_ ?_) | (refine call_valg (g := ?_) ?_ ?_)); rotate_left 1; (focus (simp only [Tryd.results50, Tryd.ntmps50, κt, wks, ha, idxI_none, vcs, κa, κb, κc, κd, κe, κf, κg, κh, κi, κj, κk, κl, κm, reduceCtorEq, reduceIte, κn, κo, κp, κq, κr, κs, tys] <;> exact rfl))) | refine draw_end (by decide +kernel) ?_ | refine cond_bool (fun hb => ?_) (fun hb => ?_) | refine cond_bit (fun hb => ?_) (fun hb => ?_) | refine And.intro (by omega) ?_ | refine And.intro (fun hb => ?_) (fun hb => ?_) | fail); (all_goals (first | (refine Fin.pure ?_ ?_ ?_ <;> (try simp only [Tryd.results50, Tryd.ntmps50, wks, ha, idxI_none, vcs, κa, κb, κc, κd, κe, κf, κg, κh, κi, κj, κk, κl, κm, reduceCtorEq, reduceIte, κn, κo, κp, κq, κr, κs, tys]) <;> (try simp only [injs])) | skip)))
  | some n =>
    have ha : l.any p = true := any_some h
    rw [h] at hi
    have hz : decide ((0 : Int) ≤ (n : Int)) = true := decide_eq_true (by omega)
    refine ev_go (fun cargs w => Tryd.call50 cargs w) Tryd.func50 rfl mixed (by kernel_rfl) rfl ?_; intro b0 hb0
    ((repeat' first | simp only [Tryd.results50, Tryd.ntmps50, κt, wks, ha, idxI_some, hz, vcs, κa, κb, κc, κd, κe, κf, κg, κh, κi, κj, κk, κl, κm, reduceCtorEq, reduceIte, κn, κo, κp, κq, κr, κs, tys] | exact rfl | ((first | (refine call_fn ?_ (hi _) ?_) | (refine call_fn_g ?_ (fun _ => hi _) ?_)); (focus (simp only [Tryd.results50, Tryd.ntmps50, κt, wks, ha, idxI_some, hz, vcs, κa, κb, κc, κd, κe, κf, κg, κh, κi, κj, κk, κl, κm, reduceCtorEq, reduceIte, κn, κo, κp, κq, κr, κs, tys] <;> exact rfl))) | ((first | (refine call_val (g := ?_) ?_ ?_) | (refine call_valg (g := ?_) ?_ ?_)); rotate_left 1; (focus (simp only [Tryd.results50, Tryd.ntmps50, κt, wks, ha, idxI_some, hz, vcs, κa, κb, κc, κd, κe, κf, κg, κh, κi, κj, κk, κl, κm, reduceCtorEq, reduceIte, κn, κo, κp, κq, κr, κs, tys] <;> exact rfl))) | refine draw_end (by decide +kernel) ?_ | refine cond_bool (fun hb => ?_) (fun hb => ?_) | refine cond_bit (fun hb => ?_) (fun hb => ?_) | refine And.intro (by omega) ?_ | refine And.intro (fun hb => ?_) (fun hb => ?_) | fail); (all_goals (first | (refine Fin.pure ?_ ?_ ?_ <;> (try simp only [Tryd.results50, Tryd.ntmps50, wks, ha, idxI_some, hz, vcs, κa, κb, κc, κd, κe, κf, κg, κh, κi, κj, κk, κl, κm, reduceCtorEq, reduceIte, κn, κo, κp, κq, κr, κs, tys]) <;> (try simp only [injs])) | skip)))

set_option maxRecDepth 100000 in
set_option maxHeartbeats 4000000 in
theorem indextk_ev (l : List Tk) (f : Nat) (caps : List V) (p : Tk → Bool) (hf : ∀ h ∈ l, ∀ nm, Ev cx f nm (.agg (tkC h) :: caps) Mem.nil (.bool (p h)) []) (hn : l.length ≤ lim) (hpl : plainL caps = true) (nm : Nat) : Ev cx 48 nm [.sl false 4 (l.map tkC), .fn f caps] Mem.nil (.int .i64 (idxI (l.findIdx? p))) [] := by
  unfold lim at hn
  refine ev_go (fun cargs w => Tryd.call48 cargs w) Tryd.func48 rfl mixed (by kernel_rfl) rfl ?_; intro b0 hb0
  repeat' first | simp only [Tryd.results48, Tryd.ntmps48, κt, wks, vcs, κa, κb, κc, κd, κe, κf, κg, κh, κi, κj, κk, κl, κm, reduceCtorEq, reduceIte, κn, κo, κp, κq, κr, κs, tys] | exact rfl | ((first | (refine call_val (g := ?_) ?_ ?_) | (refine call_valg (g := ?_) ?_ ?_)); rotate_left 1; (focus (simp only [Tryd.results48, Tryd.ntmps48, κt, wks, vcs, κa, κb, κc, κd, κe, κf, κg, κh, κi, κj, κk, κl, κm, reduceCtorEq, reduceIte, κn, κo, κp, κq, κr, κs, tys] <;> exact rfl))) | refine draw_end (by decide +kernel) ?_ | refine cond_bool (fun hb => ?_) (fun hb => ?_) | refine cond_bit (fun hb => ?_) (fun hb => ?_) | refine And.intro (by omega) ?_ | refine And.intro (fun hb => ?_) (fun hb => ?_) | fail
  (refine loop_can2 cxG (fun x : Nat => l.length - x) (fun x => x ≤ l.length ∧ (l.take x).any p = false) (b0 + 16) (fun x => [(0, .sl false 4 (l.map tkC)), (1, .fn f caps), (7, .int .i64 l.length), (8, .int .i64 x)]) (fun x => []) (0) [] ?_ ?_ ?_ ?_; rotate_left 1; (focus (show b0 ≤ _; omega)); (focus (refine ⟨?_, ?_⟩ <;> (try simp only [cans, List.length_map, plain_tk, finL_caps hpl, finLOk_caps hpl, vcs, κa, κb, κc, κd, κe, κf, κg, κh, κi, κj, κk, κl, κm, reduceCtorEq, reduceIte, κn, κo, κp, κq, κr, κs, tys, injs]) <;> (try omega))); rotate_left 1)
  · exact ⟨Nat.zero_le _, by simp⟩
  · rintro k ⟨hk, hno⟩
    by_cases hlt : k < l.length
    · obtain ⟨h, hh⟩ : ∃ h, l[k]? = some h := ⟨_, List.getElem?_eq_getElem hlt⟩
      have hat : (l.map tkC)[k]? = some (tkC h) := by rw [List.getElem?_map, hh]; rfl
      have hd : decide (k < l.length) = true := decide_eq_true hlt
      have hwk : IntKind.i64.wrap ((k : Int) + 1) = ((k + 1 : Nat) : Int) := wrap_in (by omega) (by omega)
      have hfh := hf h (List.mem_of_getElem? hh)
      cases hp : p h with
      | true =>
        have hfd := find_at2 hno hh hp
        rw [hp] at hfh
        ((repeat' first | simp only [Tryd.results48, Tryd.ntmps48, κt, wks, hat, tkC, hlt, hd, hwk, hfd, idxI_some, List.length_map, vcs, κa, κb, κc, κd, κe, κf, κg, κh, κi, κj, κk, κl, κm, reduceCtorEq, reduceIte, κn, κo, κp, κq, κr, κs, tys] | exact rfl | refine call_pure (g := f) (caps := caps) (by simp only [Tryd.results48, Tryd.ntmps48, κt, wks, hat, tkC, hlt, hd, hwk, hfd, idxI_some, List.length_map, vcs, κa, κb, κc, κd, κe, κf, κg, κh, κi, κj, κk, κl, κm, reduceCtorEq, reduceIte, κn, κo, κp, κq, κr, κs, tys] <;> exact rfl) (by simp only [Tryd.results48, Tryd.ntmps48, κt, wks, hat, tkC, hlt, hd, hwk, hfd, idxI_some, List.length_map, vcs, κa, κb, κc, κd, κe, κf, κg, κh, κi, κj, κk, κl, κm, reduceCtorEq, reduceIte, κn, κo, κp, κq, κr, κs, tys] <;> exact rfl) (hfh _) ?_ | ((first | (refine call_val (g := ?_) ?_ ?_) | (refine call_valg (g := ?_) ?_ ?_)); rotate_left 1; (focus (simp only [Tryd.results48, Tryd.ntmps48, κt, wks, hat, tkC, hlt, hd, hwk, hfd, idxI_some, List.length_map, vcs, κa, κb, κc, κd, κe, κf, κg, κh, κi, κj, κk, κl, κm, reduceCtorEq, reduceIte, κn, κo, κp, κq, κr, κs, tys] <;> exact rfl))) | refine draw_end (by decide +kernel) ?_ | refine cond_bool (fun hb => ?_) (fun hb => ?_) | refine cond_bit (fun hb => ?_) (fun hb => ?_) | refine And.intro (by omega) ?_ | refine And.intro (fun hb => ?_) (fun hb => ?_) | fail); (all_goals (first | (refine Fin.pure ?_ ?_ ?_ <;> (try simp only [Tryd.results48, Tryd.ntmps48, wks, hat, tkC, hlt, hd, hwk, hfd, idxI_some, List.length_map, vcs, κa, κb, κc, κd, κe, κf, κg, κh, κi, κj, κk, κl, κm, reduceCtorEq, reduceIte, κn, κo, κp, κq, κr, κs, tys]) <;> (try simp only [injs])) | skip)))
      | false =>
        have hn' := notany_succ (p := p) hno hh hp
        rw [hp] at hfh
        repeat' first | simp only [Tryd.results48, Tryd.ntmps48, κt, wks, hat, tkC, hlt, hd, hwk, List.length_map, vcs, κa, κb, κc, κd, κe, κf, κg, κh, κi, κj, κk, κl, κm, reduceCtorEq, reduceIte, κn, κo, κp, κq, κr, κs, tys] | exact rfl | refine call_pure (g := f) (caps := caps) (by simp only [Tryd.results48, Tryd.ntmps48, κt, wks, hat, tkC, hlt, hd, hwk, List.length_map, vcs, κa, κb, κc, κd, κe, κf, κg, κh, κi, κj, κk, κl, κm, reduceCtorEq, reduceIte, κn, κo, κp, κq, κr, κs, tys] <;> exact rfl) (by simp only [Tryd.results48, Tryd.ntmps48, κt, wks, hat, tkC, hlt, hd, hwk, List.length_map, vcs, κa, κb, κc, κd, κe, κf, κg, κh, κi, κj, κk, κl, κm, reduceCtorEq, reduceIte, κn, κo, κp, κq, κr, κs, tys] <;> exact rfl) (hfh _) ?_ | ((first | (refine call_val (g := ?_) ?_ ?_) | (refine call_valg (g := ?_) ?_ ?_)); rotate_left 1; (focus (simp only [Tryd.results48, Tryd.ntmps48, κt, wks, hat, tkC, hlt, hd, hwk, List.length_map, vcs, κa, κb, κc, κd, κe, κf, κg, κh, κi, κj, κk, κl, κm, reduceCtorEq, reduceIte, κn, κo, κp, κq, κr, κs, tys] <;> exact rfl))) | refine draw_end (by decide +kernel) ?_ | refine cond_bool (fun hb => ?_) (fun hb => ?_) | refine cond_bit (fun hb => ?_) (fun hb => ?_) | refine And.intro (by omega) ?_ | refine And.intro (fun hb => ?_) (fun hb => ?_) | fail
        all_goals ((refine again_can2 cxG (k + 1) [] ?_ ?_ ?_ ?_; rotate_left 2; (focus (show b0 ≤ _; omega)); (focus (refine ⟨?_, ?_⟩ <;> (try simp only [cans, plain_tk, finL_caps hpl, finLOk_caps hpl, hwk, vcs, κa, κb, κc, κd, κe, κf, κg, κh, κi, κj, κk, κl, κm, reduceCtorEq, reduceIte, κn, κo, κp, κq, κr, κs, tys, injs]) <;> (try omega)))))
        all_goals (first | (show l.length - (k + 1) < l.length - k; omega) | exact ⟨hlt, hn'⟩ | skip)
    · have hke : k = l.length := by omega
      subst hke
      rw [List.take_length] at hno
      have hfd := find_none2 hno
      have hd : decide (l.length < l.length) = false := decide_eq_false (by omega)
      ((repeat' first | simp only [Tryd.results48, Tryd.ntmps48, κt, wks, hd, hfd, idxI_none, List.length_map, vcs, κa, κb, κc, κd, κe, κf, κg, κh, κi, κj, κk, κl, κm, reduceCtorEq, reduceIte, κn, κo, κp, κq, κr, κs, tys] | exact rfl | ((first | (refine call_val (g := ?_) ?_ ?_) | (refine call_valg (g := ?_) ?_ ?_)); rotate_left 1; (focus (simp only [Tryd.results48, Tryd.ntmps48, κt, wks, hd, hfd, idxI_none, List.length_map, vcs, κa, κb, κc, κd, κe, κf, κg, κh, κi, κj, κk, κl, κm, reduceCtorEq, reduceIte, κn, κo, κp, κq, κr, κs, tys] <;> exact rfl))) | refine draw_end (by decide +kernel) ?_ | refine cond_bool (fun hb => ?_) (fun hb => ?_) | refine cond_bit (fun hb => ?_) (fun hb => ?_) | refine And.intro (by omega) ?_ | refine And.intro (fun hb => ?_) (fun hb => ?_) | fail); (all_goals (first | (refine Fin.pure ?_ ?_ ?_ <;> (try simp only [Tryd.results48, Tryd.ntmps48, wks, hd, hfd, idxI_none, List.length_map, vcs, κa, κb, κc, κd, κe, κf, κg, κh, κi, κj, κk, κl, κm, reduceCtorEq, reduceIte, κn, κo, κp, κq, κr, κs, tys]) <;> (try simp only [injs])) | skip)))
theorem containstk_ev (l : List Tk) (f : Nat) (caps : List V) (p : Tk → Bool) (hf : ∀ h ∈ l, ∀ nm, Ev cx f nm (.agg (tkC h) :: caps) Mem.nil (.bool (p h)) []) (hn : l.length ≤ lim) (hpl : plainL caps = true) (nm : Nat) : Ev cx 24 nm [.sl false 4 (l.map tkC), .fn f caps] Mem.nil (.bool (l.any p)) [] := by
  have hi := indextk_ev l f caps p hf hn hpl
  cases h : l.findIdx? p with
  | none =>
    have ha : l.any p = false := any_none h
    rw [h] at hi
    refine ev_go (fun cargs w => Tryd.call24 cargs w) Tryd.func24 rfl mixed (by kernel_rfl) rfl ?_; intro b0 hb0
    ((repeat' first | simp only [Tryd.results24, Tryd.ntmps24, κt, wks, ha, idxI_none, vcs, κa, κb, κc, κd, κe, κf, κg, κh, κi, κj, κk, κl, κm, reduceCtorEq, reduceIte, κn, κo, κp, κq, κr, κs, tys] | exact rfl | ((first | (refine call_fn ?_ (hi _) ?_) | (refine call_fn_g ?_ (fun _ => hi _) ?_)); (focus (simp only [Tryd.results24, Tryd.ntmps24, κt, wks, ha, idxI_none, vcs, κa, κb, κc, κd, κe, κf, κg, κh, κi, κj, κk, κl, κm, reduceCtorEq, reduceIte, κn, κo, κp, κq, κr, κs, tys] <;> exact rfl))) | ((first | (refine call_val (g := ?_) ?_ ?_) | (refine call_valg (g := ?_) ?_ ?_)); rotate_left 1; (focus (simp only [Tryd.results24, Tryd.ntmps24, κt, wks, ha, idxI_none, vcs, κa, κb, κc, κd, κe, κf, κg, κh, κi, κj, κk, κl, κm, reduceCtorEq, reduceIte, κn, κo, κp, κq, κr, κs, tys] <;> exact rfl))) | refine draw_end (by decide +kernel) ?_ | refine cond_bool (fun hb => ?_) (fun hb => ?_) | refine cond_bit (fun hb => ?_) (fun hb => ?_) | refine And.intro (by omega) ?_ | refine And.intro (fun hb => ?_) (fun hb => ?_) | fail); (all_goals (first | (refine Fin.pure ?_ ?_ ?_ <;> (try simp only [Tryd.results24, Tryd.ntmps24, wks, ha, idxI_none, vcs, κa, κb, κc, κd, κe, κf, κg, κh, κi, κj, κk, κl, κm, reduceCtorEq, reduceIte, κn, κo, κp, κq, κr, κs, tys]) <;> (try simp only [injs])) | skip)))
  | some n =>
    have ha : l.any p = true := any_some h
    rw [h] at hi
    have hz : decide ((0 : Int) ≤ (n : Int)) = true := decide_eq_true (by omega)
    refine ev_go (fun cargs w => Tryd.call24 cargs w) Tryd.func24 rfl mixed (by kernel_rfl) rfl ?_; intro b0 hb0
    ((repeat' first | simp only [Tryd.results24, Tryd.ntmps24, κt, wks, ha, idxI_some, hz, vcs, κa, κb, κc, κd, κe, κf, κg, κh, κi, κj, κk, κl, κm, reduceCtorEq, reduceIte, κn, κo, κp, κq, κr, κs, tys] | exact rfl | ((first | (refine call_fn ?_ (hi _) ?_) | (refine call_fn_g ?_ (fun _ => hi _) ?_)); (focus (simp only [Tryd.results24, Tryd.ntmps24, κt, wks, ha, idxI_some, hz, vcs, κa, κb, κc, κd, κe, κf, κg, κh, κi, κj, κk, κl, κm, reduceCtorEq, reduceIte, κn, κo, κp, κq, κr, κs, tys] <;> exact rfl))) | ((first | (refine call_val (g := ?_) ?_ ?_) | (refine call_valg (g := ?_) ?_ ?_)); rotate_left 1; (focus (simp only [Tryd.results24, Tryd.ntmps24, κt, wks, ha, idxI_some, hz, vcs, κa, κb, κc, κd, κe, κf, κg, κh, κi, κj, κk, κl, κm, reduceCtorEq, reduceIte, κn, κo, κp, κq, κr, κs, tys] <;> exact rfl))) | refine draw_end (by decide +kernel) ?_ | refine cond_bool (fun hb => ?_) (fun hb => ?_) | refine cond_bit (fun hb => ?_) (fun hb => ?_) | refine And.intro (by omega) ?_ | refine And.intro (fun hb => ?_) (fun hb => ?_) | fail); (all_goals (first | (refine Fin.pure ?_ ?_ ?_ <;> (try simp only [Tryd.results24, Tryd.ntmps24, wks, ha, idxI_some, hz, vcs, κa, κb, κc, κd, κe, κf, κg, κh, κi, κj, κk, κl, κm, reduceCtorEq, reduceIte, κn, κo, κp, κq, κr, κs, tys]) <;> (try simp only [injs])) | skip)))

set_option maxRecDepth 100000 in
theorem check1_ev (a b : Pr) (nm : Nat) : Ev cx 51 nm [.agg (prC b), .rp (prC a)] Mem.nil (.bool (a.name == b.name)) [] := by
  refine ev_go (fun cargs w => Tryd.call51 cargs w) Tryd.func51 rfl mixed (by kernel_rfl) rfl ?_; intro b0 hb0
  ((repeat' first | simp only [Tryd.results51, Tryd.ntmps51, κt, wks, prC, vcs, κa, κb, κc, κd, κe, κf, κg, κh, κi, κj, κk, κl, κm, reduceCtorEq, reduceIte, κn, κo, κp, κq, κr, κs, tys] | exact rfl | ((first | (refine call_val (g := ?_) ?_ ?_) | (refine call_valg (g := ?_) ?_ ?_)); rotate_left 1; (focus (simp only [Tryd.results51, Tryd.ntmps51, κt, wks, prC, vcs, κa, κb, κc, κd, κe, κf, κg, κh, κi, κj, κk, κl, κm, reduceCtorEq, reduceIte, κn, κo, κp, κq, κr, κs, tys] <;> exact rfl))) | refine draw_end (by decide +kernel) ?_ | refine cond_bool (fun hb => ?_) (fun hb => ?_) | refine cond_bit (fun hb => ?_) (fun hb => ?_) | refine And.intro (by omega) ?_ | refine And.intro (fun hb => ?_) (fun hb => ?_) | fail); (all_goals (first | (refine Fin.pure ?_ ?_ ?_ <;> (try simp only [Tryd.results51, Tryd.ntmps51, wks, prC, vcs, κa, κb, κc, κd, κe, κf, κg, κh, κi, κj, κk, κl, κm, reduceCtorEq, reduceIte, κn, κo, κp, κq, κr, κs, tys]) <;> (try simp only [injs])) | skip)))
end Go.Proofs.YtanahnknjboplaaDoor
