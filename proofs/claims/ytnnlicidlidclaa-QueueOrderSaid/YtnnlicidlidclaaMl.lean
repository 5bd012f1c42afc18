/-
  Texts joined: XZo.
-/
import Derived.Test.YtnnlicidlidclaaMi
/-
  Layer 23: how much deeds are; plain laws of what is put and taken in parts.
-/
namespace Go.Proofs.Ytnnlicidlidclaa
set_option linter.unusedSimpArgs false
set_option linter.unusedVariables false
open Go Go.RowKit Go.Proofs.Ytnnlicidlidclaa.Vm

structure Deed where
  put : List (List UInt8)
  n : Int
def dcells (d : Deed) : List V := [.sl false 1 (d.put.map scellsQ), .int .i64 d.n]
def totalD (l : List Deed) : Int := l.foldl (fun a d => a + sumN d.put) 0
theorem totalD_snoc {l : List Deed} {k : Nat} {d : Deed} (h : l[k]? = some d) : totalD (l.take (k + 1)) = totalD (l.take k) + sumN d.put := by
  rw [List.take_add_one, h]; simp [totalD]
def manyD (d : Deed) : Bool := decide ((100 : Int) < d.put.length)
def heavyB (l : List Deed) : Bool := (l.take 50).any manyD || (decide ((40 : Int) < l.length) || decide ((20000 : Int) < totalD (l.take 50)))
theorem sumN_le (l : List (List UInt8)) : 0 ≤ sumN l ∧ sumN l ≤ 20000 * l.length := by
  obtain ⟨h1, h2⟩ := sumN_bound l 0 (by omega)
  unfold sumN
  omega
theorem totalD_le : ∀ (l : List Deed) (a : Int), 0 ≤ a → l.any manyD = false → a ≤ l.foldl (fun a d => a + sumN d.put) a ∧ l.foldl (fun a d => a + sumN d.put) a ≤ a + 2000000 * l.length
  | [], a, h, _ => by simp
  | d :: l, a, h, hm => by
    simp only [List.any_cons, Bool.or_eq_false_iff, manyD, decide_eq_false_iff_not] at hm
    obtain ⟨s1, s2⟩ := sumN_le d.put
    obtain ⟨h1, h2⟩ := totalD_le l (a + sumN d.put) (by omega) hm.2
    simp only [List.foldl_cons, List.length_cons]
    push_cast
    omega
set_option maxHeartbeats 4000000 in
theorem heavy_ev (l : List Deed) (hn : l.length ≤ lim) (hl : ∀ d ∈ l, d.put.length ≤ lim) (nm : Nat) : Ev cx 37 nm [.sl false 2 (l.map dcells)] Mem.nil (.bool (heavyB l)) [] := by
  unfold lim at hn hl
  refine ev_go (fun cargs w => Try.call37 cargs w) Try.func37 rfl mixed (by kernel_rfl) rfl ?_; intro b0 hb0
  repeat' first | simp only [Try.results37, Try.ntmps37, envL_cons, envL_nil, memL_cons, memL_nil, maxLen, Nat.reducePow, forall_eq', exists_eq', Prod.mk.injEq, Bool.true_or, Bool.false_or, Bool.or_true, Bool.or_false, Bool.true_and, Bool.false_and, Bool.and_false, vcs, Nat.reduceAdd, Nat.reduceMul, Nat.reduceEqDiff, Nat.reduceLeDiff, Nat.reduceSub, Nat.reduceLT, Int.reduceToNat, Int.reduceLE, Int.reduceLT, Int.reduceAdd, Int.reduceSub, Int.reduceMul, Int.reduceNeg, reduceCtorEq, reduceIte, Int.reduceBEq, Int.reduceBNe, Int.reduceEq, Int.reduceNe, Nat.reduceBEq, Nat.reduceBNe, tys, plain_s, flat_s, small_s, List.length_map, List.getElem?_map, pick_false, pick_true, goGuard_sgd, dcells, scellsQ] | exact rfl | (refine call_val (g := ?_) ?_ ?_; rotate_left 1; (focus (simp only [Try.results37, Try.ntmps37, envL_cons, envL_nil, memL_cons, memL_nil, maxLen, Nat.reducePow, forall_eq', exists_eq', Prod.mk.injEq, Bool.true_or, Bool.false_or, Bool.or_true, Bool.or_false, Bool.true_and, Bool.false_and, Bool.and_false, vcs, Nat.reduceAdd, Nat.reduceMul, Nat.reduceEqDiff, Nat.reduceLeDiff, Nat.reduceSub, Nat.reduceLT, Int.reduceToNat, Int.reduceLE, Int.reduceLT, Int.reduceAdd, Int.reduceSub, Int.reduceMul, Int.reduceNeg, reduceCtorEq, reduceIte, Int.reduceBEq, Int.reduceBNe, Int.reduceEq, Int.reduceNe, Nat.reduceBEq, Nat.reduceBNe, tys, plain_s, flat_s, small_s, List.length_map, List.getElem?_map, pick_false, pick_true, goGuard_sgd, dcells, scellsQ] <;> exact rfl))) | (refine call_valg (g := ?_) ?_ ?_; rotate_left 1; (focus (simp only [Try.results37, Try.ntmps37, envL_cons, envL_nil, memL_cons, memL_nil, maxLen, Nat.reducePow, forall_eq', exists_eq', Prod.mk.injEq, Bool.true_or, Bool.false_or, Bool.or_true, Bool.or_false, Bool.true_and, Bool.false_and, Bool.and_false, vcs, Nat.reduceAdd, Nat.reduceMul, Nat.reduceEqDiff, Nat.reduceLeDiff, Nat.reduceSub, Nat.reduceLT, Int.reduceToNat, Int.reduceLE, Int.reduceLT, Int.reduceAdd, Int.reduceSub, Int.reduceMul, Int.reduceNeg, reduceCtorEq, reduceIte, Int.reduceBEq, Int.reduceBNe, Int.reduceEq, Int.reduceNe, Nat.reduceBEq, Nat.reduceBNe, tys, plain_s, flat_s, small_s, List.length_map, List.getElem?_map, pick_false, pick_true, goGuard_sgd, dcells, scellsQ] <;> exact rfl))) | refine draw_end (by decide +kernel) ?_ | refine cond_bool (fun hb => ?_) (fun hb => ?_) | refine cond_bit (fun hb => ?_) (fun hb => ?_) | refine And.intro (by omega) ?_ | refine And.intro (fun hb => ?_) (fun hb => ?_) | fail
  refine loop_up (min l.length 50) (fun k n e M => e 0 = .sl false 2 (l.map dcells) ∧ e 3 = .int .i64 (totalD (l.take k)) ∧ e 4 = .int .i64 k ∧ (l.take k).any manyD = false) ?_ ?_
  · simp only [Int.natCast_zero, List.take_zero, totalD, List.foldl_nil, List.any_nil, vcs, Nat.reduceAdd, Nat.reduceMul, Nat.reduceEqDiff, Nat.reduceLeDiff, Nat.reduceSub, Nat.reduceLT, Int.reduceToNat, Int.reduceLE, Int.reduceLT, Int.reduceAdd, Int.reduceSub, Int.reduceMul, Int.reduceNeg, reduceCtorEq, reduceIte, Int.reduceBEq, Int.reduceBNe, Int.reduceEq, Int.reduceNe, Nat.reduceBEq, Nat.reduceBNe, tys, plain_s, flat_s, small_s, List.length_map, List.getElem?_map, pick_false, pick_true, goGuard_sgd, dcells, scellsQ]
  · rintro k n e M hk ⟨e0, e3, e4, hm⟩
    by_cases hlt : k < min l.length 50
    · have hlt1 : k < l.length := by omega
      have hlt2 : decide ((k : Int) < 50) = true := decide_eq_true (by omega)
      have hlt3 : decide (k < 50) = true := decide_eq_true (by omega)
      obtain ⟨d, hd⟩ : ∃ d, l[k]? = some d := ⟨_, List.getElem?_eq_getElem hlt1⟩
      have hdl := hl d (List.mem_of_getElem? hd)
      obtain ⟨b1, b2⟩ := totalD_le (l.take k) 0 (by omega) hm
      have hlen : (l.take k).length ≤ 50 := by simp; omega
      cases hmd : decide ((100 : Int) < d.put.length) with
      | true =>
        have hr : heavyB l = true := by
          unfold heavyB
          have : (l.take 50).any manyD = true := by
            rw [List.any_eq_true]
            exact ⟨d, List.mem_of_getElem? (i := k) (by rw [List.getElem?_take, if_pos (by omega)]; exact hd), hmd⟩
          rw [this]; rfl
        ((repeat' first | simp only [Try.results37, Try.ntmps37, envL_cons, envL_nil, memL_cons, memL_nil, maxLen, Nat.reducePow, forall_eq', exists_eq', Prod.mk.injEq, Bool.true_or, Bool.false_or, Bool.or_true, Bool.or_false, Bool.true_and, Bool.false_and, Bool.and_false, e0, e3, e4, hlt1, hlt2, hlt3, hd, hmd, hr, vcs, Nat.reduceAdd, Nat.reduceMul, Nat.reduceEqDiff, Nat.reduceLeDiff, Nat.reduceSub, Nat.reduceLT, Int.reduceToNat, Int.reduceLE, Int.reduceLT, Int.reduceAdd, Int.reduceSub, Int.reduceMul, Int.reduceNeg, reduceCtorEq, reduceIte, Int.reduceBEq, Int.reduceBNe, Int.reduceEq, Int.reduceNe, Nat.reduceBEq, Nat.reduceBNe, tys, plain_s, flat_s, small_s, List.length_map, List.getElem?_map, pick_false, pick_true, goGuard_sgd, dcells, scellsQ] | exact rfl | (refine call_val (g := ?_) ?_ ?_; rotate_left 1; (focus (simp only [Try.results37, Try.ntmps37, envL_cons, envL_nil, memL_cons, memL_nil, maxLen, Nat.reducePow, forall_eq', exists_eq', Prod.mk.injEq, Bool.true_or, Bool.false_or, Bool.or_true, Bool.or_false, Bool.true_and, Bool.false_and, Bool.and_false, e0, e3, e4, hlt1, hlt2, hlt3, hd, hmd, hr, vcs, Nat.reduceAdd, Nat.reduceMul, Nat.reduceEqDiff, Nat.reduceLeDiff, Nat.reduceSub, Nat.reduceLT, Int.reduceToNat, Int.reduceLE, Int.reduceLT, Int.reduceAdd, Int.reduceSub, Int.reduceMul, Int.reduceNeg, reduceCtorEq, reduceIte, Int.reduceBEq, Int.reduceBNe, Int.reduceEq, Int.reduceNe, Nat.reduceBEq, Nat.reduceBNe, tys, plain_s, flat_s, small_s, List.length_map, List.getElem?_map, pick_false, pick_true, goGuard_sgd, dcells, scellsQ] <;> exact rfl))) | (refine call_valg (g := ?_) ?_ ?_; rotate_left 1; (focus (simp only [Try.results37, Try.ntmps37, envL_cons, envL_nil, memL_cons, memL_nil, maxLen, Nat.reducePow, forall_eq', exists_eq', Prod.mk.injEq, Bool.true_or, Bool.false_or, Bool.or_true, Bool.or_false, Bool.true_and, Bool.false_and, Bool.and_false, e0, e3, e4, hlt1, hlt2, hlt3, hd, hmd, hr, vcs, Nat.reduceAdd, Nat.reduceMul, Nat.reduceEqDiff, Nat.reduceLeDiff, Nat.reduceSub, Nat.reduceLT, Int.reduceToNat, Int.reduceLE, Int.reduceLT, Int.reduceAdd, Int.reduceSub, Int.reduceMul, Int.reduceNeg, reduceCtorEq, reduceIte, Int.reduceBEq, Int.reduceBNe, Int.reduceEq, Int.reduceNe, Nat.reduceBEq, Nat.reduceBNe, tys, plain_s, flat_s, small_s, List.length_map, List.getElem?_map, pick_false, pick_true, goGuard_sgd, dcells, scellsQ] <;> exact rfl))) | refine draw_end (by decide +kernel) ?_ | refine cond_bool (fun hb => ?_) (fun hb => ?_) | refine cond_bit (fun hb => ?_) (fun hb => ?_) | refine And.intro (by omega) ?_ | refine And.intro (fun hb => ?_) (fun hb => ?_) | fail); (all_goals (first | (refine Fin.pure ?_ ?_ ?_ <;> (try simp only [Try.results37, Try.ntmps37, e0, e3, e4, hlt1, hlt2, hlt3, hd, hmd, hr, vcs, Nat.reduceAdd, Nat.reduceMul, Nat.reduceEqDiff, Nat.reduceLeDiff, Nat.reduceSub, Nat.reduceLT, Int.reduceToNat, Int.reduceLE, Int.reduceLT, Int.reduceAdd, Int.reduceSub, Int.reduceMul, Int.reduceNeg, reduceCtorEq, reduceIte, Int.reduceBEq, Int.reduceBNe, Int.reduceEq, Int.reduceNe, Nat.reduceBEq, Nat.reduceBNe, tys, plain_s, flat_s, small_s, List.length_map, List.getElem?_map, pick_false, pick_true, goGuard_sgd, dcells, scellsQ]) <;> (try simp only [V.bool.injEq, V.int.injEq, V.str.injEq, V.agg.injEq, V.tup.injEq, V.sl.injEq, V.own.injEq, List.cons.injEq, and_true, true_and, and_self])) | skip)))
      | false =>
        have hd100 : d.put.length ≤ 100 := by simp at hmd; omega
        have wk := wrap_up hlt1 (by omega)
        repeat' first | simp only [Try.results37, Try.ntmps37, envL_cons, envL_nil, memL_cons, memL_nil, maxLen, Nat.reducePow, forall_eq', exists_eq', Prod.mk.injEq, Bool.true_or, Bool.false_or, Bool.or_true, Bool.or_false, Bool.true_and, Bool.false_and, Bool.and_false, e0, e3, e4, hlt1, hlt2, hlt3, hd, hmd, vcs, Nat.reduceAdd, Nat.reduceMul, Nat.reduceEqDiff, Nat.reduceLeDiff, Nat.reduceSub, Nat.reduceLT, Int.reduceToNat, Int.reduceLE, Int.reduceLT, Int.reduceAdd, Int.reduceSub, Int.reduceMul, Int.reduceNeg, reduceCtorEq, reduceIte, Int.reduceBEq, Int.reduceBNe, Int.reduceEq, Int.reduceNe, Nat.reduceBEq, Nat.reduceBNe, tys, plain_s, flat_s, small_s, List.length_map, List.getElem?_map, pick_false, pick_true, goGuard_sgd, dcells, scellsQ] | exact rfl | (refine call_val (g := ?_) ?_ ?_; rotate_left 1; (focus (simp only [Try.results37, Try.ntmps37, envL_cons, envL_nil, memL_cons, memL_nil, maxLen, Nat.reducePow, forall_eq', exists_eq', Prod.mk.injEq, Bool.true_or, Bool.false_or, Bool.or_true, Bool.or_false, Bool.true_and, Bool.false_and, Bool.and_false, e0, e3, e4, hlt1, hlt2, hlt3, hd, hmd, vcs, Nat.reduceAdd, Nat.reduceMul, Nat.reduceEqDiff, Nat.reduceLeDiff, Nat.reduceSub, Nat.reduceLT, Int.reduceToNat, Int.reduceLE, Int.reduceLT, Int.reduceAdd, Int.reduceSub, Int.reduceMul, Int.reduceNeg, reduceCtorEq, reduceIte, Int.reduceBEq, Int.reduceBNe, Int.reduceEq, Int.reduceNe, Nat.reduceBEq, Nat.reduceBNe, tys, plain_s, flat_s, small_s, List.length_map, List.getElem?_map, pick_false, pick_true, goGuard_sgd, dcells, scellsQ] <;> exact rfl))) | (refine call_valg (g := ?_) ?_ ?_; rotate_left 1; (focus (simp only [Try.results37, Try.ntmps37, envL_cons, envL_nil, memL_cons, memL_nil, maxLen, Nat.reducePow, forall_eq', exists_eq', Prod.mk.injEq, Bool.true_or, Bool.false_or, Bool.or_true, Bool.or_false, Bool.true_and, Bool.false_and, Bool.and_false, e0, e3, e4, hlt1, hlt2, hlt3, hd, hmd, vcs, Nat.reduceAdd, Nat.reduceMul, Nat.reduceEqDiff, Nat.reduceLeDiff, Nat.reduceSub, Nat.reduceLT, Int.reduceToNat, Int.reduceLE, Int.reduceLT, Int.reduceAdd, Int.reduceSub, Int.reduceMul, Int.reduceNeg, reduceCtorEq, reduceIte, Int.reduceBEq, Int.reduceBNe, Int.reduceEq, Int.reduceNe, Nat.reduceBEq, Nat.reduceBNe, tys, plain_s, flat_s, small_s, List.length_map, List.getElem?_map, pick_false, pick_true, goGuard_sgd, dcells, scellsQ] <;> exact rfl))) | refine draw_end (by decide +kernel) ?_ | refine cond_bool (fun hb => ?_) (fun hb => ?_) | refine cond_bit (fun hb => ?_) (fun hb => ?_) | refine And.intro (by omega) ?_ | refine And.intro (fun hb => ?_) (fun hb => ?_) | fail
        refine loop_up d.put.length (fun j n e M => e 0 = .sl false 2 (l.map dcells) ∧ e 3 = .int .i64 (totalD (l.take k) + sumN (d.put.take j)) ∧ e 4 = .int .i64 k ∧ e 5 = .int .i64 j) ?_ ?_
        · simp only [Int.natCast_zero, List.take_zero, sumN, List.foldl_nil, Int.add_zero, e0, e3, e4, vcs, Nat.reduceAdd, Nat.reduceMul, Nat.reduceEqDiff, Nat.reduceLeDiff, Nat.reduceSub, Nat.reduceLT, Int.reduceToNat, Int.reduceLE, Int.reduceLT, Int.reduceAdd, Int.reduceSub, Int.reduceMul, Int.reduceNeg, reduceCtorEq, reduceIte, Int.reduceBEq, Int.reduceBNe, Int.reduceEq, Int.reduceNe, Nat.reduceBEq, Nat.reduceBNe, tys, plain_s, flat_s, small_s, List.length_map, List.getElem?_map, pick_false, pick_true, goGuard_sgd, dcells, scellsQ]
        · rintro j n e M hj ⟨e0, e3, e4, e5⟩
          by_cases hjl : j < d.put.length
          · have wj := wrap_up hjl (by omega)
            obtain ⟨x, hx⟩ : ∃ x, d.put[j]? = some x := ⟨_, List.getElem?_eq_getElem hjl⟩
            have hs := sumN_snoc hx
            obtain ⟨s1, s2⟩ := sumN_le (d.put.take j)
            have hjlen : (d.put.take j).length ≤ 100 := by simp; omega
            have ws : IntKind.i64.wrap (totalD (l.take k) + sumN (d.put.take j) + min (x.length : Int) 20000) = totalD (l.take k) + (sumN (d.put.take j) + min (x.length : Int) 20000) := by
              rw [wrap_in ?_ ?_]
              · omega
              all_goals (unfold totalD; omega)
            repeat' first | simp only [Try.results37, Try.ntmps37, envL_cons, envL_nil, memL_cons, memL_nil, maxLen, Nat.reducePow, forall_eq', exists_eq', Prod.mk.injEq, Bool.true_or, Bool.false_or, Bool.or_true, Bool.or_false, Bool.true_and, Bool.false_and, Bool.and_false, e0, e3, e4, e5, hlt1, hd, hjl, wj, hx, ws, vcs, Nat.reduceAdd, Nat.reduceMul, Nat.reduceEqDiff, Nat.reduceLeDiff, Nat.reduceSub, Nat.reduceLT, Int.reduceToNat, Int.reduceLE, Int.reduceLT, Int.reduceAdd, Int.reduceSub, Int.reduceMul, Int.reduceNeg, reduceCtorEq, reduceIte, Int.reduceBEq, Int.reduceBNe, Int.reduceEq, Int.reduceNe, Nat.reduceBEq, Nat.reduceBNe, tys, plain_s, flat_s, small_s, List.length_map, List.getElem?_map, pick_false, pick_true, goGuard_sgd, dcells, scellsQ] | exact rfl | (refine call_val (g := ?_) ?_ ?_; rotate_left 1; (focus (simp only [Try.results37, Try.ntmps37, envL_cons, envL_nil, memL_cons, memL_nil, maxLen, Nat.reducePow, forall_eq', exists_eq', Prod.mk.injEq, Bool.true_or, Bool.false_or, Bool.or_true, Bool.or_false, Bool.true_and, Bool.false_and, Bool.and_false, e0, e3, e4, e5, hlt1, hd, hjl, wj, hx, ws, vcs, Nat.reduceAdd, Nat.reduceMul, Nat.reduceEqDiff, Nat.reduceLeDiff, Nat.reduceSub, Nat.reduceLT, Int.reduceToNat, Int.reduceLE, Int.reduceLT, Int.reduceAdd, Int.reduceSub, Int.reduceMul, Int.reduceNeg, reduceCtorEq, reduceIte, Int.reduceBEq, Int.reduceBNe, Int.reduceEq, Int.reduceNe, Nat.reduceBEq, Nat.reduceBNe, tys, plain_s, flat_s, small_s, List.length_map, List.getElem?_map, pick_false, pick_true, goGuard_sgd, dcells, scellsQ] <;> exact rfl))) | (refine call_valg (g := ?_) ?_ ?_; rotate_left 1; (focus (simp only [Try.results37, Try.ntmps37, envL_cons, envL_nil, memL_cons, memL_nil, maxLen, Nat.reducePow, forall_eq', exists_eq', Prod.mk.injEq, Bool.true_or, Bool.false_or, Bool.or_true, Bool.or_false, Bool.true_and, Bool.false_and, Bool.and_false, e0, e3, e4, e5, hlt1, hd, hjl, wj, hx, ws, vcs, Nat.reduceAdd, Nat.reduceMul, Nat.reduceEqDiff, Nat.reduceLeDiff, Nat.reduceSub, Nat.reduceLT, Int.reduceToNat, Int.reduceLE, Int.reduceLT, Int.reduceAdd, Int.reduceSub, Int.reduceMul, Int.reduceNeg, reduceCtorEq, reduceIte, Int.reduceBEq, Int.reduceBNe, Int.reduceEq, Int.reduceNe, Nat.reduceBEq, Nat.reduceBNe, tys, plain_s, flat_s, small_s, List.length_map, List.getElem?_map, pick_false, pick_true, goGuard_sgd, dcells, scellsQ] <;> exact rfl))) | refine draw_end (by decide +kernel) ?_ | refine cond_bool (fun hb => ?_) (fun hb => ?_) | refine cond_bit (fun hb => ?_) (fun hb => ?_) | refine And.intro (by omega) ?_ | refine And.intro (fun hb => ?_) (fun hb => ?_) | fail
            refine again_up hjl ?_
            simp only [e0, e3, e4, e5, hs, wj, ws, vcs, Nat.reduceAdd, Nat.reduceMul, Nat.reduceEqDiff, Nat.reduceLeDiff, Nat.reduceSub, Nat.reduceLT, Int.reduceToNat, Int.reduceLE, Int.reduceLT, Int.reduceAdd, Int.reduceSub, Int.reduceMul, Int.reduceNeg, reduceCtorEq, reduceIte, Int.reduceBEq, Int.reduceBNe, Int.reduceEq, Int.reduceNe, Nat.reduceBEq, Nat.reduceBNe, tys, plain_s, flat_s, small_s, List.length_map, List.getElem?_map, pick_false, pick_true, goGuard_sgd, dcells, scellsQ]
          · have hje : j = d.put.length := by omega
            subst hje
            rw [List.take_length] at e3
            have ht := totalD_snoc hd
            repeat' first | simp only [Try.results37, Try.ntmps37, envL_cons, envL_nil, memL_cons, memL_nil, maxLen, Nat.reducePow, forall_eq', exists_eq', Prod.mk.injEq, Bool.true_or, Bool.false_or, Bool.or_true, Bool.or_false, Bool.true_and, Bool.false_and, Bool.and_false, e0, e3, e4, e5, hlt1, hd, wk, vcs, Nat.reduceAdd, Nat.reduceMul, Nat.reduceEqDiff, Nat.reduceLeDiff, Nat.reduceSub, Nat.reduceLT, Int.reduceToNat, Int.reduceLE, Int.reduceLT, Int.reduceAdd, Int.reduceSub, Int.reduceMul, Int.reduceNeg, reduceCtorEq, reduceIte, Int.reduceBEq, Int.reduceBNe, Int.reduceEq, Int.reduceNe, Nat.reduceBEq, Nat.reduceBNe, tys, plain_s, flat_s, small_s, List.length_map, List.getElem?_map, pick_false, pick_true, goGuard_sgd, dcells, scellsQ] | exact rfl | (refine call_val (g := ?_) ?_ ?_; rotate_left 1; (focus (simp only [Try.results37, Try.ntmps37, envL_cons, envL_nil, memL_cons, memL_nil, maxLen, Nat.reducePow, forall_eq', exists_eq', Prod.mk.injEq, Bool.true_or, Bool.false_or, Bool.or_true, Bool.or_false, Bool.true_and, Bool.false_and, Bool.and_false, e0, e3, e4, e5, hlt1, hd, wk, vcs, Nat.reduceAdd, Nat.reduceMul, Nat.reduceEqDiff, Nat.reduceLeDiff, Nat.reduceSub, Nat.reduceLT, Int.reduceToNat, Int.reduceLE, Int.reduceLT, Int.reduceAdd, Int.reduceSub, Int.reduceMul, Int.reduceNeg, reduceCtorEq, reduceIte, Int.reduceBEq, Int.reduceBNe, Int.reduceEq, Int.reduceNe, Nat.reduceBEq, Nat.reduceBNe, tys, plain_s, flat_s, small_s, List.length_map, List.getElem?_map, pick_false, pick_true, goGuard_sgd, dcells, scellsQ] <;> exact rfl))) | (refine call_valg (g := ?_) ?_ ?_; rotate_left 1; (focus (simp only [Try.results37, Try.ntmps37, envL_cons, envL_nil, memL_cons, memL_nil, maxLen, Nat.reducePow, forall_eq', exists_eq', Prod.mk.injEq, Bool.true_or, Bool.false_or, Bool.or_true, Bool.or_false, Bool.true_and, Bool.false_and, Bool.and_false, e0, e3, e4, e5, hlt1, hd, wk, vcs, Nat.reduceAdd, Nat.reduceMul, Nat.reduceEqDiff, Nat.reduceLeDiff, Nat.reduceSub, Nat.reduceLT, Int.reduceToNat, Int.reduceLE, Int.reduceLT, Int.reduceAdd, Int.reduceSub, Int.reduceMul, Int.reduceNeg, reduceCtorEq, reduceIte, Int.reduceBEq, Int.reduceBNe, Int.reduceEq, Int.reduceNe, Nat.reduceBEq, Nat.reduceBNe, tys, plain_s, flat_s, small_s, List.length_map, List.getElem?_map, pick_false, pick_true, goGuard_sgd, dcells, scellsQ] <;> exact rfl))) | refine draw_end (by decide +kernel) ?_ | refine cond_bool (fun hb => ?_) (fun hb => ?_) | refine cond_bit (fun hb => ?_) (fun hb => ?_) | refine And.intro (by omega) ?_ | refine And.intro (fun hb => ?_) (fun hb => ?_) | fail
            refine again_up hlt ?_
            simp only [e0, e3, e4, wk, ht, vcs, Nat.reduceAdd, Nat.reduceMul, Nat.reduceEqDiff, Nat.reduceLeDiff, Nat.reduceSub, Nat.reduceLT, Int.reduceToNat, Int.reduceLE, Int.reduceLT, Int.reduceAdd, Int.reduceSub, Int.reduceMul, Int.reduceNeg, reduceCtorEq, reduceIte, Int.reduceBEq, Int.reduceBNe, Int.reduceEq, Int.reduceNe, Nat.reduceBEq, Nat.reduceBNe, tys, plain_s, flat_s, small_s, List.length_map, List.getElem?_map, pick_false, pick_true, goGuard_sgd, dcells, scellsQ]
            rw [any_snoc hd, hm]; exact hmd
    · have hc : (decide (k < l.length) && decide ((k : Int) < 50)) = false := by
        rw [Bool.and_eq_false_iff]
        rcases Nat.lt_or_ge k l.length with h1 | h1
        · right; exact decide_eq_false (by omega)
        · left; exact decide_eq_false (by omega)
      have hk' : l.take 50 = l.take k := take_min hlt hk
      have hg : (decide ((40 : Int) < l.length) || decide ((20000 : Int) < totalD (l.take k))) = heavyB l := by unfold heavyB; rw [hk', hm, Bool.false_or]
      ((repeat' first | simp only [Try.results37, Try.ntmps37, envL_cons, envL_nil, memL_cons, memL_nil, maxLen, Nat.reducePow, forall_eq', exists_eq', Prod.mk.injEq, Bool.true_or, Bool.false_or, Bool.or_true, Bool.or_false, Bool.true_and, Bool.false_and, Bool.and_false, e0, e3, e4, hc, hg, vcs, Nat.reduceAdd, Nat.reduceMul, Nat.reduceEqDiff, Nat.reduceLeDiff, Nat.reduceSub, Nat.reduceLT, Int.reduceToNat, Int.reduceLE, Int.reduceLT, Int.reduceAdd, Int.reduceSub, Int.reduceMul, Int.reduceNeg, reduceCtorEq, reduceIte, Int.reduceBEq, Int.reduceBNe, Int.reduceEq, Int.reduceNe, Nat.reduceBEq, Nat.reduceBNe, tys, plain_s, flat_s, small_s, List.length_map, List.getElem?_map, pick_false, pick_true, goGuard_sgd, dcells, scellsQ] | exact rfl | (refine call_val (g := ?_) ?_ ?_; rotate_left 1; (focus (simp only [Try.results37, Try.ntmps37, envL_cons, envL_nil, memL_cons, memL_nil, maxLen, Nat.reducePow, forall_eq', exists_eq', Prod.mk.injEq, Bool.true_or, Bool.false_or, Bool.or_true, Bool.or_false, Bool.true_and, Bool.false_and, Bool.and_false, e0, e3, e4, hc, hg, vcs, Nat.reduceAdd, Nat.reduceMul, Nat.reduceEqDiff, Nat.reduceLeDiff, Nat.reduceSub, Nat.reduceLT, Int.reduceToNat, Int.reduceLE, Int.reduceLT, Int.reduceAdd, Int.reduceSub, Int.reduceMul, Int.reduceNeg, reduceCtorEq, reduceIte, Int.reduceBEq, Int.reduceBNe, Int.reduceEq, Int.reduceNe, Nat.reduceBEq, Nat.reduceBNe, tys, plain_s, flat_s, small_s, List.length_map, List.getElem?_map, pick_false, pick_true, goGuard_sgd, dcells, scellsQ] <;> exact rfl))) | (refine call_valg (g := ?_) ?_ ?_; rotate_left 1; (focus (simp only [Try.results37, Try.ntmps37, envL_cons, envL_nil, memL_cons, memL_nil, maxLen, Nat.reducePow, forall_eq', exists_eq', Prod.mk.injEq, Bool.true_or, Bool.false_or, Bool.or_true, Bool.or_false, Bool.true_and, Bool.false_and, Bool.and_false, e0, e3, e4, hc, hg, vcs, Nat.reduceAdd, Nat.reduceMul, Nat.reduceEqDiff, Nat.reduceLeDiff, Nat.reduceSub, Nat.reduceLT, Int.reduceToNat, Int.reduceLE, Int.reduceLT, Int.reduceAdd, Int.reduceSub, Int.reduceMul, Int.reduceNeg, reduceCtorEq, reduceIte, Int.reduceBEq, Int.reduceBNe, Int.reduceEq, Int.reduceNe, Nat.reduceBEq, Nat.reduceBNe, tys, plain_s, flat_s, small_s, List.length_map, List.getElem?_map, pick_false, pick_true, goGuard_sgd, dcells, scellsQ] <;> exact rfl))) | refine draw_end (by decide +kernel) ?_ | refine cond_bool (fun hb => ?_) (fun hb => ?_) | refine cond_bit (fun hb => ?_) (fun hb => ?_) | refine And.intro (by omega) ?_ | refine And.intro (fun hb => ?_) (fun hb => ?_) | fail); (all_goals (first | (refine Fin.pure ?_ ?_ ?_ <;> (try simp only [Try.results37, Try.ntmps37, e0, e3, e4, hc, hg, vcs, Nat.reduceAdd, Nat.reduceMul, Nat.reduceEqDiff, Nat.reduceLeDiff, Nat.reduceSub, Nat.reduceLT, Int.reduceToNat, Int.reduceLE, Int.reduceLT, Int.reduceAdd, Int.reduceSub, Int.reduceMul, Int.reduceNeg, reduceCtorEq, reduceIte, Int.reduceBEq, Int.reduceBNe, Int.reduceEq, Int.reduceNe, Nat.reduceBEq, Nat.reduceBNe, tys, plain_s, flat_s, small_s, List.length_map, List.getElem?_map, pick_false, pick_true, goGuard_sgd, dcells, scellsQ]) <;> (try simp only [V.bool.injEq, V.int.injEq, V.str.injEq, V.agg.injEq, V.tup.injEq, V.sl.injEq, V.own.injEq, List.cons.injEq, and_true, true_and, and_self])) | skip)))
theorem heavy_no {l : List Deed} (h : heavyB l = false) : l.length ≤ 40 ∧ ∀ d ∈ l, d.put.length ≤ 100 := by
  simp only [heavyB, Bool.or_eq_false_iff, decide_eq_false_iff_not] at h
  obtain ⟨h1, h2, _⟩ := h
  have hl : l.length ≤ 40 := by omega
  refine ⟨hl, fun d hd => ?_⟩
  rw [List.take_of_length_le (by omega), List.any_eq_false] at h1
  have := h1 d hd
  simp only [manyD, decide_eq_true_eq] at this
  omega
/-! ### plain laws -/
theorem any_take_no {l : List (List UInt8)} {k : Nat} (h : l.any longB = false) : (l.take k).any longB = false := by
  rw [List.any_eq_false] at h ⊢
  exact fun x hx => h x (List.mem_of_mem_take hx)
theorem any_drop_no {l : List (List UInt8)} {k : Nat} (h : l.any longB = false) : (l.drop k).any longB = false := by
  rw [List.any_eq_false] at h ⊢
  exact fun x hx => h x (List.mem_of_mem_drop hx)
theorem Qu.may_iff {q : Qu} : q.may = true ↔ q.items.length ≤ 64 ∧ q.items.any longB = false ∧ 0 ≤ q.first ∧ q.first ≤ 9007199254740927 := by
  refine ⟨Qu.may_parts, fun ⟨h1, h2, h3, h4⟩ => ?_⟩
  simp [Qu.may, h2]
  omega
theorem putR_ok {q : Qu} {l : List (List UInt8)} (h : (putR q l).2.2 = 0) : q.may = true ∧ l.any longB = false ∧ putR q l = ((⟨q.first, putL q l l.length⟩ : Qu), ((lostN q l.length : Nat) : Int), (0 : Int)) := by
  unfold putR at h ⊢
  split at h
  · rename_i hm
    split at h
    · rename_i ha
      rw [if_pos hm, if_pos ha]; exact ⟨hm, ha, rfl⟩
    · cases h
  · cases h
theorem putL_may {q : Qu} {l : List (List UInt8)} (hm : q.may = true) (ha : l.any longB = false) : (⟨q.first, putL q l l.length⟩ : Qu).may = true := by
  obtain ⟨h1, h2, h3, h4⟩ := Qu.may_parts hm
  rw [Qu.may_iff]
  refine ⟨?_, ?_, h3, h4⟩
  · simp only [putL_len (Nat.le_refl _)]; omega
  · simp only [putL, List.any_append, h2, Bool.false_or]
    exact any_take_no (any_take_no ha)
theorem put_parts {q : Qu} {a b : List (List UInt8)} (h : (putR q a).2.2 = 0) : (putR (putR q a).1 b).2.2 = (putR q (a ++ b)).2.2 ∧ ((putR (putR q a).1 b).2.2 = 0 → (putR (putR q a).1 b).1 = (putR q (a ++ b)).1 ∧ (putR q a).2.1 + (putR (putR q a).1 b).2.1 = (putR q (a ++ b)).2.1) := by
  obtain ⟨hm, ha, he⟩ := putR_ok h
  rw [he]
  have hm2 := putL_may hm ha
  obtain ⟨h1, h2, h3, h4⟩ := Qu.may_parts hm
  have hab : (a ++ b).any longB = b.any longB := by rw [List.any_append, ha, Bool.false_or]
  have hlen := putL_len (q := q) (l := a) (Nat.le_refl _)
  unfold putR
  rw [if_pos hm2, if_pos hm, hab]
  by_cases hb : b.any longB = false
  · rw [if_pos hb, if_pos hb]
    refine ⟨rfl, fun _ => ⟨?_, ?_⟩⟩
    · simp only [Qu.mk.injEq, true_and]
      unfold putL
      simp only [List.take_length, List.append_assoc]
      congr 1
      rw [List.take_append]
      congr 1
      congr 1
      simp only [List.length_append, List.length_take]
      omega
    · simp only [lostN, hlen, List.length_append]
      omega
  · rw [if_neg hb, if_neg hb]
    exact ⟨rfl, fun h => by cases h⟩
theorem takeR_ok {q : Qu} {n : Int} (h : (takeR q n).2.2 = 0) : q.may = true ∧ 0 ≤ n ∧ q.first + takeK q n ≤ 9007199254740927 ∧ takeR q n = ((⟨q.first + takeK q n, q.items.drop (takeK q n)⟩ : Qu), q.items.take (takeK q n), (0 : Int)) := by
  unfold takeR at h ⊢
  split at h
  · rename_i hm
    split at h
    · cases h
    · rename_i hn
      split at h
      · cases h
      · rename_i hf
        rw [if_pos hm, if_neg hn, if_neg hf]; exact ⟨hm, by omega, by omega, rfl⟩
  · cases h
theorem takeR_no {q : Qu} {n : Int} (h : (takeR q n).2.2 ≠ 0) : (takeR q n).2.1 = [] := by
  unfold takeR at h ⊢
  split
  · split
    · rfl
    · split
      · rfl
      · exfalso; apply h; simp_all
  · rfl
theorem take_parts {q : Qu} {n m : Int} (hn : 0 ≤ n) (hmm : 0 ≤ m) (h : (takeR q n).2.2 = 0) : (takeR (takeR q n).1 m).2.2 = (takeR q (n + m)).2.2 ∧ ((takeR (takeR q n).1 m).2.2 = 0 → (takeR (takeR q n).1 m).1 = (takeR q (n + m)).1 ∧ (takeR q n).2.1 ++ (takeR (takeR q n).1 m).2.1 = (takeR q (n + m)).2.1) := by
  obtain ⟨hm, _, hf, he⟩ := takeR_ok h
  rw [he]
  dsimp only
  obtain ⟨h1, h2, h3, h4⟩ := Qu.may_parts hm
  have hm2 : (⟨q.first + takeK q n, q.items.drop (takeK q n)⟩ : Qu).may = true := by
    rw [Qu.may_iff]
    refine ⟨by simp; omega, any_drop_no h2, by simp only; omega, hf⟩
  have hk : takeK q (n + m) = takeK q n + takeK ⟨q.first + takeK q n, q.items.drop (takeK q n)⟩ m := by
    unfold takeK; simp only [List.length_drop]; omega
  generalize hk1 : takeK q n = k1 at *
  generalize hk2 : takeK ⟨q.first + k1, q.items.drop k1⟩ m = k2 at *
  unfold takeR
  rw [if_pos hm2, if_pos hm, if_neg (show ¬ m < 0 by omega), if_neg (show ¬ n + m < 0 by omega), hk2, hk]
  dsimp only
  have hadd : q.first + ((k1 + k2 : Nat) : Int) = q.first + k1 + k2 := by push_cast; omega
  rw [hadd]
  by_cases hf2 : 9007199254740927 < q.first + (k1 : Int) + k2
  · rw [if_pos hf2, if_pos hf2]; exact ⟨rfl, fun h => by cases h⟩
  · rw [if_neg hf2, if_neg hf2]
    refine ⟨rfl, fun _ => ⟨?_, ?_⟩⟩
    · simp only [List.drop_drop]
    · simp only [List.take_add]
end Go.Proofs.Ytnnlicidlidclaa
