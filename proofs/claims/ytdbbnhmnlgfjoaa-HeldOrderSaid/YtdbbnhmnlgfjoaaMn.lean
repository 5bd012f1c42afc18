/-
  Texts joined: XXm.
-/
import Derived.Test.YtdbbnhmnlgfjoaaMm
/-
  Layer 28: HeldOrder, of all that can be handed in.
-/
namespace Go.Proofs.Ytdbbnhmnlgfjoaa
set_option linter.unusedSimpArgs false
set_option linter.unusedVariables false
open Go Go.RowKit Go.Proofs.Ytdbbnhmnlgfjoaa.Vm

theorem order_skip (first size : Int) (l : List De) (h : first < 0 ∨ 1099511627776 < first ∨ size < 1 ∨ 3 < size ∨ 100 < (l.length : Int)) (nm : Nat) : Ev cx 5 nm [.int .i64 first, .int .i64 size, .sl false 3 (l.map decells)] Mem.nil (.bool true) [] := by
  have g : ((((decide (first < 0) || decide (1099511627776 < first)) || decide (size < 1)) || decide (3 < size)) || decide (100 < (l.length : Int))) = true := by
    rcases h with h | h | h | h | h <;> simp [h]
  refine ev_go (fun cargs w => Try.call5 cargs w) Try.func5 rfl mixed (by kernel_rfl) rfl ?_; intro b0 hb0
  ((repeat' first | simp only [Try.results5, Try.ntmps5, maxLen, Nat.reducePow, forall_eq', exists_eq', Prod.mk.injEq, Bool.true_or, Bool.false_or, Bool.or_true, Bool.or_false, Bool.true_and, Bool.false_and, Bool.and_false, g, List.length_map, vcs, Nat.reduceAdd, Nat.reduceMul, Nat.reduceEqDiff, Nat.reduceLeDiff, Nat.reduceSub, Nat.reduceLT, Int.reduceToNat, Int.reduceLE, Int.reduceLT, Int.reduceAdd, Int.reduceSub, Int.reduceMul, Int.reduceNeg, reduceCtorEq, reduceIte, Int.reduceBEq, Int.reduceBNe, Int.reduceEq, Int.reduceNe, Nat.reduceBEq, Nat.reduceBNe, tys] | exact rfl | (refine call_fn ?_ (alive_ev _) ?_; (focus (simp only [Try.results5, Try.ntmps5, maxLen, Nat.reducePow, forall_eq', exists_eq', Prod.mk.injEq, Bool.true_or, Bool.false_or, Bool.or_true, Bool.or_false, Bool.true_and, Bool.false_and, Bool.and_false, g, List.length_map, vcs, Nat.reduceAdd, Nat.reduceMul, Nat.reduceEqDiff, Nat.reduceLeDiff, Nat.reduceSub, Nat.reduceLT, Int.reduceToNat, Int.reduceLE, Int.reduceLT, Int.reduceAdd, Int.reduceSub, Int.reduceMul, Int.reduceNeg, reduceCtorEq, reduceIte, Int.reduceBEq, Int.reduceBNe, Int.reduceEq, Int.reduceNe, Nat.reduceBEq, Nat.reduceBNe, tys] <;> exact rfl))) | (refine call_fn_g ?_ (fun _ => alive_ev _) ?_; (focus (simp only [Try.results5, Try.ntmps5, maxLen, Nat.reducePow, forall_eq', exists_eq', Prod.mk.injEq, Bool.true_or, Bool.false_or, Bool.or_true, Bool.or_false, Bool.true_and, Bool.false_and, Bool.and_false, g, List.length_map, vcs, Nat.reduceAdd, Nat.reduceMul, Nat.reduceEqDiff, Nat.reduceLeDiff, Nat.reduceSub, Nat.reduceLT, Int.reduceToNat, Int.reduceLE, Int.reduceLT, Int.reduceAdd, Int.reduceSub, Int.reduceMul, Int.reduceNeg, reduceCtorEq, reduceIte, Int.reduceBEq, Int.reduceBNe, Int.reduceEq, Int.reduceNe, Nat.reduceBEq, Nat.reduceBNe, tys] <;> exact rfl))) | refine draw_end (by decide +kernel) ?_ | refine And.intro (by omega) ?_ | refine And.intro (fun hb => ?_) (fun hb => ?_) | fail); (all_goals (first | (refine Fin.pure ?_ ?_ ?_ <;> (try simp only [Try.results5, Try.ntmps5, g, List.length_map, vcs, Nat.reduceAdd, Nat.reduceMul, Nat.reduceEqDiff, Nat.reduceLeDiff, Nat.reduceSub, Nat.reduceLT, Int.reduceToNat, Int.reduceLE, Int.reduceLT, Int.reduceAdd, Int.reduceSub, Int.reduceMul, Int.reduceNeg, reduceCtorEq, reduceIte, Int.reduceBEq, Int.reduceBNe, Int.reduceEq, Int.reduceNe, Nat.reduceBEq, Nat.reduceBNe, tys]) <;> (try simp only [V.bool.injEq, V.int.injEq, V.str.injEq, V.agg.injEq, V.tup.injEq, V.sl.injEq, V.own.injEq, List.cons.injEq, and_true, true_and, and_self])) | skip)))
  all_goals exact absurd hb (by simp)
theorem de_shape {n : Nat} {vs : List V} (h : Shape cx.P n 61 vs) : ∃ x : De, vs = decells x := by
  obtain ⟨n', h⟩ := shape_struct kind_61 h
  obtain ⟨_, _, rfl, h1, _, _, rfl, h2, _, _, rfl, h3, h7⟩ := h
  obtain ⟨a1, rfl, r1⟩ := shape_int kind_5 h1
  obtain ⟨a2, rfl, r2⟩ := shape_int kind_3 h2
  obtain ⟨a3, rfl, r3⟩ := shape_str kind_9 h3
  obtain rfl := shapeT_nil h7
  exact ⟨⟨a1, a2, a3⟩, rfl⟩
theorem heldOrder_args (xs : List V) (h : ShapeArgs cx.P Try.f5.params.toList xs) : Ev cx 5 0 xs Mem.nil (.bool true) [] := by
  rw [Try.params5] at h
  obtain ⟨_, v1, _, rfl, h1, _, v2, _, rfl, h2, _, v3, _, rfl, h3, h4⟩ := h
  obtain rfl := args_nil h4
  obtain ⟨first, rfl, _⟩ := shape_int kind_3 h1
  obtain ⟨size, rfl, _⟩ := shape_int kind_3 h2
  obtain ⟨_, rows, rfl, l1, m1, g1⟩ := shape_slice kind_57 h3
  obtain ⟨l, rfl, f1⟩ := rows_map decells (fun _ => True) (fun r hr => by obtain ⟨x, hx⟩ := de_shape (g1 r hr); exact ⟨x, hx, trivial⟩)
  rw [argV_one kind_3 (by simp), argV_one kind_3 (by simp), argV_one kind_57 (by simp)]
  by_cases hs : first < 0 ∨ 1099511627776 < first ∨ size < 1 ∨ 3 < size ∨ 100 < (l.length : Int)
  · exact order_skip first size l hs 0
  · exact order_main first size l (by omega) (by omega) (by omega) (by omega) (by omega) 0
end Go.Proofs.Ytdbbnhmnlgfjoaa
