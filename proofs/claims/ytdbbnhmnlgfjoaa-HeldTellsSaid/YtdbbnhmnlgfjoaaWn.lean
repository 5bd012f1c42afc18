/-
  Layer 28: HeldTells holds of all desks.
-/
import Derived.Test.YtdbbnhmnlgfjoaaWm
namespace Go.Proofs.Ytdbbnhmnlgfjoaa
set_option linter.unusedSimpArgs false
set_option linter.unusedVariables false
open Go Go.RowKit Go.Proofs.Ytdbbnhmnlgfjoaa.Vm

set_option maxHeartbeats 4000000 in
theorem tells_great (d o : Desk) (conn : Int) (fd : d.fits) (fo : o.fits) (gd : d.great = false → o.great = true) (nm : Nat) : Ev cx 3 nm [deskV d, deskV o, .int .i64 conn] Mem.nil (.bool true) [] := by
  have g : (d.great || o.great) = true := by
    cases hd : d.great
    · simpa using gd hd
    · simp
  refine ev_go (fun cargs w => Try.call3 cargs w) Try.func3 rfl mixed (by kernel_rfl) rfl ?_
  intro b0 hb0
  simp only [deskV]
  repeat (first | refine draw_end (by decide +kernel) ?_ | simp only [vcs, Nat.reduceAdd, Nat.reduceMul, Nat.reduceEqDiff, Nat.reduceLeDiff, Nat.reduceSub, Nat.reduceLT, Int.reduceToNat, Int.reduceLE, Int.reduceLT, Int.reduceAdd, Int.reduceSub, Int.reduceMul, Int.reduceNeg, reduceCtorEq, reduceIte, Int.reduceBEq, Int.reduceBNe, Int.reduceEq, Int.reduceNe, Nat.reduceBEq, Nat.reduceBNe, tys, plain_h, plain_d, List.length_map, List.getElem?_map, List.length_set, deskO, deskE, deskV])
  refine call_fn (by simp only [vcs, Nat.reduceAdd, Nat.reduceMul, Nat.reduceEqDiff, Nat.reduceLeDiff, Nat.reduceSub, Nat.reduceLT, Int.reduceToNat, Int.reduceLE, Int.reduceLT, Int.reduceAdd, Int.reduceSub, Int.reduceMul, Int.reduceNeg, reduceCtorEq, reduceIte, Int.reduceBEq, Int.reduceBNe, Int.reduceEq, Int.reduceNe, Nat.reduceBEq, Nat.reduceBNe, tys, plain_h, plain_d, List.length_map, List.getElem?_map, List.length_set, deskO, deskE, deskV] <;> rfl) (great_ev d fd _) ?_
  repeat (first | refine draw_end (by decide +kernel) ?_ | simp only [vcs, Nat.reduceAdd, Nat.reduceMul, Nat.reduceEqDiff, Nat.reduceLeDiff, Nat.reduceSub, Nat.reduceLT, Int.reduceToNat, Int.reduceLE, Int.reduceLT, Int.reduceAdd, Int.reduceSub, Int.reduceMul, Int.reduceNeg, reduceCtorEq, reduceIte, Int.reduceBEq, Int.reduceBNe, Int.reduceEq, Int.reduceNe, Nat.reduceBEq, Nat.reduceBNe, tys, plain_h, plain_d, List.length_map, List.getElem?_map, List.length_set, deskO, deskE, deskV])
  refine call_fn_g (by simp only [vcs, Nat.reduceAdd, Nat.reduceMul, Nat.reduceEqDiff, Nat.reduceLeDiff, Nat.reduceSub, Nat.reduceLT, Int.reduceToNat, Int.reduceLE, Int.reduceLT, Int.reduceAdd, Int.reduceSub, Int.reduceMul, Int.reduceNeg, reduceCtorEq, reduceIte, Int.reduceBEq, Int.reduceBNe, Int.reduceEq, Int.reduceNe, Nat.reduceBEq, Nat.reduceBNe, tys, plain_h, plain_d, List.length_map, List.getElem?_map, List.length_set, deskO, deskE, deskV] <;> rfl) (fun _ => great_ev o fo _) ?_
  repeat (first | refine draw_end (by decide +kernel) ?_ | simp only [g, vcs, Nat.reduceAdd, Nat.reduceMul, Nat.reduceEqDiff, Nat.reduceLeDiff, Nat.reduceSub, Nat.reduceLT, Int.reduceToNat, Int.reduceLE, Int.reduceLT, Int.reduceAdd, Int.reduceSub, Int.reduceMul, Int.reduceNeg, reduceCtorEq, reduceIte, Int.reduceBEq, Int.reduceBNe, Int.reduceEq, Int.reduceNe, Nat.reduceBEq, Nat.reduceBNe, tys, plain_h, plain_d, List.length_map, List.getElem?_map, List.length_set, deskO, deskE, deskV])
  (refine Fin.pure ?_ ?_ ?_ <;> simp only [Try.results3, Try.ntmps3, vcs, Nat.reduceAdd, Nat.reduceMul, Nat.reduceEqDiff, Nat.reduceLeDiff, Nat.reduceSub, Nat.reduceLT, Int.reduceToNat, Int.reduceLE, Int.reduceLT, Int.reduceAdd, Int.reduceSub, Int.reduceMul, Int.reduceNeg, reduceCtorEq, reduceIte, Int.reduceBEq, Int.reduceBNe, Int.reduceEq, Int.reduceNe, Nat.reduceBEq, Nat.reduceBNe, tys, plain_h, plain_d, List.length_map, List.getElem?_map, List.length_set, deskO, deskE, deskV])
theorem heldTells_ev (d o : Desk) (conn : Int) (fd : d.fits) (fo : o.fits) (nm : Nat) : Ev cx 3 nm [deskV d, deskV o, .int .i64 conn] Mem.nil (.bool true) [] := by
  by_cases gd : d.great = false → o.great = true
  · exact tells_great d o conn fd fo gd nm
  · have hd : d.great = false := by cases h : d.great <;> simp_all
    have ho : o.great = false := by cases h : o.great <;> simp_all
    by_cases hmay : d.may = true
    · by_cases hc : 1 ≤ conn ∧ conn ≤ 1048576
      · exact tells_good d o conn fd fo hd ho hmay hc.1 hc.2 nm
      · exact tells_arg d o conn fd fo hd ho hmay hc nm
    · exact tells_bad d o conn fd fo hd ho (by simpa using hmay) nm
end Go.Proofs.Ytdbbnhmnlgfjoaa
