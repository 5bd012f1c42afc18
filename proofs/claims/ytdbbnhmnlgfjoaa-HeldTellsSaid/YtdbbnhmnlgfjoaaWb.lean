/-
  Layer 28: which requests, answers and desks may be.
-/
import Derived.Test.YtdbbnhmnlgfjoaaWa
import Derived.IntWalk
namespace Go.Proofs.Ytdbbnhmnlgfjoaa
set_option linter.unusedSimpArgs false
set_option linter.unusedVariables false
open Go Go.RowKit Go.Proofs.Ytdbbnhmnlgfjoaa.Vm

def inRange (lo hi n : Int) : Bool := decide (lo ≤ n) && decide (n ≤ hi)
def shortB (s : List UInt8) : Bool := decide ((s.length : Int) ≤ 16384)

set_option maxHeartbeats 1000000 in
theorem held_ev (a1 a2 a3 : Int) (a4 : List UInt8) (a5 a6 : Int) (nm : Nat) : Ev cx 37 nm [.agg [.int .i64 a1, .int .i64 a2, .int .i64 a3, .str a4, .int .i64 a5, .int .i64 a6]] Mem.nil (.bool (num a1 && inRange 0 1048576 a2 && inRange 0 60 a3 && shortB a4 && inRange (-1) 9007199254740991 a5 && inRange (-1) 9007199254740991 a6)) [] := by
  have k0 : ((0 : Int), (0 : Int), (9007199254740991 : Int)) ∈ [(0, 0, 9007199254740991), (1, 0, 1048576), (2, 0, 60), (3, 0, 1000000), (4, -1, (9007199254740991 : Int))] := by simp
  have k1 : ((1 : Int), (0 : Int), (1048576 : Int)) ∈ [(0, 0, 9007199254740991), (1, 0, 1048576), (2, 0, 60), (3, 0, 1000000), (4, -1, (9007199254740991 : Int))] := by simp
  have k2 : ((2 : Int), (0 : Int), (60 : Int)) ∈ [(0, 0, 9007199254740991), (1, 0, 1048576), (2, 0, 60), (3, 0, 1000000), (4, -1, (9007199254740991 : Int))] := by simp
  have k4 : ((4 : Int), (-1 : Int), (9007199254740991 : Int)) ∈ [(0, 0, 9007199254740991), (1, 0, 1048576), (2, 0, 60), (3, 0, 1000000), (4, -1, (9007199254740991 : Int))] := by simp
  refine ev_go (fun cargs w => Try.call37 cargs w) Try.func37 rfl mixed (by kernel_rfl) rfl ?_
  intro b0 hb0
  repeat (first | refine draw_end (by decide +kernel) ?_ | simp only [vcs, Nat.reduceAdd, Nat.reduceMul, Nat.reduceEqDiff, Nat.reduceLeDiff, Nat.reduceSub, Nat.reduceLT, Int.reduceToNat, Int.reduceLE, Int.reduceLT, Int.reduceAdd, Int.reduceSub, Int.reduceMul, Int.reduceNeg, reduceCtorEq, reduceIte, Int.reduceBEq, Int.reduceBNe, Int.reduceEq, Int.reduceNe, Nat.reduceBEq, Nat.reduceBNe, tys])
  refine call_fn (by simp only [vcs, Nat.reduceAdd, Nat.reduceMul, Nat.reduceEqDiff, Nat.reduceLeDiff, Nat.reduceSub, Nat.reduceLT, Int.reduceToNat, Int.reduceLE, Int.reduceLT, Int.reduceAdd, Int.reduceSub, Int.reduceMul, Int.reduceNeg, reduceCtorEq, reduceIte, Int.reduceBEq, Int.reduceBNe, Int.reduceEq, Int.reduceNe, Nat.reduceBEq, Nat.reduceBNe, tys] <;> rfl) (has_ev 0 0 9007199254740991 a1 k0 _) ?_
  repeat (first | refine draw_end (by decide +kernel) ?_ | simp only [vcs, Nat.reduceAdd, Nat.reduceMul, Nat.reduceEqDiff, Nat.reduceLeDiff, Nat.reduceSub, Nat.reduceLT, Int.reduceToNat, Int.reduceLE, Int.reduceLT, Int.reduceAdd, Int.reduceSub, Int.reduceMul, Int.reduceNeg, reduceCtorEq, reduceIte, Int.reduceBEq, Int.reduceBNe, Int.reduceEq, Int.reduceNe, Nat.reduceBEq, Nat.reduceBNe, tys])
  refine call_fn_g (by simp only [vcs, Nat.reduceAdd, Nat.reduceMul, Nat.reduceEqDiff, Nat.reduceLeDiff, Nat.reduceSub, Nat.reduceLT, Int.reduceToNat, Int.reduceLE, Int.reduceLT, Int.reduceAdd, Int.reduceSub, Int.reduceMul, Int.reduceNeg, reduceCtorEq, reduceIte, Int.reduceBEq, Int.reduceBNe, Int.reduceEq, Int.reduceNe, Nat.reduceBEq, Nat.reduceBNe, tys] <;> rfl) (fun _ => has_ev 1 0 1048576 a2 k1 _) ?_
  repeat (first | refine draw_end (by decide +kernel) ?_ | simp only [vcs, Nat.reduceAdd, Nat.reduceMul, Nat.reduceEqDiff, Nat.reduceLeDiff, Nat.reduceSub, Nat.reduceLT, Int.reduceToNat, Int.reduceLE, Int.reduceLT, Int.reduceAdd, Int.reduceSub, Int.reduceMul, Int.reduceNeg, reduceCtorEq, reduceIte, Int.reduceBEq, Int.reduceBNe, Int.reduceEq, Int.reduceNe, Nat.reduceBEq, Nat.reduceBNe, tys])
  refine call_fn_g (by simp only [vcs, Nat.reduceAdd, Nat.reduceMul, Nat.reduceEqDiff, Nat.reduceLeDiff, Nat.reduceSub, Nat.reduceLT, Int.reduceToNat, Int.reduceLE, Int.reduceLT, Int.reduceAdd, Int.reduceSub, Int.reduceMul, Int.reduceNeg, reduceCtorEq, reduceIte, Int.reduceBEq, Int.reduceBNe, Int.reduceEq, Int.reduceNe, Nat.reduceBEq, Nat.reduceBNe, tys] <;> rfl) (fun _ => has_ev 2 0 60 a3 k2 _) ?_
  repeat (first | refine draw_end (by decide +kernel) ?_ | simp only [vcs, Nat.reduceAdd, Nat.reduceMul, Nat.reduceEqDiff, Nat.reduceLeDiff, Nat.reduceSub, Nat.reduceLT, Int.reduceToNat, Int.reduceLE, Int.reduceLT, Int.reduceAdd, Int.reduceSub, Int.reduceMul, Int.reduceNeg, reduceCtorEq, reduceIte, Int.reduceBEq, Int.reduceBNe, Int.reduceEq, Int.reduceNe, Nat.reduceBEq, Nat.reduceBNe, tys])
  refine call_fn_g (by simp only [vcs, Nat.reduceAdd, Nat.reduceMul, Nat.reduceEqDiff, Nat.reduceLeDiff, Nat.reduceSub, Nat.reduceLT, Int.reduceToNat, Int.reduceLE, Int.reduceLT, Int.reduceAdd, Int.reduceSub, Int.reduceMul, Int.reduceNeg, reduceCtorEq, reduceIte, Int.reduceBEq, Int.reduceBNe, Int.reduceEq, Int.reduceNe, Nat.reduceBEq, Nat.reduceBNe, tys] <;> rfl) (fun _ => short_ev a4 _) ?_
  repeat (first | refine draw_end (by decide +kernel) ?_ | simp only [vcs, Nat.reduceAdd, Nat.reduceMul, Nat.reduceEqDiff, Nat.reduceLeDiff, Nat.reduceSub, Nat.reduceLT, Int.reduceToNat, Int.reduceLE, Int.reduceLT, Int.reduceAdd, Int.reduceSub, Int.reduceMul, Int.reduceNeg, reduceCtorEq, reduceIte, Int.reduceBEq, Int.reduceBNe, Int.reduceEq, Int.reduceNe, Nat.reduceBEq, Nat.reduceBNe, tys])
  refine call_fn_g (by simp only [vcs, Nat.reduceAdd, Nat.reduceMul, Nat.reduceEqDiff, Nat.reduceLeDiff, Nat.reduceSub, Nat.reduceLT, Int.reduceToNat, Int.reduceLE, Int.reduceLT, Int.reduceAdd, Int.reduceSub, Int.reduceMul, Int.reduceNeg, reduceCtorEq, reduceIte, Int.reduceBEq, Int.reduceBNe, Int.reduceEq, Int.reduceNe, Nat.reduceBEq, Nat.reduceBNe, tys] <;> rfl) (fun _ => has_ev 4 (-1) 9007199254740991 a5 k4 _) ?_
  repeat (first | refine draw_end (by decide +kernel) ?_ | simp only [vcs, Nat.reduceAdd, Nat.reduceMul, Nat.reduceEqDiff, Nat.reduceLeDiff, Nat.reduceSub, Nat.reduceLT, Int.reduceToNat, Int.reduceLE, Int.reduceLT, Int.reduceAdd, Int.reduceSub, Int.reduceMul, Int.reduceNeg, reduceCtorEq, reduceIte, Int.reduceBEq, Int.reduceBNe, Int.reduceEq, Int.reduceNe, Nat.reduceBEq, Nat.reduceBNe, tys])
  refine call_fn_g (by simp only [vcs, Nat.reduceAdd, Nat.reduceMul, Nat.reduceEqDiff, Nat.reduceLeDiff, Nat.reduceSub, Nat.reduceLT, Int.reduceToNat, Int.reduceLE, Int.reduceLT, Int.reduceAdd, Int.reduceSub, Int.reduceMul, Int.reduceNeg, reduceCtorEq, reduceIte, Int.reduceBEq, Int.reduceBNe, Int.reduceEq, Int.reduceNe, Nat.reduceBEq, Nat.reduceBNe, tys] <;> rfl) (fun _ => has_ev 4 (-1) 9007199254740991 a6 k4 _) ?_
  repeat (first | refine draw_end (by decide +kernel) ?_ | simp only [vcs, Nat.reduceAdd, Nat.reduceMul, Nat.reduceEqDiff, Nat.reduceLeDiff, Nat.reduceSub, Nat.reduceLT, Int.reduceToNat, Int.reduceLE, Int.reduceLT, Int.reduceAdd, Int.reduceSub, Int.reduceMul, Int.reduceNeg, reduceCtorEq, reduceIte, Int.reduceBEq, Int.reduceBNe, Int.reduceEq, Int.reduceNe, Nat.reduceBEq, Nat.reduceBNe, tys])
  (refine Fin.pure ?_ ?_ ?_ <;> simp only [Try.results37, Try.ntmps37, vcs, Nat.reduceAdd, Nat.reduceMul, Nat.reduceEqDiff, Nat.reduceLeDiff, Nat.reduceSub, Nat.reduceLT, Int.reduceToNat, Int.reduceLE, Int.reduceLT, Int.reduceAdd, Int.reduceSub, Int.reduceMul, Int.reduceNeg, reduceCtorEq, reduceIte, Int.reduceBEq, Int.reduceBNe, Int.reduceEq, Int.reduceNe, Nat.reduceBEq, Nat.reduceBNe, tys])
  simp only [num, inRange, shortB]

set_option maxHeartbeats 1000000 in
theorem done_ev (a1 : Int) (a2 a3 : List UInt8) (a4 : Int) (nm : Nat) : Ev cx 38 nm [.agg [.int .i64 a1, .str a2, .str a3, .int .i64 a4]] Mem.nil (.bool (num a1 && shortB a2 && shortB a3 && inRange 0 1000000 a4)) [] := by
  have k0 : ((0 : Int), (0 : Int), (9007199254740991 : Int)) ∈ [(0, 0, 9007199254740991), (1, 0, 1048576), (2, 0, 60), (3, 0, 1000000), (4, -1, (9007199254740991 : Int))] := by simp
  have k3 : ((3 : Int), (0 : Int), (1000000 : Int)) ∈ [(0, 0, 9007199254740991), (1, 0, 1048576), (2, 0, 60), (3, 0, 1000000), (4, -1, (9007199254740991 : Int))] := by simp
  refine ev_go (fun cargs w => Try.call38 cargs w) Try.func38 rfl mixed (by kernel_rfl) rfl ?_
  intro b0 hb0
  repeat (first | refine draw_end (by decide +kernel) ?_ | simp only [vcs, Nat.reduceAdd, Nat.reduceMul, Nat.reduceEqDiff, Nat.reduceLeDiff, Nat.reduceSub, Nat.reduceLT, Int.reduceToNat, Int.reduceLE, Int.reduceLT, Int.reduceAdd, Int.reduceSub, Int.reduceMul, Int.reduceNeg, reduceCtorEq, reduceIte, Int.reduceBEq, Int.reduceBNe, Int.reduceEq, Int.reduceNe, Nat.reduceBEq, Nat.reduceBNe, tys])
  refine call_fn (by simp only [vcs, Nat.reduceAdd, Nat.reduceMul, Nat.reduceEqDiff, Nat.reduceLeDiff, Nat.reduceSub, Nat.reduceLT, Int.reduceToNat, Int.reduceLE, Int.reduceLT, Int.reduceAdd, Int.reduceSub, Int.reduceMul, Int.reduceNeg, reduceCtorEq, reduceIte, Int.reduceBEq, Int.reduceBNe, Int.reduceEq, Int.reduceNe, Nat.reduceBEq, Nat.reduceBNe, tys] <;> rfl) (has_ev 0 0 9007199254740991 a1 k0 _) ?_
  repeat (first | refine draw_end (by decide +kernel) ?_ | simp only [vcs, Nat.reduceAdd, Nat.reduceMul, Nat.reduceEqDiff, Nat.reduceLeDiff, Nat.reduceSub, Nat.reduceLT, Int.reduceToNat, Int.reduceLE, Int.reduceLT, Int.reduceAdd, Int.reduceSub, Int.reduceMul, Int.reduceNeg, reduceCtorEq, reduceIte, Int.reduceBEq, Int.reduceBNe, Int.reduceEq, Int.reduceNe, Nat.reduceBEq, Nat.reduceBNe, tys])
  refine call_fn_g (by simp only [vcs, Nat.reduceAdd, Nat.reduceMul, Nat.reduceEqDiff, Nat.reduceLeDiff, Nat.reduceSub, Nat.reduceLT, Int.reduceToNat, Int.reduceLE, Int.reduceLT, Int.reduceAdd, Int.reduceSub, Int.reduceMul, Int.reduceNeg, reduceCtorEq, reduceIte, Int.reduceBEq, Int.reduceBNe, Int.reduceEq, Int.reduceNe, Nat.reduceBEq, Nat.reduceBNe, tys] <;> rfl) (fun _ => short_ev a2 _) ?_
  repeat (first | refine draw_end (by decide +kernel) ?_ | simp only [vcs, Nat.reduceAdd, Nat.reduceMul, Nat.reduceEqDiff, Nat.reduceLeDiff, Nat.reduceSub, Nat.reduceLT, Int.reduceToNat, Int.reduceLE, Int.reduceLT, Int.reduceAdd, Int.reduceSub, Int.reduceMul, Int.reduceNeg, reduceCtorEq, reduceIte, Int.reduceBEq, Int.reduceBNe, Int.reduceEq, Int.reduceNe, Nat.reduceBEq, Nat.reduceBNe, tys])
  refine call_fn_g (by simp only [vcs, Nat.reduceAdd, Nat.reduceMul, Nat.reduceEqDiff, Nat.reduceLeDiff, Nat.reduceSub, Nat.reduceLT, Int.reduceToNat, Int.reduceLE, Int.reduceLT, Int.reduceAdd, Int.reduceSub, Int.reduceMul, Int.reduceNeg, reduceCtorEq, reduceIte, Int.reduceBEq, Int.reduceBNe, Int.reduceEq, Int.reduceNe, Nat.reduceBEq, Nat.reduceBNe, tys] <;> rfl) (fun _ => short_ev a3 _) ?_
  repeat (first | refine draw_end (by decide +kernel) ?_ | simp only [vcs, Nat.reduceAdd, Nat.reduceMul, Nat.reduceEqDiff, Nat.reduceLeDiff, Nat.reduceSub, Nat.reduceLT, Int.reduceToNat, Int.reduceLE, Int.reduceLT, Int.reduceAdd, Int.reduceSub, Int.reduceMul, Int.reduceNeg, reduceCtorEq, reduceIte, Int.reduceBEq, Int.reduceBNe, Int.reduceEq, Int.reduceNe, Nat.reduceBEq, Nat.reduceBNe, tys])
  refine call_fn_g (by simp only [vcs, Nat.reduceAdd, Nat.reduceMul, Nat.reduceEqDiff, Nat.reduceLeDiff, Nat.reduceSub, Nat.reduceLT, Int.reduceToNat, Int.reduceLE, Int.reduceLT, Int.reduceAdd, Int.reduceSub, Int.reduceMul, Int.reduceNeg, reduceCtorEq, reduceIte, Int.reduceBEq, Int.reduceBNe, Int.reduceEq, Int.reduceNe, Nat.reduceBEq, Nat.reduceBNe, tys] <;> rfl) (fun _ => has_ev 3 0 1000000 a4 k3 _) ?_
  repeat (first | refine draw_end (by decide +kernel) ?_ | simp only [vcs, Nat.reduceAdd, Nat.reduceMul, Nat.reduceEqDiff, Nat.reduceLeDiff, Nat.reduceSub, Nat.reduceLT, Int.reduceToNat, Int.reduceLE, Int.reduceLT, Int.reduceAdd, Int.reduceSub, Int.reduceMul, Int.reduceNeg, reduceCtorEq, reduceIte, Int.reduceBEq, Int.reduceBNe, Int.reduceEq, Int.reduceNe, Nat.reduceBEq, Nat.reduceBNe, tys])
  (refine Fin.pure ?_ ?_ ?_ <;> simp only [Try.results38, Try.ntmps38, vcs, Nat.reduceAdd, Nat.reduceMul, Nat.reduceEqDiff, Nat.reduceLeDiff, Nat.reduceSub, Nat.reduceLT, Int.reduceToNat, Int.reduceLE, Int.reduceLT, Int.reduceAdd, Int.reduceSub, Int.reduceMul, Int.reduceNeg, reduceCtorEq, reduceIte, Int.reduceBEq, Int.reduceBNe, Int.reduceEq, Int.reduceNe, Nat.reduceBEq, Nat.reduceBNe, tys])
  simp only [num, inRange, shortB]

def Hd.may (h : Hd) : Bool := num h.rid && inRange 0 1048576 h.conn && inRange 0 60 h.left && shortB h.body && inRange (-1) 9007199254740991 h.report && inRange (-1) 9007199254740991 h.time
def Dn.may (x : Dn) : Bool := num x.rid && shortB x.body && shortB x.text && inRange 0 1000000 x.age
def hAll (top : Int) : Nat → List Hd → Bool
  | _, [] => true
  | k, h :: r => (h.may && (h.rid == top + k + 1)) && hAll top (k + 1) r
def dAll (low : Int) : Nat → List Dn → Bool
  | _, [] => true
  | k, x :: r => (x.may && (x.rid == low + k + 1)) && dAll low (k + 1) r
/-- The head of a desk. -/
def Desk.head (d : Desk) : Bool := inRange 1 3 d.size && num d.top && decide ((d.held.length : Int) ≤ 4) && decide ((d.done.length : Int) ≤ d.size)
def Desk.may (d : Desk) : Bool := d.head && hAll d.top 0 d.held && dAll (d.top - d.done.length) 0 d.done
theorem hAll_append (top : Int) : ∀ (l r : List Hd) (k : Nat), hAll top k (l ++ r) = (hAll top k l && hAll top (k + l.length) r)
  | [], r, k => by simp [hAll]
  | h :: l, r, k => by simp only [List.cons_append, hAll, hAll_append top l r (k + 1), List.length_cons, Bool.and_assoc]; congr 4; omega
theorem dAll_append (top : Int) : ∀ (l r : List Dn) (k : Nat), dAll top k (l ++ r) = (dAll top k l && dAll top (k + l.length) r)
  | [], r, k => by simp [dAll]
  | h :: l, r, k => by simp only [List.cons_append, dAll, dAll_append top l r (k + 1), List.length_cons, Bool.and_assoc]; congr 4; omega
theorem hAll_snoc {top : Int} {l : List Hd} {k : Nat} {h : Hd} (hk : l[k]? = some h) : hAll top 0 (l.take (k + 1)) = (hAll top 0 (l.take k) && (h.may && (h.rid == top + k + 1))) := by
  have hlt := (List.getElem?_eq_some_iff.1 hk).1
  rw [List.take_add_one, hk, hAll_append]
  have : (l.take k).length = k := by simp; omega
  simp [hAll, this]
theorem dAll_snoc {top : Int} {l : List Dn} {k : Nat} {h : Dn} (hk : l[k]? = some h) : dAll top 0 (l.take (k + 1)) = (dAll top 0 (l.take k) && (h.may && (h.rid == top + k + 1))) := by
  have hlt := (List.getElem?_eq_some_iff.1 hk).1
  rw [List.take_add_one, hk, dAll_append]
  have : (l.take k).length = k := by simp; omega
  simp [dAll, this]
end Go.Proofs.Ytdbbnhmnlgfjoaa
