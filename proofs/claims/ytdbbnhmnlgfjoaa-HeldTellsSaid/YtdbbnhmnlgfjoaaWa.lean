/-
  Layer 28: desks as plain values; the smallest contracts.
-/
import Derived.Test.YtdbbnhmnlgfjoaaTy
namespace Go.Proofs.Ytdbbnhmnlgfjoaa
set_option linter.unusedSimpArgs false
set_option linter.unusedVariables false
open Go Go.RowKit Go.Proofs.Ytdbbnhmnlgfjoaa.Vm

structure Hd where
  rid : Int
  conn : Int
  left : Int
  body : List UInt8
  report : Int
  time : Int
  deriving DecidableEq
structure Dn where
  rid : Int
  body : List UInt8
  text : List UInt8
  age : Int
  deriving DecidableEq
structure Desk where
  held : List Hd
  done : List Dn
  top : Int
  size : Int
  deriving DecidableEq
def hcells (h : Hd) : List V := [.int .i64 h.rid, .int .i64 h.conn, .int .i64 h.left, .str h.body, .int .i64 h.report, .int .i64 h.time]
def dcells (x : Dn) : List V := [.int .i64 x.rid, .str x.body, .str x.text, .int .i64 x.age]
/-- A desk, as it is handed in: nobody writes its lists. -/
def deskV (d : Desk) : V := .agg [.sl false 6 (d.held.map hcells), .sl false 4 (d.done.map dcells), .int .i64 d.top, .int .i64 d.size]
def num (n : Int) : Bool := decide (0 ≤ n) && decide (n ≤ 9007199254740991)

theorem number_ev (n : Int) (nm : Nat) : Ev cx 54 nm [.int .i64 n] Mem.nil (.bool (num n)) [] := by
  refine ev_go (fun cargs w => Try.call54 cargs w) Try.func54 rfl mixed (by kernel_rfl) rfl ?_
  intro b0 hb0
  repeat (first | refine draw_end (by decide +kernel) ?_ | simp only [vcs, Nat.reduceAdd, Nat.reduceMul, Nat.reduceEqDiff, Nat.reduceLeDiff, Nat.reduceSub, Nat.reduceLT, Int.reduceToNat, Int.reduceLE, Int.reduceLT, Int.reduceAdd, Int.reduceSub, Int.reduceMul, Int.reduceNeg, reduceCtorEq, reduceIte, Int.reduceBEq, Int.reduceBNe, Int.reduceEq, Int.reduceNe, Nat.reduceBEq, Nat.reduceBNe, tys])
  (refine Fin.pure ?_ ?_ ?_ <;> simp only [Try.results54, Try.ntmps54, vcs, Nat.reduceAdd, Nat.reduceMul, Nat.reduceEqDiff, Nat.reduceLeDiff, Nat.reduceSub, Nat.reduceLT, Int.reduceToNat, Int.reduceLE, Int.reduceLT, Int.reduceAdd, Int.reduceSub, Int.reduceMul, Int.reduceNeg, reduceCtorEq, reduceIte, Int.reduceBEq, Int.reduceBNe, Int.reduceEq, Int.reduceNe, Nat.reduceBEq, Nat.reduceBNe, tys])
  simp only [num]

theorem ends_ev (l lo hi : Int) (h : (l, lo, hi) ∈ [(0, 0, 9007199254740991), (1, 0, 1048576), (2, 0, 60), (3, 0, 1000000), (4, -1, (9007199254740991 : Int))]) (nm : Nat) : Ev cx 57 nm [.int .i64 l] Mem.nil (.tup [.int .i64 lo, .int .i64 hi]) [] := by
  refine ev_go (fun cargs w => Try.call57 cargs w) Try.func57 rfl mixed (by kernel_rfl) rfl ?_
  intro b0 hb0
  simp only [List.mem_cons, List.not_mem_nil, or_false, Prod.mk.injEq] at h
  rcases h with ⟨rfl, rfl, rfl⟩ | ⟨rfl, rfl, rfl⟩ | ⟨rfl, rfl, rfl⟩ | ⟨rfl, rfl, rfl⟩ | ⟨rfl, rfl, rfl⟩
  all_goals
    repeat (first | refine draw_end (by decide +kernel) ?_ | simp only [vcs, Nat.reduceAdd, Nat.reduceMul, Nat.reduceEqDiff, Nat.reduceLeDiff, Nat.reduceSub, Nat.reduceLT, Int.reduceToNat, Int.reduceLE, Int.reduceLT, Int.reduceAdd, Int.reduceSub, Int.reduceMul, Int.reduceNeg, reduceCtorEq, reduceIte, Int.reduceBEq, Int.reduceBNe, Int.reduceEq, Int.reduceNe, Nat.reduceBEq, Nat.reduceBNe, tys])
    (refine Fin.pure ?_ ?_ ?_ <;> simp only [Try.results57, Try.ntmps57, vcs, Nat.reduceAdd, Nat.reduceMul, Nat.reduceEqDiff, Nat.reduceLeDiff, Nat.reduceSub, Nat.reduceLT, Int.reduceToNat, Int.reduceLE, Int.reduceLT, Int.reduceAdd, Int.reduceSub, Int.reduceMul, Int.reduceNeg, reduceCtorEq, reduceIte, Int.reduceBEq, Int.reduceBNe, Int.reduceEq, Int.reduceNe, Nat.reduceBEq, Nat.reduceBNe, tys])

theorem has_ev (l lo hi n : Int) (h : (l, lo, hi) ∈ [(0, 0, 9007199254740991), (1, 0, 1048576), (2, 0, 60), (3, 0, 1000000), (4, -1, (9007199254740991 : Int))]) (nm : Nat) : Ev cx 33 nm [.int .i64 l, .int .i64 n] Mem.nil (.bool (decide (lo ≤ n) && decide (n ≤ hi))) [] := by
  refine ev_go (fun cargs w => Try.call33 cargs w) Try.func33 rfl mixed (by kernel_rfl) rfl ?_
  intro b0 hb0
  repeat (first | refine draw_end (by decide +kernel) ?_ | simp only [vcs, Nat.reduceAdd, Nat.reduceMul, Nat.reduceEqDiff, Nat.reduceLeDiff, Nat.reduceSub, Nat.reduceLT, Int.reduceToNat, Int.reduceLE, Int.reduceLT, Int.reduceAdd, Int.reduceSub, Int.reduceMul, Int.reduceNeg, reduceCtorEq, reduceIte, Int.reduceBEq, Int.reduceBNe, Int.reduceEq, Int.reduceNe, Nat.reduceBEq, Nat.reduceBNe, tys])
  refine call_fn (by simp only [vcs, Nat.reduceAdd, Nat.reduceMul, Nat.reduceEqDiff, Nat.reduceLeDiff, Nat.reduceSub, Nat.reduceLT, Int.reduceToNat, Int.reduceLE, Int.reduceLT, Int.reduceAdd, Int.reduceSub, Int.reduceMul, Int.reduceNeg, reduceCtorEq, reduceIte, Int.reduceBEq, Int.reduceBNe, Int.reduceEq, Int.reduceNe, Nat.reduceBEq, Nat.reduceBNe, tys] <;> rfl) (ends_ev l lo hi h _) ?_
  repeat (first | refine draw_end (by decide +kernel) ?_ | simp only [vcs, Nat.reduceAdd, Nat.reduceMul, Nat.reduceEqDiff, Nat.reduceLeDiff, Nat.reduceSub, Nat.reduceLT, Int.reduceToNat, Int.reduceLE, Int.reduceLT, Int.reduceAdd, Int.reduceSub, Int.reduceMul, Int.reduceNeg, reduceCtorEq, reduceIte, Int.reduceBEq, Int.reduceBNe, Int.reduceEq, Int.reduceNe, Nat.reduceBEq, Nat.reduceBNe, tys])
  (refine Fin.pure ?_ ?_ ?_ <;> simp only [Try.results33, Try.ntmps33, vcs, Nat.reduceAdd, Nat.reduceMul, Nat.reduceEqDiff, Nat.reduceLeDiff, Nat.reduceSub, Nat.reduceLT, Int.reduceToNat, Int.reduceLE, Int.reduceLT, Int.reduceAdd, Int.reduceSub, Int.reduceMul, Int.reduceNeg, reduceCtorEq, reduceIte, Int.reduceBEq, Int.reduceBNe, Int.reduceEq, Int.reduceNe, Nat.reduceBEq, Nat.reduceBNe, tys])

theorem short_ev (s : List UInt8) (nm : Nat) : Ev cx 42 nm [.str s] Mem.nil (.bool (decide ((s.length : Int) ≤ 16384))) [] := by
  refine ev_go (fun cargs w => Try.call42 cargs w) Try.func42 rfl mixed (by kernel_rfl) rfl ?_
  intro b0 hb0
  repeat (first | refine draw_end (by decide +kernel) ?_ | simp only [vcs, Nat.reduceAdd, Nat.reduceMul, Nat.reduceEqDiff, Nat.reduceLeDiff, Nat.reduceSub, Nat.reduceLT, Int.reduceToNat, Int.reduceLE, Int.reduceLT, Int.reduceAdd, Int.reduceSub, Int.reduceMul, Int.reduceNeg, reduceCtorEq, reduceIte, Int.reduceBEq, Int.reduceBNe, Int.reduceEq, Int.reduceNe, Nat.reduceBEq, Nat.reduceBNe, tys])
  (refine Fin.pure ?_ ?_ ?_ <;> simp only [Try.results42, Try.ntmps42, vcs, Nat.reduceAdd, Nat.reduceMul, Nat.reduceEqDiff, Nat.reduceLeDiff, Nat.reduceSub, Nat.reduceLT, Int.reduceToNat, Int.reduceLE, Int.reduceLT, Int.reduceAdd, Int.reduceSub, Int.reduceMul, Int.reduceNeg, reduceCtorEq, reduceIte, Int.reduceBEq, Int.reduceBNe, Int.reduceEq, Int.reduceNe, Nat.reduceBEq, Nat.reduceBNe, tys])
end Go.Proofs.Ytdbbnhmnlgfjoaa
