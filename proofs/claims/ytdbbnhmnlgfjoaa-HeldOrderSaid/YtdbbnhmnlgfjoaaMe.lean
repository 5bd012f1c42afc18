/-
  Texts joined: XTy, XWa, XWb, XWc, XWd, XWe, XWf, XWg, XWh, XWi, XWj, XWk, XWo.
-/
import Derived.Test.YtdbbnhmnlgfjoaaChecked
import Derived.IntWalk
import Derived.Test.YtdbbnhmnlgfjoaaMd
/-
  Facts on the program's types. (Printed by Facts.lean.)
-/
namespace Go.Proofs.Ytdbbnhmnlgfjoaa
open Go Go.RowKit Go.Proofs.Ytdbbnhmnlgfjoaa.Vm
noncomputable def cx : Cx := ⟨Try.prog, fun _ => .any⟩
theorem mixed : cx.P.follows .mixedOrders = true := by kernel_rfl
theorem lenKind_string {P : Program} {t : TypeId} (h : P.underlying t = some .string) : lenKind P t = true := by simp [lenKind, h]
theorem ty_25 : ty cx.P 25 = some (4, true) := by kernel_rfl
theorem zero_25 : zeroL cx.P 25 = some [.nils, .nils, .int .i64 0, .int .i64 0] := by kernel_rfl
theorem und_3 : cx.P.underlying 3 = some (.int .i64) := by kernel_rfl
theorem und_4 : cx.P.underlying 4 = some .bool := by kernel_rfl
theorem fld_43_3 : fld cx.P 43 3 = some (3, 1, false) := by kernel_rfl
theorem ty_9 : ty cx.P 9 = some (1, false) := by kernel_rfl
theorem und_9 : cx.P.underlying 9 = some .string := by kernel_rfl
theorem lk_9 : lenKind cx.P 9 = true := by kernel_rfl
theorem ty_43 : ty cx.P 43 = some (6, true) := by kernel_rfl
theorem fld_43_0 : fld cx.P 43 0 = some (0, 1, false) := by kernel_rfl
theorem ty_3 : ty cx.P 3 = some (1, false) := by kernel_rfl
theorem und_5 : cx.P.underlying 5 = some (.int .u8) := by kernel_rfl
theorem und_57 : cx.P.underlying 57 = some (.slice 61) := by kernel_rfl
theorem el_57 : elInfo cx.P 57 = some ([.int .u8 0, .int .i64 0, .str []], 32) := by kernel_rfl
theorem lk_57 : lenKind cx.P 57 = true := by kernel_rfl
theorem shape_25 : shapeT cx.P 25 = some ([.nils, .nils, .int .i64 0, .int .i64 0], [(0, 1), (1, 1), (2, 1), (3, 1)]) := by kernel_rfl
theorem elm_57 : elm cx.P 57 = some (none, 3, true) := by kernel_rfl
theorem fld_61_2 : fld cx.P 61 2 = some (2, 1, false) := by kernel_rfl
theorem fld_61_0 : fld cx.P 61 0 = some (0, 1, false) := by kernel_rfl
theorem ty_5 : ty cx.P 5 = some (1, false) := by kernel_rfl
theorem fld_25_2 : fld cx.P 25 2 = some (2, 1, false) := by kernel_rfl
theorem fld_25_0 : fld cx.P 25 0 = some (0, 1, false) := by kernel_rfl
theorem ty_22 : ty cx.P 22 = some (1, false) := by kernel_rfl
theorem und_22 : cx.P.underlying 22 = some (.slice 43) := by kernel_rfl
theorem el_22 : elInfo cx.P 22 = some ([.int .i64 0, .int .i64 0, .int .i64 0, .str [], .int .i64 0, .int .i64 0], 56) := by kernel_rfl
theorem lk_22 : lenKind cx.P 22 = true := by kernel_rfl
theorem shape_43 : shapeT cx.P 43 = some ([.int .i64 0, .int .i64 0, .int .i64 0, .str [], .int .i64 0, .int .i64 0], [(0, 1), (1, 1), (2, 1), (3, 1), (4, 1), (5, 1)]) := by kernel_rfl
theorem und_28 : cx.P.underlying 28 = some (.int .i64) := by kernel_rfl
theorem shape_64 : shapeT cx.P 64 = some ([.int .i64 0, .str []], [(0, 1), (1, 1)]) := by kernel_rfl
theorem el_59 : elInfo cx.P 59 = some ([.int .i64 0, .str []], 24) := by kernel_rfl
theorem und_59 : cx.P.underlying 59 = some (.slice 64) := by kernel_rfl
theorem lk_59 : lenKind cx.P 59 = true := by kernel_rfl
theorem fld_61_1 : fld cx.P 61 1 = some (1, 1, false) := by kernel_rfl
theorem fld_25_1 : fld cx.P 25 1 = some (1, 1, false) := by kernel_rfl
theorem ty_23 : ty cx.P 23 = some (1, false) := by kernel_rfl
theorem und_23 : cx.P.underlying 23 = some (.slice 68) := by kernel_rfl
theorem el_23 : elInfo cx.P 23 = some ([.int .i64 0, .str [], .str [], .int .i64 0], 48) := by kernel_rfl
theorem lk_23 : lenKind cx.P 23 = true := by kernel_rfl
theorem elm_22 : elm cx.P 22 = some (none, 6, true) := by kernel_rfl
theorem fld_43_2 : fld cx.P 43 2 = some (2, 1, false) := by kernel_rfl
theorem elm_23 : elm cx.P 23 = some (none, 4, true) := by kernel_rfl
theorem fld_68_0 : fld cx.P 68 0 = some (0, 1, false) := by kernel_rfl
theorem fld_68_1 : fld cx.P 68 1 = some (1, 1, false) := by kernel_rfl
theorem fld_68_2 : fld cx.P 68 2 = some (2, 1, false) := by kernel_rfl
theorem fld_68_3 : fld cx.P 68 3 = some (3, 1, false) := by kernel_rfl
theorem fld_43_1 : fld cx.P 43 1 = some (1, 1, false) := by kernel_rfl
theorem zero_43 : zeroL cx.P 43 = some [.int .i64 0, .int .i64 0, .int .i64 0, .str [], .int .i64 0, .int .i64 0] := by kernel_rfl
theorem fld_25_3 : fld cx.P 25 3 = some (3, 1, false) := by kernel_rfl
theorem feq_43 : flatEq cx.P 43 = some [(0, 0), (1, 0), (2, 0), (3, 1), (4, 0), (5, 0)] := by kernel_rfl
theorem ty_68 : ty cx.P 68 = some (4, true) := by kernel_rfl
theorem feq_68 : flatEq cx.P 68 = some [(0, 0), (1, 1), (2, 1), (3, 0)] := by kernel_rfl
theorem zero_68 : zeroL cx.P 68 = some [.int .i64 0, .str [], .str [], .int .i64 0] := by kernel_rfl
theorem shape_68 : shapeT cx.P 68 = some ([.int .i64 0, .str [], .str [], .int .i64 0], [(0, 1), (1, 1), (2, 1), (3, 1)]) := by kernel_rfl
theorem elm_59 : elm cx.P 59 = some (none, 2, true) := by kernel_rfl
theorem fld_64_0 : fld cx.P 64 0 = some (0, 1, false) := by kernel_rfl
theorem fld_64_1 : fld cx.P 64 1 = some (1, 1, false) := by kernel_rfl
theorem fld_43_4 : fld cx.P 43 4 = some (4, 1, false) := by kernel_rfl
theorem fld_43_5 : fld cx.P 43 5 = some (5, 1, false) := by kernel_rfl
theorem und_81 : cx.P.underlying 81 = some (.slice 43) := by kernel_rfl
theorem el_81 : elInfo cx.P 81 = some ([.int .i64 0, .int .i64 0, .int .i64 0, .str [], .int .i64 0, .int .i64 0], 56) := by kernel_rfl
theorem lk_81 : lenKind cx.P 81 = true := by kernel_rfl
theorem elm_81 : elm cx.P 81 = some (none, 6, true) := by kernel_rfl
theorem und_83 : cx.P.underlying 83 = some (.slice 68) := by kernel_rfl
theorem el_83 : elInfo cx.P 83 = some ([.int .i64 0, .str [], .str [], .int .i64 0], 48) := by kernel_rfl
theorem lk_83 : lenKind cx.P 83 = true := by kernel_rfl
theorem elm_83 : elm cx.P 83 = some (none, 4, true) := by kernel_rfl
theorem shape_92 : shapeT cx.P 92 = some ([.int .i64 0, .int .i64 0], [(0, 1), (1, 1)]) := by kernel_rfl
theorem shape_93 : shapeT cx.P 93 = some ([.int .i64 0, .int .i64 0, .int .i64 0, .int .i64 0, .int .i64 0, .int .i64 0, .int .i64 0, .int .i64 0, .int .i64 0, .int .i64 0], [(0, 2), (2, 2), (4, 2), (6, 2), (8, 2)]) := by kernel_rfl
theorem zero_93 : zeroL cx.P 93 = some [.int .i64 0, .int .i64 0, .int .i64 0, .int .i64 0, .int .i64 0, .int .i64 0, .int .i64 0, .int .i64 0, .int .i64 0, .int .i64 0] := by kernel_rfl
theorem ty_93 : ty cx.P 93 = some (10, true) := by kernel_rfl
theorem elm_93 : elm cx.P 93 = some (some 5, 2, true) := by kernel_rfl
theorem elm_92 : elm cx.P 92 = some (some 2, 1, false) := by kernel_rfl
set_option linter.defProp false in
def tys := (And.intro ty_25 (And.intro zero_25 (And.intro und_3 (And.intro und_4 (And.intro fld_43_3 (And.intro ty_9 (And.intro und_9 (And.intro lk_9 (And.intro ty_43 (And.intro fld_43_0 (And.intro ty_3 (And.intro und_5 (And.intro und_57 (And.intro el_57 (And.intro lk_57 (And.intro shape_25 (And.intro elm_57 (And.intro fld_61_2 (And.intro fld_61_0 (And.intro ty_5 (And.intro fld_25_2 (And.intro fld_25_0 (And.intro ty_22 (And.intro und_22 (And.intro el_22 (And.intro lk_22 (And.intro shape_43 (And.intro und_28 (And.intro shape_64 (And.intro el_59 (And.intro und_59 (And.intro lk_59 (And.intro fld_61_1 (And.intro fld_25_1 (And.intro ty_23 (And.intro und_23 (And.intro el_23 (And.intro lk_23 (And.intro elm_22 (And.intro fld_43_2 (And.intro elm_23 (And.intro fld_68_0 (And.intro fld_68_1 (And.intro fld_68_2 (And.intro fld_68_3 (And.intro fld_43_1 (And.intro zero_43 (And.intro fld_25_3 (And.intro feq_43 (And.intro ty_68 (And.intro feq_68 (And.intro zero_68 (And.intro shape_68 (And.intro elm_59 (And.intro fld_64_0 (And.intro fld_64_1 (And.intro fld_43_4 (And.intro fld_43_5 (And.intro und_81 (And.intro el_81 (And.intro lk_81 (And.intro elm_81 (And.intro und_83 (And.intro el_83 (And.intro lk_83 (And.intro elm_83 (And.intro shape_92 (And.intro shape_93 (And.intro zero_93 (And.intro ty_93 (And.intro elm_93 (And.intro elm_92 True.intro))))))))))))))))))))))))))))))))))))))))))))))))))))))))))))))))))))))))
theorem kind_68 : kindT cx.P 68 = some (.struct [3, 9, 9, 3]) := by kernel_rfl
theorem kind_23 : kindT cx.P 23 = some (.slice 68 4 48) := by kernel_rfl
theorem kind_9 : kindT cx.P 9 = some .str := by kernel_rfl
theorem kind_3 : kindT cx.P 3 = some (.int .i64) := by kernel_rfl
theorem kind_43 : kindT cx.P 43 = some (.struct [3, 3, 3, 9, 3, 3]) := by kernel_rfl
theorem kind_22 : kindT cx.P 22 = some (.slice 43 6 56) := by kernel_rfl
theorem kind_25 : kindT cx.P 25 = some (.struct [22, 23, 3, 3]) := by kernel_rfl
theorem kind_5 : kindT cx.P 5 = some (.int .u8) := by kernel_rfl
theorem kind_61 : kindT cx.P 61 = some (.struct [5, 3, 9]) := by kernel_rfl
theorem kind_57 : kindT cx.P 57 = some (.slice 61 3 32) := by kernel_rfl
theorem kind_64 : kindT cx.P 64 = some (.struct [3, 9]) := by kernel_rfl
theorem kind_59 : kindT cx.P 59 = some (.slice 64 2 24) := by kernel_rfl
end Go.Proofs.Ytdbbnhmnlgfjoaa
/-
  Layer 28: desks as plain values; the smallest contracts.
-/
namespace Go.Proofs.Ytdbbnhmnlgfjoaa
set_option linter.unusedSimpArgs false
set_option linter.unusedVariables false
open Go Go.RowKit Go.Proofs.Ytdbbnhmnlgfjoaa.Vm

structure Hd where
  rid : Int
  conn : Int
  left : Int
  body : List UInt8
  report : Int
  time : Int
  deriving DecidableEq
structure Dn where
  rid : Int
  body : List UInt8
  text : List UInt8
  age : Int
  deriving DecidableEq
structure Desk where
  held : List Hd
  done : List Dn
  top : Int
  size : Int
  deriving DecidableEq
def hcells (h : Hd) : List V := [.int .i64 h.rid, .int .i64 h.conn, .int .i64 h.left, .str h.body, .int .i64 h.report, .int .i64 h.time]
def dcells (x : Dn) : List V := [.int .i64 x.rid, .str x.body, .str x.text, .int .i64 x.age]
/-- A desk, as it is handed in: nobody writes its lists. -/
def deskV (d : Desk) : V := .agg [.sl false 6 (d.held.map hcells), .sl false 4 (d.done.map dcells), .int .i64 d.top, .int .i64 d.size]
def num (n : Int) : Bool := decide (0 ≤ n) && decide (n ≤ 9007199254740991)

theorem number_ev (n : Int) (nm : Nat) : Ev cx 54 nm [.int .i64 n] Mem.nil (.bool (num n)) [] := by
  refine ev_go (fun cargs w => Try.call54 cargs w) Try.func54 rfl mixed (by kernel_rfl) rfl ?_; intro b0 hb0
  repeat (first | refine draw_end (by decide +kernel) ?_ | simp only [vcs, Nat.reduceAdd, Nat.reduceMul, Nat.reduceEqDiff, Nat.reduceLeDiff, Nat.reduceSub, Nat.reduceLT, Int.reduceToNat, Int.reduceLE, Int.reduceLT, Int.reduceAdd, Int.reduceSub, Int.reduceMul, Int.reduceNeg, reduceCtorEq, reduceIte, Int.reduceBEq, Int.reduceBNe, Int.reduceEq, Int.reduceNe, Nat.reduceBEq, Nat.reduceBNe, tys])
  (refine Fin.pure ?_ ?_ ?_ <;> simp only [Try.results54, Try.ntmps54, vcs, Nat.reduceAdd, Nat.reduceMul, Nat.reduceEqDiff, Nat.reduceLeDiff, Nat.reduceSub, Nat.reduceLT, Int.reduceToNat, Int.reduceLE, Int.reduceLT, Int.reduceAdd, Int.reduceSub, Int.reduceMul, Int.reduceNeg, reduceCtorEq, reduceIte, Int.reduceBEq, Int.reduceBNe, Int.reduceEq, Int.reduceNe, Nat.reduceBEq, Nat.reduceBNe, tys])
  simp only [num]

theorem ends_ev (l lo hi : Int) (h : (l, lo, hi) ∈ [(0, 0, 9007199254740991), (1, 0, 1048576), (2, 0, 60), (3, 0, 1000000), (4, -1, (9007199254740991 : Int))]) (nm : Nat) : Ev cx 57 nm [.int .i64 l] Mem.nil (.tup [.int .i64 lo, .int .i64 hi]) [] := by
  refine ev_go (fun cargs w => Try.call57 cargs w) Try.func57 rfl mixed (by kernel_rfl) rfl ?_; intro b0 hb0
  simp only [List.mem_cons, List.not_mem_nil, or_false, Prod.mk.injEq] at h
  rcases h with ⟨rfl, rfl, rfl⟩ | ⟨rfl, rfl, rfl⟩ | ⟨rfl, rfl, rfl⟩ | ⟨rfl, rfl, rfl⟩ | ⟨rfl, rfl, rfl⟩
  all_goals
    repeat (first | refine draw_end (by decide +kernel) ?_ | simp only [vcs, Nat.reduceAdd, Nat.reduceMul, Nat.reduceEqDiff, Nat.reduceLeDiff, Nat.reduceSub, Nat.reduceLT, Int.reduceToNat, Int.reduceLE, Int.reduceLT, Int.reduceAdd, Int.reduceSub, Int.reduceMul, Int.reduceNeg, reduceCtorEq, reduceIte, Int.reduceBEq, Int.reduceBNe, Int.reduceEq, Int.reduceNe, Nat.reduceBEq, Nat.reduceBNe, tys])
    (refine Fin.pure ?_ ?_ ?_ <;> simp only [Try.results57, Try.ntmps57, vcs, Nat.reduceAdd, Nat.reduceMul, Nat.reduceEqDiff, Nat.reduceLeDiff, Nat.reduceSub, Nat.reduceLT, Int.reduceToNat, Int.reduceLE, Int.reduceLT, Int.reduceAdd, Int.reduceSub, Int.reduceMul, Int.reduceNeg, reduceCtorEq, reduceIte, Int.reduceBEq, Int.reduceBNe, Int.reduceEq, Int.reduceNe, Nat.reduceBEq, Nat.reduceBNe, tys])

theorem has_ev (l lo hi n : Int) (h : (l, lo, hi) ∈ [(0, 0, 9007199254740991), (1, 0, 1048576), (2, 0, 60), (3, 0, 1000000), (4, -1, (9007199254740991 : Int))]) (nm : Nat) : Ev cx 33 nm [.int .i64 l, .int .i64 n] Mem.nil (.bool (decide (lo ≤ n) && decide (n ≤ hi))) [] := by
  refine ev_go (fun cargs w => Try.call33 cargs w) Try.func33 rfl mixed (by kernel_rfl) rfl ?_; intro b0 hb0
  repeat (first | refine draw_end (by decide +kernel) ?_ | simp only [vcs, Nat.reduceAdd, Nat.reduceMul, Nat.reduceEqDiff, Nat.reduceLeDiff, Nat.reduceSub, Nat.reduceLT, Int.reduceToNat, Int.reduceLE, Int.reduceLT, Int.reduceAdd, Int.reduceSub, Int.reduceMul, Int.reduceNeg, reduceCtorEq, reduceIte, Int.reduceBEq, Int.reduceBNe, Int.reduceEq, Int.reduceNe, Nat.reduceBEq, Nat.reduceBNe, tys])
  refine call_fn (by simp only [vcs, Nat.reduceAdd, Nat.reduceMul, Nat.reduceEqDiff, Nat.reduceLeDiff, Nat.reduceSub, Nat.reduceLT, Int.reduceToNat, Int.reduceLE, Int.reduceLT, Int.reduceAdd, Int.reduceSub, Int.reduceMul, Int.reduceNeg, reduceCtorEq, reduceIte, Int.reduceBEq, Int.reduceBNe, Int.reduceEq, Int.reduceNe, Nat.reduceBEq, Nat.reduceBNe, tys] <;> rfl) (ends_ev l lo hi h _) ?_
  repeat (first | refine draw_end (by decide +kernel) ?_ | simp only [vcs, Nat.reduceAdd, Nat.reduceMul, Nat.reduceEqDiff, Nat.reduceLeDiff, Nat.reduceSub, Nat.reduceLT, Int.reduceToNat, Int.reduceLE, Int.reduceLT, Int.reduceAdd, Int.reduceSub, Int.reduceMul, Int.reduceNeg, reduceCtorEq, reduceIte, Int.reduceBEq, Int.reduceBNe, Int.reduceEq, Int.reduceNe, Nat.reduceBEq, Nat.reduceBNe, tys])
  (refine Fin.pure ?_ ?_ ?_ <;> simp only [Try.results33, Try.ntmps33, vcs, Nat.reduceAdd, Nat.reduceMul, Nat.reduceEqDiff, Nat.reduceLeDiff, Nat.reduceSub, Nat.reduceLT, Int.reduceToNat, Int.reduceLE, Int.reduceLT, Int.reduceAdd, Int.reduceSub, Int.reduceMul, Int.reduceNeg, reduceCtorEq, reduceIte, Int.reduceBEq, Int.reduceBNe, Int.reduceEq, Int.reduceNe, Nat.reduceBEq, Nat.reduceBNe, tys])

theorem short_ev (s : List UInt8) (nm : Nat) : Ev cx 42 nm [.str s] Mem.nil (.bool (decide ((s.length : Int) ≤ 16384))) [] := by
  refine ev_go (fun cargs w => Try.call42 cargs w) Try.func42 rfl mixed (by kernel_rfl) rfl ?_; intro b0 hb0
  repeat (first | refine draw_end (by decide +kernel) ?_ | simp only [vcs, Nat.reduceAdd, Nat.reduceMul, Nat.reduceEqDiff, Nat.reduceLeDiff, Nat.reduceSub, Nat.reduceLT, Int.reduceToNat, Int.reduceLE, Int.reduceLT, Int.reduceAdd, Int.reduceSub, Int.reduceMul, Int.reduceNeg, reduceCtorEq, reduceIte, Int.reduceBEq, Int.reduceBNe, Int.reduceEq, Int.reduceNe, Nat.reduceBEq, Nat.reduceBNe, tys])
  (refine Fin.pure ?_ ?_ ?_ <;> simp only [Try.results42, Try.ntmps42, vcs, Nat.reduceAdd, Nat.reduceMul, Nat.reduceEqDiff, Nat.reduceLeDiff, Nat.reduceSub, Nat.reduceLT, Int.reduceToNat, Int.reduceLE, Int.reduceLT, Int.reduceAdd, Int.reduceSub, Int.reduceMul, Int.reduceNeg, reduceCtorEq, reduceIte, Int.reduceBEq, Int.reduceBNe, Int.reduceEq, Int.reduceNe, Nat.reduceBEq, Nat.reduceBNe, tys])
end Go.Proofs.Ytdbbnhmnlgfjoaa
/-
  Layer 28: which requests, answers and desks may be.
-/
namespace Go.Proofs.Ytdbbnhmnlgfjoaa
set_option linter.unusedSimpArgs false
set_option linter.unusedVariables false
open Go Go.RowKit Go.Proofs.Ytdbbnhmnlgfjoaa.Vm

def inRange (lo hi n : Int) : Bool := decide (lo ≤ n) && decide (n ≤ hi)
def shortB (s : List UInt8) : Bool := decide ((s.length : Int) ≤ 16384)

set_option maxHeartbeats 1000000 in
theorem held_ev (a1 a2 a3 : Int) (a4 : List UInt8) (a5 a6 : Int) (nm : Nat) : Ev cx 37 nm [.agg [.int .i64 a1, .int .i64 a2, .int .i64 a3, .str a4, .int .i64 a5, .int .i64 a6]] Mem.nil (.bool (num a1 && inRange 0 1048576 a2 && inRange 0 60 a3 && shortB a4 && inRange (-1) 9007199254740991 a5 && inRange (-1) 9007199254740991 a6)) [] := by
  have k0 : ((0 : Int), (0 : Int), (9007199254740991 : Int)) ∈ [(0, 0, 9007199254740991), (1, 0, 1048576), (2, 0, 60), (3, 0, 1000000), (4, -1, (9007199254740991 : Int))] := by simp
  have k1 : ((1 : Int), (0 : Int), (1048576 : Int)) ∈ [(0, 0, 9007199254740991), (1, 0, 1048576), (2, 0, 60), (3, 0, 1000000), (4, -1, (9007199254740991 : Int))] := by simp
  have k2 : ((2 : Int), (0 : Int), (60 : Int)) ∈ [(0, 0, 9007199254740991), (1, 0, 1048576), (2, 0, 60), (3, 0, 1000000), (4, -1, (9007199254740991 : Int))] := by simp
  have k4 : ((4 : Int), (-1 : Int), (9007199254740991 : Int)) ∈ [(0, 0, 9007199254740991), (1, 0, 1048576), (2, 0, 60), (3, 0, 1000000), (4, -1, (9007199254740991 : Int))] := by simp
  refine ev_go (fun cargs w => Try.call37 cargs w) Try.func37 rfl mixed (by kernel_rfl) rfl ?_; intro b0 hb0
  repeat (first | refine draw_end (by decide +kernel) ?_ | simp only [vcs, Nat.reduceAdd, Nat.reduceMul, Nat.reduceEqDiff, Nat.reduceLeDiff, Nat.reduceSub, Nat.reduceLT, Int.reduceToNat, Int.reduceLE, Int.reduceLT, Int.reduceAdd, Int.reduceSub, Int.reduceMul, Int.reduceNeg, reduceCtorEq, reduceIte, Int.reduceBEq, Int.reduceBNe, Int.reduceEq, Int.reduceNe, Nat.reduceBEq, Nat.reduceBNe, tys])
  refine call_fn (by simp only [vcs, Nat.reduceAdd, Nat.reduceMul, Nat.reduceEqDiff, Nat.reduceLeDiff, Nat.reduceSub, Nat.reduceLT, Int.reduceToNat, Int.reduceLE, Int.reduceLT, Int.reduceAdd, Int.reduceSub, Int.reduceMul, Int.reduceNeg, reduceCtorEq, reduceIte, Int.reduceBEq, Int.reduceBNe, Int.reduceEq, Int.reduceNe, Nat.reduceBEq, Nat.reduceBNe, tys] <;> rfl) (has_ev 0 0 9007199254740991 a1 k0 _) ?_
  repeat (first | refine draw_end (by decide +kernel) ?_ | simp only [vcs, Nat.reduceAdd, Nat.reduceMul, Nat.reduceEqDiff, Nat.reduceLeDiff, Nat.reduceSub, Nat.reduceLT, Int.reduceToNat, Int.reduceLE, Int.reduceLT, Int.reduceAdd, Int.reduceSub, Int.reduceMul, Int.reduceNeg, reduceCtorEq, reduceIte, Int.reduceBEq, Int.reduceBNe, Int.reduceEq, Int.reduceNe, Nat.reduceBEq, Nat.reduceBNe, tys])
  refine call_fn_g (by simp only [vcs, Nat.reduceAdd, Nat.reduceMul, Nat.reduceEqDiff, Nat.reduceLeDiff, Nat.reduceSub, Nat.reduceLT, Int.reduceToNat, Int.reduceLE, Int.reduceLT, Int.reduceAdd, Int.reduceSub, Int.reduceMul, Int.reduceNeg, reduceCtorEq, reduceIte, Int.reduceBEq, Int.reduceBNe, Int.reduceEq, Int.reduceNe, Nat.reduceBEq, Nat.reduceBNe, tys] <;> rfl) (fun _ => has_ev 1 0 1048576 a2 k1 _) ?_
  repeat (first | refine draw_end (by decide +kernel) ?_ | simp only [vcs, Nat.reduceAdd, Nat.reduceMul, Nat.reduceEqDiff, Nat.reduceLeDiff, Nat.reduceSub, Nat.reduceLT, Int.reduceToNat, Int.reduceLE, Int.reduceLT, Int.reduceAdd, Int.reduceSub, Int.reduceMul, Int.reduceNeg, reduceCtorEq, reduceIte, Int.reduceBEq, Int.reduceBNe, Int.reduceEq, Int.reduceNe, Nat.reduceBEq, Nat.reduceBNe, tys])
  refine call_fn_g (by simp only [vcs, Nat.reduceAdd, Nat.reduceMul, Nat.reduceEqDiff, Nat.reduceLeDiff, Nat.reduceSub, Nat.reduceLT, Int.reduceToNat, Int.reduceLE, Int.reduceLT, Int.reduceAdd, Int.reduceSub, Int.reduceMul, Int.reduceNeg, reduceCtorEq, reduceIte, Int.reduceBEq, Int.reduceBNe, Int.reduceEq, Int.reduceNe, Nat.reduceBEq, Nat.reduceBNe, tys] <;> rfl) (fun _ => has_ev 2 0 60 a3 k2 _) ?_
  repeat (first | refine draw_end (by decide +kernel) ?_ | simp only [vcs, Nat.reduceAdd, Nat.reduceMul, Nat.reduceEqDiff, Nat.reduceLeDiff, Nat.reduceSub, Nat.reduceLT, Int.reduceToNat, Int.reduceLE, Int.reduceLT, Int.reduceAdd, Int.reduceSub, Int.reduceMul, Int.reduceNeg, reduceCtorEq, reduceIte, Int.reduceBEq, Int.reduceBNe, Int.reduceEq, Int.reduceNe, Nat.reduceBEq, Nat.reduceBNe, tys])
  refine call_fn_g (by simp only [vcs, Nat.reduceAdd, Nat.reduceMul, Nat.reduceEqDiff, Nat.reduceLeDiff, Nat.reduceSub, Nat.reduceLT, Int.reduceToNat, Int.reduceLE, Int.reduceLT, Int.reduceAdd, Int.reduceSub, Int.reduceMul, Int.reduceNeg, reduceCtorEq, reduceIte, Int.reduceBEq, Int.reduceBNe, Int.reduceEq, Int.reduceNe, Nat.reduceBEq, Nat.reduceBNe, tys] <;> rfl) (fun _ => short_ev a4 _) ?_
  repeat (first | refine draw_end (by decide +kernel) ?_ | simp only [vcs, Nat.reduceAdd, Nat.reduceMul, Nat.reduceEqDiff, Nat.reduceLeDiff, Nat.reduceSub, Nat.reduceLT, Int.reduceToNat, Int.reduceLE, Int.reduceLT, Int.reduceAdd, Int.reduceSub, Int.reduceMul, Int.reduceNeg, reduceCtorEq, reduceIte, Int.reduceBEq, Int.reduceBNe, Int.reduceEq, Int.reduceNe, Nat.reduceBEq, Nat.reduceBNe, tys])
  refine call_fn_g (by simp only [vcs, Nat.reduceAdd, Nat.reduceMul, Nat.reduceEqDiff, Nat.reduceLeDiff, Nat.reduceSub, Nat.reduceLT, Int.reduceToNat, Int.reduceLE, Int.reduceLT, Int.reduceAdd, Int.reduceSub, Int.reduceMul, Int.reduceNeg, reduceCtorEq, reduceIte, Int.reduceBEq, Int.reduceBNe, Int.reduceEq, Int.reduceNe, Nat.reduceBEq, Nat.reduceBNe, tys] <;> rfl) (fun _ => has_ev 4 (-1) 9007199254740991 a5 k4 _) ?_
  repeat (first | refine draw_end (by decide +kernel) ?_ | simp only [vcs, Nat.reduceAdd, Nat.reduceMul, Nat.reduceEqDiff, Nat.reduceLeDiff, Nat.reduceSub, Nat.reduceLT, Int.reduceToNat, Int.reduceLE, Int.reduceLT, Int.reduceAdd, Int.reduceSub, Int.reduceMul, Int.reduceNeg, reduceCtorEq, reduceIte, Int.reduceBEq, Int.reduceBNe, Int.reduceEq, Int.reduceNe, Nat.reduceBEq, Nat.reduceBNe, tys])
  refine call_fn_g (by simp only [vcs, Nat.reduceAdd, Nat.reduceMul, Nat.reduceEqDiff, Nat.reduceLeDiff, Nat.reduceSub, Nat.reduceLT, Int.reduceToNat, Int.reduceLE, Int.reduceLT, Int.reduceAdd, Int.reduceSub, Int.reduceMul, Int.reduceNeg, reduceCtorEq, reduceIte, Int.reduceBEq, Int.reduceBNe, Int.reduceEq, Int.reduceNe, Nat.reduceBEq, Nat.reduceBNe, tys] <;> rfl) (fun _ => has_ev 4 (-1) 9007199254740991 a6 k4 _) ?_
  repeat (first | refine draw_end (by decide +kernel) ?_ | simp only [vcs, Nat.reduceAdd, Nat.reduceMul, Nat.reduceEqDiff, Nat.reduceLeDiff, Nat.reduceSub, Nat.reduceLT, Int.reduceToNat, Int.reduceLE, Int.reduceLT, Int.reduceAdd, Int.reduceSub, Int.reduceMul, Int.reduceNeg, reduceCtorEq, reduceIte, Int.reduceBEq, Int.reduceBNe, Int.reduceEq, Int.reduceNe, Nat.reduceBEq, Nat.reduceBNe, tys])
  (refine Fin.pure ?_ ?_ ?_ <;> simp only [Try.results37, Try.ntmps37, vcs, Nat.reduceAdd, Nat.reduceMul, Nat.reduceEqDiff, Nat.reduceLeDiff, Nat.reduceSub, Nat.reduceLT, Int.reduceToNat, Int.reduceLE, Int.reduceLT, Int.reduceAdd, Int.reduceSub, Int.reduceMul, Int.reduceNeg, reduceCtorEq, reduceIte, Int.reduceBEq, Int.reduceBNe, Int.reduceEq, Int.reduceNe, Nat.reduceBEq, Nat.reduceBNe, tys])
  simp only [num, inRange, shortB]

set_option maxHeartbeats 1000000 in
theorem done_ev (a1 : Int) (a2 a3 : List UInt8) (a4 : Int) (nm : Nat) : Ev cx 38 nm [.agg [.int .i64 a1, .str a2, .str a3, .int .i64 a4]] Mem.nil (.bool (num a1 && shortB a2 && shortB a3 && inRange 0 1000000 a4)) [] := by
  have k0 : ((0 : Int), (0 : Int), (9007199254740991 : Int)) ∈ [(0, 0, 9007199254740991), (1, 0, 1048576), (2, 0, 60), (3, 0, 1000000), (4, -1, (9007199254740991 : Int))] := by simp
  have k3 : ((3 : Int), (0 : Int), (1000000 : Int)) ∈ [(0, 0, 9007199254740991), (1, 0, 1048576), (2, 0, 60), (3, 0, 1000000), (4, -1, (9007199254740991 : Int))] := by simp
  refine ev_go (fun cargs w => Try.call38 cargs w) Try.func38 rfl mixed (by kernel_rfl) rfl ?_; intro b0 hb0
  repeat (first | refine draw_end (by decide +kernel) ?_ | simp only [vcs, Nat.reduceAdd, Nat.reduceMul, Nat.reduceEqDiff, Nat.reduceLeDiff, Nat.reduceSub, Nat.reduceLT, Int.reduceToNat, Int.reduceLE, Int.reduceLT, Int.reduceAdd, Int.reduceSub, Int.reduceMul, Int.reduceNeg, reduceCtorEq, reduceIte, Int.reduceBEq, Int.reduceBNe, Int.reduceEq, Int.reduceNe, Nat.reduceBEq, Nat.reduceBNe, tys])
  refine call_fn (by simp only [vcs, Nat.reduceAdd, Nat.reduceMul, Nat.reduceEqDiff, Nat.reduceLeDiff, Nat.reduceSub, Nat.reduceLT, Int.reduceToNat, Int.reduceLE, Int.reduceLT, Int.reduceAdd, Int.reduceSub, Int.reduceMul, Int.reduceNeg, reduceCtorEq, reduceIte, Int.reduceBEq, Int.reduceBNe, Int.reduceEq, Int.reduceNe, Nat.reduceBEq, Nat.reduceBNe, tys] <;> rfl) (has_ev 0 0 9007199254740991 a1 k0 _) ?_
  repeat (first | refine draw_end (by decide +kernel) ?_ | simp only [vcs, Nat.reduceAdd, Nat.reduceMul, Nat.reduceEqDiff, Nat.reduceLeDiff, Nat.reduceSub, Nat.reduceLT, Int.reduceToNat, Int.reduceLE, Int.reduceLT, Int.reduceAdd, Int.reduceSub, Int.reduceMul, Int.reduceNeg, reduceCtorEq, reduceIte, Int.reduceBEq, Int.reduceBNe, Int.reduceEq, Int.reduceNe, Nat.reduceBEq, Nat.reduceBNe, tys])
  refine call_fn_g (by simp only [vcs, Nat.reduceAdd, Nat.reduceMul, Nat.reduceEqDiff, Nat.reduceLeDiff, Nat.reduceSub, Nat.reduceLT, Int.reduceToNat, Int.reduceLE, Int.reduceLT, Int.reduceAdd, Int.reduceSub, Int.reduceMul, Int.reduceNeg, reduceCtorEq, reduceIte, Int.reduceBEq, Int.reduceBNe, Int.reduceEq, Int.reduceNe, Nat.reduceBEq, Nat.reduceBNe, tys] <;> rfl) (fun _ => short_ev a2 _) ?_
  repeat (first | refine draw_end (by decide +kernel) ?_ | simp only [vcs, Nat.reduceAdd, Nat.reduceMul, Nat.reduceEqDiff, Nat.reduceLeDiff, Nat.reduceSub, Nat.reduceLT, Int.reduceToNat, Int.reduceLE, Int.reduceLT, Int.reduceAdd, Int.reduceSub, Int.reduceMul, Int.reduceNeg, reduceCtorEq, reduceIte, Int.reduceBEq, Int.reduceBNe, Int.reduceEq, Int.reduceNe, Nat.reduceBEq, Nat.reduceBNe, tys])
  refine call_fn_g (by simp only [vcs, Nat.reduceAdd, Nat.reduceMul, Nat.reduceEqDiff, Nat.reduceLeDiff, Nat.reduceSub, Nat.reduceLT, Int.reduceToNat, Int.reduceLE, Int.reduceLT, Int.reduceAdd, Int.reduceSub, Int.reduceMul, Int.reduceNeg, reduceCtorEq, reduceIte, Int.reduceBEq, Int.reduceBNe, Int.reduceEq, Int.reduceNe, Nat.reduceBEq, Nat.reduceBNe, tys] <;> rfl) (fun _ => short_ev a3 _) ?_
  repeat (first | refine draw_end (by decide +kernel) ?_ | simp only [vcs, Nat.reduceAdd, Nat.reduceMul, Nat.reduceEqDiff, Nat.reduceLeDiff, Nat.reduceSub, Nat.reduceLT, Int.reduceToNat, Int.reduceLE, Int.reduceLT, Int.reduceAdd, Int.reduceSub, Int.reduceMul, Int.reduceNeg, reduceCtorEq, reduceIte, Int.reduceBEq, Int.reduceBNe, Int.reduceEq, Int.reduceNe, Nat.reduceBEq, Nat.reduceBNe, tys])
  refine call_fn_g (by simp only [vcs, Nat.reduceAdd, Nat.reduceMul, Nat.reduceEqDiff, Nat.reduceLeDiff, Nat.reduceSub, Nat.reduceLT, Int.reduceToNat, Int.reduceLE, Int.reduceLT, Int.reduceAdd, Int.reduceSub, Int.reduceMul, Int.reduceNeg, reduceCtorEq, reduceIte, Int.reduceBEq, Int.reduceBNe, Int.reduceEq, Int.reduceNe, Nat.reduceBEq, Nat.reduceBNe, tys] <;> rfl) (fun _ => has_ev 3 0 1000000 a4 k3 _) ?_
  repeat (first | refine draw_end (by decide +kernel) ?_ | simp only [vcs, Nat.reduceAdd, Nat.reduceMul, Nat.reduceEqDiff, Nat.reduceLeDiff, Nat.reduceSub, Nat.reduceLT, Int.reduceToNat, Int.reduceLE, Int.reduceLT, Int.reduceAdd, Int.reduceSub, Int.reduceMul, Int.reduceNeg, reduceCtorEq, reduceIte, Int.reduceBEq, Int.reduceBNe, Int.reduceEq, Int.reduceNe, Nat.reduceBEq, Nat.reduceBNe, tys])
  (refine Fin.pure ?_ ?_ ?_ <;> simp only [Try.results38, Try.ntmps38, vcs, Nat.reduceAdd, Nat.reduceMul, Nat.reduceEqDiff, Nat.reduceLeDiff, Nat.reduceSub, Nat.reduceLT, Int.reduceToNat, Int.reduceLE, Int.reduceLT, Int.reduceAdd, Int.reduceSub, Int.reduceMul, Int.reduceNeg, reduceCtorEq, reduceIte, Int.reduceBEq, Int.reduceBNe, Int.reduceEq, Int.reduceNe, Nat.reduceBEq, Nat.reduceBNe, tys])
  simp only [num, inRange, shortB]

def Hd.may (h : Hd) : Bool := num h.rid && inRange 0 1048576 h.conn && inRange 0 60 h.left && shortB h.body && inRange (-1) 9007199254740991 h.report && inRange (-1) 9007199254740991 h.time
def Dn.may (x : Dn) : Bool := num x.rid && shortB x.body && shortB x.text && inRange 0 1000000 x.age
def hAll (top : Int) : Nat → List Hd → Bool
  | _, [] => true
  | k, h :: r => (h.may && (h.rid == top + k + 1)) && hAll top (k + 1) r
def dAll (low : Int) : Nat → List Dn → Bool
  | _, [] => true
  | k, x :: r => (x.may && (x.rid == low + k + 1)) && dAll low (k + 1) r
/-- The head of a desk. -/
def Desk.head (d : Desk) : Bool := inRange 1 3 d.size && num d.top && decide ((d.held.length : Int) ≤ 4) && decide ((d.done.length : Int) ≤ d.size)
def Desk.may (d : Desk) : Bool := d.head && hAll d.top 0 d.held && dAll (d.top - d.done.length) 0 d.done
theorem hAll_append (top : Int) : ∀ (l r : List Hd) (k : Nat), hAll top k (l ++ r) = (hAll top k l && hAll top (k + l.length) r)
  | [], r, k => by simp [hAll]
  | h :: l, r, k => by simp only [List.cons_append, hAll, hAll_append top l r (k + 1), List.length_cons, Bool.and_assoc]; congr 4; omega
theorem dAll_append (top : Int) : ∀ (l r : List Dn) (k : Nat), dAll top k (l ++ r) = (dAll top k l && dAll top (k + l.length) r)
  | [], r, k => by simp [dAll]
  | h :: l, r, k => by simp only [List.cons_append, dAll, dAll_append top l r (k + 1), List.length_cons, Bool.and_assoc]; congr 4; omega
theorem hAll_snoc {top : Int} {l : List Hd} {k : Nat} {h : Hd} (hk : l[k]? = some h) : hAll top 0 (l.take (k + 1)) = (hAll top 0 (l.take k) && (h.may && (h.rid == top + k + 1))) := by
  have hlt := (List.getElem?_eq_some_iff.1 hk).1
  rw [List.take_add_one, hk, hAll_append]
  have : (l.take k).length = k := by simp; omega
  simp [hAll, this]
theorem dAll_snoc {top : Int} {l : List Dn} {k : Nat} {h : Dn} (hk : l[k]? = some h) : dAll top 0 (l.take (k + 1)) = (dAll top 0 (l.take k) && (h.may && (h.rid == top + k + 1))) := by
  have hlt := (List.getElem?_eq_some_iff.1 hk).1
  rw [List.take_add_one, hk, dAll_append]
  have : (l.take k).length = k := by simp; omega
  simp [dAll, this]
end Go.Proofs.Ytdbbnhmnlgfjoaa
/-
  Layer 28: the check of desks.
-/
namespace Go.Proofs.Ytdbbnhmnlgfjoaa
set_option linter.unusedSimpArgs false
set_option linter.unusedVariables false
open Go Go.RowKit Go.Proofs.Ytdbbnhmnlgfjoaa.Vm

/-- How many a list that comes in may hold. -/
def lim : Nat := 140737488355328
def deskRow (d : Desk) : List V := [.sl false 6 (d.held.map hcells), .sl false 4 (d.done.map dcells), .int .i64 d.top, .int .i64 d.size]
def JC1 (d : Desk) (p : Nat) (g nm : Nat) (e : Env) (M : Mem) : Prop := ∃ k, k ≤ d.held.length ∧ g = d.held.length - k ∧ p < nm ∧ e 1 = .ptr p 0 0 ∧ M p = some ⟨4, [deskRow d]⟩ ∧ e 36 = .sl false 6 (d.held.map hcells) ∧ e 37 = .int .i64 d.held.length ∧ e 38 = .int .i64 k ∧ e 3 = .bool (d.head && hAll d.top 0 (d.held.take k))
def JC2 (d : Desk) (p : Nat) (g nm : Nat) (e : Env) (M : Mem) : Prop := ∃ k, k ≤ d.done.length ∧ g = d.done.length - k ∧ p < nm ∧ e 1 = .ptr p 0 0 ∧ M p = some ⟨4, [deskRow d]⟩ ∧ e 60 = .sl false 4 (d.done.map dcells) ∧ e 61 = .int .i64 d.done.length ∧ e 62 = .int .i64 k ∧ e 3 = .bool (d.head && hAll d.top 0 d.held && dAll (d.top - d.done.length) 0 (d.done.take k))

theorem head_top {d : Desk} (h : d.head = true) : 0 ≤ d.top ∧ d.top ≤ 9007199254740991 := by
  simp only [Desk.head, num, Bool.and_eq_true, decide_eq_true_eq] at h
  exact h.1.1.2
theorem round1 (d : Desk) (A m : Bool) (r : Int) (k : Nat) (hk : k ≤ 140737488355328) : (d.head && A && m && r == IntKind.i64.wrap (IntKind.i64.wrap (d.top + k) + 1)) = (d.head && (A && (m && r == d.top + k + 1))) := by
  cases hd : d.head with
  | false => simp
  | true =>
    obtain ⟨h0, h1⟩ := head_top hd
    rw [wrap_in (n := d.top + k) (by omega) (by omega), wrap_in (by omega) (by omega)]
    simp only [Bool.true_and, Bool.and_assoc]
theorem round2 (d : Desk) (A B m : Bool) (r : Int) (k n : Nat) (hk : k ≤ 140737488355328) (hn : n ≤ 140737488355328) : (d.head && A && B && m && r == IntKind.i64.wrap (IntKind.i64.wrap (IntKind.i64.wrap (d.top - n) + k) + 1)) = (d.head && A && (B && (m && r == d.top - n + k + 1))) := by
  cases hd : d.head with
  | false => simp
  | true =>
    obtain ⟨h0, h1⟩ := head_top hd
    rw [wrap_in (n := d.top - n) (by omega) (by omega), wrap_in (n := d.top - n + k) (by omega) (by omega), wrap_in (by omega) (by omega)]
    simp only [Bool.true_and, Bool.and_assoc]

set_option maxHeartbeats 1000000 in
theorem Check_ev (d : Desk) (hn : d.held.length ≤ lim) (hm : d.done.length ≤ lim) (nm : Nat) : Ev cx 17 nm [deskV d] Mem.nil (.int .i64 (if d.may then 0 else 8)) [] := by
  have k0 : ((0 : Int), (0 : Int), (9007199254740991 : Int)) ∈ [(0, 0, 9007199254740991), (1, 0, 1048576), (2, 0, 60), (3, 0, 1000000), (4, -1, (9007199254740991 : Int))] := by simp
  unfold lim at hn hm
  refine ev_go (fun cargs w => Try.call17 cargs w) Try.func17 rfl mixed (by kernel_rfl) rfl ?_; intro b0 hb0
  simp only [deskV]
  repeat (first | refine draw_end (by decide +kernel) ?_ | simp only [vcs, Nat.reduceAdd, Nat.reduceMul, Nat.reduceEqDiff, Nat.reduceLeDiff, Nat.reduceSub, Nat.reduceLT, Int.reduceToNat, Int.reduceLE, Int.reduceLT, Int.reduceAdd, Int.reduceSub, Int.reduceMul, Int.reduceNeg, reduceCtorEq, reduceIte, Int.reduceBEq, Int.reduceBNe, Int.reduceEq, Int.reduceNe, Nat.reduceBEq, Nat.reduceBNe, tys])
  refine call_fn_g (by simp only [vcs, Nat.reduceAdd, Nat.reduceMul, Nat.reduceEqDiff, Nat.reduceLeDiff, Nat.reduceSub, Nat.reduceLT, Int.reduceToNat, Int.reduceLE, Int.reduceLT, Int.reduceAdd, Int.reduceSub, Int.reduceMul, Int.reduceNeg, reduceCtorEq, reduceIte, Int.reduceBEq, Int.reduceBNe, Int.reduceEq, Int.reduceNe, Nat.reduceBEq, Nat.reduceBNe, tys] <;> rfl) (fun _ => has_ev 0 0 9007199254740991 d.top k0 _) ?_
  simp only [List.length_map, vcs, Nat.reduceAdd, Nat.reduceMul, Nat.reduceEqDiff, Nat.reduceLeDiff, Nat.reduceSub, Nat.reduceLT, Int.reduceToNat, Int.reduceLE, Int.reduceLT, Int.reduceAdd, Int.reduceSub, Int.reduceMul, Int.reduceNeg, reduceCtorEq, reduceIte, Int.reduceBEq, Int.reduceBNe, Int.reduceEq, Int.reduceNe, Nat.reduceBEq, Nat.reduceBNe, tys]
  refine loop_by (JC1 d b0) d.held.length ⟨0, Nat.zero_le _, by omega, by omega, ?_⟩ ?_
  · simp only [List.length_map, deskRow, List.take_zero, hAll, Desk.head, inRange, num, Int.natCast_zero, vcs, Nat.reduceAdd, Nat.reduceMul, Nat.reduceEqDiff, Nat.reduceLeDiff, Nat.reduceSub, Nat.reduceLT, Int.reduceToNat, Int.reduceLE, Int.reduceLT, Int.reduceAdd, Int.reduceSub, Int.reduceMul, Int.reduceNeg, reduceCtorEq, reduceIte, Int.reduceBEq, Int.reduceBNe, Int.reduceEq, Int.reduceNe, Nat.reduceBEq, Nat.reduceBNe, tys]
  · rintro g nm e M ⟨k, hk, rfl, hp, e1, hM, e36, e37, e38, e3⟩
    have p0 : (b0 = nm) = False := eq_false (by omega)
    have p1 : ∀ c, (b0 = nm + c) = False := fun c => eq_false (by omega)
    have wk : IntKind.i64.wrap ((k : Int) + 1) = ((k + 1 : Nat) : Int) := by rw [wrap_in (by omega) (by omega)]; push_cast; rfl
    by_cases hlt : k < d.held.length
    · have hd : decide ((k : Int) < (d.held.length : Int)) = true := by simpa using hlt
      obtain ⟨h, hh⟩ : ∃ h, d.held[k]? = some h := ⟨_, List.getElem?_eq_getElem hlt⟩
      simp only [List.length_map, List.getElem?_map, hh, hcells, e1, hM, e36, e37, e38, e3, p0, p1, hd, hlt, vcs, Nat.reduceAdd, Nat.reduceMul, Nat.reduceEqDiff, Nat.reduceLeDiff, Nat.reduceSub, Nat.reduceLT, Int.reduceToNat, Int.reduceLE, Int.reduceLT, Int.reduceAdd, Int.reduceSub, Int.reduceMul, Int.reduceNeg, reduceCtorEq, reduceIte, Int.reduceBEq, Int.reduceBNe, Int.reduceEq, Int.reduceNe, Nat.reduceBEq, Nat.reduceBNe, tys]
      refine call_fn_g (by simp only [vcs, Nat.reduceAdd, Nat.reduceMul, Nat.reduceEqDiff, Nat.reduceLeDiff, Nat.reduceSub, Nat.reduceLT, Int.reduceToNat, Int.reduceLE, Int.reduceLT, Int.reduceAdd, Int.reduceSub, Int.reduceMul, Int.reduceNeg, reduceCtorEq, reduceIte, Int.reduceBEq, Int.reduceBNe, Int.reduceEq, Int.reduceNe, Nat.reduceBEq, Nat.reduceBNe, tys] <;> rfl) (fun _ => held_ev h.rid h.conn h.left h.body h.report h.time _) ?_
      simp only [deskRow, e1, hM, e36, e37, e38, e3, p0, p1, wk, vcs, Nat.reduceAdd, Nat.reduceMul, Nat.reduceEqDiff, Nat.reduceLeDiff, Nat.reduceSub, Nat.reduceLT, Int.reduceToNat, Int.reduceLE, Int.reduceLT, Int.reduceAdd, Int.reduceSub, Int.reduceMul, Int.reduceNeg, reduceCtorEq, reduceIte, Int.reduceBEq, Int.reduceBNe, Int.reduceEq, Int.reduceNe, Nat.reduceBEq, Nat.reduceBNe, tys]
      refine again_by (d.held.length - (k + 1)) (by omega) ⟨k + 1, by omega, rfl, by omega, ?_⟩
      simp only [deskRow, e1, hM, e36, e37, e38, e3, p0, p1, vcs, Nat.reduceAdd, Nat.reduceMul, Nat.reduceEqDiff, Nat.reduceLeDiff, Nat.reduceSub, Nat.reduceLT, Int.reduceToNat, Int.reduceLE, Int.reduceLT, Int.reduceAdd, Int.reduceSub, Int.reduceMul, Int.reduceNeg, reduceCtorEq, reduceIte, Int.reduceBEq, Int.reduceBNe, Int.reduceEq, Int.reduceNe, Nat.reduceBEq, Nat.reduceBNe, tys]
      rw [hAll_snoc hh, ← round1 d _ _ _ k (by omega)]
      simp only [Hd.may]
    · have hd : decide ((k : Int) < (d.held.length : Int)) = false := by simpa using hlt
      have hke : k = d.held.length := by omega
      subst hke
      simp only [List.length_map, deskRow, e1, hM, e36, e37, e38, e3, p0, p1, hd, List.take_length, vcs, Nat.reduceAdd, Nat.reduceMul, Nat.reduceEqDiff, Nat.reduceLeDiff, Nat.reduceSub, Nat.reduceLT, Int.reduceToNat, Int.reduceLE, Int.reduceLT, Int.reduceAdd, Int.reduceSub, Int.reduceMul, Int.reduceNeg, reduceCtorEq, reduceIte, Int.reduceBEq, Int.reduceBNe, Int.reduceEq, Int.reduceNe, Nat.reduceBEq, Nat.reduceBNe, tys]
      refine loop_by (JC2 d b0) d.done.length ⟨0, Nat.zero_le _, by omega, by omega, ?_⟩ ?_
      · simp only [List.length_map, deskRow, List.take_zero, dAll, e1, hM, e3, p0, p1, List.take_length, Int.natCast_zero, vcs, Nat.reduceAdd, Nat.reduceMul, Nat.reduceEqDiff, Nat.reduceLeDiff, Nat.reduceSub, Nat.reduceLT, Int.reduceToNat, Int.reduceLE, Int.reduceLT, Int.reduceAdd, Int.reduceSub, Int.reduceMul, Int.reduceNeg, reduceCtorEq, reduceIte, Int.reduceBEq, Int.reduceBNe, Int.reduceEq, Int.reduceNe, Nat.reduceBEq, Nat.reduceBNe, tys]
      · clear e1 hM e36 e37 e38 e3 p0 p1 wk hp hlt hd hk
        rintro g nm e M ⟨k, hk, rfl, hp, e1, hM, e60, e61, e62, e3⟩
        have p0 : (b0 = nm) = False := eq_false (by omega)
        have p1 : ∀ c, (b0 = nm + c) = False := fun c => eq_false (by omega)
        have wk : IntKind.i64.wrap ((k : Int) + 1) = ((k + 1 : Nat) : Int) := by rw [wrap_in (by omega) (by omega)]; push_cast; rfl
        by_cases hlt : k < d.done.length
        · have hd : decide ((k : Int) < (d.done.length : Int)) = true := by simpa using hlt
          obtain ⟨h, hh⟩ : ∃ h, d.done[k]? = some h := ⟨_, List.getElem?_eq_getElem hlt⟩
          simp only [List.length_map, List.getElem?_map, hh, dcells, e1, hM, e60, e61, e62, e3, p0, p1, hd, hlt, vcs, Nat.reduceAdd, Nat.reduceMul, Nat.reduceEqDiff, Nat.reduceLeDiff, Nat.reduceSub, Nat.reduceLT, Int.reduceToNat, Int.reduceLE, Int.reduceLT, Int.reduceAdd, Int.reduceSub, Int.reduceMul, Int.reduceNeg, reduceCtorEq, reduceIte, Int.reduceBEq, Int.reduceBNe, Int.reduceEq, Int.reduceNe, Nat.reduceBEq, Nat.reduceBNe, tys]
          refine call_fn_g (by simp only [vcs, Nat.reduceAdd, Nat.reduceMul, Nat.reduceEqDiff, Nat.reduceLeDiff, Nat.reduceSub, Nat.reduceLT, Int.reduceToNat, Int.reduceLE, Int.reduceLT, Int.reduceAdd, Int.reduceSub, Int.reduceMul, Int.reduceNeg, reduceCtorEq, reduceIte, Int.reduceBEq, Int.reduceBNe, Int.reduceEq, Int.reduceNe, Nat.reduceBEq, Nat.reduceBNe, tys] <;> rfl) (fun _ => done_ev h.rid h.body h.text h.age _) ?_
          simp only [List.length_map, deskRow, e1, hM, e60, e61, e62, e3, p0, p1, wk, vcs, Nat.reduceAdd, Nat.reduceMul, Nat.reduceEqDiff, Nat.reduceLeDiff, Nat.reduceSub, Nat.reduceLT, Int.reduceToNat, Int.reduceLE, Int.reduceLT, Int.reduceAdd, Int.reduceSub, Int.reduceMul, Int.reduceNeg, reduceCtorEq, reduceIte, Int.reduceBEq, Int.reduceBNe, Int.reduceEq, Int.reduceNe, Nat.reduceBEq, Nat.reduceBNe, tys]
          refine again_by (d.done.length - (k + 1)) (by omega) ⟨k + 1, by omega, rfl, by omega, ?_⟩
          simp only [deskRow, e1, hM, e60, e61, e62, e3, p0, p1, vcs, Nat.reduceAdd, Nat.reduceMul, Nat.reduceEqDiff, Nat.reduceLeDiff, Nat.reduceSub, Nat.reduceLT, Int.reduceToNat, Int.reduceLE, Int.reduceLT, Int.reduceAdd, Int.reduceSub, Int.reduceMul, Int.reduceNeg, reduceCtorEq, reduceIte, Int.reduceBEq, Int.reduceBNe, Int.reduceEq, Int.reduceNe, Nat.reduceBEq, Nat.reduceBNe, tys]
          rw [dAll_snoc hh, ← round2 d _ _ _ _ k _ (by omega) hm]
          simp only [Dn.may]
        · have hd : decide ((k : Int) < (d.done.length : Int)) = false := by simpa using hlt
          have hke : k = d.done.length := by omega
          subst hke
          simp only [List.length_map, deskRow, e1, hM, e60, e61, e62, e3, p0, p1, hd, List.take_length, vcs, Nat.reduceAdd, Nat.reduceMul, Nat.reduceEqDiff, Nat.reduceLeDiff, Nat.reduceSub, Nat.reduceLT, Int.reduceToNat, Int.reduceLE, Int.reduceLT, Int.reduceAdd, Int.reduceSub, Int.reduceMul, Int.reduceNeg, reduceCtorEq, reduceIte, Int.reduceBEq, Int.reduceBNe, Int.reduceEq, Int.reduceNe, Nat.reduceBEq, Nat.reduceBNe, tys]
          constructor
          · intro hmay
            have hmay' : d.may = false := by simp only [Desk.may]; first | exact hmay | (simp only [Bool.and_eq_false_iff]; exact hmay) | (revert hmay; cases d.head <;> cases hAll d.top 0 d.held <;> simp)
            (refine Fin.pure ?_ ?_ ?_ <;> simp only [Try.results17, Try.ntmps17, vcs, Nat.reduceAdd, Nat.reduceMul, Nat.reduceEqDiff, Nat.reduceLeDiff, Nat.reduceSub, Nat.reduceLT, Int.reduceToNat, Int.reduceLE, Int.reduceLT, Int.reduceAdd, Int.reduceSub, Int.reduceMul, Int.reduceNeg, reduceCtorEq, reduceIte, Int.reduceBEq, Int.reduceBNe, Int.reduceEq, Int.reduceNe, Nat.reduceBEq, Nat.reduceBNe, tys])
            simp only [hmay', vcs, Nat.reduceAdd, Nat.reduceMul, Nat.reduceEqDiff, Nat.reduceLeDiff, Nat.reduceSub, Nat.reduceLT, Int.reduceToNat, Int.reduceLE, Int.reduceLT, Int.reduceAdd, Int.reduceSub, Int.reduceMul, Int.reduceNeg, reduceCtorEq, reduceIte, Int.reduceBEq, Int.reduceBNe, Int.reduceEq, Int.reduceNe, Nat.reduceBEq, Nat.reduceBNe, tys]
          · intro hmay
            have hmay' : d.may = true := by simp only [Desk.may]; first | exact hmay | (simp only [Bool.and_eq_true]; exact hmay) | (revert hmay; cases d.head <;> cases hAll d.top 0 d.held <;> simp)
            (refine Fin.pure ?_ ?_ ?_ <;> simp only [Try.results17, Try.ntmps17, vcs, Nat.reduceAdd, Nat.reduceMul, Nat.reduceEqDiff, Nat.reduceLeDiff, Nat.reduceSub, Nat.reduceLT, Int.reduceToNat, Int.reduceLE, Int.reduceLT, Int.reduceAdd, Int.reduceSub, Int.reduceMul, Int.reduceNeg, reduceCtorEq, reduceIte, Int.reduceBEq, Int.reduceBNe, Int.reduceEq, Int.reduceNe, Nat.reduceBEq, Nat.reduceBNe, tys])
            simp only [hmay', vcs, Nat.reduceAdd, Nat.reduceMul, Nat.reduceEqDiff, Nat.reduceLeDiff, Nat.reduceSub, Nat.reduceLT, Int.reduceToNat, Int.reduceLE, Int.reduceLT, Int.reduceAdd, Int.reduceSub, Int.reduceMul, Int.reduceNeg, reduceCtorEq, reduceIte, Int.reduceBEq, Int.reduceBNe, Int.reduceEq, Int.reduceNe, Nat.reduceBEq, Nat.reduceBNe, tys]
end Go.Proofs.Ytdbbnhmnlgfjoaa
/-
  Layer 28: the document's answer: which desks may be.
-/
namespace Go.Proofs.Ytdbbnhmnlgfjoaa
set_option linter.unusedSimpArgs false
set_option linter.unusedVariables false
open Go Go.RowKit Go.Proofs.Ytdbbnhmnlgfjoaa.Vm

set_option maxHeartbeats 1000000 in
theorem refHeld_ev (a1 a2 a3 : Int) (a4 : List UInt8) (a5 a6 : Int) (nm : Nat) : Ev cx 55 nm [.agg [.int .i64 a1, .int .i64 a2, .int .i64 a3, .str a4, .int .i64 a5, .int .i64 a6]] Mem.nil (.bool (num a1 && inRange 0 1048576 a2 && inRange 0 60 a3 && shortB a4 && inRange (-1) 9007199254740991 a5 && inRange (-1) 9007199254740991 a6)) [] := by
  refine ev_go (fun cargs w => Try.call55 cargs w) Try.func55 rfl mixed (by kernel_rfl) rfl ?_; intro b0 hb0
  repeat (first | refine draw_end (by decide +kernel) ?_ | simp only [vcs, Nat.reduceAdd, Nat.reduceMul, Nat.reduceEqDiff, Nat.reduceLeDiff, Nat.reduceSub, Nat.reduceLT, Int.reduceToNat, Int.reduceLE, Int.reduceLT, Int.reduceAdd, Int.reduceSub, Int.reduceMul, Int.reduceNeg, reduceCtorEq, reduceIte, Int.reduceBEq, Int.reduceBNe, Int.reduceEq, Int.reduceNe, Nat.reduceBEq, Nat.reduceBNe, tys])
  refine call_fn (by simp only [vcs, Nat.reduceAdd, Nat.reduceMul, Nat.reduceEqDiff, Nat.reduceLeDiff, Nat.reduceSub, Nat.reduceLT, Int.reduceToNat, Int.reduceLE, Int.reduceLT, Int.reduceAdd, Int.reduceSub, Int.reduceMul, Int.reduceNeg, reduceCtorEq, reduceIte, Int.reduceBEq, Int.reduceBNe, Int.reduceEq, Int.reduceNe, Nat.reduceBEq, Nat.reduceBNe, tys] <;> rfl) (number_ev a1 _) ?_
  repeat (first | refine draw_end (by decide +kernel) ?_ | simp only [vcs, Nat.reduceAdd, Nat.reduceMul, Nat.reduceEqDiff, Nat.reduceLeDiff, Nat.reduceSub, Nat.reduceLT, Int.reduceToNat, Int.reduceLE, Int.reduceLT, Int.reduceAdd, Int.reduceSub, Int.reduceMul, Int.reduceNeg, reduceCtorEq, reduceIte, Int.reduceBEq, Int.reduceBNe, Int.reduceEq, Int.reduceNe, Nat.reduceBEq, Nat.reduceBNe, tys])
  (refine Fin.pure ?_ ?_ ?_ <;> simp only [Try.results55, Try.ntmps55, vcs, Nat.reduceAdd, Nat.reduceMul, Nat.reduceEqDiff, Nat.reduceLeDiff, Nat.reduceSub, Nat.reduceLT, Int.reduceToNat, Int.reduceLE, Int.reduceLT, Int.reduceAdd, Int.reduceSub, Int.reduceMul, Int.reduceNeg, reduceCtorEq, reduceIte, Int.reduceBEq, Int.reduceBNe, Int.reduceEq, Int.reduceNe, Nat.reduceBEq, Nat.reduceBNe, tys])
  simp only [num, inRange, shortB, Bool.and_assoc]

set_option maxHeartbeats 1000000 in
theorem refDone_ev (a1 : Int) (a2 a3 : List UInt8) (a4 : Int) (nm : Nat) : Ev cx 56 nm [.agg [.int .i64 a1, .str a2, .str a3, .int .i64 a4]] Mem.nil (.bool (num a1 && shortB a2 && shortB a3 && inRange 0 1000000 a4)) [] := by
  refine ev_go (fun cargs w => Try.call56 cargs w) Try.func56 rfl mixed (by kernel_rfl) rfl ?_; intro b0 hb0
  repeat (first | refine draw_end (by decide +kernel) ?_ | simp only [vcs, Nat.reduceAdd, Nat.reduceMul, Nat.reduceEqDiff, Nat.reduceLeDiff, Nat.reduceSub, Nat.reduceLT, Int.reduceToNat, Int.reduceLE, Int.reduceLT, Int.reduceAdd, Int.reduceSub, Int.reduceMul, Int.reduceNeg, reduceCtorEq, reduceIte, Int.reduceBEq, Int.reduceBNe, Int.reduceEq, Int.reduceNe, Nat.reduceBEq, Nat.reduceBNe, tys])
  refine call_fn (by simp only [vcs, Nat.reduceAdd, Nat.reduceMul, Nat.reduceEqDiff, Nat.reduceLeDiff, Nat.reduceSub, Nat.reduceLT, Int.reduceToNat, Int.reduceLE, Int.reduceLT, Int.reduceAdd, Int.reduceSub, Int.reduceMul, Int.reduceNeg, reduceCtorEq, reduceIte, Int.reduceBEq, Int.reduceBNe, Int.reduceEq, Int.reduceNe, Nat.reduceBEq, Nat.reduceBNe, tys] <;> rfl) (number_ev a1 _) ?_
  repeat (first | refine draw_end (by decide +kernel) ?_ | simp only [vcs, Nat.reduceAdd, Nat.reduceMul, Nat.reduceEqDiff, Nat.reduceLeDiff, Nat.reduceSub, Nat.reduceLT, Int.reduceToNat, Int.reduceLE, Int.reduceLT, Int.reduceAdd, Int.reduceSub, Int.reduceMul, Int.reduceNeg, reduceCtorEq, reduceIte, Int.reduceBEq, Int.reduceBNe, Int.reduceEq, Int.reduceNe, Nat.reduceBEq, Nat.reduceBNe, tys])
  (refine Fin.pure ?_ ?_ ?_ <;> simp only [Try.results56, Try.ntmps56, vcs, Nat.reduceAdd, Nat.reduceMul, Nat.reduceEqDiff, Nat.reduceLeDiff, Nat.reduceSub, Nat.reduceLT, Int.reduceToNat, Int.reduceLE, Int.reduceLT, Int.reduceAdd, Int.reduceSub, Int.reduceMul, Int.reduceNeg, reduceCtorEq, reduceIte, Int.reduceBEq, Int.reduceBNe, Int.reduceEq, Int.reduceNe, Nat.reduceBEq, Nat.reduceBNe, tys])
  simp only [num, inRange, shortB, Bool.and_assoc]

def JR1 (d : Desk) (p : Nat) (g nm : Nat) (e : Env) (M : Mem) : Prop := ∃ k, k ≤ d.held.length ∧ g = d.held.length - k ∧ p < nm ∧ e 1 = .ptr p 0 0 ∧ M p = some ⟨4, [deskRow d]⟩ ∧ e 3 = .int .i64 k ∧ hAll d.top 0 (d.held.take k) = true
def JR2 (d : Desk) (p : Nat) (g nm : Nat) (e : Env) (M : Mem) : Prop := ∃ k, k ≤ d.done.length ∧ g = d.done.length - k ∧ p < nm ∧ e 1 = .ptr p 0 0 ∧ M p = some ⟨4, [deskRow d]⟩ ∧ e 4 = .int .i64 k ∧ hAll d.top 0 d.held = true ∧ dAll (d.top - d.done.length) 0 (d.done.take k) = true
theorem hAll_not {top : Int} {l : List Hd} {k : Nat} {h : Hd} (hk : l[k]? = some h) (hf : (h.may && (h.rid == top + k + 1)) = false) : hAll top 0 l = false := by
  have hlt := (List.getElem?_eq_some_iff.1 hk).1
  rw [← List.take_append_drop (k + 1) l, hAll_append, hAll_snoc hk, hf]; simp
theorem dAll_not {top : Int} {l : List Dn} {k : Nat} {h : Dn} (hk : l[k]? = some h) (hf : (h.may && (h.rid == top + k + 1)) = false) : dAll top 0 l = false := by
  have hlt := (List.getElem?_eq_some_iff.1 hk).1
  rw [← List.take_append_drop (k + 1) l, dAll_append, dAll_snoc hk, hf]; simp
theorem bne_flip {a b : Bool} {x y z : Int} (h : (!a || (x != y)) = b) (e : y = z) : (a && (x == z)) = !b := by
  subst e; subst h; cases a <;> simp [bne]

set_option maxHeartbeats 2000000 in
theorem refMay_ev (d : Desk) (hn : d.held.length ≤ lim) (hm : d.done.length ≤ lim) (nm : Nat) : Ev cx 31 nm [deskV d] Mem.nil (.bool d.may) [] := by
  unfold lim at hn hm
  refine ev_go (fun cargs w => Try.call31 cargs w) Try.func31 rfl mixed (by kernel_rfl) rfl ?_; intro b0 hb0
  simp only [deskV]
  repeat (first | refine draw_end (by decide +kernel) ?_ | simp only [vcs, Nat.reduceAdd, Nat.reduceMul, Nat.reduceEqDiff, Nat.reduceLeDiff, Nat.reduceSub, Nat.reduceLT, Int.reduceToNat, Int.reduceLE, Int.reduceLT, Int.reduceAdd, Int.reduceSub, Int.reduceMul, Int.reduceNeg, reduceCtorEq, reduceIte, Int.reduceBEq, Int.reduceBNe, Int.reduceEq, Int.reduceNe, Nat.reduceBEq, Nat.reduceBNe, tys])
  refine call_fn_g (by simp only [vcs, Nat.reduceAdd, Nat.reduceMul, Nat.reduceEqDiff, Nat.reduceLeDiff, Nat.reduceSub, Nat.reduceLT, Int.reduceToNat, Int.reduceLE, Int.reduceLT, Int.reduceAdd, Int.reduceSub, Int.reduceMul, Int.reduceNeg, reduceCtorEq, reduceIte, Int.reduceBEq, Int.reduceBNe, Int.reduceEq, Int.reduceNe, Nat.reduceBEq, Nat.reduceBNe, tys] <;> rfl) (fun _ => number_ev d.top _) ?_
  repeat (first | refine draw_end (by decide +kernel) ?_ | simp only [vcs, Nat.reduceAdd, Nat.reduceMul, Nat.reduceEqDiff, Nat.reduceLeDiff, Nat.reduceSub, Nat.reduceLT, Int.reduceToNat, Int.reduceLE, Int.reduceLT, Int.reduceAdd, Int.reduceSub, Int.reduceMul, Int.reduceNeg, reduceCtorEq, reduceIte, Int.reduceBEq, Int.reduceBNe, Int.reduceEq, Int.reduceNe, Nat.reduceBEq, Nat.reduceBNe, tys])
  constructor
  · intro hd
    (refine Fin.pure ?_ ?_ ?_ <;> simp only [Try.results31, Try.ntmps31, vcs, Nat.reduceAdd, Nat.reduceMul, Nat.reduceEqDiff, Nat.reduceLeDiff, Nat.reduceSub, Nat.reduceLT, Int.reduceToNat, Int.reduceLE, Int.reduceLT, Int.reduceAdd, Int.reduceSub, Int.reduceMul, Int.reduceNeg, reduceCtorEq, reduceIte, Int.reduceBEq, Int.reduceBNe, Int.reduceEq, Int.reduceNe, Nat.reduceBEq, Nat.reduceBNe, tys])
    have hh : d.head = false := by
      rw [List.length_map, List.length_map] at hd
      simp only [Desk.head, inRange, ← decide_not]
      revert hd
      by_cases h1 : d.size < 1
      · simp [show ¬ 1 ≤ d.size by omega]
      · by_cases h2 : 3 < d.size
        · simp [show ¬ d.size ≤ 3 by omega]
        · by_cases h3 : 4 < (d.held.length : Int)
          · simp [show ¬ (d.held.length : Int) ≤ 4 by omega]
          · by_cases h4 : d.size < (d.done.length : Int)
            · simp [show ¬ (d.done.length : Int) ≤ d.size by omega]
            · simp only [h1, h2, h3, h4]
              cases num d.top <;> simp
    simp only [Desk.may, hh, Bool.false_and, vcs, Nat.reduceAdd, Nat.reduceMul, Nat.reduceEqDiff, Nat.reduceLeDiff, Nat.reduceSub, Nat.reduceLT, Int.reduceToNat, Int.reduceLE, Int.reduceLT, Int.reduceAdd, Int.reduceSub, Int.reduceMul, Int.reduceNeg, reduceCtorEq, reduceIte, Int.reduceBEq, Int.reduceBNe, Int.reduceEq, Int.reduceNe, Nat.reduceBEq, Nat.reduceBNe, tys]
  · intro hd
    have hh : d.head = true := by
      rw [List.length_map, List.length_map] at hd
      simp only [Bool.or_eq_false_iff, decide_eq_false_iff_not, Bool.not_eq_false'] at hd
      obtain ⟨⟨⟨⟨h1, h2⟩, h3⟩, h4⟩, h5⟩ := hd
      simp only [Desk.head, inRange, h3, Bool.and_true, Bool.and_eq_true, decide_eq_true_eq]
      omega
    obtain ⟨h0, h1⟩ := head_top hh
    repeat (first | refine draw_end (by decide +kernel) ?_ | simp only [vcs, Nat.reduceAdd, Nat.reduceMul, Nat.reduceEqDiff, Nat.reduceLeDiff, Nat.reduceSub, Nat.reduceLT, Int.reduceToNat, Int.reduceLE, Int.reduceLT, Int.reduceAdd, Int.reduceSub, Int.reduceMul, Int.reduceNeg, reduceCtorEq, reduceIte, Int.reduceBEq, Int.reduceBNe, Int.reduceEq, Int.reduceNe, Nat.reduceBEq, Nat.reduceBNe, tys])
    refine loop_by (JR1 d b0) d.held.length ⟨0, Nat.zero_le _, by omega, by omega, ?_⟩ ?_
    · simp only [deskRow, List.take_zero, hAll, Int.natCast_zero, vcs, Nat.reduceAdd, Nat.reduceMul, Nat.reduceEqDiff, Nat.reduceLeDiff, Nat.reduceSub, Nat.reduceLT, Int.reduceToNat, Int.reduceLE, Int.reduceLT, Int.reduceAdd, Int.reduceSub, Int.reduceMul, Int.reduceNeg, reduceCtorEq, reduceIte, Int.reduceBEq, Int.reduceBNe, Int.reduceEq, Int.reduceNe, Nat.reduceBEq, Nat.reduceBNe, tys]
    · clear hd
      rintro g nm e M ⟨k, hk, rfl, hp, e1, hM, e3, hall⟩
      have p0 : (b0 = nm) = False := eq_false (by omega)
      have p1 : ∀ c, (b0 = nm + c) = False := fun c => eq_false (by omega)
      have wk : IntKind.i64.wrap ((k : Int) + 1) = ((k + 1 : Nat) : Int) := by rw [wrap_in (by omega) (by omega)]; push_cast; rfl
      by_cases hlt : k < d.held.length
      · have hd : decide ((k : Int) < (d.held.length : Int)) = true := by simpa using hlt
        obtain ⟨h, hk2⟩ : ∃ h, d.held[k]? = some h := ⟨_, List.getElem?_eq_getElem hlt⟩
        simp only [List.length_map, List.getElem?_map, hk2, hcells, deskRow, e1, hM, e3, p0, p1, hd, hlt, vcs, Nat.reduceAdd, Nat.reduceMul, Nat.reduceEqDiff, Nat.reduceLeDiff, Nat.reduceSub, Nat.reduceLT, Int.reduceToNat, Int.reduceLE, Int.reduceLT, Int.reduceAdd, Int.reduceSub, Int.reduceMul, Int.reduceNeg, reduceCtorEq, reduceIte, Int.reduceBEq, Int.reduceBNe, Int.reduceEq, Int.reduceNe, Nat.reduceBEq, Nat.reduceBNe, tys]
        refine call_fn (by simp only [vcs, Nat.reduceAdd, Nat.reduceMul, Nat.reduceEqDiff, Nat.reduceLeDiff, Nat.reduceSub, Nat.reduceLT, Int.reduceToNat, Int.reduceLE, Int.reduceLT, Int.reduceAdd, Int.reduceSub, Int.reduceMul, Int.reduceNeg, reduceCtorEq, reduceIte, Int.reduceBEq, Int.reduceBNe, Int.reduceEq, Int.reduceNe, Nat.reduceBEq, Nat.reduceBNe, tys] <;> rfl) (refHeld_ev h.rid h.conn h.left h.body h.report h.time _) ?_
        repeat (first | refine draw_end (by decide +kernel) ?_ | simp only [List.length_map, List.getElem?_map, hk2, hcells, hlt, deskRow, e1, hM, e3, p0, p1, wk, vcs, Nat.reduceAdd, Nat.reduceMul, Nat.reduceEqDiff, Nat.reduceLeDiff, Nat.reduceSub, Nat.reduceLT, Int.reduceToNat, Int.reduceLE, Int.reduceLT, Int.reduceAdd, Int.reduceSub, Int.reduceMul, Int.reduceNeg, reduceCtorEq, reduceIte, Int.reduceBEq, Int.reduceBNe, Int.reduceEq, Int.reduceNe, Nat.reduceBEq, Nat.reduceBNe, tys])
        have hw : IntKind.i64.wrap (IntKind.i64.wrap (d.top + 1) + k) = d.top + k + 1 := by rw [wrap_in (n := d.top + 1) (by omega) (by omega), wrap_in (by omega) (by omega)]; omega
        constructor
        · intro hb
          (refine Fin.pure ?_ ?_ ?_ <;> simp only [Try.results31, Try.ntmps31, vcs, Nat.reduceAdd, Nat.reduceMul, Nat.reduceEqDiff, Nat.reduceLeDiff, Nat.reduceSub, Nat.reduceLT, Int.reduceToNat, Int.reduceLE, Int.reduceLT, Int.reduceAdd, Int.reduceSub, Int.reduceMul, Int.reduceNeg, reduceCtorEq, reduceIte, Int.reduceBEq, Int.reduceBNe, Int.reduceEq, Int.reduceNe, Nat.reduceBEq, Nat.reduceBNe, tys])
          have := hAll_not hk2 (bne_flip hb hw)
          simp only [Desk.may, this, Bool.and_false, Bool.false_and, vcs, Nat.reduceAdd, Nat.reduceMul, Nat.reduceEqDiff, Nat.reduceLeDiff, Nat.reduceSub, Nat.reduceLT, Int.reduceToNat, Int.reduceLE, Int.reduceLT, Int.reduceAdd, Int.reduceSub, Int.reduceMul, Int.reduceNeg, reduceCtorEq, reduceIte, Int.reduceBEq, Int.reduceBNe, Int.reduceEq, Int.reduceNe, Nat.reduceBEq, Nat.reduceBNe, tys]
        · intro hb
          refine again_by (d.held.length - (k + 1)) (by omega) ⟨k + 1, by omega, rfl, by omega, ?_⟩
          simp only [deskRow, e1, hM, e3, p0, p1, wk, vcs, Nat.reduceAdd, Nat.reduceMul, Nat.reduceEqDiff, Nat.reduceLeDiff, Nat.reduceSub, Nat.reduceLT, Int.reduceToNat, Int.reduceLE, Int.reduceLT, Int.reduceAdd, Int.reduceSub, Int.reduceMul, Int.reduceNeg, reduceCtorEq, reduceIte, Int.reduceBEq, Int.reduceBNe, Int.reduceEq, Int.reduceNe, Nat.reduceBEq, Nat.reduceBNe, tys]
          rw [hAll_snoc hk2, hall]
          exact bne_flip hb hw
      · have hd : decide ((k : Int) < (d.held.length : Int)) = false := by simpa using hlt
        have hke : k = d.held.length := by omega
        subst hke
        rw [List.take_length] at hall
        simp only [List.length_map, deskRow, e1, hM, e3, p0, p1, hd, vcs, Nat.reduceAdd, Nat.reduceMul, Nat.reduceEqDiff, Nat.reduceLeDiff, Nat.reduceSub, Nat.reduceLT, Int.reduceToNat, Int.reduceLE, Int.reduceLT, Int.reduceAdd, Int.reduceSub, Int.reduceMul, Int.reduceNeg, reduceCtorEq, reduceIte, Int.reduceBEq, Int.reduceBNe, Int.reduceEq, Int.reduceNe, Nat.reduceBEq, Nat.reduceBNe, tys]
        refine loop_by (JR2 d b0) d.done.length ⟨0, Nat.zero_le _, by omega, by omega, ?_⟩ ?_
        · simp only [deskRow, List.take_zero, dAll, e1, hM, hall, p0, p1, Int.natCast_zero, vcs, Nat.reduceAdd, Nat.reduceMul, Nat.reduceEqDiff, Nat.reduceLeDiff, Nat.reduceSub, Nat.reduceLT, Int.reduceToNat, Int.reduceLE, Int.reduceLT, Int.reduceAdd, Int.reduceSub, Int.reduceMul, Int.reduceNeg, reduceCtorEq, reduceIte, Int.reduceBEq, Int.reduceBNe, Int.reduceEq, Int.reduceNe, Nat.reduceBEq, Nat.reduceBNe, tys]
        · clear e1 hM e3 p0 p1 wk hp hlt hd hk
          rintro g nm e M ⟨k, hk, rfl, hp, e1, hM, e4, hall, hdall⟩
          have p0 : (b0 = nm) = False := eq_false (by omega)
          have p1 : ∀ c, (b0 = nm + c) = False := fun c => eq_false (by omega)
          have wk : IntKind.i64.wrap ((k : Int) + 1) = ((k + 1 : Nat) : Int) := by rw [wrap_in (by omega) (by omega)]; push_cast; rfl
          by_cases hlt : k < d.done.length
          · have hd : decide ((k : Int) < (d.done.length : Int)) = true := by simpa using hlt
            obtain ⟨h, hk2⟩ : ∃ h, d.done[k]? = some h := ⟨_, List.getElem?_eq_getElem hlt⟩
            simp only [List.length_map, List.getElem?_map, hk2, dcells, deskRow, e1, hM, e4, p0, p1, hd, hlt, vcs, Nat.reduceAdd, Nat.reduceMul, Nat.reduceEqDiff, Nat.reduceLeDiff, Nat.reduceSub, Nat.reduceLT, Int.reduceToNat, Int.reduceLE, Int.reduceLT, Int.reduceAdd, Int.reduceSub, Int.reduceMul, Int.reduceNeg, reduceCtorEq, reduceIte, Int.reduceBEq, Int.reduceBNe, Int.reduceEq, Int.reduceNe, Nat.reduceBEq, Nat.reduceBNe, tys]
            refine call_fn (by simp only [vcs, Nat.reduceAdd, Nat.reduceMul, Nat.reduceEqDiff, Nat.reduceLeDiff, Nat.reduceSub, Nat.reduceLT, Int.reduceToNat, Int.reduceLE, Int.reduceLT, Int.reduceAdd, Int.reduceSub, Int.reduceMul, Int.reduceNeg, reduceCtorEq, reduceIte, Int.reduceBEq, Int.reduceBNe, Int.reduceEq, Int.reduceNe, Nat.reduceBEq, Nat.reduceBNe, tys] <;> rfl) (refDone_ev h.rid h.body h.text h.age _) ?_
            repeat (first | refine draw_end (by decide +kernel) ?_ | simp only [List.length_map, List.getElem?_map, hk2, dcells, hlt, deskRow, e1, hM, e4, p0, p1, wk, vcs, Nat.reduceAdd, Nat.reduceMul, Nat.reduceEqDiff, Nat.reduceLeDiff, Nat.reduceSub, Nat.reduceLT, Int.reduceToNat, Int.reduceLE, Int.reduceLT, Int.reduceAdd, Int.reduceSub, Int.reduceMul, Int.reduceNeg, reduceCtorEq, reduceIte, Int.reduceBEq, Int.reduceBNe, Int.reduceEq, Int.reduceNe, Nat.reduceBEq, Nat.reduceBNe, tys])
            have hw : IntKind.i64.wrap (IntKind.i64.wrap (IntKind.i64.wrap (d.top - d.done.length) + 1) + k) = d.top - d.done.length + k + 1 := by rw [wrap_in (n := d.top - d.done.length) (by omega) (by omega), wrap_in (n := d.top - d.done.length + 1) (by omega) (by omega), wrap_in (by omega) (by omega)]; omega
            constructor
            · intro hb
              (refine Fin.pure ?_ ?_ ?_ <;> simp only [Try.results31, Try.ntmps31, vcs, Nat.reduceAdd, Nat.reduceMul, Nat.reduceEqDiff, Nat.reduceLeDiff, Nat.reduceSub, Nat.reduceLT, Int.reduceToNat, Int.reduceLE, Int.reduceLT, Int.reduceAdd, Int.reduceSub, Int.reduceMul, Int.reduceNeg, reduceCtorEq, reduceIte, Int.reduceBEq, Int.reduceBNe, Int.reduceEq, Int.reduceNe, Nat.reduceBEq, Nat.reduceBNe, tys])
              have := dAll_not hk2 (bne_flip hb hw)
              simp only [Desk.may, this, Bool.and_false, Bool.false_and, vcs, Nat.reduceAdd, Nat.reduceMul, Nat.reduceEqDiff, Nat.reduceLeDiff, Nat.reduceSub, Nat.reduceLT, Int.reduceToNat, Int.reduceLE, Int.reduceLT, Int.reduceAdd, Int.reduceSub, Int.reduceMul, Int.reduceNeg, reduceCtorEq, reduceIte, Int.reduceBEq, Int.reduceBNe, Int.reduceEq, Int.reduceNe, Nat.reduceBEq, Nat.reduceBNe, tys]
            · intro hb
              refine again_by (d.done.length - (k + 1)) (by omega) ⟨k + 1, by omega, rfl, by omega, ?_⟩
              simp only [deskRow, e1, hM, e4, p0, p1, wk, hall, vcs, Nat.reduceAdd, Nat.reduceMul, Nat.reduceEqDiff, Nat.reduceLeDiff, Nat.reduceSub, Nat.reduceLT, Int.reduceToNat, Int.reduceLE, Int.reduceLT, Int.reduceAdd, Int.reduceSub, Int.reduceMul, Int.reduceNeg, reduceCtorEq, reduceIte, Int.reduceBEq, Int.reduceBNe, Int.reduceEq, Int.reduceNe, Nat.reduceBEq, Nat.reduceBNe, tys]
              rw [dAll_snoc hk2, hdall]
              exact bne_flip hb hw
          · have hd : decide ((k : Int) < (d.done.length : Int)) = false := by simpa using hlt
            have hke : k = d.done.length := by omega
            subst hke
            rw [List.take_length] at hdall
            simp only [List.length_map, deskRow, e1, hM, e4, p0, p1, hd, vcs, Nat.reduceAdd, Nat.reduceMul, Nat.reduceEqDiff, Nat.reduceLeDiff, Nat.reduceSub, Nat.reduceLT, Int.reduceToNat, Int.reduceLE, Int.reduceLT, Int.reduceAdd, Int.reduceSub, Int.reduceMul, Int.reduceNeg, reduceCtorEq, reduceIte, Int.reduceBEq, Int.reduceBNe, Int.reduceEq, Int.reduceNe, Nat.reduceBEq, Nat.reduceBNe, tys]
            (refine Fin.pure ?_ ?_ ?_ <;> simp only [Try.results31, Try.ntmps31, vcs, Nat.reduceAdd, Nat.reduceMul, Nat.reduceEqDiff, Nat.reduceLeDiff, Nat.reduceSub, Nat.reduceLT, Int.reduceToNat, Int.reduceLE, Int.reduceLT, Int.reduceAdd, Int.reduceSub, Int.reduceMul, Int.reduceNeg, reduceCtorEq, reduceIte, Int.reduceBEq, Int.reduceBNe, Int.reduceEq, Int.reduceNe, Nat.reduceBEq, Nat.reduceBNe, tys])
            simp only [Desk.may, hall, hdall, hh, Bool.and_self, vcs, Nat.reduceAdd, Nat.reduceMul, Nat.reduceEqDiff, Nat.reduceLeDiff, Nat.reduceSub, Nat.reduceLT, Int.reduceToNat, Int.reduceLE, Int.reduceLT, Int.reduceAdd, Int.reduceSub, Int.reduceMul, Int.reduceNeg, reduceCtorEq, reduceIte, Int.reduceBEq, Int.reduceBNe, Int.reduceEq, Int.reduceNe, Nat.reduceBEq, Nat.reduceBNe, tys]
theorem refCheck_ev (d : Desk) (hn : d.held.length ≤ lim) (hm : d.done.length ≤ lim) (nm : Nat) : Ev cx 18 nm [deskV d] Mem.nil (.int .i64 (if d.may then 0 else 8)) [] := by
  refine ev_go (fun cargs w => Try.call18 cargs w) Try.func18 rfl mixed (by kernel_rfl) rfl ?_; intro b0 hb0
  simp only [deskV]
  repeat (first | refine draw_end (by decide +kernel) ?_ | simp only [vcs, Nat.reduceAdd, Nat.reduceMul, Nat.reduceEqDiff, Nat.reduceLeDiff, Nat.reduceSub, Nat.reduceLT, Int.reduceToNat, Int.reduceLE, Int.reduceLT, Int.reduceAdd, Int.reduceSub, Int.reduceMul, Int.reduceNeg, reduceCtorEq, reduceIte, Int.reduceBEq, Int.reduceBNe, Int.reduceEq, Int.reduceNe, Nat.reduceBEq, Nat.reduceBNe, tys])
  refine call_fn (by simp only [vcs, Nat.reduceAdd, Nat.reduceMul, Nat.reduceEqDiff, Nat.reduceLeDiff, Nat.reduceSub, Nat.reduceLT, Int.reduceToNat, Int.reduceLE, Int.reduceLT, Int.reduceAdd, Int.reduceSub, Int.reduceMul, Int.reduceNeg, reduceCtorEq, reduceIte, Int.reduceBEq, Int.reduceBNe, Int.reduceEq, Int.reduceNe, Nat.reduceBEq, Nat.reduceBNe, tys] <;> rfl) (refMay_ev d hn hm _) ?_
  repeat (first | refine draw_end (by decide +kernel) ?_ | simp only [vcs, Nat.reduceAdd, Nat.reduceMul, Nat.reduceEqDiff, Nat.reduceLeDiff, Nat.reduceSub, Nat.reduceLT, Int.reduceToNat, Int.reduceLE, Int.reduceLT, Int.reduceAdd, Int.reduceSub, Int.reduceMul, Int.reduceNeg, reduceCtorEq, reduceIte, Int.reduceBEq, Int.reduceBNe, Int.reduceEq, Int.reduceNe, Nat.reduceBEq, Nat.reduceBNe, tys])
  constructor
  · intro hb
    (refine Fin.pure ?_ ?_ ?_ <;> simp only [Try.results18, Try.ntmps18, vcs, Nat.reduceAdd, Nat.reduceMul, Nat.reduceEqDiff, Nat.reduceLeDiff, Nat.reduceSub, Nat.reduceLT, Int.reduceToNat, Int.reduceLE, Int.reduceLT, Int.reduceAdd, Int.reduceSub, Int.reduceMul, Int.reduceNeg, reduceCtorEq, reduceIte, Int.reduceBEq, Int.reduceBNe, Int.reduceEq, Int.reduceNe, Nat.reduceBEq, Nat.reduceBNe, tys])
    rw [Bool.not_eq_true'] at hb
    simp only [hb, vcs, Nat.reduceAdd, Nat.reduceMul, Nat.reduceEqDiff, Nat.reduceLeDiff, Nat.reduceSub, Nat.reduceLT, Int.reduceToNat, Int.reduceLE, Int.reduceLT, Int.reduceAdd, Int.reduceSub, Int.reduceMul, Int.reduceNeg, reduceCtorEq, reduceIte, Int.reduceBEq, Int.reduceBNe, Int.reduceEq, Int.reduceNe, Nat.reduceBEq, Nat.reduceBNe, tys]
  · intro hb
    (refine Fin.pure ?_ ?_ ?_ <;> simp only [Try.results18, Try.ntmps18, vcs, Nat.reduceAdd, Nat.reduceMul, Nat.reduceEqDiff, Nat.reduceLeDiff, Nat.reduceSub, Nat.reduceLT, Int.reduceToNat, Int.reduceLE, Int.reduceLT, Int.reduceAdd, Int.reduceSub, Int.reduceMul, Int.reduceNeg, reduceCtorEq, reduceIte, Int.reduceBEq, Int.reduceBNe, Int.reduceEq, Int.reduceNe, Nat.reduceBEq, Nat.reduceBNe, tys])
    rw [Bool.not_eq_false'] at hb
    simp only [hb, vcs, Nat.reduceAdd, Nat.reduceMul, Nat.reduceEqDiff, Nat.reduceLeDiff, Nat.reduceSub, Nat.reduceLT, Int.reduceToNat, Int.reduceLE, Int.reduceLT, Int.reduceAdd, Int.reduceSub, Int.reduceMul, Int.reduceNeg, reduceCtorEq, reduceIte, Int.reduceBEq, Int.reduceBNe, Int.reduceEq, Int.reduceNe, Nat.reduceBEq, Nat.reduceBNe, tys]
end Go.Proofs.Ytdbbnhmnlgfjoaa
/-
  Layer 28: copies of desks.
-/
namespace Go.Proofs.Ytdbbnhmnlgfjoaa
set_option linter.unusedSimpArgs false
set_option linter.unusedVariables false
open Go Go.RowKit Go.Proofs.Ytdbbnhmnlgfjoaa.Vm

theorem plain_h (l : List Hd) : plainLL (l.map hcells) = true := plainLL_map _ (fun _ => rfl) l
theorem plain_d (l : List Dn) : plainLL (l.map dcells) = true := plainLL_map _ (fun _ => rfl) l
theorem small_h (l : List Hd) : ((l.map hcells).all fun r => r.all V.one) = true := by
  rw [List.all_eq_true]; intro r hr; obtain ⟨a, _, rfl⟩ := List.mem_map.1 hr; rfl
theorem small_d (l : List Dn) : ((l.map dcells).all fun r => r.all V.one) = true := by
  rw [List.all_eq_true]; intro r hr; obtain ⟨a, _, rfl⟩ := List.mem_map.1 hr; rfl
/-- A desk's copy: its lists in the blocks nm and nm + 1. -/
def deskO (nm : Nat) (d : Desk) : V := .agg [.own nm 0 d.held.length, .own (nm + 1) 0 d.done.length, .int .i64 d.top, .int .i64 d.size]
def deskE (nm : Nat) (d : Desk) : List (Nat × Option Blk) := [(nm, some ⟨6, d.held.map hcells⟩), (nm + 1, some ⟨4, d.done.map dcells⟩)]
theorem fits1000 {n c : Nat} (h : n ≤ 1000) (hc : c ≤ 1000) : n ≤ maxLen ∧ n * c ≤ 140737488355328 := by
  unfold maxLen
  have := Nat.mul_le_mul h hc
  omega
theorem refTwin_own (d : Desk) (hn : d.held.length ≤ 1000) (hm : d.done.length ≤ 1000) (nm : Nat) : Ev cx 10 nm [deskV d] Mem.nil (deskO nm d) (deskE nm d) := by
  refine ev_go (fun cargs w => Try.call10 cargs w) Try.func10 rfl mixed (by kernel_rfl) rfl ?_; intro b0 hb0
  simp only [deskV, deskO, deskE]
  repeat (first | refine draw_end (by decide +kernel) ?_ | simp only [vcs, Nat.reduceAdd, Nat.reduceMul, Nat.reduceEqDiff, Nat.reduceLeDiff, Nat.reduceSub, Nat.reduceLT, Int.reduceToNat, Int.reduceLE, Int.reduceLT, Int.reduceAdd, Int.reduceSub, Int.reduceMul, Int.reduceNeg, reduceCtorEq, reduceIte, Int.reduceBEq, Int.reduceBNe, Int.reduceEq, Int.reduceNe, Nat.reduceBEq, Nat.reduceBNe, tys, plain_h, plain_d, small_h, small_d, List.length_map])
  refine ⟨fits1000 hn (by omega), fits1000 hm (by omega), ?_⟩
  (refine Fin.own [] [(b0 + 80, 0), (b0 + 176, 1)] ?_ ?_ ?_ ?_ ?_ <;> simp only [ghosts_nil, ghosts_cons, sigOk, sigE, sigN, newName_nil, newName_cons, List.mem_cons, List.not_mem_nil, or_false, forall_eq, forall_eq_or_imp, ne_eq, Nat.le_add_right, not_false_eq_true, not_true_eq_false, Try.results10, Try.ntmps10, vcs, Nat.reduceAdd, Nat.reduceMul, Nat.reduceEqDiff, Nat.reduceLeDiff, Nat.reduceSub, Nat.reduceLT, Int.reduceToNat, Int.reduceLE, Int.reduceLT, Int.reduceAdd, Int.reduceSub, Int.reduceMul, Int.reduceNeg, reduceCtorEq, reduceIte, Int.reduceBEq, Int.reduceBNe, Int.reduceEq, Int.reduceNe, Nat.reduceBEq, Nat.reduceBNe, tys, plain_h, plain_d, small_h, small_d, List.length_map])
theorem refTwin_ev (d : Desk) (hn : d.held.length ≤ 1000) (hm : d.done.length ≤ 1000) (nm : Nat) : Ev cx 10 nm [deskV d] Mem.nil (deskV d) [] := by
  refine ev_go (fun cargs w => Try.call10 cargs w) Try.func10 rfl mixed (by kernel_rfl) rfl ?_; intro b0 hb0
  simp only [deskV]
  repeat (first | refine draw_end (by decide +kernel) ?_ | simp only [vcs, Nat.reduceAdd, Nat.reduceMul, Nat.reduceEqDiff, Nat.reduceLeDiff, Nat.reduceSub, Nat.reduceLT, Int.reduceToNat, Int.reduceLE, Int.reduceLT, Int.reduceAdd, Int.reduceSub, Int.reduceMul, Int.reduceNeg, reduceCtorEq, reduceIte, Int.reduceBEq, Int.reduceBNe, Int.reduceEq, Int.reduceNe, Nat.reduceBEq, Nat.reduceBNe, tys, plain_h, plain_d, small_h, small_d, List.length_map])
  refine ⟨fits1000 hn (by omega), fits1000 hm (by omega), ?_⟩
  (refine Fin.pure ?_ ?_ ?_ <;> simp only [Try.results10, Try.ntmps10, vcs, Nat.reduceAdd, Nat.reduceMul, Nat.reduceEqDiff, Nat.reduceLeDiff, Nat.reduceSub, Nat.reduceLT, Int.reduceToNat, Int.reduceLE, Int.reduceLT, Int.reduceAdd, Int.reduceSub, Int.reduceMul, Int.reduceNeg, reduceCtorEq, reduceIte, Int.reduceBEq, Int.reduceBNe, Int.reduceEq, Int.reduceNe, Nat.reduceBEq, Nat.reduceBNe, tys, plain_h, plain_d, small_h, small_d, List.length_map])
theorem cloneH_own (l : List Hd) (hn : l.length ≤ 1000) (nm : Nat) : Ev cx 35 nm [.sl false 6 (l.map hcells)] Mem.nil (.own nm 0 l.length) [(nm, some ⟨6, l.map hcells⟩)] := by
  refine ev_go (fun cargs w => Try.call35 cargs w) Try.func35 rfl mixed (by kernel_rfl) rfl ?_; intro b0 hb0
  repeat (first | refine draw_end (by decide +kernel) ?_ | simp only [vcs, Nat.reduceAdd, Nat.reduceMul, Nat.reduceEqDiff, Nat.reduceLeDiff, Nat.reduceSub, Nat.reduceLT, Int.reduceToNat, Int.reduceLE, Int.reduceLT, Int.reduceAdd, Int.reduceSub, Int.reduceMul, Int.reduceNeg, reduceCtorEq, reduceIte, Int.reduceBEq, Int.reduceBNe, Int.reduceEq, Int.reduceNe, Nat.reduceBEq, Nat.reduceBNe, tys, plain_h, plain_d, small_h, small_d, List.length_map])
  refine ⟨?_, fits1000 hn (by omega), ?_⟩
  · intro hl
    subst hl
    (refine Fin.own [6] [(b0 + 64, 0)] ?_ ?_ ?_ ?_ ?_ <;> simp only [ghosts_nil, ghosts_cons, sigOk, sigE, sigN, newName_nil, newName_cons, List.mem_cons, List.not_mem_nil, or_false, forall_eq, forall_eq_or_imp, ne_eq, Nat.le_add_right, not_false_eq_true, not_true_eq_false, Try.results35, Try.ntmps35, vcs, Nat.reduceAdd, Nat.reduceMul, Nat.reduceEqDiff, Nat.reduceLeDiff, Nat.reduceSub, Nat.reduceLT, Int.reduceToNat, Int.reduceLE, Int.reduceLT, Int.reduceAdd, Int.reduceSub, Int.reduceMul, Int.reduceNeg, reduceCtorEq, reduceIte, Int.reduceBEq, Int.reduceBNe, Int.reduceEq, Int.reduceNe, Nat.reduceBEq, Nat.reduceBNe, tys, plain_h, plain_d, small_h, small_d, List.length_map])
  · (refine Fin.own [] [(b0 + 80, 0)] ?_ ?_ ?_ ?_ ?_ <;> simp only [ghosts_nil, ghosts_cons, sigOk, sigE, sigN, newName_nil, newName_cons, List.mem_cons, List.not_mem_nil, or_false, forall_eq, forall_eq_or_imp, ne_eq, Nat.le_add_right, not_false_eq_true, not_true_eq_false, Try.results35, Try.ntmps35, vcs, Nat.reduceAdd, Nat.reduceMul, Nat.reduceEqDiff, Nat.reduceLeDiff, Nat.reduceSub, Nat.reduceLT, Int.reduceToNat, Int.reduceLE, Int.reduceLT, Int.reduceAdd, Int.reduceSub, Int.reduceMul, Int.reduceNeg, reduceCtorEq, reduceIte, Int.reduceBEq, Int.reduceBNe, Int.reduceEq, Int.reduceNe, Nat.reduceBEq, Nat.reduceBNe, tys, plain_h, plain_d, small_h, small_d, List.length_map])
theorem cloneD_own (l : List Dn) (hn : l.length ≤ 1000) (nm : Nat) : Ev cx 36 nm [.sl false 4 (l.map dcells)] Mem.nil (.own nm 0 l.length) [(nm, some ⟨4, l.map dcells⟩)] := by
  refine ev_go (fun cargs w => Try.call36 cargs w) Try.func36 rfl mixed (by kernel_rfl) rfl ?_; intro b0 hb0
  repeat (first | refine draw_end (by decide +kernel) ?_ | simp only [vcs, Nat.reduceAdd, Nat.reduceMul, Nat.reduceEqDiff, Nat.reduceLeDiff, Nat.reduceSub, Nat.reduceLT, Int.reduceToNat, Int.reduceLE, Int.reduceLT, Int.reduceAdd, Int.reduceSub, Int.reduceMul, Int.reduceNeg, reduceCtorEq, reduceIte, Int.reduceBEq, Int.reduceBNe, Int.reduceEq, Int.reduceNe, Nat.reduceBEq, Nat.reduceBNe, tys, plain_h, plain_d, small_h, small_d, List.length_map])
  refine ⟨?_, fits1000 hn (by omega), ?_⟩
  · intro hl
    subst hl
    (refine Fin.own [4] [(b0 + 64, 0)] ?_ ?_ ?_ ?_ ?_ <;> simp only [ghosts_nil, ghosts_cons, sigOk, sigE, sigN, newName_nil, newName_cons, List.mem_cons, List.not_mem_nil, or_false, forall_eq, forall_eq_or_imp, ne_eq, Nat.le_add_right, not_false_eq_true, not_true_eq_false, Try.results36, Try.ntmps36, vcs, Nat.reduceAdd, Nat.reduceMul, Nat.reduceEqDiff, Nat.reduceLeDiff, Nat.reduceSub, Nat.reduceLT, Int.reduceToNat, Int.reduceLE, Int.reduceLT, Int.reduceAdd, Int.reduceSub, Int.reduceMul, Int.reduceNeg, reduceCtorEq, reduceIte, Int.reduceBEq, Int.reduceBNe, Int.reduceEq, Int.reduceNe, Nat.reduceBEq, Nat.reduceBNe, tys, plain_h, plain_d, small_h, small_d, List.length_map])
  · (refine Fin.own [] [(b0 + 80, 0)] ?_ ?_ ?_ ?_ ?_ <;> simp only [ghosts_nil, ghosts_cons, sigOk, sigE, sigN, newName_nil, newName_cons, List.mem_cons, List.not_mem_nil, or_false, forall_eq, forall_eq_or_imp, ne_eq, Nat.le_add_right, not_false_eq_true, not_true_eq_false, Try.results36, Try.ntmps36, vcs, Nat.reduceAdd, Nat.reduceMul, Nat.reduceEqDiff, Nat.reduceLeDiff, Nat.reduceSub, Nat.reduceLT, Int.reduceToNat, Int.reduceLE, Int.reduceLT, Int.reduceAdd, Int.reduceSub, Int.reduceMul, Int.reduceNeg, reduceCtorEq, reduceIte, Int.reduceBEq, Int.reduceBNe, Int.reduceEq, Int.reduceNe, Nat.reduceBEq, Nat.reduceBNe, tys, plain_h, plain_d, small_h, small_d, List.length_map])
theorem twin_own (d : Desk) (hn : d.held.length ≤ 1000) (hm : d.done.length ≤ 1000) (nm : Nat) : Ev cx 15 nm [deskV d] Mem.nil (deskO nm d) (deskE nm d) := by
  refine ev_go (fun cargs w => Try.call15 cargs w) Try.func15 rfl mixed (by kernel_rfl) rfl ?_; intro b0 hb0
  simp only [deskV, deskO, deskE]
  repeat (first | refine draw_end (by decide +kernel) ?_ | simp only [vcs, Nat.reduceAdd, Nat.reduceMul, Nat.reduceEqDiff, Nat.reduceLeDiff, Nat.reduceSub, Nat.reduceLT, Int.reduceToNat, Int.reduceLE, Int.reduceLT, Int.reduceAdd, Int.reduceSub, Int.reduceMul, Int.reduceNeg, reduceCtorEq, reduceIte, Int.reduceBEq, Int.reduceBNe, Int.reduceEq, Int.reduceNe, Nat.reduceBEq, Nat.reduceBNe, tys, plain_h, plain_d, small_h, small_d, List.length_map])
  refine call_fn_new (by simp only [vcs, Nat.reduceAdd, Nat.reduceMul, Nat.reduceEqDiff, Nat.reduceLeDiff, Nat.reduceSub, Nat.reduceLT, Int.reduceToNat, Int.reduceLE, Int.reduceLT, Int.reduceAdd, Int.reduceSub, Int.reduceMul, Int.reduceNeg, reduceCtorEq, reduceIte, Int.reduceBEq, Int.reduceBNe, Int.reduceEq, Int.reduceNe, Nat.reduceBEq, Nat.reduceBNe, tys, plain_h, plain_d, small_h, small_d, List.length_map] <;> rfl) (cloneH_own d.held hn _) (by simp only [List.mem_cons, List.not_mem_nil, forall_eq, forall_eq_or_imp, vcs, Nat.reduceAdd, Nat.reduceMul, Nat.reduceEqDiff, Nat.reduceLeDiff, Nat.reduceSub, Nat.reduceLT, Int.reduceToNat, Int.reduceLE, Int.reduceLT, Int.reduceAdd, Int.reduceSub, Int.reduceMul, Int.reduceNeg, reduceCtorEq, reduceIte, Int.reduceBEq, Int.reduceBNe, Int.reduceEq, Int.reduceNe, Nat.reduceBEq, Nat.reduceBNe, tys, plain_h, plain_d, small_h, small_d, List.length_map] <;> omega) ?_
  repeat (first | refine draw_end (by decide +kernel) ?_ | simp only [vcs, Nat.reduceAdd, Nat.reduceMul, Nat.reduceEqDiff, Nat.reduceLeDiff, Nat.reduceSub, Nat.reduceLT, Int.reduceToNat, Int.reduceLE, Int.reduceLT, Int.reduceAdd, Int.reduceSub, Int.reduceMul, Int.reduceNeg, reduceCtorEq, reduceIte, Int.reduceBEq, Int.reduceBNe, Int.reduceEq, Int.reduceNe, Nat.reduceBEq, Nat.reduceBNe, tys, plain_h, plain_d, small_h, small_d, List.length_map])
  refine call_fn_new (by simp only [vcs, Nat.reduceAdd, Nat.reduceMul, Nat.reduceEqDiff, Nat.reduceLeDiff, Nat.reduceSub, Nat.reduceLT, Int.reduceToNat, Int.reduceLE, Int.reduceLT, Int.reduceAdd, Int.reduceSub, Int.reduceMul, Int.reduceNeg, reduceCtorEq, reduceIte, Int.reduceBEq, Int.reduceBNe, Int.reduceEq, Int.reduceNe, Nat.reduceBEq, Nat.reduceBNe, tys, plain_h, plain_d, small_h, small_d, List.length_map] <;> rfl) (cloneD_own d.done hm _) (by simp only [List.mem_cons, List.not_mem_nil, forall_eq, forall_eq_or_imp, vcs, Nat.reduceAdd, Nat.reduceMul, Nat.reduceEqDiff, Nat.reduceLeDiff, Nat.reduceSub, Nat.reduceLT, Int.reduceToNat, Int.reduceLE, Int.reduceLT, Int.reduceAdd, Int.reduceSub, Int.reduceMul, Int.reduceNeg, reduceCtorEq, reduceIte, Int.reduceBEq, Int.reduceBNe, Int.reduceEq, Int.reduceNe, Nat.reduceBEq, Nat.reduceBNe, tys, plain_h, plain_d, small_h, small_d, List.length_map] <;> omega) ?_
  repeat (first | refine draw_end (by decide +kernel) ?_ | simp only [vcs, Nat.reduceAdd, Nat.reduceMul, Nat.reduceEqDiff, Nat.reduceLeDiff, Nat.reduceSub, Nat.reduceLT, Int.reduceToNat, Int.reduceLE, Int.reduceLT, Int.reduceAdd, Int.reduceSub, Int.reduceMul, Int.reduceNeg, reduceCtorEq, reduceIte, Int.reduceBEq, Int.reduceBNe, Int.reduceEq, Int.reduceNe, Nat.reduceBEq, Nat.reduceBNe, tys, plain_h, plain_d, small_h, small_d, List.length_map])
  refine draw_end' (ps := [(2, 4)]) (by decide +kernel) (by simp only [List.forall_mem_cons, List.getD_cons_zero, List.getD_cons_succ, vcs, Nat.reduceAdd, Nat.reduceMul, Nat.reduceEqDiff, Nat.reduceLeDiff, Nat.reduceSub, Nat.reduceLT, Int.reduceToNat, Int.reduceLE, Int.reduceLT, Int.reduceAdd, Int.reduceSub, Int.reduceMul, Int.reduceNeg, reduceCtorEq, reduceIte, Int.reduceBEq, Int.reduceBNe, Int.reduceEq, Int.reduceNe, Nat.reduceBEq, Nat.reduceBNe, tys, plain_h, plain_d, small_h, small_d, List.length_map] <;> simp) ?_
  repeat (first | refine draw_end (by decide +kernel) ?_ | simp only [vcs, Nat.reduceAdd, Nat.reduceMul, Nat.reduceEqDiff, Nat.reduceLeDiff, Nat.reduceSub, Nat.reduceLT, Int.reduceToNat, Int.reduceLE, Int.reduceLT, Int.reduceAdd, Int.reduceSub, Int.reduceMul, Int.reduceNeg, reduceCtorEq, reduceIte, Int.reduceBEq, Int.reduceBNe, Int.reduceEq, Int.reduceNe, Nat.reduceBEq, Nat.reduceBNe, tys, plain_h, plain_d, small_h, small_d, List.length_map])
  (refine Fin.own [] [(b0 + 64, 0), (b0 + 112, 1)] ?_ ?_ ?_ ?_ ?_ <;> simp only [ghosts_nil, ghosts_cons, sigOk, sigE, sigN, newName_nil, newName_cons, List.mem_cons, List.not_mem_nil, or_false, forall_eq, forall_eq_or_imp, ne_eq, Nat.le_add_right, not_false_eq_true, not_true_eq_false, Try.results15, Try.ntmps15, vcs, Nat.reduceAdd, Nat.reduceMul, Nat.reduceEqDiff, Nat.reduceLeDiff, Nat.reduceSub, Nat.reduceLT, Int.reduceToNat, Int.reduceLE, Int.reduceLT, Int.reduceAdd, Int.reduceSub, Int.reduceMul, Int.reduceNeg, reduceCtorEq, reduceIte, Int.reduceBEq, Int.reduceBNe, Int.reduceEq, Int.reduceNe, Nat.reduceBEq, Nat.reduceBNe, tys, plain_h, plain_d, small_h, small_d, List.length_map])
theorem twin_ev (d : Desk) (hn : d.held.length ≤ 1000) (hm : d.done.length ≤ 1000) (nm : Nat) : Ev cx 15 nm [deskV d] Mem.nil (deskV d) [] := by
  refine ev_go (fun cargs w => Try.call15 cargs w) Try.func15 rfl mixed (by kernel_rfl) rfl ?_; intro b0 hb0
  simp only [deskV]
  repeat (first | refine draw_end (by decide +kernel) ?_ | simp only [vcs, Nat.reduceAdd, Nat.reduceMul, Nat.reduceEqDiff, Nat.reduceLeDiff, Nat.reduceSub, Nat.reduceLT, Int.reduceToNat, Int.reduceLE, Int.reduceLT, Int.reduceAdd, Int.reduceSub, Int.reduceMul, Int.reduceNeg, reduceCtorEq, reduceIte, Int.reduceBEq, Int.reduceBNe, Int.reduceEq, Int.reduceNe, Nat.reduceBEq, Nat.reduceBNe, tys, plain_h, plain_d, small_h, small_d, List.length_map])
  refine call_fn_new (by simp only [vcs, Nat.reduceAdd, Nat.reduceMul, Nat.reduceEqDiff, Nat.reduceLeDiff, Nat.reduceSub, Nat.reduceLT, Int.reduceToNat, Int.reduceLE, Int.reduceLT, Int.reduceAdd, Int.reduceSub, Int.reduceMul, Int.reduceNeg, reduceCtorEq, reduceIte, Int.reduceBEq, Int.reduceBNe, Int.reduceEq, Int.reduceNe, Nat.reduceBEq, Nat.reduceBNe, tys, plain_h, plain_d, small_h, small_d, List.length_map] <;> rfl) (cloneH_own d.held hn _) (by simp only [List.mem_cons, List.not_mem_nil, forall_eq, forall_eq_or_imp, vcs, Nat.reduceAdd, Nat.reduceMul, Nat.reduceEqDiff, Nat.reduceLeDiff, Nat.reduceSub, Nat.reduceLT, Int.reduceToNat, Int.reduceLE, Int.reduceLT, Int.reduceAdd, Int.reduceSub, Int.reduceMul, Int.reduceNeg, reduceCtorEq, reduceIte, Int.reduceBEq, Int.reduceBNe, Int.reduceEq, Int.reduceNe, Nat.reduceBEq, Nat.reduceBNe, tys, plain_h, plain_d, small_h, small_d, List.length_map] <;> omega) ?_
  repeat (first | refine draw_end (by decide +kernel) ?_ | simp only [vcs, Nat.reduceAdd, Nat.reduceMul, Nat.reduceEqDiff, Nat.reduceLeDiff, Nat.reduceSub, Nat.reduceLT, Int.reduceToNat, Int.reduceLE, Int.reduceLT, Int.reduceAdd, Int.reduceSub, Int.reduceMul, Int.reduceNeg, reduceCtorEq, reduceIte, Int.reduceBEq, Int.reduceBNe, Int.reduceEq, Int.reduceNe, Nat.reduceBEq, Nat.reduceBNe, tys, plain_h, plain_d, small_h, small_d, List.length_map])
  refine call_fn_new (by simp only [vcs, Nat.reduceAdd, Nat.reduceMul, Nat.reduceEqDiff, Nat.reduceLeDiff, Nat.reduceSub, Nat.reduceLT, Int.reduceToNat, Int.reduceLE, Int.reduceLT, Int.reduceAdd, Int.reduceSub, Int.reduceMul, Int.reduceNeg, reduceCtorEq, reduceIte, Int.reduceBEq, Int.reduceBNe, Int.reduceEq, Int.reduceNe, Nat.reduceBEq, Nat.reduceBNe, tys, plain_h, plain_d, small_h, small_d, List.length_map] <;> rfl) (cloneD_own d.done hm _) (by simp only [List.mem_cons, List.not_mem_nil, forall_eq, forall_eq_or_imp, vcs, Nat.reduceAdd, Nat.reduceMul, Nat.reduceEqDiff, Nat.reduceLeDiff, Nat.reduceSub, Nat.reduceLT, Int.reduceToNat, Int.reduceLE, Int.reduceLT, Int.reduceAdd, Int.reduceSub, Int.reduceMul, Int.reduceNeg, reduceCtorEq, reduceIte, Int.reduceBEq, Int.reduceBNe, Int.reduceEq, Int.reduceNe, Nat.reduceBEq, Nat.reduceBNe, tys, plain_h, plain_d, small_h, small_d, List.length_map] <;> omega) ?_
  repeat (first | refine draw_end (by decide +kernel) ?_ | simp only [vcs, Nat.reduceAdd, Nat.reduceMul, Nat.reduceEqDiff, Nat.reduceLeDiff, Nat.reduceSub, Nat.reduceLT, Int.reduceToNat, Int.reduceLE, Int.reduceLT, Int.reduceAdd, Int.reduceSub, Int.reduceMul, Int.reduceNeg, reduceCtorEq, reduceIte, Int.reduceBEq, Int.reduceBNe, Int.reduceEq, Int.reduceNe, Nat.reduceBEq, Nat.reduceBNe, tys, plain_h, plain_d, small_h, small_d, List.length_map])
  refine draw_end' (ps := [(2, 4)]) (by decide +kernel) (by simp only [List.forall_mem_cons, List.getD_cons_zero, List.getD_cons_succ, vcs, Nat.reduceAdd, Nat.reduceMul, Nat.reduceEqDiff, Nat.reduceLeDiff, Nat.reduceSub, Nat.reduceLT, Int.reduceToNat, Int.reduceLE, Int.reduceLT, Int.reduceAdd, Int.reduceSub, Int.reduceMul, Int.reduceNeg, reduceCtorEq, reduceIte, Int.reduceBEq, Int.reduceBNe, Int.reduceEq, Int.reduceNe, Nat.reduceBEq, Nat.reduceBNe, tys, plain_h, plain_d, small_h, small_d, List.length_map] <;> simp) ?_
  repeat (first | refine draw_end (by decide +kernel) ?_ | simp only [vcs, Nat.reduceAdd, Nat.reduceMul, Nat.reduceEqDiff, Nat.reduceLeDiff, Nat.reduceSub, Nat.reduceLT, Int.reduceToNat, Int.reduceLE, Int.reduceLT, Int.reduceAdd, Int.reduceSub, Int.reduceMul, Int.reduceNeg, reduceCtorEq, reduceIte, Int.reduceBEq, Int.reduceBNe, Int.reduceEq, Int.reduceNe, Nat.reduceBEq, Nat.reduceBNe, tys, plain_h, plain_d, small_h, small_d, List.length_map])
  (refine Fin.pure ?_ ?_ ?_ <;> simp only [Try.results15, Try.ntmps15, vcs, Nat.reduceAdd, Nat.reduceMul, Nat.reduceEqDiff, Nat.reduceLeDiff, Nat.reduceSub, Nat.reduceLT, Int.reduceToNat, Int.reduceLE, Int.reduceLT, Int.reduceAdd, Int.reduceSub, Int.reduceMul, Int.reduceNeg, reduceCtorEq, reduceIte, Int.reduceBEq, Int.reduceBNe, Int.reduceEq, Int.reduceNe, Nat.reduceBEq, Nat.reduceBNe, tys, plain_h, plain_d, small_h, small_d, List.length_map])
end Go.Proofs.Ytdbbnhmnlgfjoaa
/-
  Layer 28: desks that are more than the statements go through.
-/
namespace Go.Proofs.Ytdbbnhmnlgfjoaa
set_option linter.unusedSimpArgs false
set_option linter.unusedVariables false
open Go Go.RowKit Go.Proofs.Ytdbbnhmnlgfjoaa.Vm

def hBig (h : Hd) : Bool := decide (20000 < h.body.length)
def dBig (x : Dn) : Bool := decide (40000 < x.body.length + x.text.length)
def Desk.great (d : Desk) : Bool := (d.held.take 8).any hBig || ((d.done.take 8).any dBig || (decide ((6 : Int) < d.held.length) || decide ((6 : Int) < d.done.length)))
/-- Texts are of a length that a machine has. -/
def Desk.fits (d : Desk) : Prop := d.held.length ≤ lim ∧ d.done.length ≤ lim ∧ (∀ h ∈ d.held, h.body.length ≤ lim) ∧ ∀ x ∈ d.done, x.body.length ≤ lim ∧ x.text.length ≤ lim
def JG1 (d : Desk) (p : Nat) (k nm : Nat) (e : Env) (M : Mem) : Prop := p < nm ∧ e 1 = .ptr p 0 0 ∧ M p = some ⟨4, [deskRow d]⟩ ∧ e 3 = .int .i64 k ∧ (d.held.take k).any hBig = false
def JG2 (d : Desk) (p : Nat) (k nm : Nat) (e : Env) (M : Mem) : Prop := p < nm ∧ e 1 = .ptr p 0 0 ∧ M p = some ⟨4, [deskRow d]⟩ ∧ e 4 = .int .i64 k ∧ (d.done.take k).any dBig = false
theorem any_snoc {α : Type} {p : α → Bool} {l : List α} {k : Nat} {x : α} (h : l[k]? = some x) : (l.take (k + 1)).any p = ((l.take k).any p || p x) := by
  rw [List.take_add_one, h]; simp
theorem any_take {α : Type} {p : α → Bool} {l : List α} {k n : Nat} (hk : k < n) {x : α} (h : l[k]? = some x) (hp : p x = true) : (l.take n).any p = true := by
  rw [List.any_eq_true]
  exact ⟨x, List.mem_of_getElem? (i := k) (by rw [List.getElem?_take, if_pos hk]; exact h), hp⟩
theorem take_min {α : Type} {l : List α} {k n : Nat} (hk : ¬ k < min l.length n) (hn : k ≤ min l.length n) : l.take n = l.take k := by
  have : k = min l.length n := by omega
  rcases Nat.le_total l.length n with h | h
  · rw [List.take_of_length_le h, List.take_of_length_le (by omega)]
  · rw [show k = n by omega]

set_option maxHeartbeats 2000000 in
theorem great_ev (d : Desk) (hf : d.fits) (nm : Nat) : Ev cx 9 nm [deskV d] Mem.nil (.bool d.great) [] := by
  obtain ⟨f1, f2, f3, f4⟩ := hf
  unfold lim at f1 f2 f3 f4
  refine ev_go (fun cargs w => Try.call9 cargs w) Try.func9 rfl mixed (by kernel_rfl) rfl ?_; intro b0 hb0
  simp only [deskV]
  repeat (first | refine draw_end (by decide +kernel) ?_ | simp only [vcs, Nat.reduceAdd, Nat.reduceMul, Nat.reduceEqDiff, Nat.reduceLeDiff, Nat.reduceSub, Nat.reduceLT, Int.reduceToNat, Int.reduceLE, Int.reduceLT, Int.reduceAdd, Int.reduceSub, Int.reduceMul, Int.reduceNeg, reduceCtorEq, reduceIte, Int.reduceBEq, Int.reduceBNe, Int.reduceEq, Int.reduceNe, Nat.reduceBEq, Nat.reduceBNe, tys, List.length_map, List.getElem?_map])
  refine loop_up (min d.held.length 8) (JG1 d b0) ⟨by omega, ?_⟩ ?_
  · simp only [deskRow, List.any_nil, Int.natCast_zero, vcs, Nat.reduceAdd, Nat.reduceMul, Nat.reduceEqDiff, Nat.reduceLeDiff, Nat.reduceSub, Nat.reduceLT, Int.reduceToNat, Int.reduceLE, Int.reduceLT, Int.reduceAdd, Int.reduceSub, Int.reduceMul, Int.reduceNeg, reduceCtorEq, reduceIte, Int.reduceBEq, Int.reduceBNe, Int.reduceEq, Int.reduceNe, Nat.reduceBEq, Nat.reduceBNe, tys, List.length_map, List.getElem?_map]
  · rintro k nm e M hk ⟨hp, e1, hM, e3, hany⟩
    have p0 := lt_ne hp
    have p1 := lt_ne_add hp
    by_cases hlt : k < min d.held.length 8
    · have wk := wrap_up hlt (by omega)
      have q1 : k < d.held.length := by omega
      have q2 : (k : Int) < 8 := by omega
      obtain ⟨h, hh⟩ : ∃ h, d.held[k]? = some h := ⟨_, List.getElem?_eq_getElem q1⟩
      repeat (first | refine draw_end (by decide +kernel) ?_ | simp only [hh, hcells, deskRow, e1, hM, e3, p0, p1, q1, q2, wk, vcs, Nat.reduceAdd, Nat.reduceMul, Nat.reduceEqDiff, Nat.reduceLeDiff, Nat.reduceSub, Nat.reduceLT, Int.reduceToNat, Int.reduceLE, Int.reduceLT, Int.reduceAdd, Int.reduceSub, Int.reduceMul, Int.reduceNeg, reduceCtorEq, reduceIte, Int.reduceBEq, Int.reduceBNe, Int.reduceEq, Int.reduceNe, Nat.reduceBEq, Nat.reduceBNe, tys, List.length_map, List.getElem?_map])
      constructor
      · intro hb
        (refine Fin.pure ?_ ?_ ?_ <;> simp only [Try.results9, Try.ntmps9, vcs, Nat.reduceAdd, Nat.reduceMul, Nat.reduceEqDiff, Nat.reduceLeDiff, Nat.reduceSub, Nat.reduceLT, Int.reduceToNat, Int.reduceLE, Int.reduceLT, Int.reduceAdd, Int.reduceSub, Int.reduceMul, Int.reduceNeg, reduceCtorEq, reduceIte, Int.reduceBEq, Int.reduceBNe, Int.reduceEq, Int.reduceNe, Nat.reduceBEq, Nat.reduceBNe, tys, List.length_map, List.getElem?_map])
        have hg : d.great = true := by
          unfold Desk.great
          rw [any_take (by omega) hh (decide_eq_true (by have := of_decide_eq_true hb; omega)), Bool.true_or]
        rw [hg]
      · intro hb
        refine again_up hlt ⟨by omega, ?_⟩
        simp only [deskRow, e1, hM, e3, p0, p1, wk, vcs, Nat.reduceAdd, Nat.reduceMul, Nat.reduceEqDiff, Nat.reduceLeDiff, Nat.reduceSub, Nat.reduceLT, Int.reduceToNat, Int.reduceLE, Int.reduceLT, Int.reduceAdd, Int.reduceSub, Int.reduceMul, Int.reduceNeg, reduceCtorEq, reduceIte, Int.reduceBEq, Int.reduceBNe, Int.reduceEq, Int.reduceNe, Nat.reduceBEq, Nat.reduceBNe, tys, List.length_map, List.getElem?_map]
        rw [any_snoc hh, hany, Bool.false_or]
        exact decide_eq_false (by have := of_decide_eq_false hb; omega)
    · have hcond : (decide (k < d.held.length) && decide ((k : Int) < 8)) = false := by
        rw [Bool.and_eq_false_iff, decide_eq_false_iff_not, decide_eq_false_iff_not]; omega
      have hall := take_min hlt hk
      repeat (first | refine draw_end (by decide +kernel) ?_ | simp only [hcond, deskRow, e1, hM, e3, p0, p1, vcs, Nat.reduceAdd, Nat.reduceMul, Nat.reduceEqDiff, Nat.reduceLeDiff, Nat.reduceSub, Nat.reduceLT, Int.reduceToNat, Int.reduceLE, Int.reduceLT, Int.reduceAdd, Int.reduceSub, Int.reduceMul, Int.reduceNeg, reduceCtorEq, reduceIte, Int.reduceBEq, Int.reduceBNe, Int.reduceEq, Int.reduceNe, Nat.reduceBEq, Nat.reduceBNe, tys, List.length_map, List.getElem?_map])
      refine loop_up (min d.done.length 8) (JG2 d b0) ⟨by omega, ?_⟩ ?_
      · simp only [deskRow, List.any_nil, Int.natCast_zero, e1, hM, e3, p0, p1, vcs, Nat.reduceAdd, Nat.reduceMul, Nat.reduceEqDiff, Nat.reduceLeDiff, Nat.reduceSub, Nat.reduceLT, Int.reduceToNat, Int.reduceLE, Int.reduceLT, Int.reduceAdd, Int.reduceSub, Int.reduceMul, Int.reduceNeg, reduceCtorEq, reduceIte, Int.reduceBEq, Int.reduceBNe, Int.reduceEq, Int.reduceNe, Nat.reduceBEq, Nat.reduceBNe, tys, List.length_map, List.getElem?_map]
      · rw [← hall] at hany
        clear hp e1 hM e3 p0 p1 hlt hcond hall hk
        rintro k nm e M hk ⟨hp, e1, hM, e4, hany2⟩
        have p0 := lt_ne hp
        have p1 := lt_ne_add hp
        by_cases hlt : k < min d.done.length 8
        · have wk := wrap_up hlt (by omega)
          have q1 : k < d.done.length := by omega
          have q2 : (k : Int) < 8 := by omega
          obtain ⟨h, hh⟩ : ∃ h, d.done[k]? = some h := ⟨_, List.getElem?_eq_getElem q1⟩
          have hl := f4 h (List.mem_of_getElem? hh)
          have hw : IntKind.i64.wrap ((h.body.length : Int) + h.text.length) = (h.body.length : Int) + h.text.length := wrap_in (by omega) (by omega)
          repeat (first | refine draw_end (by decide +kernel) ?_ | simp only [hh, dcells, deskRow, e1, hM, e4, p0, p1, q1, q2, wk, hw, vcs, Nat.reduceAdd, Nat.reduceMul, Nat.reduceEqDiff, Nat.reduceLeDiff, Nat.reduceSub, Nat.reduceLT, Int.reduceToNat, Int.reduceLE, Int.reduceLT, Int.reduceAdd, Int.reduceSub, Int.reduceMul, Int.reduceNeg, reduceCtorEq, reduceIte, Int.reduceBEq, Int.reduceBNe, Int.reduceEq, Int.reduceNe, Nat.reduceBEq, Nat.reduceBNe, tys, List.length_map, List.getElem?_map])
          constructor
          · intro hb
            (refine Fin.pure ?_ ?_ ?_ <;> simp only [Try.results9, Try.ntmps9, vcs, Nat.reduceAdd, Nat.reduceMul, Nat.reduceEqDiff, Nat.reduceLeDiff, Nat.reduceSub, Nat.reduceLT, Int.reduceToNat, Int.reduceLE, Int.reduceLT, Int.reduceAdd, Int.reduceSub, Int.reduceMul, Int.reduceNeg, reduceCtorEq, reduceIte, Int.reduceBEq, Int.reduceBNe, Int.reduceEq, Int.reduceNe, Nat.reduceBEq, Nat.reduceBNe, tys, List.length_map, List.getElem?_map])
            have hg : d.great = true := by
              unfold Desk.great
              rw [any_take (l := d.done) (by omega) hh (decide_eq_true (by have := of_decide_eq_true hb; omega)), Bool.true_or, Bool.or_true]
            rw [hg]
          · intro hb
            refine again_up hlt ⟨by omega, ?_⟩
            simp only [deskRow, e1, hM, e4, p0, p1, wk, vcs, Nat.reduceAdd, Nat.reduceMul, Nat.reduceEqDiff, Nat.reduceLeDiff, Nat.reduceSub, Nat.reduceLT, Int.reduceToNat, Int.reduceLE, Int.reduceLT, Int.reduceAdd, Int.reduceSub, Int.reduceMul, Int.reduceNeg, reduceCtorEq, reduceIte, Int.reduceBEq, Int.reduceBNe, Int.reduceEq, Int.reduceNe, Nat.reduceBEq, Nat.reduceBNe, tys, List.length_map, List.getElem?_map]
            rw [any_snoc hh, hany2, Bool.false_or]
            exact decide_eq_false (by have := of_decide_eq_false hb; omega)
        · have hcond : (decide (k < d.done.length) && decide ((k : Int) < 8)) = false := by
            rw [Bool.and_eq_false_iff, decide_eq_false_iff_not, decide_eq_false_iff_not]; omega
          have hall := take_min hlt hk
          rw [← hall] at hany2
          repeat (first | refine draw_end (by decide +kernel) ?_ | simp only [hcond, deskRow, e1, hM, e4, p0, p1, vcs, Nat.reduceAdd, Nat.reduceMul, Nat.reduceEqDiff, Nat.reduceLeDiff, Nat.reduceSub, Nat.reduceLT, Int.reduceToNat, Int.reduceLE, Int.reduceLT, Int.reduceAdd, Int.reduceSub, Int.reduceMul, Int.reduceNeg, reduceCtorEq, reduceIte, Int.reduceBEq, Int.reduceBNe, Int.reduceEq, Int.reduceNe, Nat.reduceBEq, Nat.reduceBNe, tys, List.length_map, List.getElem?_map])
          (refine Fin.pure ?_ ?_ ?_ <;> simp only [Try.results9, Try.ntmps9, vcs, Nat.reduceAdd, Nat.reduceMul, Nat.reduceEqDiff, Nat.reduceLeDiff, Nat.reduceSub, Nat.reduceLT, Int.reduceToNat, Int.reduceLE, Int.reduceLT, Int.reduceAdd, Int.reduceSub, Int.reduceMul, Int.reduceNeg, reduceCtorEq, reduceIte, Int.reduceBEq, Int.reduceBNe, Int.reduceEq, Int.reduceNe, Nat.reduceBEq, Nat.reduceBNe, tys, List.length_map, List.getElem?_map])
          simp only [Desk.great, hany, hany2, Bool.false_or]
theorem great_small {d : Desk} (h : d.great = false) : d.held.length ≤ 6 ∧ d.done.length ≤ 6 := by
  simp only [Desk.great, Bool.or_eq_false_iff, decide_eq_false_iff_not] at h
  omega
end Go.Proofs.Ytdbbnhmnlgfjoaa
/-
  Layer 28: the document's ticks and lost connections.
-/
namespace Go.Proofs.Ytdbbnhmnlgfjoaa
set_option linter.unusedSimpArgs false
set_option linter.unusedVariables false
open Go Go.RowKit Go.Proofs.Ytdbbnhmnlgfjoaa.Vm

/-- A list whose first k are changed. -/
def updTo {α : Type} (f : α → α) (k : Nat) (l : List α) : List α := (l.take k).map f ++ l.drop k
theorem updTo_zero {α : Type} (f : α → α) (l : List α) : updTo f 0 l = l := by simp [updTo]
theorem updTo_length {α : Type} (f : α → α) (k : Nat) (l : List α) : (updTo f k l).length = l.length := by simp [updTo]; omega
theorem updTo_all {α : Type} (f : α → α) (l : List α) : updTo f l.length l = l.map f := by simp [updTo]
theorem updTo_get {α : Type} (f : α → α) {k : Nat} {l : List α} {x : α} (h : l[k]? = some x) : (updTo f k l)[k]? = some x := by
  have hlt := (List.getElem?_eq_some_iff.1 h).1
  unfold updTo
  rw [List.getElem?_append_right (by simp; omega)]
  simp only [List.length_map, List.length_take, List.getElem?_drop]
  rw [show k + (k - min k l.length) = k by omega, h]
theorem updTo_set {α β : Type} (f : α → α) (g : α → β) {k : Nat} {l : List α} {x : α} (h : l[k]? = some x) : ((updTo f k l).map g).set k (g (f x)) = (updTo f (k + 1) l).map g := by
  have hlt := (List.getElem?_eq_some_iff.1 h).1
  unfold updTo
  rw [List.take_add_one, h, show l.drop k = x :: l.drop (k + 1) by rw [List.drop_eq_getElem_cons hlt]; congr 1; exact (List.getElem?_eq_some_iff.1 h).2]
  simp only [List.map_append, List.map_map, Option.toList_some, List.map_cons, List.map_nil, List.append_assoc, List.cons_append, List.nil_append]
  rw [List.set_append_right _ _ (by simp; omega)]
  simp only [List.length_map, List.length_take]
  rw [show k - min k l.length = 0 by omega, List.set_cons_zero]
theorem updTo_got {α : Type} (f : α → α) {k : Nat} {l : List α} {x : α} (h : l[k]? = some x) : (updTo f (k + 1) l)[k]? = some (f x) := by
  have hlt := (List.getElem?_eq_some_iff.1 h).1
  unfold updTo
  rw [List.getElem?_append_left (by simp; omega), List.getElem?_map, List.getElem?_take, if_pos (by omega), h]; rfl
def tickH (h : Hd) : Hd := { h with left := max 0 (h.left - 1) }
def tickD (x : Dn) : Dn := { x with age := min 1000000 (x.age + 1) }
def dueK (l : List Hd) : Nat → Int
  | 0 => 0
  | k + 1 => if (l[k]?.map fun h => (max 0 (h.left - 1) == 0)) = some true then (k + 1 : Nat) else dueK l k
def Desk.ticked (d : Desk) : Desk := { d with held := d.held.map tickH, done := d.done.map tickD }
def Desk.due (d : Desk) : Int := dueK d.held d.held.length
def ownRow (x y : Nat) (d : Desk) : List V := [.own x 0 d.held.length, .own y 0 d.done.length, .int .i64 d.top, .int .i64 d.size]
def JT1 (d : Desk) (p x y : Nat) (k nm : Nat) (e : Env) (M : Mem) : Prop := e 1 = .ptr p 0 0 ∧ M p = some ⟨4, [ownRow x y d]⟩ ∧ M x = some ⟨6, (updTo tickH k d.held).map hcells⟩ ∧ M y = some ⟨4, d.done.map dcells⟩ ∧ e 5 = .int .i64 k ∧ e 4 = .int .i64 (dueK d.held k) ∧ e 2 = .ptr (p + 16) 0 0 ∧ M (p + 16) = some ⟨4, [[.nils, .nils, .int .i64 0, .int .i64 0]]⟩
def JT2 (d : Desk) (p x y : Nat) (k nm : Nat) (e : Env) (M : Mem) : Prop := e 1 = .ptr p 0 0 ∧ M p = some ⟨4, [ownRow x y d]⟩ ∧ M x = some ⟨6, (d.held.map tickH).map hcells⟩ ∧ M y = some ⟨4, (updTo tickD k d.done).map dcells⟩ ∧ e 6 = .int .i64 k ∧ e 4 = .int .i64 d.due ∧ e 2 = .ptr (p + 16) 0 0 ∧ M (p + 16) = some ⟨4, [[.nils, .nils, .int .i64 0, .int .i64 0]]⟩
set_option maxHeartbeats 2000000 in
theorem ticked_own (d : Desk) (hn : d.held.length ≤ 1000) (hm : d.done.length ≤ 1000) (hh1 : ∀ h ∈ d.held, 0 ≤ h.left ∧ h.left ≤ 60) (hd1 : ∀ x ∈ d.done, 0 ≤ x.age ∧ x.age ≤ 1000000) (nm : Nat) : Ev cx 32 nm [deskV d] Mem.nil (.tup [deskO nm d.ticked, .int .i64 d.due]) (deskE nm d.ticked) := by
  refine ev_go (fun cargs w => Try.call32 cargs w) Try.func32 rfl mixed (by kernel_rfl) rfl ?_; intro b0 hb0
  simp only [deskV]
  repeat (first | refine draw_end (by decide +kernel) ?_ | simp only [vcs, Nat.reduceAdd, Nat.reduceMul, Nat.reduceEqDiff, Nat.reduceLeDiff, Nat.reduceSub, Nat.reduceLT, Int.reduceToNat, Int.reduceLE, Int.reduceLT, Int.reduceAdd, Int.reduceSub, Int.reduceMul, Int.reduceNeg, reduceCtorEq, reduceIte, Int.reduceBEq, Int.reduceBNe, Int.reduceEq, Int.reduceNe, Nat.reduceBEq, Nat.reduceBNe, tys, plain_h, plain_d, List.length_map, List.getElem?_map, deskO, deskE, updTo_length, List.length_set])
  refine call_fn_new (by simp only [vcs, Nat.reduceAdd, Nat.reduceMul, Nat.reduceEqDiff, Nat.reduceLeDiff, Nat.reduceSub, Nat.reduceLT, Int.reduceToNat, Int.reduceLE, Int.reduceLT, Int.reduceAdd, Int.reduceSub, Int.reduceMul, Int.reduceNeg, reduceCtorEq, reduceIte, Int.reduceBEq, Int.reduceBNe, Int.reduceEq, Int.reduceNe, Nat.reduceBEq, Nat.reduceBNe, tys, plain_h, plain_d, List.length_map, List.getElem?_map, deskO, deskE, updTo_length, List.length_set] <;> rfl) (refTwin_own d hn hm _) (by simp only [List.mem_cons, List.not_mem_nil, forall_eq, forall_eq_or_imp, vcs, Nat.reduceAdd, Nat.reduceMul, Nat.reduceEqDiff, Nat.reduceLeDiff, Nat.reduceSub, Nat.reduceLT, Int.reduceToNat, Int.reduceLE, Int.reduceLT, Int.reduceAdd, Int.reduceSub, Int.reduceMul, Int.reduceNeg, reduceCtorEq, reduceIte, Int.reduceBEq, Int.reduceBNe, Int.reduceEq, Int.reduceNe, Nat.reduceBEq, Nat.reduceBNe, tys, plain_h, plain_d, List.length_map, List.getElem?_map, deskO, deskE, updTo_length, List.length_set] <;> omega) ?_
  repeat (first | refine draw_end (by decide +kernel) ?_ | simp only [vcs, Nat.reduceAdd, Nat.reduceMul, Nat.reduceEqDiff, Nat.reduceLeDiff, Nat.reduceSub, Nat.reduceLT, Int.reduceToNat, Int.reduceLE, Int.reduceLT, Int.reduceAdd, Int.reduceSub, Int.reduceMul, Int.reduceNeg, reduceCtorEq, reduceIte, Int.reduceBEq, Int.reduceBNe, Int.reduceEq, Int.reduceNe, Nat.reduceBEq, Nat.reduceBNe, tys, plain_h, plain_d, List.length_map, List.getElem?_map, deskO, deskE, updTo_length, List.length_set])
  refine loop_up d.held.length (JT1 d b0 (b0 + 64) (b0 + 65)) ?_ ?_
  · simp only [JT1, ownRow, updTo_zero, dueK, Int.natCast_zero, vcs, Nat.reduceAdd, Nat.reduceMul, Nat.reduceEqDiff, Nat.reduceLeDiff, Nat.reduceSub, Nat.reduceLT, Int.reduceToNat, Int.reduceLE, Int.reduceLT, Int.reduceAdd, Int.reduceSub, Int.reduceMul, Int.reduceNeg, reduceCtorEq, reduceIte, Int.reduceBEq, Int.reduceBNe, Int.reduceEq, Int.reduceNe, Nat.reduceBEq, Nat.reduceBNe, tys, plain_h, plain_d, List.length_map, List.getElem?_map, deskO, deskE, updTo_length, List.length_set]
  · rintro k nm e M hk ⟨e1, hM, hMx, hMy, e5, e4, e2, hM2⟩
    by_cases hlt : k < d.held.length
    · have wk := wrap_up hlt (by omega)
      obtain ⟨h, hh⟩ : ∃ h, d.held[k]? = some h := ⟨_, List.getElem?_eq_getElem hlt⟩
      have hu := updTo_get tickH hh
      have hb := hh1 h (List.mem_of_getElem? hh)
      have hw : IntKind.i64.wrap (h.left - 1) = h.left - 1 := wrap_in (by omega) (by omega)
      have hs : ((updTo tickH k d.held).map hcells).set k [.int .i64 h.rid, .int .i64 h.conn, .int .i64 (max 0 (h.left - 1)), .str h.body, .int .i64 h.report, .int .i64 h.time] = (updTo tickH (k + 1) d.held).map hcells := updTo_set tickH hcells hh
      have hu2 := updTo_got tickH hh
      repeat (first | refine draw_end (by decide +kernel) ?_ | simp only [hu, hu2, hs, hcells, tickH, ownRow, e1, hM, hMx, hMy, e5, e4, e2, hM2, hlt, wk, hw, vcs, Nat.reduceAdd, Nat.reduceMul, Nat.reduceEqDiff, Nat.reduceLeDiff, Nat.reduceSub, Nat.reduceLT, Int.reduceToNat, Int.reduceLE, Int.reduceLT, Int.reduceAdd, Int.reduceSub, Int.reduceMul, Int.reduceNeg, reduceCtorEq, reduceIte, Int.reduceBEq, Int.reduceBNe, Int.reduceEq, Int.reduceNe, Nat.reduceBEq, Nat.reduceBNe, tys, plain_h, plain_d, List.length_map, List.getElem?_map, deskO, deskE, updTo_length, List.length_set])
      constructor
      · intro hb
        refine again_up hlt ?_
        simp only [JT1, ownRow, e1, hM, hMx, hMy, e5, e4, e2, hM2, hs, dueK, hh, wk, hb, vcs, Nat.reduceAdd, Nat.reduceMul, Nat.reduceEqDiff, Nat.reduceLeDiff, Nat.reduceSub, Nat.reduceLT, Int.reduceToNat, Int.reduceLE, Int.reduceLT, Int.reduceAdd, Int.reduceSub, Int.reduceMul, Int.reduceNeg, reduceCtorEq, reduceIte, Int.reduceBEq, Int.reduceBNe, Int.reduceEq, Int.reduceNe, Nat.reduceBEq, Nat.reduceBNe, tys, plain_h, plain_d, List.length_map, List.getElem?_map, deskO, deskE, updTo_length, List.length_set]
      · intro hb
        refine again_up hlt ?_
        simp only [JT1, ownRow, e1, hM, hMx, hMy, e5, e4, e2, hM2, hs, dueK, hh, wk, hb, vcs, Nat.reduceAdd, Nat.reduceMul, Nat.reduceEqDiff, Nat.reduceLeDiff, Nat.reduceSub, Nat.reduceLT, Int.reduceToNat, Int.reduceLE, Int.reduceLT, Int.reduceAdd, Int.reduceSub, Int.reduceMul, Int.reduceNeg, reduceCtorEq, reduceIte, Int.reduceBEq, Int.reduceBNe, Int.reduceEq, Int.reduceNe, Nat.reduceBEq, Nat.reduceBNe, tys, plain_h, plain_d, List.length_map, List.getElem?_map, deskO, deskE, updTo_length, List.length_set]
    · have hke : k = d.held.length := by omega
      subst hke
      rw [updTo_all] at hMx
      repeat (first | refine draw_end (by decide +kernel) ?_ | simp only [ownRow, e1, hM, hMx, hMy, e5, e4, e2, hM2, vcs, Nat.reduceAdd, Nat.reduceMul, Nat.reduceEqDiff, Nat.reduceLeDiff, Nat.reduceSub, Nat.reduceLT, Int.reduceToNat, Int.reduceLE, Int.reduceLT, Int.reduceAdd, Int.reduceSub, Int.reduceMul, Int.reduceNeg, reduceCtorEq, reduceIte, Int.reduceBEq, Int.reduceBNe, Int.reduceEq, Int.reduceNe, Nat.reduceBEq, Nat.reduceBNe, tys, plain_h, plain_d, List.length_map, List.getElem?_map, deskO, deskE, updTo_length, List.length_set])
      refine loop_up d.done.length (JT2 d b0 (b0 + 64) (b0 + 65)) ?_ ?_
      · simp only [JT2, Desk.due, ownRow, updTo_zero, e1, hM, hMx, hMy, e5, e4, e2, hM2, Int.natCast_zero, vcs, Nat.reduceAdd, Nat.reduceMul, Nat.reduceEqDiff, Nat.reduceLeDiff, Nat.reduceSub, Nat.reduceLT, Int.reduceToNat, Int.reduceLE, Int.reduceLT, Int.reduceAdd, Int.reduceSub, Int.reduceMul, Int.reduceNeg, reduceCtorEq, reduceIte, Int.reduceBEq, Int.reduceBNe, Int.reduceEq, Int.reduceNe, Nat.reduceBEq, Nat.reduceBNe, tys, plain_h, plain_d, List.length_map, List.getElem?_map, deskO, deskE, updTo_length, List.length_set]
      · clear e1 hM hMx hMy e5 e4 e2 hM2 hlt hk
        rintro k nm e M hk ⟨e1, hM, hMx, hMy, e6, e4, e2, hM2⟩
        by_cases hlt : k < d.done.length
        · have wk := wrap_up hlt (by omega)
          obtain ⟨h, hh⟩ : ∃ h, d.done[k]? = some h := ⟨_, List.getElem?_eq_getElem hlt⟩
          have hu := updTo_get tickD hh
          have hb := hd1 h (List.mem_of_getElem? hh)
          have hw : IntKind.i64.wrap (h.age + 1) = h.age + 1 := wrap_in (by omega) (by omega)
          have hs : ((updTo tickD k d.done).map dcells).set k [.int .i64 h.rid, .str h.body, .str h.text, .int .i64 (min 1000000 (h.age + 1))] = (updTo tickD (k + 1) d.done).map dcells := updTo_set tickD dcells hh
          repeat (first | refine draw_end (by decide +kernel) ?_ | simp only [hu, hs, dcells, ownRow, e1, hM, hMx, hMy, e6, e4, e2, hM2, hlt, wk, hw, vcs, Nat.reduceAdd, Nat.reduceMul, Nat.reduceEqDiff, Nat.reduceLeDiff, Nat.reduceSub, Nat.reduceLT, Int.reduceToNat, Int.reduceLE, Int.reduceLT, Int.reduceAdd, Int.reduceSub, Int.reduceMul, Int.reduceNeg, reduceCtorEq, reduceIte, Int.reduceBEq, Int.reduceBNe, Int.reduceEq, Int.reduceNe, Nat.reduceBEq, Nat.reduceBNe, tys, plain_h, plain_d, List.length_map, List.getElem?_map, deskO, deskE, updTo_length, List.length_set])
          refine again_up hlt ?_
          simp only [JT2, ownRow, e1, hM, hMx, hMy, e6, e4, e2, hM2, hs, hh, wk, vcs, Nat.reduceAdd, Nat.reduceMul, Nat.reduceEqDiff, Nat.reduceLeDiff, Nat.reduceSub, Nat.reduceLT, Int.reduceToNat, Int.reduceLE, Int.reduceLT, Int.reduceAdd, Int.reduceSub, Int.reduceMul, Int.reduceNeg, reduceCtorEq, reduceIte, Int.reduceBEq, Int.reduceBNe, Int.reduceEq, Int.reduceNe, Nat.reduceBEq, Nat.reduceBNe, tys, plain_h, plain_d, List.length_map, List.getElem?_map, deskO, deskE, updTo_length, List.length_set]
        · have hke : k = d.done.length := by omega
          subst hke
          rw [updTo_all] at hMy
          repeat (first | refine draw_end (by decide +kernel) ?_ | simp only [ownRow, e1, hM, hMx, hMy, e6, e4, e2, hM2, vcs, Nat.reduceAdd, Nat.reduceMul, Nat.reduceEqDiff, Nat.reduceLeDiff, Nat.reduceSub, Nat.reduceLT, Int.reduceToNat, Int.reduceLE, Int.reduceLT, Int.reduceAdd, Int.reduceSub, Int.reduceMul, Int.reduceNeg, reduceCtorEq, reduceIte, Int.reduceBEq, Int.reduceBNe, Int.reduceEq, Int.reduceNe, Nat.reduceBEq, Nat.reduceBNe, tys, plain_h, plain_d, List.length_map, List.getElem?_map, deskO, deskE, updTo_length, List.length_set])
          (refine Fin.own [] [(b0 + 64, 0), (b0 + 65, 1)] ?_ ?_ ?_ ?_ ?_ <;> simp only [ghosts_nil, ghosts_cons, sigOk, sigE, sigN, newName_nil, newName_cons, List.mem_cons, List.not_mem_nil, or_false, forall_eq, forall_eq_or_imp, ne_eq, Nat.le_add_right, not_false_eq_true, not_true_eq_false, Desk.ticked, ownRow, e1, hM, hMx, hMy, e6, e4, e2, hM2, Try.results32, Try.ntmps32, vcs, Nat.reduceAdd, Nat.reduceMul, Nat.reduceEqDiff, Nat.reduceLeDiff, Nat.reduceSub, Nat.reduceLT, Int.reduceToNat, Int.reduceLE, Int.reduceLT, Int.reduceAdd, Int.reduceSub, Int.reduceMul, Int.reduceNeg, reduceCtorEq, reduceIte, Int.reduceBEq, Int.reduceBNe, Int.reduceEq, Int.reduceNe, Nat.reduceBEq, Nat.reduceBNe, tys, plain_h, plain_d, List.length_map, List.getElem?_map, deskO, deskE, updTo_length, List.length_set])
theorem Desk.may_ranges {d : Desk} (h : d.may = true) : d.held.length ≤ 4 ∧ d.done.length ≤ 3 ∧ (∀ h ∈ d.held, 0 ≤ h.left ∧ h.left ≤ 60) ∧ ∀ x ∈ d.done, 0 ≤ x.age ∧ x.age ≤ 1000000 := by
  simp only [Desk.may, Desk.head, Bool.and_eq_true, inRange, decide_eq_true_eq] at h
  obtain ⟨⟨⟨⟨⟨h1, _⟩, h2⟩, h3⟩, h4⟩, h5⟩ := h
  have ha : ∀ (l : List Hd) (t : Int) (k : Nat), hAll t k l = true → ∀ h ∈ l, h.may = true := by
    intro l
    induction l with
    | nil => intro t k _ h hm; cases hm
    | cons x r ih =>
      intro t k hh h hm
      simp only [hAll, Bool.and_eq_true] at hh
      rcases List.mem_cons.1 hm with rfl | hm
      · exact hh.1.1
      · exact ih _ _ hh.2 h hm
  have hb : ∀ (l : List Dn) (t : Int) (k : Nat), dAll t k l = true → ∀ h ∈ l, h.may = true := by
    intro l
    induction l with
    | nil => intro t k _ h hm; cases hm
    | cons x r ih =>
      intro t k hh h hm
      simp only [dAll, Bool.and_eq_true] at hh
      rcases List.mem_cons.1 hm with rfl | hm
      · exact hh.1.1
      · exact ih _ _ hh.2 h hm
  refine ⟨by omega, by omega, fun h hm => ?_, fun x hm => ?_⟩
  · have := ha _ _ _ h4 h hm
    simp only [Hd.may, inRange, Bool.and_eq_true, decide_eq_true_eq] at this
    exact this.1.1.1.2
  · have := hb _ _ _ h5 x hm
    simp only [Dn.may, inRange, Bool.and_eq_true, decide_eq_true_eq] at this
    exact this.2
set_option maxHeartbeats 2000000 in
theorem refTick_good (d : Desk) (hmay : d.may = true) (nm : Nat) : Ev cx 12 nm [deskV d] Mem.nil (.tup [deskO nm d.ticked, .int .i64 d.due, .int .i64 0]) (deskE nm d.ticked) := by
  obtain ⟨r1, r2, r3, r4⟩ := Desk.may_ranges hmay
  refine ev_go (fun cargs w => Try.call12 cargs w) Try.func12 rfl mixed (by kernel_rfl) rfl ?_; intro b0 hb0
  simp only [deskV]
  repeat (first | refine draw_end (by decide +kernel) ?_ | simp only [vcs, Nat.reduceAdd, Nat.reduceMul, Nat.reduceEqDiff, Nat.reduceLeDiff, Nat.reduceSub, Nat.reduceLT, Int.reduceToNat, Int.reduceLE, Int.reduceLT, Int.reduceAdd, Int.reduceSub, Int.reduceMul, Int.reduceNeg, reduceCtorEq, reduceIte, Int.reduceBEq, Int.reduceBNe, Int.reduceEq, Int.reduceNe, Nat.reduceBEq, Nat.reduceBNe, tys, plain_h, plain_d, List.length_map, List.getElem?_map, deskO, deskE, updTo_length, List.length_set])
  refine call_fn (by simp only [vcs, Nat.reduceAdd, Nat.reduceMul, Nat.reduceEqDiff, Nat.reduceLeDiff, Nat.reduceSub, Nat.reduceLT, Int.reduceToNat, Int.reduceLE, Int.reduceLT, Int.reduceAdd, Int.reduceSub, Int.reduceMul, Int.reduceNeg, reduceCtorEq, reduceIte, Int.reduceBEq, Int.reduceBNe, Int.reduceEq, Int.reduceNe, Nat.reduceBEq, Nat.reduceBNe, tys, plain_h, plain_d, List.length_map, List.getElem?_map, deskO, deskE, updTo_length, List.length_set] <;> rfl) (refMay_ev d (by unfold lim; omega) (by unfold lim; omega) _) ?_
  repeat (first | refine draw_end (by decide +kernel) ?_ | simp only [hmay, vcs, Nat.reduceAdd, Nat.reduceMul, Nat.reduceEqDiff, Nat.reduceLeDiff, Nat.reduceSub, Nat.reduceLT, Int.reduceToNat, Int.reduceLE, Int.reduceLT, Int.reduceAdd, Int.reduceSub, Int.reduceMul, Int.reduceNeg, reduceCtorEq, reduceIte, Int.reduceBEq, Int.reduceBNe, Int.reduceEq, Int.reduceNe, Nat.reduceBEq, Nat.reduceBNe, tys, plain_h, plain_d, List.length_map, List.getElem?_map, deskO, deskE, updTo_length, List.length_set])
  refine call_fn_new (by simp only [vcs, Nat.reduceAdd, Nat.reduceMul, Nat.reduceEqDiff, Nat.reduceLeDiff, Nat.reduceSub, Nat.reduceLT, Int.reduceToNat, Int.reduceLE, Int.reduceLT, Int.reduceAdd, Int.reduceSub, Int.reduceMul, Int.reduceNeg, reduceCtorEq, reduceIte, Int.reduceBEq, Int.reduceBNe, Int.reduceEq, Int.reduceNe, Nat.reduceBEq, Nat.reduceBNe, tys, plain_h, plain_d, List.length_map, List.getElem?_map, deskO, deskE, updTo_length, List.length_set] <;> rfl) (ticked_own d (by omega) (by omega) r3 r4 _) (by simp only [List.mem_cons, List.not_mem_nil, forall_eq, forall_eq_or_imp, vcs, Nat.reduceAdd, Nat.reduceMul, Nat.reduceEqDiff, Nat.reduceLeDiff, Nat.reduceSub, Nat.reduceLT, Int.reduceToNat, Int.reduceLE, Int.reduceLT, Int.reduceAdd, Int.reduceSub, Int.reduceMul, Int.reduceNeg, reduceCtorEq, reduceIte, Int.reduceBEq, Int.reduceBNe, Int.reduceEq, Int.reduceNe, Nat.reduceBEq, Nat.reduceBNe, tys, plain_h, plain_d, List.length_map, List.getElem?_map, deskO, deskE, updTo_length, List.length_set] <;> omega) ?_
  repeat (first | refine draw_end (by decide +kernel) ?_ | simp only [vcs, Nat.reduceAdd, Nat.reduceMul, Nat.reduceEqDiff, Nat.reduceLeDiff, Nat.reduceSub, Nat.reduceLT, Int.reduceToNat, Int.reduceLE, Int.reduceLT, Int.reduceAdd, Int.reduceSub, Int.reduceMul, Int.reduceNeg, reduceCtorEq, reduceIte, Int.reduceBEq, Int.reduceBNe, Int.reduceEq, Int.reduceNe, Nat.reduceBEq, Nat.reduceBNe, tys, plain_h, plain_d, List.length_map, List.getElem?_map, deskO, deskE, updTo_length, List.length_set])
  (refine Fin.own [] [(b0 + 128, 0), (b0 + 129, 1)] ?_ ?_ ?_ ?_ ?_ <;> simp only [ghosts_nil, ghosts_cons, sigOk, sigE, sigN, newName_nil, newName_cons, List.mem_cons, List.not_mem_nil, or_false, forall_eq, forall_eq_or_imp, ne_eq, Nat.le_add_right, not_false_eq_true, not_true_eq_false, Try.results12, Try.ntmps12, vcs, Nat.reduceAdd, Nat.reduceMul, Nat.reduceEqDiff, Nat.reduceLeDiff, Nat.reduceSub, Nat.reduceLT, Int.reduceToNat, Int.reduceLE, Int.reduceLT, Int.reduceAdd, Int.reduceSub, Int.reduceMul, Int.reduceNeg, reduceCtorEq, reduceIte, Int.reduceBEq, Int.reduceBNe, Int.reduceEq, Int.reduceNe, Nat.reduceBEq, Nat.reduceBNe, tys, plain_h, plain_d, List.length_map, List.getElem?_map, deskO, deskE, updTo_length, List.length_set])
set_option maxHeartbeats 2000000 in
theorem refTick_bad (d : Desk) (hn : d.held.length ≤ lim) (hm : d.done.length ≤ lim) (hmay : d.may = false) (nm : Nat) : Ev cx 12 nm [deskV d] Mem.nil (.tup [.agg [.nils, .nils, .int .i64 0, .int .i64 0], .int .i64 0, .int .i64 8]) [] := by
  refine ev_go (fun cargs w => Try.call12 cargs w) Try.func12 rfl mixed (by kernel_rfl) rfl ?_; intro b0 hb0
  simp only [deskV]
  repeat (first | refine draw_end (by decide +kernel) ?_ | simp only [vcs, Nat.reduceAdd, Nat.reduceMul, Nat.reduceEqDiff, Nat.reduceLeDiff, Nat.reduceSub, Nat.reduceLT, Int.reduceToNat, Int.reduceLE, Int.reduceLT, Int.reduceAdd, Int.reduceSub, Int.reduceMul, Int.reduceNeg, reduceCtorEq, reduceIte, Int.reduceBEq, Int.reduceBNe, Int.reduceEq, Int.reduceNe, Nat.reduceBEq, Nat.reduceBNe, tys, plain_h, plain_d, List.length_map, List.getElem?_map, deskO, deskE, updTo_length, List.length_set])
  refine call_fn (by simp only [vcs, Nat.reduceAdd, Nat.reduceMul, Nat.reduceEqDiff, Nat.reduceLeDiff, Nat.reduceSub, Nat.reduceLT, Int.reduceToNat, Int.reduceLE, Int.reduceLT, Int.reduceAdd, Int.reduceSub, Int.reduceMul, Int.reduceNeg, reduceCtorEq, reduceIte, Int.reduceBEq, Int.reduceBNe, Int.reduceEq, Int.reduceNe, Nat.reduceBEq, Nat.reduceBNe, tys, plain_h, plain_d, List.length_map, List.getElem?_map, deskO, deskE, updTo_length, List.length_set] <;> rfl) (refMay_ev d hn hm _) ?_
  repeat (first | refine draw_end (by decide +kernel) ?_ | simp only [hmay, vcs, Nat.reduceAdd, Nat.reduceMul, Nat.reduceEqDiff, Nat.reduceLeDiff, Nat.reduceSub, Nat.reduceLT, Int.reduceToNat, Int.reduceLE, Int.reduceLT, Int.reduceAdd, Int.reduceSub, Int.reduceMul, Int.reduceNeg, reduceCtorEq, reduceIte, Int.reduceBEq, Int.reduceBNe, Int.reduceEq, Int.reduceNe, Nat.reduceBEq, Nat.reduceBNe, tys, plain_h, plain_d, List.length_map, List.getElem?_map, deskO, deskE, updTo_length, List.length_set])
  (refine Fin.pure ?_ ?_ ?_ <;> simp only [Try.results12, Try.ntmps12, vcs, Nat.reduceAdd, Nat.reduceMul, Nat.reduceEqDiff, Nat.reduceLeDiff, Nat.reduceSub, Nat.reduceLT, Int.reduceToNat, Int.reduceLE, Int.reduceLT, Int.reduceAdd, Int.reduceSub, Int.reduceMul, Int.reduceNeg, reduceCtorEq, reduceIte, Int.reduceBEq, Int.reduceBNe, Int.reduceEq, Int.reduceNe, Nat.reduceBEq, Nat.reduceBNe, tys, plain_h, plain_d, List.length_map, List.getElem?_map, deskO, deskE, updTo_length, List.length_set])
end Go.Proofs.Ytdbbnhmnlgfjoaa
/-
  Layer 28: the document's lost connections.
-/
namespace Go.Proofs.Ytdbbnhmnlgfjoaa
set_option linter.unusedSimpArgs false
set_option linter.unusedVariables false
open Go Go.RowKit Go.Proofs.Ytdbbnhmnlgfjoaa.Vm

def loseH (conn : Int) (h : Hd) : Hd := if h.conn == conn then { h with conn := 0 } else h
def Desk.lost (d : Desk) (conn : Int) : Desk := { d with held := d.held.map (loseH conn) }
theorem updTo_skip {α : Type} (f : α → α) {k : Nat} {l : List α} {x : α} (h : l[k]? = some x) (hf : f x = x) : updTo f (k + 1) l = updTo f k l := by
  have hlt := (List.getElem?_eq_some_iff.1 h).1
  unfold updTo
  rw [List.take_add_one, h, show l.drop k = x :: l.drop (k + 1) by rw [List.drop_eq_getElem_cons hlt]; congr 1; exact (List.getElem?_eq_some_iff.1 h).2]
  simp [hf]
def JL (d : Desk) (conn : Int) (p x y : Nat) (k nm : Nat) (e : Env) (M : Mem) : Prop := e 1 = .int .i64 conn ∧ e 2 = .ptr p 0 0 ∧ M p = some ⟨4, [ownRow x y d]⟩ ∧ M x = some ⟨6, (updTo (loseH conn) k d.held).map hcells⟩ ∧ M y = some ⟨4, d.done.map dcells⟩ ∧ e 5 = .int .i64 k ∧ e 4 = .ptr (p + 16) 0 0 ∧ M (p + 16) = some ⟨4, [[.nils, .nils, .int .i64 0, .int .i64 0]]⟩
set_option maxHeartbeats 2000000 in
theorem refLost_own (d : Desk) (conn : Int) (hn : d.held.length ≤ 1000) (hm : d.done.length ≤ 1000) (nm : Nat) : Ev cx 34 nm [deskV d, .int .i64 conn] Mem.nil (deskO nm (d.lost conn)) (deskE nm (d.lost conn)) := by
  refine ev_go (fun cargs w => Try.call34 cargs w) Try.func34 rfl mixed (by kernel_rfl) rfl ?_; intro b0 hb0
  simp only [deskV]
  repeat (first | refine draw_end (by decide +kernel) ?_ | simp only [vcs, Nat.reduceAdd, Nat.reduceMul, Nat.reduceEqDiff, Nat.reduceLeDiff, Nat.reduceSub, Nat.reduceLT, Int.reduceToNat, Int.reduceLE, Int.reduceLT, Int.reduceAdd, Int.reduceSub, Int.reduceMul, Int.reduceNeg, reduceCtorEq, reduceIte, Int.reduceBEq, Int.reduceBNe, Int.reduceEq, Int.reduceNe, Nat.reduceBEq, Nat.reduceBNe, tys, plain_h, plain_d, List.length_map, List.getElem?_map, deskO, deskE, updTo_length, List.length_set])
  refine call_fn_new (by simp only [vcs, Nat.reduceAdd, Nat.reduceMul, Nat.reduceEqDiff, Nat.reduceLeDiff, Nat.reduceSub, Nat.reduceLT, Int.reduceToNat, Int.reduceLE, Int.reduceLT, Int.reduceAdd, Int.reduceSub, Int.reduceMul, Int.reduceNeg, reduceCtorEq, reduceIte, Int.reduceBEq, Int.reduceBNe, Int.reduceEq, Int.reduceNe, Nat.reduceBEq, Nat.reduceBNe, tys, plain_h, plain_d, List.length_map, List.getElem?_map, deskO, deskE, updTo_length, List.length_set] <;> rfl) (refTwin_own d hn hm _) (by simp only [List.mem_cons, List.not_mem_nil, forall_eq, forall_eq_or_imp, vcs, Nat.reduceAdd, Nat.reduceMul, Nat.reduceEqDiff, Nat.reduceLeDiff, Nat.reduceSub, Nat.reduceLT, Int.reduceToNat, Int.reduceLE, Int.reduceLT, Int.reduceAdd, Int.reduceSub, Int.reduceMul, Int.reduceNeg, reduceCtorEq, reduceIte, Int.reduceBEq, Int.reduceBNe, Int.reduceEq, Int.reduceNe, Nat.reduceBEq, Nat.reduceBNe, tys, plain_h, plain_d, List.length_map, List.getElem?_map, deskO, deskE, updTo_length, List.length_set] <;> omega) ?_
  repeat (first | refine draw_end (by decide +kernel) ?_ | simp only [vcs, Nat.reduceAdd, Nat.reduceMul, Nat.reduceEqDiff, Nat.reduceLeDiff, Nat.reduceSub, Nat.reduceLT, Int.reduceToNat, Int.reduceLE, Int.reduceLT, Int.reduceAdd, Int.reduceSub, Int.reduceMul, Int.reduceNeg, reduceCtorEq, reduceIte, Int.reduceBEq, Int.reduceBNe, Int.reduceEq, Int.reduceNe, Nat.reduceBEq, Nat.reduceBNe, tys, plain_h, plain_d, List.length_map, List.getElem?_map, deskO, deskE, updTo_length, List.length_set])
  refine loop_up d.held.length (JL d conn b0 (b0 + 48) (b0 + 49)) ?_ ?_
  · simp only [JL, ownRow, updTo_zero, Int.natCast_zero, vcs, Nat.reduceAdd, Nat.reduceMul, Nat.reduceEqDiff, Nat.reduceLeDiff, Nat.reduceSub, Nat.reduceLT, Int.reduceToNat, Int.reduceLE, Int.reduceLT, Int.reduceAdd, Int.reduceSub, Int.reduceMul, Int.reduceNeg, reduceCtorEq, reduceIte, Int.reduceBEq, Int.reduceBNe, Int.reduceEq, Int.reduceNe, Nat.reduceBEq, Nat.reduceBNe, tys, plain_h, plain_d, List.length_map, List.getElem?_map, deskO, deskE, updTo_length, List.length_set]
  · rintro k nm e M hk ⟨e1, e2, hM, hMx, hMy, e5, e4, hM2⟩
    by_cases hlt : k < d.held.length
    · have wk := wrap_up hlt (by omega)
      obtain ⟨h, hh⟩ : ∃ h, d.held[k]? = some h := ⟨_, List.getElem?_eq_getElem hlt⟩
      have hu := updTo_get (loseH conn) hh
      repeat (first | refine draw_end (by decide +kernel) ?_ | simp only [hu, hcells, ownRow, e1, e2, hM, hMx, hMy, e5, e4, hM2, hlt, wk, vcs, Nat.reduceAdd, Nat.reduceMul, Nat.reduceEqDiff, Nat.reduceLeDiff, Nat.reduceSub, Nat.reduceLT, Int.reduceToNat, Int.reduceLE, Int.reduceLT, Int.reduceAdd, Int.reduceSub, Int.reduceMul, Int.reduceNeg, reduceCtorEq, reduceIte, Int.reduceBEq, Int.reduceBNe, Int.reduceEq, Int.reduceNe, Nat.reduceBEq, Nat.reduceBNe, tys, plain_h, plain_d, List.length_map, List.getElem?_map, deskO, deskE, updTo_length, List.length_set])
      constructor
      · intro hb
        have hs : ((updTo (loseH conn) k d.held).map hcells).set k [.int .i64 h.rid, .int .i64 0, .int .i64 h.left, .str h.body, .int .i64 h.report, .int .i64 h.time] = (updTo (loseH conn) (k + 1) d.held).map hcells := by
          rw [← updTo_set (loseH conn) hcells hh]; simp only [loseH, hb, if_true, hcells]
        refine again_up hlt ?_
        simp only [JL, ownRow, e1, e2, hM, hMx, hMy, e5, e4, hM2, hs, wk, vcs, Nat.reduceAdd, Nat.reduceMul, Nat.reduceEqDiff, Nat.reduceLeDiff, Nat.reduceSub, Nat.reduceLT, Int.reduceToNat, Int.reduceLE, Int.reduceLT, Int.reduceAdd, Int.reduceSub, Int.reduceMul, Int.reduceNeg, reduceCtorEq, reduceIte, Int.reduceBEq, Int.reduceBNe, Int.reduceEq, Int.reduceNe, Nat.reduceBEq, Nat.reduceBNe, tys, plain_h, plain_d, List.length_map, List.getElem?_map, deskO, deskE, updTo_length, List.length_set]
      · intro hb
        have hs := updTo_skip (loseH conn) hh (by simp only [loseH, hb, Bool.false_eq_true, if_false])
        refine again_up hlt ?_
        simp only [JL, ownRow, e1, e2, hM, hMx, hMy, e5, e4, hM2, hs, wk, vcs, Nat.reduceAdd, Nat.reduceMul, Nat.reduceEqDiff, Nat.reduceLeDiff, Nat.reduceSub, Nat.reduceLT, Int.reduceToNat, Int.reduceLE, Int.reduceLT, Int.reduceAdd, Int.reduceSub, Int.reduceMul, Int.reduceNeg, reduceCtorEq, reduceIte, Int.reduceBEq, Int.reduceBNe, Int.reduceEq, Int.reduceNe, Nat.reduceBEq, Nat.reduceBNe, tys, plain_h, plain_d, List.length_map, List.getElem?_map, deskO, deskE, updTo_length, List.length_set]
    · have hke : k = d.held.length := by omega
      subst hke
      rw [updTo_all] at hMx
      repeat (first | refine draw_end (by decide +kernel) ?_ | simp only [ownRow, e1, e2, hM, hMx, hMy, e5, e4, hM2, vcs, Nat.reduceAdd, Nat.reduceMul, Nat.reduceEqDiff, Nat.reduceLeDiff, Nat.reduceSub, Nat.reduceLT, Int.reduceToNat, Int.reduceLE, Int.reduceLT, Int.reduceAdd, Int.reduceSub, Int.reduceMul, Int.reduceNeg, reduceCtorEq, reduceIte, Int.reduceBEq, Int.reduceBNe, Int.reduceEq, Int.reduceNe, Nat.reduceBEq, Nat.reduceBNe, tys, plain_h, plain_d, List.length_map, List.getElem?_map, deskO, deskE, updTo_length, List.length_set])
      (refine Fin.own [] [(b0 + 48, 0), (b0 + 49, 1)] ?_ ?_ ?_ ?_ ?_ <;> simp only [ghosts_nil, ghosts_cons, sigOk, sigE, sigN, newName_nil, newName_cons, List.mem_cons, List.not_mem_nil, or_false, forall_eq, forall_eq_or_imp, ne_eq, Nat.le_add_right, not_false_eq_true, not_true_eq_false, Desk.lost, ownRow, e1, hM, hMx, hMy, e5, e4, e2, hM2, Try.results34, Try.ntmps34, vcs, Nat.reduceAdd, Nat.reduceMul, Nat.reduceEqDiff, Nat.reduceLeDiff, Nat.reduceSub, Nat.reduceLT, Int.reduceToNat, Int.reduceLE, Int.reduceLT, Int.reduceAdd, Int.reduceSub, Int.reduceMul, Int.reduceNeg, reduceCtorEq, reduceIte, Int.reduceBEq, Int.reduceBNe, Int.reduceEq, Int.reduceNe, Nat.reduceBEq, Nat.reduceBNe, tys, plain_h, plain_d, List.length_map, List.getElem?_map, deskO, deskE, updTo_length, List.length_set])
set_option maxHeartbeats 2000000 in
theorem refLose_good (d : Desk) (conn : Int) (hmay : d.may = true) (h1 : 1 ≤ conn) (h2 : conn ≤ 1048576) (nm : Nat) : Ev cx 14 nm [deskV d, .int .i64 conn] Mem.nil (.tup [deskO nm (d.lost conn), .int .i64 0]) (deskE nm (d.lost conn)) := by
  obtain ⟨r1, r2, r3, r4⟩ := Desk.may_ranges hmay
  have q1 : decide (conn < 1) = false := decide_eq_false (by omega)
  have q2 : decide (1048576 < conn) = false := decide_eq_false (by omega)
  refine ev_go (fun cargs w => Try.call14 cargs w) Try.func14 rfl mixed (by kernel_rfl) rfl ?_; intro b0 hb0
  simp only [deskV]
  repeat (first | refine draw_end (by decide +kernel) ?_ | simp only [vcs, Nat.reduceAdd, Nat.reduceMul, Nat.reduceEqDiff, Nat.reduceLeDiff, Nat.reduceSub, Nat.reduceLT, Int.reduceToNat, Int.reduceLE, Int.reduceLT, Int.reduceAdd, Int.reduceSub, Int.reduceMul, Int.reduceNeg, reduceCtorEq, reduceIte, Int.reduceBEq, Int.reduceBNe, Int.reduceEq, Int.reduceNe, Nat.reduceBEq, Nat.reduceBNe, tys, plain_h, plain_d, List.length_map, List.getElem?_map, deskO, deskE, updTo_length, List.length_set])
  refine call_fn (by simp only [vcs, Nat.reduceAdd, Nat.reduceMul, Nat.reduceEqDiff, Nat.reduceLeDiff, Nat.reduceSub, Nat.reduceLT, Int.reduceToNat, Int.reduceLE, Int.reduceLT, Int.reduceAdd, Int.reduceSub, Int.reduceMul, Int.reduceNeg, reduceCtorEq, reduceIte, Int.reduceBEq, Int.reduceBNe, Int.reduceEq, Int.reduceNe, Nat.reduceBEq, Nat.reduceBNe, tys, plain_h, plain_d, List.length_map, List.getElem?_map, deskO, deskE, updTo_length, List.length_set] <;> rfl) (refMay_ev d (by unfold lim; omega) (by unfold lim; omega) _) ?_
  repeat (first | refine draw_end (by decide +kernel) ?_ | simp only [hmay, q1, q2, vcs, Nat.reduceAdd, Nat.reduceMul, Nat.reduceEqDiff, Nat.reduceLeDiff, Nat.reduceSub, Nat.reduceLT, Int.reduceToNat, Int.reduceLE, Int.reduceLT, Int.reduceAdd, Int.reduceSub, Int.reduceMul, Int.reduceNeg, reduceCtorEq, reduceIte, Int.reduceBEq, Int.reduceBNe, Int.reduceEq, Int.reduceNe, Nat.reduceBEq, Nat.reduceBNe, tys, plain_h, plain_d, List.length_map, List.getElem?_map, deskO, deskE, updTo_length, List.length_set])
  refine call_fn_new (by simp only [vcs, Nat.reduceAdd, Nat.reduceMul, Nat.reduceEqDiff, Nat.reduceLeDiff, Nat.reduceSub, Nat.reduceLT, Int.reduceToNat, Int.reduceLE, Int.reduceLT, Int.reduceAdd, Int.reduceSub, Int.reduceMul, Int.reduceNeg, reduceCtorEq, reduceIte, Int.reduceBEq, Int.reduceBNe, Int.reduceEq, Int.reduceNe, Nat.reduceBEq, Nat.reduceBNe, tys, plain_h, plain_d, List.length_map, List.getElem?_map, deskO, deskE, updTo_length, List.length_set] <;> rfl) (refLost_own d conn (by omega) (by omega) _) (by simp only [List.mem_cons, List.not_mem_nil, forall_eq, forall_eq_or_imp, vcs, Nat.reduceAdd, Nat.reduceMul, Nat.reduceEqDiff, Nat.reduceLeDiff, Nat.reduceSub, Nat.reduceLT, Int.reduceToNat, Int.reduceLE, Int.reduceLT, Int.reduceAdd, Int.reduceSub, Int.reduceMul, Int.reduceNeg, reduceCtorEq, reduceIte, Int.reduceBEq, Int.reduceBNe, Int.reduceEq, Int.reduceNe, Nat.reduceBEq, Nat.reduceBNe, tys, plain_h, plain_d, List.length_map, List.getElem?_map, deskO, deskE, updTo_length, List.length_set] <;> omega) ?_
  repeat (first | refine draw_end (by decide +kernel) ?_ | simp only [vcs, Nat.reduceAdd, Nat.reduceMul, Nat.reduceEqDiff, Nat.reduceLeDiff, Nat.reduceSub, Nat.reduceLT, Int.reduceToNat, Int.reduceLE, Int.reduceLT, Int.reduceAdd, Int.reduceSub, Int.reduceMul, Int.reduceNeg, reduceCtorEq, reduceIte, Int.reduceBEq, Int.reduceBNe, Int.reduceEq, Int.reduceNe, Nat.reduceBEq, Nat.reduceBNe, tys, plain_h, plain_d, List.length_map, List.getElem?_map, deskO, deskE, updTo_length, List.length_set])
  (refine Fin.own [] [(b0 + 224, 0), (b0 + 225, 1)] ?_ ?_ ?_ ?_ ?_ <;> simp only [ghosts_nil, ghosts_cons, sigOk, sigE, sigN, newName_nil, newName_cons, List.mem_cons, List.not_mem_nil, or_false, forall_eq, forall_eq_or_imp, ne_eq, Nat.le_add_right, not_false_eq_true, not_true_eq_false, Try.results14, Try.ntmps14, vcs, Nat.reduceAdd, Nat.reduceMul, Nat.reduceEqDiff, Nat.reduceLeDiff, Nat.reduceSub, Nat.reduceLT, Int.reduceToNat, Int.reduceLE, Int.reduceLT, Int.reduceAdd, Int.reduceSub, Int.reduceMul, Int.reduceNeg, reduceCtorEq, reduceIte, Int.reduceBEq, Int.reduceBNe, Int.reduceEq, Int.reduceNe, Nat.reduceBEq, Nat.reduceBNe, tys, plain_h, plain_d, List.length_map, List.getElem?_map, deskO, deskE, updTo_length, List.length_set])
set_option maxHeartbeats 2000000 in
theorem refLose_bad (d : Desk) (conn : Int) (hn : d.held.length ≤ lim) (hm : d.done.length ≤ lim) (hmay : d.may = false) (nm : Nat) : Ev cx 14 nm [deskV d, .int .i64 conn] Mem.nil (.tup [.agg [.nils, .nils, .int .i64 0, .int .i64 0], .int .i64 8]) [] := by
  refine ev_go (fun cargs w => Try.call14 cargs w) Try.func14 rfl mixed (by kernel_rfl) rfl ?_; intro b0 hb0
  simp only [deskV]
  repeat (first | refine draw_end (by decide +kernel) ?_ | simp only [vcs, Nat.reduceAdd, Nat.reduceMul, Nat.reduceEqDiff, Nat.reduceLeDiff, Nat.reduceSub, Nat.reduceLT, Int.reduceToNat, Int.reduceLE, Int.reduceLT, Int.reduceAdd, Int.reduceSub, Int.reduceMul, Int.reduceNeg, reduceCtorEq, reduceIte, Int.reduceBEq, Int.reduceBNe, Int.reduceEq, Int.reduceNe, Nat.reduceBEq, Nat.reduceBNe, tys, plain_h, plain_d, List.length_map, List.getElem?_map, deskO, deskE, updTo_length, List.length_set])
  refine call_fn (by simp only [vcs, Nat.reduceAdd, Nat.reduceMul, Nat.reduceEqDiff, Nat.reduceLeDiff, Nat.reduceSub, Nat.reduceLT, Int.reduceToNat, Int.reduceLE, Int.reduceLT, Int.reduceAdd, Int.reduceSub, Int.reduceMul, Int.reduceNeg, reduceCtorEq, reduceIte, Int.reduceBEq, Int.reduceBNe, Int.reduceEq, Int.reduceNe, Nat.reduceBEq, Nat.reduceBNe, tys, plain_h, plain_d, List.length_map, List.getElem?_map, deskO, deskE, updTo_length, List.length_set] <;> rfl) (refMay_ev d hn hm _) ?_
  repeat (first | refine draw_end (by decide +kernel) ?_ | simp only [hmay, vcs, Nat.reduceAdd, Nat.reduceMul, Nat.reduceEqDiff, Nat.reduceLeDiff, Nat.reduceSub, Nat.reduceLT, Int.reduceToNat, Int.reduceLE, Int.reduceLT, Int.reduceAdd, Int.reduceSub, Int.reduceMul, Int.reduceNeg, reduceCtorEq, reduceIte, Int.reduceBEq, Int.reduceBNe, Int.reduceEq, Int.reduceNe, Nat.reduceBEq, Nat.reduceBNe, tys, plain_h, plain_d, List.length_map, List.getElem?_map, deskO, deskE, updTo_length, List.length_set])
  (refine Fin.pure ?_ ?_ ?_ <;> simp only [Try.results14, Try.ntmps14, vcs, Nat.reduceAdd, Nat.reduceMul, Nat.reduceEqDiff, Nat.reduceLeDiff, Nat.reduceSub, Nat.reduceLT, Int.reduceToNat, Int.reduceLE, Int.reduceLT, Int.reduceAdd, Int.reduceSub, Int.reduceMul, Int.reduceNeg, reduceCtorEq, reduceIte, Int.reduceBEq, Int.reduceBNe, Int.reduceEq, Int.reduceNe, Nat.reduceBEq, Nat.reduceBNe, tys, plain_h, plain_d, List.length_map, List.getElem?_map, deskO, deskE, updTo_length, List.length_set])
set_option maxHeartbeats 2000000 in
theorem refLose_arg (d : Desk) (conn : Int) (hmay : d.may = true) (h1 : ¬ (1 ≤ conn ∧ conn ≤ 1048576)) (nm : Nat) : Ev cx 14 nm [deskV d, .int .i64 conn] Mem.nil (.tup [.agg [.nils, .nils, .int .i64 0, .int .i64 0], .int .i64 2]) [] := by
  obtain ⟨r1, r2, r3, r4⟩ := Desk.may_ranges hmay
  have q : (decide (conn < 1) || decide (1048576 < conn)) = true := by rw [Bool.or_eq_true, decide_eq_true_eq, decide_eq_true_eq]; omega
  refine ev_go (fun cargs w => Try.call14 cargs w) Try.func14 rfl mixed (by kernel_rfl) rfl ?_; intro b0 hb0
  simp only [deskV]
  repeat (first | refine draw_end (by decide +kernel) ?_ | simp only [vcs, Nat.reduceAdd, Nat.reduceMul, Nat.reduceEqDiff, Nat.reduceLeDiff, Nat.reduceSub, Nat.reduceLT, Int.reduceToNat, Int.reduceLE, Int.reduceLT, Int.reduceAdd, Int.reduceSub, Int.reduceMul, Int.reduceNeg, reduceCtorEq, reduceIte, Int.reduceBEq, Int.reduceBNe, Int.reduceEq, Int.reduceNe, Nat.reduceBEq, Nat.reduceBNe, tys, plain_h, plain_d, List.length_map, List.getElem?_map, deskO, deskE, updTo_length, List.length_set])
  refine call_fn (by simp only [vcs, Nat.reduceAdd, Nat.reduceMul, Nat.reduceEqDiff, Nat.reduceLeDiff, Nat.reduceSub, Nat.reduceLT, Int.reduceToNat, Int.reduceLE, Int.reduceLT, Int.reduceAdd, Int.reduceSub, Int.reduceMul, Int.reduceNeg, reduceCtorEq, reduceIte, Int.reduceBEq, Int.reduceBNe, Int.reduceEq, Int.reduceNe, Nat.reduceBEq, Nat.reduceBNe, tys, plain_h, plain_d, List.length_map, List.getElem?_map, deskO, deskE, updTo_length, List.length_set] <;> rfl) (refMay_ev d (by unfold lim; omega) (by unfold lim; omega) _) ?_
  repeat (first | refine draw_end (by decide +kernel) ?_ | simp only [hmay, q, vcs, Nat.reduceAdd, Nat.reduceMul, Nat.reduceEqDiff, Nat.reduceLeDiff, Nat.reduceSub, Nat.reduceLT, Int.reduceToNat, Int.reduceLE, Int.reduceLT, Int.reduceAdd, Int.reduceSub, Int.reduceMul, Int.reduceNeg, reduceCtorEq, reduceIte, Int.reduceBEq, Int.reduceBNe, Int.reduceEq, Int.reduceNe, Nat.reduceBEq, Nat.reduceBNe, tys, plain_h, plain_d, List.length_map, List.getElem?_map, deskO, deskE, updTo_length, List.length_set])
  (refine Fin.pure ?_ ?_ ?_ <;> simp only [Try.results14, Try.ntmps14, vcs, Nat.reduceAdd, Nat.reduceMul, Nat.reduceEqDiff, Nat.reduceLeDiff, Nat.reduceSub, Nat.reduceLT, Int.reduceToNat, Int.reduceLE, Int.reduceLT, Int.reduceAdd, Int.reduceSub, Int.reduceMul, Int.reduceNeg, reduceCtorEq, reduceIte, Int.reduceBEq, Int.reduceBNe, Int.reduceEq, Int.reduceNe, Nat.reduceBEq, Nat.reduceBNe, tys, plain_h, plain_d, List.length_map, List.getElem?_map, deskO, deskE, updTo_length, List.length_set])
end Go.Proofs.Ytdbbnhmnlgfjoaa
/-
  Layer 28: ticks of the program.
-/
namespace Go.Proofs.Ytdbbnhmnlgfjoaa
set_option linter.unusedSimpArgs false
set_option linter.unusedVariables false
open Go Go.RowKit Go.Proofs.Ytdbbnhmnlgfjoaa.Vm

def JK1 (d : Desk) (p x y : Nat) (k nm : Nat) (e : Env) (M : Mem) : Prop := e 2 = .ptr p 0 0 ∧ M p = some ⟨4, [ownRow x y d]⟩ ∧ M x = some ⟨6, (updTo tickH k d.held).map hcells⟩ ∧ M y = some ⟨4, d.done.map dcells⟩ ∧ e 19 = .int .i64 d.held.length ∧ e 20 = .int .i64 k ∧ e 3 = .int .i64 (dueK d.held k)
def JK2 (d : Desk) (p x y : Nat) (k nm : Nat) (e : Env) (M : Mem) : Prop := e 2 = .ptr p 0 0 ∧ M p = some ⟨4, [ownRow x y d]⟩ ∧ M x = some ⟨6, (d.held.map tickH).map hcells⟩ ∧ M y = some ⟨4, (updTo tickD k d.done).map dcells⟩ ∧ e 46 = .int .i64 d.done.length ∧ e 47 = .int .i64 k ∧ e 3 = .int .i64 d.due
set_option maxHeartbeats 2000000 in
theorem tick_good (d : Desk) (hmay : d.may = true) (nm : Nat) : Ev cx 11 nm [deskV d] Mem.nil (.tup [deskO nm d.ticked, .int .i64 d.due, .int .i64 0]) (deskE nm d.ticked) := by
  obtain ⟨hn, hm, hh1, hd1⟩ := Desk.may_ranges hmay
  refine ev_go (fun cargs w => Try.call11 cargs w) Try.func11 rfl mixed (by kernel_rfl) rfl ?_; intro b0 hb0
  simp only [deskV]
  repeat (first | refine draw_end (by decide +kernel) ?_ | simp only [vcs, Nat.reduceAdd, Nat.reduceMul, Nat.reduceEqDiff, Nat.reduceLeDiff, Nat.reduceSub, Nat.reduceLT, Int.reduceToNat, Int.reduceLE, Int.reduceLT, Int.reduceAdd, Int.reduceSub, Int.reduceMul, Int.reduceNeg, reduceCtorEq, reduceIte, Int.reduceBEq, Int.reduceBNe, Int.reduceEq, Int.reduceNe, Nat.reduceBEq, Nat.reduceBNe, tys, plain_h, plain_d, List.length_map, List.getElem?_map, deskO, deskE, updTo_length, List.length_set])
  refine call_fn (by simp only [vcs, Nat.reduceAdd, Nat.reduceMul, Nat.reduceEqDiff, Nat.reduceLeDiff, Nat.reduceSub, Nat.reduceLT, Int.reduceToNat, Int.reduceLE, Int.reduceLT, Int.reduceAdd, Int.reduceSub, Int.reduceMul, Int.reduceNeg, reduceCtorEq, reduceIte, Int.reduceBEq, Int.reduceBNe, Int.reduceEq, Int.reduceNe, Nat.reduceBEq, Nat.reduceBNe, tys, plain_h, plain_d, List.length_map, List.getElem?_map, deskO, deskE, updTo_length, List.length_set] <;> rfl) (Check_ev d (by unfold lim; omega) (by unfold lim; omega) _) ?_
  repeat (first | refine draw_end (by decide +kernel) ?_ | simp only [hmay, beq_self_eq_true, bne_self_eq_false, vcs, Nat.reduceAdd, Nat.reduceMul, Nat.reduceEqDiff, Nat.reduceLeDiff, Nat.reduceSub, Nat.reduceLT, Int.reduceToNat, Int.reduceLE, Int.reduceLT, Int.reduceAdd, Int.reduceSub, Int.reduceMul, Int.reduceNeg, reduceCtorEq, reduceIte, Int.reduceBEq, Int.reduceBNe, Int.reduceEq, Int.reduceNe, Nat.reduceBEq, Nat.reduceBNe, tys, plain_h, plain_d, List.length_map, List.getElem?_map, deskO, deskE, updTo_length, List.length_set])
  refine call_fn_new (by simp only [vcs, Nat.reduceAdd, Nat.reduceMul, Nat.reduceEqDiff, Nat.reduceLeDiff, Nat.reduceSub, Nat.reduceLT, Int.reduceToNat, Int.reduceLE, Int.reduceLT, Int.reduceAdd, Int.reduceSub, Int.reduceMul, Int.reduceNeg, reduceCtorEq, reduceIte, Int.reduceBEq, Int.reduceBNe, Int.reduceEq, Int.reduceNe, Nat.reduceBEq, Nat.reduceBNe, tys, plain_h, plain_d, List.length_map, List.getElem?_map, deskO, deskE, updTo_length, List.length_set] <;> rfl) (twin_own d (by omega) (by omega) _) (by simp only [List.mem_cons, List.not_mem_nil, forall_eq, forall_eq_or_imp, vcs, Nat.reduceAdd, Nat.reduceMul, Nat.reduceEqDiff, Nat.reduceLeDiff, Nat.reduceSub, Nat.reduceLT, Int.reduceToNat, Int.reduceLE, Int.reduceLT, Int.reduceAdd, Int.reduceSub, Int.reduceMul, Int.reduceNeg, reduceCtorEq, reduceIte, Int.reduceBEq, Int.reduceBNe, Int.reduceEq, Int.reduceNe, Nat.reduceBEq, Nat.reduceBNe, tys, plain_h, plain_d, List.length_map, List.getElem?_map, deskO, deskE, updTo_length, List.length_set] <;> omega) ?_
  repeat (first | refine draw_end (by decide +kernel) ?_ | simp only [vcs, Nat.reduceAdd, Nat.reduceMul, Nat.reduceEqDiff, Nat.reduceLeDiff, Nat.reduceSub, Nat.reduceLT, Int.reduceToNat, Int.reduceLE, Int.reduceLT, Int.reduceAdd, Int.reduceSub, Int.reduceMul, Int.reduceNeg, reduceCtorEq, reduceIte, Int.reduceBEq, Int.reduceBNe, Int.reduceEq, Int.reduceNe, Nat.reduceBEq, Nat.reduceBNe, tys, plain_h, plain_d, List.length_map, List.getElem?_map, deskO, deskE, updTo_length, List.length_set])
  refine loop_up d.held.length (JK1 d (b0 + 16) (b0 + 160) (b0 + 161)) ?_ ?_
  · simp only [JK1, ownRow, updTo_zero, dueK, Int.natCast_zero, vcs, Nat.reduceAdd, Nat.reduceMul, Nat.reduceEqDiff, Nat.reduceLeDiff, Nat.reduceSub, Nat.reduceLT, Int.reduceToNat, Int.reduceLE, Int.reduceLT, Int.reduceAdd, Int.reduceSub, Int.reduceMul, Int.reduceNeg, reduceCtorEq, reduceIte, Int.reduceBEq, Int.reduceBNe, Int.reduceEq, Int.reduceNe, Nat.reduceBEq, Nat.reduceBNe, tys, plain_h, plain_d, List.length_map, List.getElem?_map, deskO, deskE, updTo_length, List.length_set]
  · rintro k nm e M hk ⟨e2, hM, hMx, hMy, e19, e20, e3⟩
    by_cases hlt : k < d.held.length
    · have wk := wrap_up hlt (by omega)
      obtain ⟨h, hh⟩ : ∃ h, d.held[k]? = some h := ⟨_, List.getElem?_eq_getElem hlt⟩
      have hu := updTo_get tickH hh
      have hb := hh1 h (List.mem_of_getElem? hh)
      have hw : IntKind.i64.wrap (h.left - 1) = h.left - 1 := wrap_in (by omega) (by omega)
      have hs : ((updTo tickH k d.held).map hcells).set k [.int .i64 h.rid, .int .i64 h.conn, .int .i64 (max 0 (h.left - 1)), .str h.body, .int .i64 h.report, .int .i64 h.time] = (updTo tickH (k + 1) d.held).map hcells := updTo_set tickH hcells hh
      have hu2 := updTo_got tickH hh
      repeat (first | refine draw_end (by decide +kernel) ?_ | simp only [hu, hu2, hs, hcells, tickH, ownRow, e2, hM, hMx, hMy, e19, e20, e3, hlt, wk, hw, vcs, Nat.reduceAdd, Nat.reduceMul, Nat.reduceEqDiff, Nat.reduceLeDiff, Nat.reduceSub, Nat.reduceLT, Int.reduceToNat, Int.reduceLE, Int.reduceLT, Int.reduceAdd, Int.reduceSub, Int.reduceMul, Int.reduceNeg, reduceCtorEq, reduceIte, Int.reduceBEq, Int.reduceBNe, Int.reduceEq, Int.reduceNe, Nat.reduceBEq, Nat.reduceBNe, tys, plain_h, plain_d, List.length_map, List.getElem?_map, deskO, deskE, updTo_length, List.length_set])
      constructor
      · intro hb
        refine again_up hlt ?_
        simp only [JK1, ownRow, e2, hM, hMx, hMy, e19, e20, e3, hs, dueK, hh, wk, hb, vcs, Nat.reduceAdd, Nat.reduceMul, Nat.reduceEqDiff, Nat.reduceLeDiff, Nat.reduceSub, Nat.reduceLT, Int.reduceToNat, Int.reduceLE, Int.reduceLT, Int.reduceAdd, Int.reduceSub, Int.reduceMul, Int.reduceNeg, reduceCtorEq, reduceIte, Int.reduceBEq, Int.reduceBNe, Int.reduceEq, Int.reduceNe, Nat.reduceBEq, Nat.reduceBNe, tys, plain_h, plain_d, List.length_map, List.getElem?_map, deskO, deskE, updTo_length, List.length_set]
      · intro hb
        refine again_up hlt ?_
        simp only [JK1, ownRow, e2, hM, hMx, hMy, e19, e20, e3, hs, dueK, hh, wk, hb, vcs, Nat.reduceAdd, Nat.reduceMul, Nat.reduceEqDiff, Nat.reduceLeDiff, Nat.reduceSub, Nat.reduceLT, Int.reduceToNat, Int.reduceLE, Int.reduceLT, Int.reduceAdd, Int.reduceSub, Int.reduceMul, Int.reduceNeg, reduceCtorEq, reduceIte, Int.reduceBEq, Int.reduceBNe, Int.reduceEq, Int.reduceNe, Nat.reduceBEq, Nat.reduceBNe, tys, plain_h, plain_d, List.length_map, List.getElem?_map, deskO, deskE, updTo_length, List.length_set]
    · have hke : k = d.held.length := by omega
      subst hke
      rw [updTo_all] at hMx
      repeat (first | refine draw_end (by decide +kernel) ?_ | simp only [ownRow, e2, hM, hMx, hMy, e19, e20, e3, vcs, Nat.reduceAdd, Nat.reduceMul, Nat.reduceEqDiff, Nat.reduceLeDiff, Nat.reduceSub, Nat.reduceLT, Int.reduceToNat, Int.reduceLE, Int.reduceLT, Int.reduceAdd, Int.reduceSub, Int.reduceMul, Int.reduceNeg, reduceCtorEq, reduceIte, Int.reduceBEq, Int.reduceBNe, Int.reduceEq, Int.reduceNe, Nat.reduceBEq, Nat.reduceBNe, tys, plain_h, plain_d, List.length_map, List.getElem?_map, deskO, deskE, updTo_length, List.length_set])
      refine loop_up d.done.length (JK2 d (b0 + 16) (b0 + 160) (b0 + 161)) ?_ ?_
      · simp only [JK2, Desk.due, ownRow, updTo_zero, e2, hM, hMx, hMy, e3, Int.natCast_zero, vcs, Nat.reduceAdd, Nat.reduceMul, Nat.reduceEqDiff, Nat.reduceLeDiff, Nat.reduceSub, Nat.reduceLT, Int.reduceToNat, Int.reduceLE, Int.reduceLT, Int.reduceAdd, Int.reduceSub, Int.reduceMul, Int.reduceNeg, reduceCtorEq, reduceIte, Int.reduceBEq, Int.reduceBNe, Int.reduceEq, Int.reduceNe, Nat.reduceBEq, Nat.reduceBNe, tys, plain_h, plain_d, List.length_map, List.getElem?_map, deskO, deskE, updTo_length, List.length_set]
      · clear e2 hM hMx hMy e19 e20 e3 hlt hk
        rintro k nm e M hk ⟨e2, hM, hMx, hMy, e46, e47, e3⟩
        by_cases hlt : k < d.done.length
        · have wk := wrap_up hlt (by omega)
          obtain ⟨h, hh⟩ : ∃ h, d.done[k]? = some h := ⟨_, List.getElem?_eq_getElem hlt⟩
          have hu := updTo_get tickD hh
          have hb := hd1 h (List.mem_of_getElem? hh)
          have hw : IntKind.i64.wrap (h.age + 1) = h.age + 1 := wrap_in (by omega) (by omega)
          have hs : ((updTo tickD k d.done).map dcells).set k [.int .i64 h.rid, .str h.body, .str h.text, .int .i64 (min 1000000 (h.age + 1))] = (updTo tickD (k + 1) d.done).map dcells := updTo_set tickD dcells hh
          repeat (first | refine draw_end (by decide +kernel) ?_ | simp only [hu, hs, dcells, ownRow, e2, hM, hMx, hMy, e46, e47, e3, hlt, wk, hw, vcs, Nat.reduceAdd, Nat.reduceMul, Nat.reduceEqDiff, Nat.reduceLeDiff, Nat.reduceSub, Nat.reduceLT, Int.reduceToNat, Int.reduceLE, Int.reduceLT, Int.reduceAdd, Int.reduceSub, Int.reduceMul, Int.reduceNeg, reduceCtorEq, reduceIte, Int.reduceBEq, Int.reduceBNe, Int.reduceEq, Int.reduceNe, Nat.reduceBEq, Nat.reduceBNe, tys, plain_h, plain_d, List.length_map, List.getElem?_map, deskO, deskE, updTo_length, List.length_set])
          refine again_up hlt ?_
          simp only [JK2, ownRow, e2, hM, hMx, hMy, e46, e47, e3, hs, hh, wk, vcs, Nat.reduceAdd, Nat.reduceMul, Nat.reduceEqDiff, Nat.reduceLeDiff, Nat.reduceSub, Nat.reduceLT, Int.reduceToNat, Int.reduceLE, Int.reduceLT, Int.reduceAdd, Int.reduceSub, Int.reduceMul, Int.reduceNeg, reduceCtorEq, reduceIte, Int.reduceBEq, Int.reduceBNe, Int.reduceEq, Int.reduceNe, Nat.reduceBEq, Nat.reduceBNe, tys, plain_h, plain_d, List.length_map, List.getElem?_map, deskO, deskE, updTo_length, List.length_set]
        · have hke : k = d.done.length := by omega
          subst hke
          rw [updTo_all] at hMy
          repeat (first | refine draw_end (by decide +kernel) ?_ | simp only [ownRow, e2, hM, hMx, hMy, e46, e47, e3, vcs, Nat.reduceAdd, Nat.reduceMul, Nat.reduceEqDiff, Nat.reduceLeDiff, Nat.reduceSub, Nat.reduceLT, Int.reduceToNat, Int.reduceLE, Int.reduceLT, Int.reduceAdd, Int.reduceSub, Int.reduceMul, Int.reduceNeg, reduceCtorEq, reduceIte, Int.reduceBEq, Int.reduceBNe, Int.reduceEq, Int.reduceNe, Nat.reduceBEq, Nat.reduceBNe, tys, plain_h, plain_d, List.length_map, List.getElem?_map, deskO, deskE, updTo_length, List.length_set])
          (refine Fin.own [] [(b0 + 160, 0), (b0 + 161, 1)] ?_ ?_ ?_ ?_ ?_ <;> simp only [ghosts_nil, ghosts_cons, sigOk, sigE, sigN, newName_nil, newName_cons, List.mem_cons, List.not_mem_nil, or_false, forall_eq, forall_eq_or_imp, ne_eq, Nat.le_add_right, not_false_eq_true, not_true_eq_false, Desk.ticked, ownRow, e2, hM, hMx, hMy, e3, Try.results11, Try.ntmps11, vcs, Nat.reduceAdd, Nat.reduceMul, Nat.reduceEqDiff, Nat.reduceLeDiff, Nat.reduceSub, Nat.reduceLT, Int.reduceToNat, Int.reduceLE, Int.reduceLT, Int.reduceAdd, Int.reduceSub, Int.reduceMul, Int.reduceNeg, reduceCtorEq, reduceIte, Int.reduceBEq, Int.reduceBNe, Int.reduceEq, Int.reduceNe, Nat.reduceBEq, Nat.reduceBNe, tys, plain_h, plain_d, List.length_map, List.getElem?_map, deskO, deskE, updTo_length, List.length_set])
set_option maxHeartbeats 2000000 in
theorem tick_bad (d : Desk) (hn : d.held.length ≤ lim) (hm : d.done.length ≤ lim) (hmay : d.may = false) (nm : Nat) : Ev cx 11 nm [deskV d] Mem.nil (.tup [.agg [.nils, .nils, .int .i64 0, .int .i64 0], .int .i64 0, .int .i64 8]) [] := by
  refine ev_go (fun cargs w => Try.call11 cargs w) Try.func11 rfl mixed (by kernel_rfl) rfl ?_; intro b0 hb0
  simp only [deskV]
  repeat (first | refine draw_end (by decide +kernel) ?_ | simp only [vcs, Nat.reduceAdd, Nat.reduceMul, Nat.reduceEqDiff, Nat.reduceLeDiff, Nat.reduceSub, Nat.reduceLT, Int.reduceToNat, Int.reduceLE, Int.reduceLT, Int.reduceAdd, Int.reduceSub, Int.reduceMul, Int.reduceNeg, reduceCtorEq, reduceIte, Int.reduceBEq, Int.reduceBNe, Int.reduceEq, Int.reduceNe, Nat.reduceBEq, Nat.reduceBNe, tys, plain_h, plain_d, List.length_map, List.getElem?_map, deskO, deskE, updTo_length, List.length_set])
  refine call_fn (by simp only [vcs, Nat.reduceAdd, Nat.reduceMul, Nat.reduceEqDiff, Nat.reduceLeDiff, Nat.reduceSub, Nat.reduceLT, Int.reduceToNat, Int.reduceLE, Int.reduceLT, Int.reduceAdd, Int.reduceSub, Int.reduceMul, Int.reduceNeg, reduceCtorEq, reduceIte, Int.reduceBEq, Int.reduceBNe, Int.reduceEq, Int.reduceNe, Nat.reduceBEq, Nat.reduceBNe, tys, plain_h, plain_d, List.length_map, List.getElem?_map, deskO, deskE, updTo_length, List.length_set] <;> rfl) (Check_ev d hn hm _) ?_
  repeat (first | refine draw_end (by decide +kernel) ?_ | simp only [hmay, vcs, Nat.reduceAdd, Nat.reduceMul, Nat.reduceEqDiff, Nat.reduceLeDiff, Nat.reduceSub, Nat.reduceLT, Int.reduceToNat, Int.reduceLE, Int.reduceLT, Int.reduceAdd, Int.reduceSub, Int.reduceMul, Int.reduceNeg, reduceCtorEq, reduceIte, Int.reduceBEq, Int.reduceBNe, Int.reduceEq, Int.reduceNe, Nat.reduceBEq, Nat.reduceBNe, tys, plain_h, plain_d, List.length_map, List.getElem?_map, deskO, deskE, updTo_length, List.length_set])
  (refine Fin.pure ?_ ?_ ?_ <;> simp only [Try.results11, Try.ntmps11, vcs, Nat.reduceAdd, Nat.reduceMul, Nat.reduceEqDiff, Nat.reduceLeDiff, Nat.reduceSub, Nat.reduceLT, Int.reduceToNat, Int.reduceLE, Int.reduceLT, Int.reduceAdd, Int.reduceSub, Int.reduceMul, Int.reduceNeg, reduceCtorEq, reduceIte, Int.reduceBEq, Int.reduceBNe, Int.reduceEq, Int.reduceNe, Nat.reduceBEq, Nat.reduceBNe, tys, plain_h, plain_d, List.length_map, List.getElem?_map, deskO, deskE, updTo_length, List.length_set])
def JO (d : Desk) (conn : Int) (b p x y : Nat) (k nm : Nat) (e : Env) (M : Mem) : Prop := b + 352 ≤ nm ∧ e 1 = .int .i64 conn ∧ e 2 = .ptr b 0 0 ∧ M b = some ⟨4, [ownRow x y d]⟩ ∧ M x = some ⟨6, (updTo (loseH conn) k d.held).map hcells⟩ ∧ M y = some ⟨4, d.done.map dcells⟩ ∧ e 26 = .own x 0 d.held.length ∧ e 27 = .int .i64 d.held.length ∧ e 28 = .int .i64 k ∧ e 4 = .ptr p 0 0 ∧ M p = some ⟨4, [[.nils, .nils, .int .i64 0, .int .i64 0]]⟩
set_option maxHeartbeats 2000000 in
theorem lose_good (d : Desk) (conn : Int) (hmay : d.may = true) (h1 : 1 ≤ conn) (h2 : conn ≤ 1048576) (nm : Nat) : Ev cx 13 nm [deskV d, .int .i64 conn] Mem.nil (.tup [deskO nm (d.lost conn), .int .i64 0]) (deskE nm (d.lost conn)) := by
  have k1 : ((1 : Int), (0 : Int), (1048576 : Int)) ∈ [(0, 0, 9007199254740991), (1, 0, 1048576), (2, 0, 60), (3, 0, 1000000), (4, -1, (9007199254740991 : Int))] := by simp
  obtain ⟨hn, hm, hh1, hd1⟩ := Desk.may_ranges hmay
  have q1 : decide (conn < 1) = false := decide_eq_false (by omega)
  have q2 : decide (0 ≤ conn) = true := decide_eq_true (by omega)
  have q3 : decide (conn ≤ 1048576) = true := decide_eq_true (by omega)
  refine ev_go (fun cargs w => Try.call13 cargs w) Try.func13 rfl mixed (by kernel_rfl) rfl ?_; intro b0 hb0
  simp only [deskV]
  repeat (first | refine draw_end (by decide +kernel) ?_ | simp only [vcs, Nat.reduceAdd, Nat.reduceMul, Nat.reduceEqDiff, Nat.reduceLeDiff, Nat.reduceSub, Nat.reduceLT, Int.reduceToNat, Int.reduceLE, Int.reduceLT, Int.reduceAdd, Int.reduceSub, Int.reduceMul, Int.reduceNeg, reduceCtorEq, reduceIte, Int.reduceBEq, Int.reduceBNe, Int.reduceEq, Int.reduceNe, Nat.reduceBEq, Nat.reduceBNe, tys, plain_h, plain_d, List.length_map, List.getElem?_map, deskO, deskE, updTo_length, List.length_set])
  refine call_fn (by simp only [vcs, Nat.reduceAdd, Nat.reduceMul, Nat.reduceEqDiff, Nat.reduceLeDiff, Nat.reduceSub, Nat.reduceLT, Int.reduceToNat, Int.reduceLE, Int.reduceLT, Int.reduceAdd, Int.reduceSub, Int.reduceMul, Int.reduceNeg, reduceCtorEq, reduceIte, Int.reduceBEq, Int.reduceBNe, Int.reduceEq, Int.reduceNe, Nat.reduceBEq, Nat.reduceBNe, tys, plain_h, plain_d, List.length_map, List.getElem?_map, deskO, deskE, updTo_length, List.length_set] <;> rfl) (Check_ev d (by unfold lim; omega) (by unfold lim; omega) _) ?_
  repeat (first | refine draw_end (by decide +kernel) ?_ | simp only [hmay, q1, vcs, Nat.reduceAdd, Nat.reduceMul, Nat.reduceEqDiff, Nat.reduceLeDiff, Nat.reduceSub, Nat.reduceLT, Int.reduceToNat, Int.reduceLE, Int.reduceLT, Int.reduceAdd, Int.reduceSub, Int.reduceMul, Int.reduceNeg, reduceCtorEq, reduceIte, Int.reduceBEq, Int.reduceBNe, Int.reduceEq, Int.reduceNe, Nat.reduceBEq, Nat.reduceBNe, tys, plain_h, plain_d, List.length_map, List.getElem?_map, deskO, deskE, updTo_length, List.length_set])
  refine call_fn_g (by simp only [vcs, Nat.reduceAdd, Nat.reduceMul, Nat.reduceEqDiff, Nat.reduceLeDiff, Nat.reduceSub, Nat.reduceLT, Int.reduceToNat, Int.reduceLE, Int.reduceLT, Int.reduceAdd, Int.reduceSub, Int.reduceMul, Int.reduceNeg, reduceCtorEq, reduceIte, Int.reduceBEq, Int.reduceBNe, Int.reduceEq, Int.reduceNe, Nat.reduceBEq, Nat.reduceBNe, tys, plain_h, plain_d, List.length_map, List.getElem?_map, deskO, deskE, updTo_length, List.length_set] <;> rfl) (fun _ => has_ev 1 0 1048576 conn k1 _) ?_
  repeat (first | refine draw_end (by decide +kernel) ?_ | simp only [q2, q3, vcs, Nat.reduceAdd, Nat.reduceMul, Nat.reduceEqDiff, Nat.reduceLeDiff, Nat.reduceSub, Nat.reduceLT, Int.reduceToNat, Int.reduceLE, Int.reduceLT, Int.reduceAdd, Int.reduceSub, Int.reduceMul, Int.reduceNeg, reduceCtorEq, reduceIte, Int.reduceBEq, Int.reduceBNe, Int.reduceEq, Int.reduceNe, Nat.reduceBEq, Nat.reduceBNe, tys, plain_h, plain_d, List.length_map, List.getElem?_map, deskO, deskE, updTo_length, List.length_set])
  refine call_fn_new (by simp only [vcs, Nat.reduceAdd, Nat.reduceMul, Nat.reduceEqDiff, Nat.reduceLeDiff, Nat.reduceSub, Nat.reduceLT, Int.reduceToNat, Int.reduceLE, Int.reduceLT, Int.reduceAdd, Int.reduceSub, Int.reduceMul, Int.reduceNeg, reduceCtorEq, reduceIte, Int.reduceBEq, Int.reduceBNe, Int.reduceEq, Int.reduceNe, Nat.reduceBEq, Nat.reduceBNe, tys, plain_h, plain_d, List.length_map, List.getElem?_map, deskO, deskE, updTo_length, List.length_set] <;> rfl) (twin_own d (by omega) (by omega) _) (by simp only [List.mem_cons, List.not_mem_nil, forall_eq, forall_eq_or_imp, vcs, Nat.reduceAdd, Nat.reduceMul, Nat.reduceEqDiff, Nat.reduceLeDiff, Nat.reduceSub, Nat.reduceLT, Int.reduceToNat, Int.reduceLE, Int.reduceLT, Int.reduceAdd, Int.reduceSub, Int.reduceMul, Int.reduceNeg, reduceCtorEq, reduceIte, Int.reduceBEq, Int.reduceBNe, Int.reduceEq, Int.reduceNe, Nat.reduceBEq, Nat.reduceBNe, tys, plain_h, plain_d, List.length_map, List.getElem?_map, deskO, deskE, updTo_length, List.length_set] <;> omega) ?_
  repeat (first | refine draw_end (by decide +kernel) ?_ | simp only [vcs, Nat.reduceAdd, Nat.reduceMul, Nat.reduceEqDiff, Nat.reduceLeDiff, Nat.reduceSub, Nat.reduceLT, Int.reduceToNat, Int.reduceLE, Int.reduceLT, Int.reduceAdd, Int.reduceSub, Int.reduceMul, Int.reduceNeg, reduceCtorEq, reduceIte, Int.reduceBEq, Int.reduceBNe, Int.reduceEq, Int.reduceNe, Nat.reduceBEq, Nat.reduceBNe, tys, plain_h, plain_d, List.length_map, List.getElem?_map, deskO, deskE, updTo_length, List.length_set])
  refine loop_up d.held.length (JO d conn b0 (b0 + 16) (b0 + 256) (b0 + 257)) ?_ ?_
  · simp only [JO, ownRow, updTo_zero, Int.natCast_zero, vcs, Nat.reduceAdd, Nat.reduceMul, Nat.reduceEqDiff, Nat.reduceLeDiff, Nat.reduceSub, Nat.reduceLT, Int.reduceToNat, Int.reduceLE, Int.reduceLT, Int.reduceAdd, Int.reduceSub, Int.reduceMul, Int.reduceNeg, reduceCtorEq, reduceIte, Int.reduceBEq, Int.reduceBNe, Int.reduceEq, Int.reduceNe, Nat.reduceBEq, Nat.reduceBNe, tys, plain_h, plain_d, List.length_map, List.getElem?_map, deskO, deskE, updTo_length, List.length_set]
  · rintro k nm e M hk ⟨hp, e1, e2, hM, hMx, hMy, e26, e27, e28, e4, hM2⟩
    have pp := far hp (by decide)
    by_cases hlt : k < d.held.length
    · have wk := wrap_up hlt (by omega)
      obtain ⟨h, hh⟩ : ∃ h, d.held[k]? = some h := ⟨_, List.getElem?_eq_getElem hlt⟩
      have hu := updTo_get (loseH conn) hh
      repeat (first | refine draw_end (by decide +kernel) ?_ | simp only [hu, hcells, ownRow, e1, e2, hM, hMx, hMy, e26, e27, e28, e4, hM2, hlt, wk, pp, vcs, Nat.reduceAdd, Nat.reduceMul, Nat.reduceEqDiff, Nat.reduceLeDiff, Nat.reduceSub, Nat.reduceLT, Int.reduceToNat, Int.reduceLE, Int.reduceLT, Int.reduceAdd, Int.reduceSub, Int.reduceMul, Int.reduceNeg, reduceCtorEq, reduceIte, Int.reduceBEq, Int.reduceBNe, Int.reduceEq, Int.reduceNe, Nat.reduceBEq, Nat.reduceBNe, tys, plain_h, plain_d, List.length_map, List.getElem?_map, deskO, deskE, updTo_length, List.length_set])
      constructor
      · intro hb
        have hs : ((updTo (loseH conn) k d.held).map hcells).set k [.int .i64 h.rid, .int .i64 0, .int .i64 h.left, .str h.body, .int .i64 h.report, .int .i64 h.time] = (updTo (loseH conn) (k + 1) d.held).map hcells := by
          rw [← updTo_set (loseH conn) hcells hh]; simp only [loseH, hb, if_true, hcells]
        refine again_up hlt ⟨by omega, ?_⟩
        simp only [ownRow, e1, e2, hM, hMx, hMy, e26, e27, e28, e4, hM2, hs, wk, pp, vcs, Nat.reduceAdd, Nat.reduceMul, Nat.reduceEqDiff, Nat.reduceLeDiff, Nat.reduceSub, Nat.reduceLT, Int.reduceToNat, Int.reduceLE, Int.reduceLT, Int.reduceAdd, Int.reduceSub, Int.reduceMul, Int.reduceNeg, reduceCtorEq, reduceIte, Int.reduceBEq, Int.reduceBNe, Int.reduceEq, Int.reduceNe, Nat.reduceBEq, Nat.reduceBNe, tys, plain_h, plain_d, List.length_map, List.getElem?_map, deskO, deskE, updTo_length, List.length_set]
      · intro hb
        have hs := updTo_skip (loseH conn) hh (by simp only [loseH, hb, Bool.false_eq_true, if_false])
        refine again_up hlt ⟨by omega, ?_⟩
        simp only [ownRow, e1, e2, hM, hMx, hMy, e26, e27, e28, e4, hM2, hs, wk, pp, vcs, Nat.reduceAdd, Nat.reduceMul, Nat.reduceEqDiff, Nat.reduceLeDiff, Nat.reduceSub, Nat.reduceLT, Int.reduceToNat, Int.reduceLE, Int.reduceLT, Int.reduceAdd, Int.reduceSub, Int.reduceMul, Int.reduceNeg, reduceCtorEq, reduceIte, Int.reduceBEq, Int.reduceBNe, Int.reduceEq, Int.reduceNe, Nat.reduceBEq, Nat.reduceBNe, tys, plain_h, plain_d, List.length_map, List.getElem?_map, deskO, deskE, updTo_length, List.length_set]
    · have hke : k = d.held.length := by omega
      subst hke
      rw [updTo_all] at hMx
      repeat (first | refine draw_end (by decide +kernel) ?_ | simp only [ownRow, e1, e2, hM, hMx, hMy, e26, e27, e28, e4, hM2, vcs, Nat.reduceAdd, Nat.reduceMul, Nat.reduceEqDiff, Nat.reduceLeDiff, Nat.reduceSub, Nat.reduceLT, Int.reduceToNat, Int.reduceLE, Int.reduceLT, Int.reduceAdd, Int.reduceSub, Int.reduceMul, Int.reduceNeg, reduceCtorEq, reduceIte, Int.reduceBEq, Int.reduceBNe, Int.reduceEq, Int.reduceNe, Nat.reduceBEq, Nat.reduceBNe, tys, plain_h, plain_d, List.length_map, List.getElem?_map, deskO, deskE, updTo_length, List.length_set])
      (refine Fin.own [] [(b0 + 256, 0), (b0 + 257, 1)] ?_ ?_ ?_ ?_ ?_ <;> simp only [ghosts_nil, ghosts_cons, sigOk, sigE, sigN, newName_nil, newName_cons, List.mem_cons, List.not_mem_nil, or_false, forall_eq, forall_eq_or_imp, ne_eq, Nat.le_add_right, not_false_eq_true, not_true_eq_false, Desk.lost, ownRow, e1, hM, hMx, hMy, e4, e2, hM2, Try.results13, Try.ntmps13, vcs, Nat.reduceAdd, Nat.reduceMul, Nat.reduceEqDiff, Nat.reduceLeDiff, Nat.reduceSub, Nat.reduceLT, Int.reduceToNat, Int.reduceLE, Int.reduceLT, Int.reduceAdd, Int.reduceSub, Int.reduceMul, Int.reduceNeg, reduceCtorEq, reduceIte, Int.reduceBEq, Int.reduceBNe, Int.reduceEq, Int.reduceNe, Nat.reduceBEq, Nat.reduceBNe, tys, plain_h, plain_d, List.length_map, List.getElem?_map, deskO, deskE, updTo_length, List.length_set])
set_option maxHeartbeats 2000000 in
theorem lose_bad (d : Desk) (conn : Int) (hn : d.held.length ≤ lim) (hm : d.done.length ≤ lim) (hmay : d.may = false) (nm : Nat) : Ev cx 13 nm [deskV d, .int .i64 conn] Mem.nil (.tup [.agg [.nils, .nils, .int .i64 0, .int .i64 0], .int .i64 8]) [] := by
  refine ev_go (fun cargs w => Try.call13 cargs w) Try.func13 rfl mixed (by kernel_rfl) rfl ?_; intro b0 hb0
  simp only [deskV]
  repeat (first | refine draw_end (by decide +kernel) ?_ | simp only [vcs, Nat.reduceAdd, Nat.reduceMul, Nat.reduceEqDiff, Nat.reduceLeDiff, Nat.reduceSub, Nat.reduceLT, Int.reduceToNat, Int.reduceLE, Int.reduceLT, Int.reduceAdd, Int.reduceSub, Int.reduceMul, Int.reduceNeg, reduceCtorEq, reduceIte, Int.reduceBEq, Int.reduceBNe, Int.reduceEq, Int.reduceNe, Nat.reduceBEq, Nat.reduceBNe, tys, plain_h, plain_d, List.length_map, List.getElem?_map, deskO, deskE, updTo_length, List.length_set])
  refine call_fn (by simp only [vcs, Nat.reduceAdd, Nat.reduceMul, Nat.reduceEqDiff, Nat.reduceLeDiff, Nat.reduceSub, Nat.reduceLT, Int.reduceToNat, Int.reduceLE, Int.reduceLT, Int.reduceAdd, Int.reduceSub, Int.reduceMul, Int.reduceNeg, reduceCtorEq, reduceIte, Int.reduceBEq, Int.reduceBNe, Int.reduceEq, Int.reduceNe, Nat.reduceBEq, Nat.reduceBNe, tys, plain_h, plain_d, List.length_map, List.getElem?_map, deskO, deskE, updTo_length, List.length_set] <;> rfl) (Check_ev d hn hm _) ?_
  repeat (first | refine draw_end (by decide +kernel) ?_ | simp only [hmay, vcs, Nat.reduceAdd, Nat.reduceMul, Nat.reduceEqDiff, Nat.reduceLeDiff, Nat.reduceSub, Nat.reduceLT, Int.reduceToNat, Int.reduceLE, Int.reduceLT, Int.reduceAdd, Int.reduceSub, Int.reduceMul, Int.reduceNeg, reduceCtorEq, reduceIte, Int.reduceBEq, Int.reduceBNe, Int.reduceEq, Int.reduceNe, Nat.reduceBEq, Nat.reduceBNe, tys, plain_h, plain_d, List.length_map, List.getElem?_map, deskO, deskE, updTo_length, List.length_set])
  (refine Fin.pure ?_ ?_ ?_ <;> simp only [Try.results13, Try.ntmps13, vcs, Nat.reduceAdd, Nat.reduceMul, Nat.reduceEqDiff, Nat.reduceLeDiff, Nat.reduceSub, Nat.reduceLT, Int.reduceToNat, Int.reduceLE, Int.reduceLT, Int.reduceAdd, Int.reduceSub, Int.reduceMul, Int.reduceNeg, reduceCtorEq, reduceIte, Int.reduceBEq, Int.reduceBNe, Int.reduceEq, Int.reduceNe, Nat.reduceBEq, Nat.reduceBNe, tys, plain_h, plain_d, List.length_map, List.getElem?_map, deskO, deskE, updTo_length, List.length_set])
set_option maxHeartbeats 2000000 in
theorem lose_arg (d : Desk) (conn : Int) (hmay : d.may = true) (h1 : ¬ (1 ≤ conn ∧ conn ≤ 1048576)) (nm : Nat) : Ev cx 13 nm [deskV d, .int .i64 conn] Mem.nil (.tup [.agg [.nils, .nils, .int .i64 0, .int .i64 0], .int .i64 2]) [] := by
  have k1 : ((1 : Int), (0 : Int), (1048576 : Int)) ∈ [(0, 0, 9007199254740991), (1, 0, 1048576), (2, 0, 60), (3, 0, 1000000), (4, -1, (9007199254740991 : Int))] := by simp
  obtain ⟨hn, hm, hh1, hd1⟩ := Desk.may_ranges hmay
  have q : (decide (conn < 1) || !(decide (0 ≤ conn) && decide (conn ≤ 1048576))) = true := by
    by_cases q1 : conn < 1
    · simp [q1]
    · simp [q1, show 1048576 < conn by omega]
  refine ev_go (fun cargs w => Try.call13 cargs w) Try.func13 rfl mixed (by kernel_rfl) rfl ?_; intro b0 hb0
  simp only [deskV]
  repeat (first | refine draw_end (by decide +kernel) ?_ | simp only [vcs, Nat.reduceAdd, Nat.reduceMul, Nat.reduceEqDiff, Nat.reduceLeDiff, Nat.reduceSub, Nat.reduceLT, Int.reduceToNat, Int.reduceLE, Int.reduceLT, Int.reduceAdd, Int.reduceSub, Int.reduceMul, Int.reduceNeg, reduceCtorEq, reduceIte, Int.reduceBEq, Int.reduceBNe, Int.reduceEq, Int.reduceNe, Nat.reduceBEq, Nat.reduceBNe, tys, plain_h, plain_d, List.length_map, List.getElem?_map, deskO, deskE, updTo_length, List.length_set])
  refine call_fn (by simp only [vcs, Nat.reduceAdd, Nat.reduceMul, Nat.reduceEqDiff, Nat.reduceLeDiff, Nat.reduceSub, Nat.reduceLT, Int.reduceToNat, Int.reduceLE, Int.reduceLT, Int.reduceAdd, Int.reduceSub, Int.reduceMul, Int.reduceNeg, reduceCtorEq, reduceIte, Int.reduceBEq, Int.reduceBNe, Int.reduceEq, Int.reduceNe, Nat.reduceBEq, Nat.reduceBNe, tys, plain_h, plain_d, List.length_map, List.getElem?_map, deskO, deskE, updTo_length, List.length_set] <;> rfl) (Check_ev d (by unfold lim; omega) (by unfold lim; omega) _) ?_
  repeat (first | refine draw_end (by decide +kernel) ?_ | simp only [hmay, vcs, Nat.reduceAdd, Nat.reduceMul, Nat.reduceEqDiff, Nat.reduceLeDiff, Nat.reduceSub, Nat.reduceLT, Int.reduceToNat, Int.reduceLE, Int.reduceLT, Int.reduceAdd, Int.reduceSub, Int.reduceMul, Int.reduceNeg, reduceCtorEq, reduceIte, Int.reduceBEq, Int.reduceBNe, Int.reduceEq, Int.reduceNe, Nat.reduceBEq, Nat.reduceBNe, tys, plain_h, plain_d, List.length_map, List.getElem?_map, deskO, deskE, updTo_length, List.length_set])
  refine call_fn_g (by simp only [vcs, Nat.reduceAdd, Nat.reduceMul, Nat.reduceEqDiff, Nat.reduceLeDiff, Nat.reduceSub, Nat.reduceLT, Int.reduceToNat, Int.reduceLE, Int.reduceLT, Int.reduceAdd, Int.reduceSub, Int.reduceMul, Int.reduceNeg, reduceCtorEq, reduceIte, Int.reduceBEq, Int.reduceBNe, Int.reduceEq, Int.reduceNe, Nat.reduceBEq, Nat.reduceBNe, tys, plain_h, plain_d, List.length_map, List.getElem?_map, deskO, deskE, updTo_length, List.length_set] <;> rfl) (fun _ => has_ev 1 0 1048576 conn k1 _) ?_
  repeat (first | refine draw_end (by decide +kernel) ?_ | simp only [q, vcs, Nat.reduceAdd, Nat.reduceMul, Nat.reduceEqDiff, Nat.reduceLeDiff, Nat.reduceSub, Nat.reduceLT, Int.reduceToNat, Int.reduceLE, Int.reduceLT, Int.reduceAdd, Int.reduceSub, Int.reduceMul, Int.reduceNeg, reduceCtorEq, reduceIte, Int.reduceBEq, Int.reduceBNe, Int.reduceEq, Int.reduceNe, Nat.reduceBEq, Nat.reduceBNe, tys, plain_h, plain_d, List.length_map, List.getElem?_map, deskO, deskE, updTo_length, List.length_set])
  (refine Fin.pure ?_ ?_ ?_ <;> simp only [Try.results13, Try.ntmps13, vcs, Nat.reduceAdd, Nat.reduceMul, Nat.reduceEqDiff, Nat.reduceLeDiff, Nat.reduceSub, Nat.reduceLT, Int.reduceToNat, Int.reduceLE, Int.reduceLT, Int.reduceAdd, Int.reduceSub, Int.reduceMul, Int.reduceNeg, reduceCtorEq, reduceIte, Int.reduceBEq, Int.reduceBNe, Int.reduceEq, Int.reduceNe, Nat.reduceBEq, Nat.reduceBNe, tys, plain_h, plain_d, List.length_map, List.getElem?_map, deskO, deskE, updTo_length, List.length_set])
end Go.Proofs.Ytdbbnhmnlgfjoaa
/-
  Layer 28: desks are compared.
-/
namespace Go.Proofs.Ytdbbnhmnlgfjoaa
set_option linter.unusedSimpArgs false
set_option linter.unusedVariables false
open Go Go.RowKit Go.Proofs.Ytdbbnhmnlgfjoaa.Vm

theorem take_snoc_eq {α : Type} {a b : List α} {k : Nat} {x y : α} (ha : a[k]? = some x) (hb : b[k]? = some y) (h : a.take k = b.take k) : a.take (k + 1) = b.take (k + 1) ↔ x = y := by
  rw [List.take_add_one, List.take_add_one, ha, hb, h]; simp
theorem take_ne {α : Type} {a b : List α} {k : Nat} {x y : α} (ha : a[k]? = some x) (hb : b[k]? = some y) (h : x ≠ y) : a ≠ b := by
  rintro rfl; rw [ha] at hb; exact h (Option.some.inj hb)
def JE {α : Type} (cells : α → List V) (sz : Nat) (a b : List α) (k nm : Nat) (e : Env) (M : Mem) : Prop := e 0 = .sl false sz (a.map cells) ∧ e 1 = .sl false sz (b.map cells) ∧ e 12 = .int .i64 a.length ∧ e 13 = .int .i64 k ∧ a.take k = b.take k
theorem hEq (h h' : Hd) : (h.rid == h'.rid && (h.conn == h'.conn && (h.left == h'.left && (h.body == h'.body && (h.report == h'.report && h.time == h'.time))))) = decide (h = h') := by
  rw [Bool.eq_iff_iff]
  cases h; cases h'
  simp [Hd.mk.injEq]
theorem dEq (h h' : Dn) : (h.rid == h'.rid && (h.body == h'.body && (h.text == h'.text && h.age == h'.age))) = decide (h = h') := by
  rw [Bool.eq_iff_iff]
  cases h; cases h'
  simp [Dn.mk.injEq]
theorem len_ne {α : Type} {a b : List α} (h : ((a.length : Int) != (b.length : Int)) = true) : a ≠ b := by
  rintro rfl; simp at h
theorem len_eq {α : Type} {a b : List α} (h : ((a.length : Int) != (b.length : Int)) = false) : a.length = b.length := by
  have : (a.length : Int) = b.length := by simpa using h
  omega
set_option maxHeartbeats 2000000 in
theorem equalH_ev (a b : List Hd) (hn : a.length ≤ lim) (nm : Nat) : Ev cx 39 nm [.sl false 6 (a.map hcells), .sl false 6 (b.map hcells)] Mem.nil (.bool (decide (a = b))) [] := by
  unfold lim at hn
  refine ev_go (fun cargs w => Try.call39 cargs w) Try.func39 rfl mixed (by kernel_rfl) rfl ?_; intro b0 hb0
  repeat (first | refine draw_end (by decide +kernel) ?_ | simp only [vcs, Nat.reduceAdd, Nat.reduceMul, Nat.reduceEqDiff, Nat.reduceLeDiff, Nat.reduceSub, Nat.reduceLT, Int.reduceToNat, Int.reduceLE, Int.reduceLT, Int.reduceAdd, Int.reduceSub, Int.reduceMul, Int.reduceNeg, reduceCtorEq, reduceIte, Int.reduceBEq, Int.reduceBNe, Int.reduceEq, Int.reduceNe, Nat.reduceBEq, Nat.reduceBNe, tys, plain_h, plain_d, List.length_map, List.getElem?_map, List.length_set])
  constructor
  · intro hb
    (refine Fin.pure ?_ ?_ ?_ <;> simp only [Try.results39, Try.ntmps39, vcs, Nat.reduceAdd, Nat.reduceMul, Nat.reduceEqDiff, Nat.reduceLeDiff, Nat.reduceSub, Nat.reduceLT, Int.reduceToNat, Int.reduceLE, Int.reduceLT, Int.reduceAdd, Int.reduceSub, Int.reduceMul, Int.reduceNeg, reduceCtorEq, reduceIte, Int.reduceBEq, Int.reduceBNe, Int.reduceEq, Int.reduceNe, Nat.reduceBEq, Nat.reduceBNe, tys, plain_h, plain_d, List.length_map, List.getElem?_map, List.length_set])
    rw [decide_eq_false (len_ne hb)]
  · intro hb
    have hl := len_eq hb
    refine loop_up a.length (JE hcells 6 a b) ?_ ?_
    · simp only [JE, Int.natCast_zero, vcs, Nat.reduceAdd, Nat.reduceMul, Nat.reduceEqDiff, Nat.reduceLeDiff, Nat.reduceSub, Nat.reduceLT, Int.reduceToNat, Int.reduceLE, Int.reduceLT, Int.reduceAdd, Int.reduceSub, Int.reduceMul, Int.reduceNeg, reduceCtorEq, reduceIte, Int.reduceBEq, Int.reduceBNe, Int.reduceEq, Int.reduceNe, Nat.reduceBEq, Nat.reduceBNe, tys, plain_h, plain_d, List.length_map, List.getElem?_map, List.length_set]
    · rintro k nm e M hk ⟨e0, e1, e12, e13, ht⟩
      by_cases hlt : k < a.length
      · have wk := wrap_up hlt (by omega)
        obtain ⟨h, hh⟩ : ∃ h, a[k]? = some h := ⟨_, List.getElem?_eq_getElem hlt⟩
        obtain ⟨h', hh'⟩ : ∃ h, b[k]? = some h := ⟨_, List.getElem?_eq_getElem (by omega)⟩
        have hlt' : k < b.length := by omega
        have hq := hEq h h'
        repeat (first | refine draw_end (by decide +kernel) ?_ | simp only [hh, hh', hcells, e0, e1, e12, e13, hlt, hlt', wk, hq, vcs, Nat.reduceAdd, Nat.reduceMul, Nat.reduceEqDiff, Nat.reduceLeDiff, Nat.reduceSub, Nat.reduceLT, Int.reduceToNat, Int.reduceLE, Int.reduceLT, Int.reduceAdd, Int.reduceSub, Int.reduceMul, Int.reduceNeg, reduceCtorEq, reduceIte, Int.reduceBEq, Int.reduceBNe, Int.reduceEq, Int.reduceNe, Nat.reduceBEq, Nat.reduceBNe, tys, plain_h, plain_d, List.length_map, List.getElem?_map, List.length_set])
        constructor
        · intro hb
          (refine Fin.pure ?_ ?_ ?_ <;> simp only [Try.results39, Try.ntmps39, vcs, Nat.reduceAdd, Nat.reduceMul, Nat.reduceEqDiff, Nat.reduceLeDiff, Nat.reduceSub, Nat.reduceLT, Int.reduceToNat, Int.reduceLE, Int.reduceLT, Int.reduceAdd, Int.reduceSub, Int.reduceMul, Int.reduceNeg, reduceCtorEq, reduceIte, Int.reduceBEq, Int.reduceBNe, Int.reduceEq, Int.reduceNe, Nat.reduceBEq, Nat.reduceBNe, tys, plain_h, plain_d, List.length_map, List.getElem?_map, List.length_set])
          have hne : h ≠ h' := by simpa using hb
          rw [decide_eq_false (take_ne hh hh' hne)]
        · intro hb
          have he : h = h' := by simpa using hb
          refine again_up hlt ?_
          simp only [JE, e0, e1, e12, e13, wk, vcs, Nat.reduceAdd, Nat.reduceMul, Nat.reduceEqDiff, Nat.reduceLeDiff, Nat.reduceSub, Nat.reduceLT, Int.reduceToNat, Int.reduceLE, Int.reduceLT, Int.reduceAdd, Int.reduceSub, Int.reduceMul, Int.reduceNeg, reduceCtorEq, reduceIte, Int.reduceBEq, Int.reduceBNe, Int.reduceEq, Int.reduceNe, Nat.reduceBEq, Nat.reduceBNe, tys, plain_h, plain_d, List.length_map, List.getElem?_map, List.length_set]
          exact (take_snoc_eq hh hh' ht).2 he
      · have hke : k = a.length := by omega
        subst hke
        repeat (first | refine draw_end (by decide +kernel) ?_ | simp only [e0, e1, e12, e13, vcs, Nat.reduceAdd, Nat.reduceMul, Nat.reduceEqDiff, Nat.reduceLeDiff, Nat.reduceSub, Nat.reduceLT, Int.reduceToNat, Int.reduceLE, Int.reduceLT, Int.reduceAdd, Int.reduceSub, Int.reduceMul, Int.reduceNeg, reduceCtorEq, reduceIte, Int.reduceBEq, Int.reduceBNe, Int.reduceEq, Int.reduceNe, Nat.reduceBEq, Nat.reduceBNe, tys, plain_h, plain_d, List.length_map, List.getElem?_map, List.length_set])
        (refine Fin.pure ?_ ?_ ?_ <;> simp only [Try.results39, Try.ntmps39, vcs, Nat.reduceAdd, Nat.reduceMul, Nat.reduceEqDiff, Nat.reduceLeDiff, Nat.reduceSub, Nat.reduceLT, Int.reduceToNat, Int.reduceLE, Int.reduceLT, Int.reduceAdd, Int.reduceSub, Int.reduceMul, Int.reduceNeg, reduceCtorEq, reduceIte, Int.reduceBEq, Int.reduceBNe, Int.reduceEq, Int.reduceNe, Nat.reduceBEq, Nat.reduceBNe, tys, plain_h, plain_d, List.length_map, List.getElem?_map, List.length_set])
        rw [decide_eq_true (by rw [List.take_length, hl, List.take_length] at ht; exact ht)]
set_option maxHeartbeats 2000000 in
theorem equalD_ev (a b : List Dn) (hn : a.length ≤ lim) (nm : Nat) : Ev cx 40 nm [.sl false 4 (a.map dcells), .sl false 4 (b.map dcells)] Mem.nil (.bool (decide (a = b))) [] := by
  unfold lim at hn
  refine ev_go (fun cargs w => Try.call40 cargs w) Try.func40 rfl mixed (by kernel_rfl) rfl ?_; intro b0 hb0
  repeat (first | refine draw_end (by decide +kernel) ?_ | simp only [vcs, Nat.reduceAdd, Nat.reduceMul, Nat.reduceEqDiff, Nat.reduceLeDiff, Nat.reduceSub, Nat.reduceLT, Int.reduceToNat, Int.reduceLE, Int.reduceLT, Int.reduceAdd, Int.reduceSub, Int.reduceMul, Int.reduceNeg, reduceCtorEq, reduceIte, Int.reduceBEq, Int.reduceBNe, Int.reduceEq, Int.reduceNe, Nat.reduceBEq, Nat.reduceBNe, tys, plain_h, plain_d, List.length_map, List.getElem?_map, List.length_set])
  constructor
  · intro hb
    (refine Fin.pure ?_ ?_ ?_ <;> simp only [Try.results40, Try.ntmps40, vcs, Nat.reduceAdd, Nat.reduceMul, Nat.reduceEqDiff, Nat.reduceLeDiff, Nat.reduceSub, Nat.reduceLT, Int.reduceToNat, Int.reduceLE, Int.reduceLT, Int.reduceAdd, Int.reduceSub, Int.reduceMul, Int.reduceNeg, reduceCtorEq, reduceIte, Int.reduceBEq, Int.reduceBNe, Int.reduceEq, Int.reduceNe, Nat.reduceBEq, Nat.reduceBNe, tys, plain_h, plain_d, List.length_map, List.getElem?_map, List.length_set])
    rw [decide_eq_false (len_ne hb)]
  · intro hb
    have hl := len_eq hb
    refine loop_up a.length (JE dcells 4 a b) ?_ ?_
    · simp only [JE, Int.natCast_zero, vcs, Nat.reduceAdd, Nat.reduceMul, Nat.reduceEqDiff, Nat.reduceLeDiff, Nat.reduceSub, Nat.reduceLT, Int.reduceToNat, Int.reduceLE, Int.reduceLT, Int.reduceAdd, Int.reduceSub, Int.reduceMul, Int.reduceNeg, reduceCtorEq, reduceIte, Int.reduceBEq, Int.reduceBNe, Int.reduceEq, Int.reduceNe, Nat.reduceBEq, Nat.reduceBNe, tys, plain_h, plain_d, List.length_map, List.getElem?_map, List.length_set]
    · rintro k nm e M hk ⟨e0, e1, e12, e13, ht⟩
      by_cases hlt : k < a.length
      · have wk := wrap_up hlt (by omega)
        obtain ⟨h, hh⟩ : ∃ h, a[k]? = some h := ⟨_, List.getElem?_eq_getElem hlt⟩
        obtain ⟨h', hh'⟩ : ∃ h, b[k]? = some h := ⟨_, List.getElem?_eq_getElem (by omega)⟩
        have hlt' : k < b.length := by omega
        have hq := dEq h h'
        repeat (first | refine draw_end (by decide +kernel) ?_ | simp only [hh, hh', dcells, e0, e1, e12, e13, hlt, hlt', wk, hq, vcs, Nat.reduceAdd, Nat.reduceMul, Nat.reduceEqDiff, Nat.reduceLeDiff, Nat.reduceSub, Nat.reduceLT, Int.reduceToNat, Int.reduceLE, Int.reduceLT, Int.reduceAdd, Int.reduceSub, Int.reduceMul, Int.reduceNeg, reduceCtorEq, reduceIte, Int.reduceBEq, Int.reduceBNe, Int.reduceEq, Int.reduceNe, Nat.reduceBEq, Nat.reduceBNe, tys, plain_h, plain_d, List.length_map, List.getElem?_map, List.length_set])
        constructor
        · intro hb
          (refine Fin.pure ?_ ?_ ?_ <;> simp only [Try.results40, Try.ntmps40, vcs, Nat.reduceAdd, Nat.reduceMul, Nat.reduceEqDiff, Nat.reduceLeDiff, Nat.reduceSub, Nat.reduceLT, Int.reduceToNat, Int.reduceLE, Int.reduceLT, Int.reduceAdd, Int.reduceSub, Int.reduceMul, Int.reduceNeg, reduceCtorEq, reduceIte, Int.reduceBEq, Int.reduceBNe, Int.reduceEq, Int.reduceNe, Nat.reduceBEq, Nat.reduceBNe, tys, plain_h, plain_d, List.length_map, List.getElem?_map, List.length_set])
          have hne : h ≠ h' := by simpa using hb
          rw [decide_eq_false (take_ne hh hh' hne)]
        · intro hb
          have he : h = h' := by simpa using hb
          refine again_up hlt ?_
          simp only [JE, e0, e1, e12, e13, wk, vcs, Nat.reduceAdd, Nat.reduceMul, Nat.reduceEqDiff, Nat.reduceLeDiff, Nat.reduceSub, Nat.reduceLT, Int.reduceToNat, Int.reduceLE, Int.reduceLT, Int.reduceAdd, Int.reduceSub, Int.reduceMul, Int.reduceNeg, reduceCtorEq, reduceIte, Int.reduceBEq, Int.reduceBNe, Int.reduceEq, Int.reduceNe, Nat.reduceBEq, Nat.reduceBNe, tys, plain_h, plain_d, List.length_map, List.getElem?_map, List.length_set]
          exact (take_snoc_eq hh hh' ht).2 he
      · have hke : k = a.length := by omega
        subst hke
        repeat (first | refine draw_end (by decide +kernel) ?_ | simp only [e0, e1, e12, e13, vcs, Nat.reduceAdd, Nat.reduceMul, Nat.reduceEqDiff, Nat.reduceLeDiff, Nat.reduceSub, Nat.reduceLT, Int.reduceToNat, Int.reduceLE, Int.reduceLT, Int.reduceAdd, Int.reduceSub, Int.reduceMul, Int.reduceNeg, reduceCtorEq, reduceIte, Int.reduceBEq, Int.reduceBNe, Int.reduceEq, Int.reduceNe, Nat.reduceBEq, Nat.reduceBNe, tys, plain_h, plain_d, List.length_map, List.getElem?_map, List.length_set])
        (refine Fin.pure ?_ ?_ ?_ <;> simp only [Try.results40, Try.ntmps40, vcs, Nat.reduceAdd, Nat.reduceMul, Nat.reduceEqDiff, Nat.reduceLeDiff, Nat.reduceSub, Nat.reduceLT, Int.reduceToNat, Int.reduceLE, Int.reduceLT, Int.reduceAdd, Int.reduceSub, Int.reduceMul, Int.reduceNeg, reduceCtorEq, reduceIte, Int.reduceBEq, Int.reduceBNe, Int.reduceEq, Int.reduceNe, Nat.reduceBEq, Nat.reduceBNe, tys, plain_h, plain_d, List.length_map, List.getElem?_map, List.length_set])
        rw [decide_eq_true (by rw [List.take_length, hl, List.take_length] at ht; exact ht)]
theorem deskEq (d o : Desk) : (decide (d.held = o.held) && decide (d.done = o.done) && d.top == o.top && d.size == o.size) = decide (d = o) := by
  rw [Bool.eq_iff_iff]
  cases d; cases o
  simp [Desk.mk.injEq, and_assoc]
set_option maxHeartbeats 2000000 in
theorem same_ev (d o : Desk) (hn : d.held.length ≤ lim) (hm : d.done.length ≤ lim) (nm : Nat) : Ev cx 19 nm [deskV d, deskV o] Mem.nil (.bool (decide (d = o))) [] := by
  refine ev_go (fun cargs w => Try.call19 cargs w) Try.func19 rfl mixed (by kernel_rfl) rfl ?_; intro b0 hb0
  simp only [deskV]
  repeat (first | refine draw_end (by decide +kernel) ?_ | simp only [vcs, Nat.reduceAdd, Nat.reduceMul, Nat.reduceEqDiff, Nat.reduceLeDiff, Nat.reduceSub, Nat.reduceLT, Int.reduceToNat, Int.reduceLE, Int.reduceLT, Int.reduceAdd, Int.reduceSub, Int.reduceMul, Int.reduceNeg, reduceCtorEq, reduceIte, Int.reduceBEq, Int.reduceBNe, Int.reduceEq, Int.reduceNe, Nat.reduceBEq, Nat.reduceBNe, tys, plain_h, plain_d, List.length_map, List.getElem?_map, List.length_set])
  refine call_fn (by simp only [vcs, Nat.reduceAdd, Nat.reduceMul, Nat.reduceEqDiff, Nat.reduceLeDiff, Nat.reduceSub, Nat.reduceLT, Int.reduceToNat, Int.reduceLE, Int.reduceLT, Int.reduceAdd, Int.reduceSub, Int.reduceMul, Int.reduceNeg, reduceCtorEq, reduceIte, Int.reduceBEq, Int.reduceBNe, Int.reduceEq, Int.reduceNe, Nat.reduceBEq, Nat.reduceBNe, tys, plain_h, plain_d, List.length_map, List.getElem?_map, List.length_set] <;> rfl) (equalH_ev d.held o.held hn _) ?_
  repeat (first | refine draw_end (by decide +kernel) ?_ | simp only [vcs, Nat.reduceAdd, Nat.reduceMul, Nat.reduceEqDiff, Nat.reduceLeDiff, Nat.reduceSub, Nat.reduceLT, Int.reduceToNat, Int.reduceLE, Int.reduceLT, Int.reduceAdd, Int.reduceSub, Int.reduceMul, Int.reduceNeg, reduceCtorEq, reduceIte, Int.reduceBEq, Int.reduceBNe, Int.reduceEq, Int.reduceNe, Nat.reduceBEq, Nat.reduceBNe, tys, plain_h, plain_d, List.length_map, List.getElem?_map, List.length_set])
  refine call_fn_g (by simp only [vcs, Nat.reduceAdd, Nat.reduceMul, Nat.reduceEqDiff, Nat.reduceLeDiff, Nat.reduceSub, Nat.reduceLT, Int.reduceToNat, Int.reduceLE, Int.reduceLT, Int.reduceAdd, Int.reduceSub, Int.reduceMul, Int.reduceNeg, reduceCtorEq, reduceIte, Int.reduceBEq, Int.reduceBNe, Int.reduceEq, Int.reduceNe, Nat.reduceBEq, Nat.reduceBNe, tys, plain_h, plain_d, List.length_map, List.getElem?_map, List.length_set] <;> rfl) (fun _ => equalD_ev d.done o.done hm _) ?_
  repeat (first | refine draw_end (by decide +kernel) ?_ | simp only [vcs, Nat.reduceAdd, Nat.reduceMul, Nat.reduceEqDiff, Nat.reduceLeDiff, Nat.reduceSub, Nat.reduceLT, Int.reduceToNat, Int.reduceLE, Int.reduceLT, Int.reduceAdd, Int.reduceSub, Int.reduceMul, Int.reduceNeg, reduceCtorEq, reduceIte, Int.reduceBEq, Int.reduceBNe, Int.reduceEq, Int.reduceNe, Nat.reduceBEq, Nat.reduceBNe, tys, plain_h, plain_d, List.length_map, List.getElem?_map, List.length_set])
  (refine Fin.pure ?_ ?_ ?_ <;> simp only [Try.results19, Try.ntmps19, vcs, Nat.reduceAdd, Nat.reduceMul, Nat.reduceEqDiff, Nat.reduceLeDiff, Nat.reduceSub, Nat.reduceLT, Int.reduceToNat, Int.reduceLE, Int.reduceLT, Int.reduceAdd, Int.reduceSub, Int.reduceMul, Int.reduceNeg, reduceCtorEq, reduceIte, Int.reduceBEq, Int.reduceBNe, Int.reduceEq, Int.reduceNe, Nat.reduceBEq, Nat.reduceBNe, tys, plain_h, plain_d, List.length_map, List.getElem?_map, List.length_set])
  rw [deskEq]
def JS1 (d o : Desk) (b : Nat) (k nm : Nat) (e : Env) (M : Mem) : Prop := e 2 = .ptr b 0 0 ∧ M b = some ⟨4, [deskRow d]⟩ ∧ e 3 = .ptr (b + 16) 0 0 ∧ M (b + 16) = some ⟨4, [deskRow o]⟩ ∧ e 5 = .int .i64 k ∧ d.held.take k = o.held.take k
def JS2 (d o : Desk) (b : Nat) (k nm : Nat) (e : Env) (M : Mem) : Prop := e 2 = .ptr b 0 0 ∧ M b = some ⟨4, [deskRow d]⟩ ∧ e 3 = .ptr (b + 16) 0 0 ∧ M (b + 16) = some ⟨4, [deskRow o]⟩ ∧ e 6 = .int .i64 k ∧ d.done.take k = o.done.take k
set_option maxHeartbeats 2000000 in
theorem refSame_ev (d o : Desk) (hn : d.held.length ≤ lim) (hm : d.done.length ≤ lim) (nm : Nat) : Ev cx 16 nm [deskV d, deskV o] Mem.nil (.bool (decide (d = o))) [] := by
  unfold lim at hn hm
  refine ev_go (fun cargs w => Try.call16 cargs w) Try.func16 rfl mixed (by kernel_rfl) rfl ?_; intro b0 hb0
  simp only [deskV]
  repeat (first | refine draw_end (by decide +kernel) ?_ | simp only [vcs, Nat.reduceAdd, Nat.reduceMul, Nat.reduceEqDiff, Nat.reduceLeDiff, Nat.reduceSub, Nat.reduceLT, Int.reduceToNat, Int.reduceLE, Int.reduceLT, Int.reduceAdd, Int.reduceSub, Int.reduceMul, Int.reduceNeg, reduceCtorEq, reduceIte, Int.reduceBEq, Int.reduceBNe, Int.reduceEq, Int.reduceNe, Nat.reduceBEq, Nat.reduceBNe, tys, plain_h, plain_d, List.length_map, List.getElem?_map, List.length_set])
  constructor
  · intro hb
    (refine Fin.pure ?_ ?_ ?_ <;> simp only [Try.results16, Try.ntmps16, vcs, Nat.reduceAdd, Nat.reduceMul, Nat.reduceEqDiff, Nat.reduceLeDiff, Nat.reduceSub, Nat.reduceLT, Int.reduceToNat, Int.reduceLE, Int.reduceLT, Int.reduceAdd, Int.reduceSub, Int.reduceMul, Int.reduceNeg, reduceCtorEq, reduceIte, Int.reduceBEq, Int.reduceBNe, Int.reduceEq, Int.reduceNe, Nat.reduceBEq, Nat.reduceBNe, tys, plain_h, plain_d, List.length_map, List.getElem?_map, List.length_set])
    have hne : d ≠ o := by rintro rfl; simp at hb
    rw [decide_eq_false hne]
  · intro hb
    have hh : d.held.length = o.held.length ∧ d.done.length = o.done.length ∧ d.top = o.top ∧ d.size = o.size := by
      simp only [Bool.or_eq_false_iff] at hb
      obtain ⟨⟨⟨g1, g2⟩, g3⟩, g4⟩ := hb
      exact ⟨len_eq g1, len_eq g2, by simpa using g3, by simpa using g4⟩
    obtain ⟨l1, l2, l3, l4⟩ := hh
    refine loop_up d.held.length (JS1 d o b0) ?_ ?_
    · simp only [JS1, deskRow, Int.natCast_zero, vcs, Nat.reduceAdd, Nat.reduceMul, Nat.reduceEqDiff, Nat.reduceLeDiff, Nat.reduceSub, Nat.reduceLT, Int.reduceToNat, Int.reduceLE, Int.reduceLT, Int.reduceAdd, Int.reduceSub, Int.reduceMul, Int.reduceNeg, reduceCtorEq, reduceIte, Int.reduceBEq, Int.reduceBNe, Int.reduceEq, Int.reduceNe, Nat.reduceBEq, Nat.reduceBNe, tys, plain_h, plain_d, List.length_map, List.getElem?_map, List.length_set]
    · rintro k nm e M hk ⟨e2, hM, e3, hM2, e5, ht⟩
      by_cases hlt : k < d.held.length
      · have wk := wrap_up hlt (by omega)
        obtain ⟨h, hh⟩ : ∃ h, d.held[k]? = some h := ⟨_, List.getElem?_eq_getElem hlt⟩
        obtain ⟨h', hh'⟩ : ∃ h, o.held[k]? = some h := ⟨_, List.getElem?_eq_getElem (by omega)⟩
        have hlt' : k < o.held.length := by omega
        have hq := hEq h h'
        repeat (first | refine draw_end (by decide +kernel) ?_ | simp only [hh, hh', hcells, deskRow, e2, hM, e3, hM2, e5, hlt, hlt', wk, hq, vcs, Nat.reduceAdd, Nat.reduceMul, Nat.reduceEqDiff, Nat.reduceLeDiff, Nat.reduceSub, Nat.reduceLT, Int.reduceToNat, Int.reduceLE, Int.reduceLT, Int.reduceAdd, Int.reduceSub, Int.reduceMul, Int.reduceNeg, reduceCtorEq, reduceIte, Int.reduceBEq, Int.reduceBNe, Int.reduceEq, Int.reduceNe, Nat.reduceBEq, Nat.reduceBNe, tys, plain_h, plain_d, List.length_map, List.getElem?_map, List.length_set])
        constructor
        · intro hb
          (refine Fin.pure ?_ ?_ ?_ <;> simp only [Try.results16, Try.ntmps16, vcs, Nat.reduceAdd, Nat.reduceMul, Nat.reduceEqDiff, Nat.reduceLeDiff, Nat.reduceSub, Nat.reduceLT, Int.reduceToNat, Int.reduceLE, Int.reduceLT, Int.reduceAdd, Int.reduceSub, Int.reduceMul, Int.reduceNeg, reduceCtorEq, reduceIte, Int.reduceBEq, Int.reduceBNe, Int.reduceEq, Int.reduceNe, Nat.reduceBEq, Nat.reduceBNe, tys, plain_h, plain_d, List.length_map, List.getElem?_map, List.length_set])
          have hne : h ≠ h' := by simpa using hb
          have hne2 : d ≠ o := by rintro rfl; exact take_ne hh hh' hne rfl
          rw [decide_eq_false hne2]
        · intro hb
          have he : h = h' := by simpa using hb
          refine again_up hlt ?_
          simp only [JS1, deskRow, e2, hM, e3, hM2, e5, wk, vcs, Nat.reduceAdd, Nat.reduceMul, Nat.reduceEqDiff, Nat.reduceLeDiff, Nat.reduceSub, Nat.reduceLT, Int.reduceToNat, Int.reduceLE, Int.reduceLT, Int.reduceAdd, Int.reduceSub, Int.reduceMul, Int.reduceNeg, reduceCtorEq, reduceIte, Int.reduceBEq, Int.reduceBNe, Int.reduceEq, Int.reduceNe, Nat.reduceBEq, Nat.reduceBNe, tys, plain_h, plain_d, List.length_map, List.getElem?_map, List.length_set]
          exact (take_snoc_eq hh hh' ht).2 he
      · have hke : k = d.held.length := by omega
        subst hke
        have heq : d.held = o.held := by rw [List.take_length, l1, List.take_length] at ht; exact ht
        repeat (first | refine draw_end (by decide +kernel) ?_ | simp only [deskRow, e2, hM, e3, hM2, e5, vcs, Nat.reduceAdd, Nat.reduceMul, Nat.reduceEqDiff, Nat.reduceLeDiff, Nat.reduceSub, Nat.reduceLT, Int.reduceToNat, Int.reduceLE, Int.reduceLT, Int.reduceAdd, Int.reduceSub, Int.reduceMul, Int.reduceNeg, reduceCtorEq, reduceIte, Int.reduceBEq, Int.reduceBNe, Int.reduceEq, Int.reduceNe, Nat.reduceBEq, Nat.reduceBNe, tys, plain_h, plain_d, List.length_map, List.getElem?_map, List.length_set])
        refine loop_up d.done.length (JS2 d o b0) ?_ ?_
        · simp only [JS2, deskRow, e2, hM, e3, hM2, e5, Int.natCast_zero, vcs, Nat.reduceAdd, Nat.reduceMul, Nat.reduceEqDiff, Nat.reduceLeDiff, Nat.reduceSub, Nat.reduceLT, Int.reduceToNat, Int.reduceLE, Int.reduceLT, Int.reduceAdd, Int.reduceSub, Int.reduceMul, Int.reduceNeg, reduceCtorEq, reduceIte, Int.reduceBEq, Int.reduceBNe, Int.reduceEq, Int.reduceNe, Nat.reduceBEq, Nat.reduceBNe, tys, plain_h, plain_d, List.length_map, List.getElem?_map, List.length_set]
        · clear e2 hM e3 hM2 e5 ht hlt hk
          rintro k nm e M hk ⟨e2, hM, e3, hM2, e6, ht⟩
          by_cases hlt : k < d.done.length
          · have wk := wrap_up hlt (by omega)
            obtain ⟨h, hh⟩ : ∃ h, d.done[k]? = some h := ⟨_, List.getElem?_eq_getElem hlt⟩
            obtain ⟨h', hh'⟩ : ∃ h, o.done[k]? = some h := ⟨_, List.getElem?_eq_getElem (by omega)⟩
            have hlt' : k < o.done.length := by omega
            have hq := dEq h h'
            repeat (first | refine draw_end (by decide +kernel) ?_ | simp only [hh, hh', dcells, deskRow, e2, hM, e3, hM2, e6, hlt, hlt', wk, hq, vcs, Nat.reduceAdd, Nat.reduceMul, Nat.reduceEqDiff, Nat.reduceLeDiff, Nat.reduceSub, Nat.reduceLT, Int.reduceToNat, Int.reduceLE, Int.reduceLT, Int.reduceAdd, Int.reduceSub, Int.reduceMul, Int.reduceNeg, reduceCtorEq, reduceIte, Int.reduceBEq, Int.reduceBNe, Int.reduceEq, Int.reduceNe, Nat.reduceBEq, Nat.reduceBNe, tys, plain_h, plain_d, List.length_map, List.getElem?_map, List.length_set])
            constructor
            · intro hb
              (refine Fin.pure ?_ ?_ ?_ <;> simp only [Try.results16, Try.ntmps16, vcs, Nat.reduceAdd, Nat.reduceMul, Nat.reduceEqDiff, Nat.reduceLeDiff, Nat.reduceSub, Nat.reduceLT, Int.reduceToNat, Int.reduceLE, Int.reduceLT, Int.reduceAdd, Int.reduceSub, Int.reduceMul, Int.reduceNeg, reduceCtorEq, reduceIte, Int.reduceBEq, Int.reduceBNe, Int.reduceEq, Int.reduceNe, Nat.reduceBEq, Nat.reduceBNe, tys, plain_h, plain_d, List.length_map, List.getElem?_map, List.length_set])
              have hne : h ≠ h' := by simpa using hb
              have hne2 : d ≠ o := by rintro rfl; exact take_ne hh hh' hne rfl
              rw [decide_eq_false hne2]
            · intro hb
              have he : h = h' := by simpa using hb
              refine again_up hlt ?_
              simp only [JS2, deskRow, e2, hM, e3, hM2, e6, wk, vcs, Nat.reduceAdd, Nat.reduceMul, Nat.reduceEqDiff, Nat.reduceLeDiff, Nat.reduceSub, Nat.reduceLT, Int.reduceToNat, Int.reduceLE, Int.reduceLT, Int.reduceAdd, Int.reduceSub, Int.reduceMul, Int.reduceNeg, reduceCtorEq, reduceIte, Int.reduceBEq, Int.reduceBNe, Int.reduceEq, Int.reduceNe, Nat.reduceBEq, Nat.reduceBNe, tys, plain_h, plain_d, List.length_map, List.getElem?_map, List.length_set]
              exact (take_snoc_eq hh hh' ht).2 he
          · have hke : k = d.done.length := by omega
            subst hke
            have heq2 : d.done = o.done := by rw [List.take_length, l2, List.take_length] at ht; exact ht
            have hde : d = o := by cases d; cases o; simp_all
            repeat (first | refine draw_end (by decide +kernel) ?_ | simp only [deskRow, e2, hM, e3, hM2, e6, vcs, Nat.reduceAdd, Nat.reduceMul, Nat.reduceEqDiff, Nat.reduceLeDiff, Nat.reduceSub, Nat.reduceLT, Int.reduceToNat, Int.reduceLE, Int.reduceLT, Int.reduceAdd, Int.reduceSub, Int.reduceMul, Int.reduceNeg, reduceCtorEq, reduceIte, Int.reduceBEq, Int.reduceBNe, Int.reduceEq, Int.reduceNe, Nat.reduceBEq, Nat.reduceBNe, tys, plain_h, plain_d, List.length_map, List.getElem?_map, List.length_set])
            (refine Fin.pure ?_ ?_ ?_ <;> simp only [Try.results16, Try.ntmps16, vcs, Nat.reduceAdd, Nat.reduceMul, Nat.reduceEqDiff, Nat.reduceLeDiff, Nat.reduceSub, Nat.reduceLT, Int.reduceToNat, Int.reduceLE, Int.reduceLT, Int.reduceAdd, Int.reduceSub, Int.reduceMul, Int.reduceNeg, reduceCtorEq, reduceIte, Int.reduceBEq, Int.reduceBNe, Int.reduceEq, Int.reduceNe, Nat.reduceBEq, Nat.reduceBNe, tys, plain_h, plain_d, List.length_map, List.getElem?_map, List.length_set])
            rw [decide_eq_true hde]
end Go.Proofs.Ytdbbnhmnlgfjoaa
/-
  Layer 28: desks are written over.
-/
namespace Go.Proofs.Ytdbbnhmnlgfjoaa
set_option linter.unusedSimpArgs false
set_option linter.unusedVariables false
open Go Go.RowKit Go.Proofs.Ytdbbnhmnlgfjoaa.Vm

theorem newName_id {l : List Nat} {x : Nat} (h : x ∈ l) : newName (l.map fun y => (y, y)) x = some x := by
  induction l with
  | nil => cases h
  | cons a r ih =>
    rw [List.map_cons, newName_cons]
    by_cases e : a = x
    · subst e; simp
    · rw [if_neg e]; exact ih ((List.mem_cons.1 h).resolve_left (fun h => e h.symm))
/-- A function that writes blocks that it was given, and hands back no others. -/
theorem Fin.keep {N : Nat} {rs : List ResultVar} {nm : Nat} {M0 : Mem} {v : V} {eff : List (Nat × Option Blk)} {b0 n : Nat} {e : Env} {M : Mem} (l : List Nat) (h1 : resOk cx.P N rs e M) (h2 : (resV cx.P rs e M).finOk (l.map fun y => (y, y)) M) (h3 : ((resV cx.P rs e M).fin (l.map fun y => (y, y)) M).le v)
    (h4 : (l.map fun x => (x, M x)) = eff) (hn : l.Nodup) (h5 : ∀ x ∈ l, (M0 x).isSome = true ∧ (M x).isSome = true ∧ plainLL (rowsOf M x) = true) (h6 : ∀ x, (M0 x).isSome = true → x ∈ l) : FinG cx N rs nm M0 v eff b0 n e M := by
  refine ⟨[], h1, l.map (fun y => (y, y)), h2, h3, ?_, ?_, ?_, ?_, ?_⟩
  · rw [← h4]; simp [Mem.ghosts]
  · rw [List.map_map, show ((fun p : Nat × Nat => p.1) ∘ fun y => (y, y)) = id from rfl, List.map_id]; exact hn
  · rw [List.map_map, show ((fun p : Nat × Nat => p.2) ∘ fun y => (y, y)) = id from rfl, List.map_id]; exact hn
  · intro p hp
    obtain ⟨x, hx, rfl⟩ := List.mem_map.1 hp
    obtain ⟨g1, g2, g3⟩ := h5 x hx
    refine ⟨.inl ⟨rfl, g1⟩, ?_⟩
    obtain ⟨k, hk⟩ := Option.isSome_iff_exists.1 g2
    exact ⟨k, hk, by simpa [rowsOf, hk] using g3⟩
  · intro x hx; simpa using h6 x hx
theorem below_of {M : Mem} {b0 x : Nat} (h : ∀ z, b0 ≤ z → M z = none) (hx : (M x).isSome = true) : x < b0 := by
  rcases Nat.lt_or_ge x b0 with h1 | h1
  · exact h1
  · rw [h x h1] at hx; cases hx
/-- A contract whose arguments are known better. -/
theorem Ev.args_le {f : FuncId} {nm : Nat} {xs ys : List V} {M : Mem} {v : V} {eff : List (Nat × Option Blk)} (h : Ev cx f nm ys M v eff) (hle : leL xs ys) : Ev cx f nm xs M v eff := by
  obtain ⟨h1, h2⟩ := leL_get hle
  refine ⟨h.1, fun X w ρ cargs B hr hfr hB hn hargs => h.2 X w ρ cargs B hr hfr hB (by omega) (fun i u cv hi hc => ?_)⟩
  obtain ⟨u', h3, h4⟩ := h2 i u hi
  exact (hargs i u' cv h3 hc).le u h4
def overH (h : Hd) : Hd := { h with rid := -7 }
def overD (h : Dn) : Dn := { h with rid := -7 }
theorem spoil_nil (nm : Nat) : Ev cx 20 nm [.agg [.nils, .nils, .int .i64 0, .int .i64 0]] Mem.nil (.tup []) [] := by
  refine ev_go (fun cargs w => Try.call20 cargs w) Try.func20 rfl mixed (by kernel_rfl) rfl ?_; intro b0 hb0
  repeat (first | refine draw_end (by decide +kernel) ?_ | simp only [vcs, Nat.reduceAdd, Nat.reduceMul, Nat.reduceEqDiff, Nat.reduceLeDiff, Nat.reduceSub, Nat.reduceLT, Int.reduceToNat, Int.reduceLE, Int.reduceLT, Int.reduceAdd, Int.reduceSub, Int.reduceMul, Int.reduceNeg, reduceCtorEq, reduceIte, Int.reduceBEq, Int.reduceBNe, Int.reduceEq, Int.reduceNe, Nat.reduceBEq, Nat.reduceBNe, tys, plain_h, plain_d, List.length_map, List.getElem?_map, List.length_set, updTo_length])
  refine loop_up 0 (fun _ _ e M => e 1 = .ptr b0 0 0 ∧ M b0 = some ⟨4, [[.nils, .nils, .int .i64 0, .int .i64 0]]⟩ ∧ e 2 = .int .i64 0) ?_ ?_
  · simp only [vcs, Nat.reduceAdd, Nat.reduceMul, Nat.reduceEqDiff, Nat.reduceLeDiff, Nat.reduceSub, Nat.reduceLT, Int.reduceToNat, Int.reduceLE, Int.reduceLT, Int.reduceAdd, Int.reduceSub, Int.reduceMul, Int.reduceNeg, reduceCtorEq, reduceIte, Int.reduceBEq, Int.reduceBNe, Int.reduceEq, Int.reduceNe, Nat.reduceBEq, Nat.reduceBNe, tys, plain_h, plain_d, List.length_map, List.getElem?_map, List.length_set, updTo_length]
  · rintro k nm e M hk ⟨e1, hM, e2⟩
    repeat (first | refine draw_end (by decide +kernel) ?_ | simp only [e1, hM, e2, vcs, Nat.reduceAdd, Nat.reduceMul, Nat.reduceEqDiff, Nat.reduceLeDiff, Nat.reduceSub, Nat.reduceLT, Int.reduceToNat, Int.reduceLE, Int.reduceLT, Int.reduceAdd, Int.reduceSub, Int.reduceMul, Int.reduceNeg, reduceCtorEq, reduceIte, Int.reduceBEq, Int.reduceBNe, Int.reduceEq, Int.reduceNe, Nat.reduceBEq, Nat.reduceBNe, tys, plain_h, plain_d, List.length_map, List.getElem?_map, List.length_set, updTo_length])
    refine loop_up 0 (fun _ _ e M => e 1 = .ptr b0 0 0 ∧ M b0 = some ⟨4, [[.nils, .nils, .int .i64 0, .int .i64 0]]⟩ ∧ e 3 = .int .i64 0) ?_ ?_
    · simp only [e1, hM, vcs, Nat.reduceAdd, Nat.reduceMul, Nat.reduceEqDiff, Nat.reduceLeDiff, Nat.reduceSub, Nat.reduceLT, Int.reduceToNat, Int.reduceLE, Int.reduceLT, Int.reduceAdd, Int.reduceSub, Int.reduceMul, Int.reduceNeg, reduceCtorEq, reduceIte, Int.reduceBEq, Int.reduceBNe, Int.reduceEq, Int.reduceNe, Nat.reduceBEq, Nat.reduceBNe, tys, plain_h, plain_d, List.length_map, List.getElem?_map, List.length_set, updTo_length]
    · clear e1 hM e2
      rintro k nm e M hk ⟨e1, hM, e3⟩
      repeat (first | refine draw_end (by decide +kernel) ?_ | simp only [e1, hM, e3, vcs, Nat.reduceAdd, Nat.reduceMul, Nat.reduceEqDiff, Nat.reduceLeDiff, Nat.reduceSub, Nat.reduceLT, Int.reduceToNat, Int.reduceLE, Int.reduceLT, Int.reduceAdd, Int.reduceSub, Int.reduceMul, Int.reduceNeg, reduceCtorEq, reduceIte, Int.reduceBEq, Int.reduceBNe, Int.reduceEq, Int.reduceNe, Nat.reduceBEq, Nat.reduceBNe, tys, plain_h, plain_d, List.length_map, List.getElem?_map, List.length_set, updTo_length])
      (refine Fin.pure ?_ ?_ ?_ <;> simp only [Try.results20, Try.ntmps20, vcs, Nat.reduceAdd, Nat.reduceMul, Nat.reduceEqDiff, Nat.reduceLeDiff, Nat.reduceSub, Nat.reduceLT, Int.reduceToNat, Int.reduceLE, Int.reduceLT, Int.reduceAdd, Int.reduceSub, Int.reduceMul, Int.reduceNeg, reduceCtorEq, reduceIte, Int.reduceBEq, Int.reduceBNe, Int.reduceEq, Int.reduceNe, Nat.reduceBEq, Nat.reduceBNe, tys, plain_h, plain_d, List.length_map, List.getElem?_map, List.length_set, updTo_length])
def JP1 (d : Desk) (b x y : Nat) (k nm : Nat) (e : Env) (M : Mem) : Prop := e 1 = .ptr b 0 0 ∧ M b = some ⟨4, [ownRow x y d]⟩ ∧ M x = some ⟨6, (updTo overH k d.held).map hcells⟩ ∧ M y = some ⟨4, d.done.map dcells⟩ ∧ e 2 = .int .i64 k
def JP2 (d : Desk) (b x y : Nat) (k nm : Nat) (e : Env) (M : Mem) : Prop := e 1 = .ptr b 0 0 ∧ M b = some ⟨4, [ownRow x y d]⟩ ∧ M x = some ⟨6, (d.held.map overH).map hcells⟩ ∧ M y = some ⟨4, (updTo overD k d.done).map dcells⟩ ∧ e 3 = .int .i64 k
set_option maxHeartbeats 2000000 in
theorem spoil_own (d : Desk) (hn : d.held.length ≤ 1000) (hm : d.done.length ≤ 1000) (x y : Nat) (hxy : x ≠ y) (M : Mem) (hx : M x = some ⟨6, d.held.map hcells⟩) (hy : M y = some ⟨4, d.done.map dcells⟩) (hz : ∀ z, (M z).isSome = true → z ∈ [x, y]) (nm : Nat) :
    Ev cx 20 nm [.agg [.own x 0 d.held.length, .own y 0 d.done.length, .int .i64 d.top, .int .i64 d.size]] M (.tup []) [(x, some ⟨6, (d.held.map overH).map hcells⟩), (y, some ⟨4, (d.done.map overD).map dcells⟩)] := by
  refine ev_go (fun cargs w => Try.call20 cargs w) Try.func20 rfl mixed (by kernel_rfl) rfl ?_; intro b0 hb0
  have lx : x < b0 := below_of hb0 (by rw [hx]; rfl)
  have ly : y < b0 := below_of hb0 (by rw [hy]; rfl)
  have x0 := lt_ne lx
  have y0 := lt_ne ly
  have x0' := lt_ne' lx
  have y0' := lt_ne' ly
  have xy : (x = y) = False := eq_false hxy
  have yx : (y = x) = False := eq_false (fun h => hxy h.symm)
  repeat (first | refine draw_end (by decide +kernel) ?_ | simp only [vcs, Nat.reduceAdd, Nat.reduceMul, Nat.reduceEqDiff, Nat.reduceLeDiff, Nat.reduceSub, Nat.reduceLT, Int.reduceToNat, Int.reduceLE, Int.reduceLT, Int.reduceAdd, Int.reduceSub, Int.reduceMul, Int.reduceNeg, reduceCtorEq, reduceIte, Int.reduceBEq, Int.reduceBNe, Int.reduceEq, Int.reduceNe, Nat.reduceBEq, Nat.reduceBNe, tys, plain_h, plain_d, List.length_map, List.getElem?_map, List.length_set, updTo_length])
  refine loop_up d.held.length (JP1 d b0 x y) ?_ ?_
  · simp only [JP1, ownRow, updTo_zero, hx, hy, x0, y0, x0', y0', xy, yx, Int.natCast_zero, vcs, Nat.reduceAdd, Nat.reduceMul, Nat.reduceEqDiff, Nat.reduceLeDiff, Nat.reduceSub, Nat.reduceLT, Int.reduceToNat, Int.reduceLE, Int.reduceLT, Int.reduceAdd, Int.reduceSub, Int.reduceMul, Int.reduceNeg, reduceCtorEq, reduceIte, Int.reduceBEq, Int.reduceBNe, Int.reduceEq, Int.reduceNe, Nat.reduceBEq, Nat.reduceBNe, tys, plain_h, plain_d, List.length_map, List.getElem?_map, List.length_set, updTo_length]
  · rintro k nm e M' hk ⟨e1, hM, hMx, hMy, e2⟩
    by_cases hlt : k < d.held.length
    · have wk := wrap_up hlt (by omega)
      obtain ⟨h, hh⟩ : ∃ h, d.held[k]? = some h := ⟨_, List.getElem?_eq_getElem hlt⟩
      have hu := updTo_get overH hh
      have hs : ((updTo overH k d.held).map hcells).set k [.int .i64 (-7), .int .i64 h.conn, .int .i64 h.left, .str h.body, .int .i64 h.report, .int .i64 h.time] = (updTo overH (k + 1) d.held).map hcells := updTo_set overH hcells hh
      repeat (first | refine draw_end (by decide +kernel) ?_ | simp only [hu, hs, hcells, ownRow, e1, hM, hMx, hMy, e2, hlt, wk, x0, y0, x0', y0', xy, yx, vcs, Nat.reduceAdd, Nat.reduceMul, Nat.reduceEqDiff, Nat.reduceLeDiff, Nat.reduceSub, Nat.reduceLT, Int.reduceToNat, Int.reduceLE, Int.reduceLT, Int.reduceAdd, Int.reduceSub, Int.reduceMul, Int.reduceNeg, reduceCtorEq, reduceIte, Int.reduceBEq, Int.reduceBNe, Int.reduceEq, Int.reduceNe, Nat.reduceBEq, Nat.reduceBNe, tys, plain_h, plain_d, List.length_map, List.getElem?_map, List.length_set, updTo_length])
      refine again_up hlt ?_
      simp only [JP1, ownRow, e1, hM, hMx, hMy, e2, hs, wk, x0, y0, x0', y0', xy, yx, vcs, Nat.reduceAdd, Nat.reduceMul, Nat.reduceEqDiff, Nat.reduceLeDiff, Nat.reduceSub, Nat.reduceLT, Int.reduceToNat, Int.reduceLE, Int.reduceLT, Int.reduceAdd, Int.reduceSub, Int.reduceMul, Int.reduceNeg, reduceCtorEq, reduceIte, Int.reduceBEq, Int.reduceBNe, Int.reduceEq, Int.reduceNe, Nat.reduceBEq, Nat.reduceBNe, tys, plain_h, plain_d, List.length_map, List.getElem?_map, List.length_set, updTo_length]
    · have hke : k = d.held.length := by omega
      subst hke
      rw [updTo_all] at hMx
      repeat (first | refine draw_end (by decide +kernel) ?_ | simp only [ownRow, e1, hM, hMx, hMy, e2, x0, y0, x0', y0', xy, yx, vcs, Nat.reduceAdd, Nat.reduceMul, Nat.reduceEqDiff, Nat.reduceLeDiff, Nat.reduceSub, Nat.reduceLT, Int.reduceToNat, Int.reduceLE, Int.reduceLT, Int.reduceAdd, Int.reduceSub, Int.reduceMul, Int.reduceNeg, reduceCtorEq, reduceIte, Int.reduceBEq, Int.reduceBNe, Int.reduceEq, Int.reduceNe, Nat.reduceBEq, Nat.reduceBNe, tys, plain_h, plain_d, List.length_map, List.getElem?_map, List.length_set, updTo_length])
      refine loop_up d.done.length (JP2 d b0 x y) ?_ ?_
      · simp only [JP2, ownRow, updTo_zero, e1, hM, hMx, hMy, e2, x0, y0, x0', y0', xy, yx, Int.natCast_zero, vcs, Nat.reduceAdd, Nat.reduceMul, Nat.reduceEqDiff, Nat.reduceLeDiff, Nat.reduceSub, Nat.reduceLT, Int.reduceToNat, Int.reduceLE, Int.reduceLT, Int.reduceAdd, Int.reduceSub, Int.reduceMul, Int.reduceNeg, reduceCtorEq, reduceIte, Int.reduceBEq, Int.reduceBNe, Int.reduceEq, Int.reduceNe, Nat.reduceBEq, Nat.reduceBNe, tys, plain_h, plain_d, List.length_map, List.getElem?_map, List.length_set, updTo_length]
      · clear e1 hM hMx hMy e2 hlt hk
        rintro k nm e M' hk ⟨e1, hM, hMx, hMy, e3⟩
        by_cases hlt : k < d.done.length
        · have wk := wrap_up hlt (by omega)
          obtain ⟨h, hh⟩ : ∃ h, d.done[k]? = some h := ⟨_, List.getElem?_eq_getElem hlt⟩
          have hu := updTo_get overD hh
          have hs : ((updTo overD k d.done).map dcells).set k [.int .i64 (-7), .str h.body, .str h.text, .int .i64 h.age] = (updTo overD (k + 1) d.done).map dcells := updTo_set overD dcells hh
          repeat (first | refine draw_end (by decide +kernel) ?_ | simp only [hu, hs, dcells, ownRow, e1, hM, hMx, hMy, e3, hlt, wk, x0, y0, x0', y0', xy, yx, vcs, Nat.reduceAdd, Nat.reduceMul, Nat.reduceEqDiff, Nat.reduceLeDiff, Nat.reduceSub, Nat.reduceLT, Int.reduceToNat, Int.reduceLE, Int.reduceLT, Int.reduceAdd, Int.reduceSub, Int.reduceMul, Int.reduceNeg, reduceCtorEq, reduceIte, Int.reduceBEq, Int.reduceBNe, Int.reduceEq, Int.reduceNe, Nat.reduceBEq, Nat.reduceBNe, tys, plain_h, plain_d, List.length_map, List.getElem?_map, List.length_set, updTo_length])
          refine again_up hlt ?_
          simp only [JP2, ownRow, e1, hM, hMx, hMy, e3, hs, wk, x0, y0, x0', y0', xy, yx, vcs, Nat.reduceAdd, Nat.reduceMul, Nat.reduceEqDiff, Nat.reduceLeDiff, Nat.reduceSub, Nat.reduceLT, Int.reduceToNat, Int.reduceLE, Int.reduceLT, Int.reduceAdd, Int.reduceSub, Int.reduceMul, Int.reduceNeg, reduceCtorEq, reduceIte, Int.reduceBEq, Int.reduceBNe, Int.reduceEq, Int.reduceNe, Nat.reduceBEq, Nat.reduceBNe, tys, plain_h, plain_d, List.length_map, List.getElem?_map, List.length_set, updTo_length]
        · have hke : k = d.done.length := by omega
          subst hke
          rw [updTo_all] at hMy
          repeat (first | refine draw_end (by decide +kernel) ?_ | simp only [ownRow, e1, hM, hMx, hMy, e3, x0, y0, x0', y0', xy, yx, vcs, Nat.reduceAdd, Nat.reduceMul, Nat.reduceEqDiff, Nat.reduceLeDiff, Nat.reduceSub, Nat.reduceLT, Int.reduceToNat, Int.reduceLE, Int.reduceLT, Int.reduceAdd, Int.reduceSub, Int.reduceMul, Int.reduceNeg, reduceCtorEq, reduceIte, Int.reduceBEq, Int.reduceBNe, Int.reduceEq, Int.reduceNe, Nat.reduceBEq, Nat.reduceBNe, tys, plain_h, plain_d, List.length_map, List.getElem?_map, List.length_set, updTo_length])
          refine Fin.keep [x, y] ?_ ?_ ?_ ?_ (by simp [hxy]) ?_ hz <;> simp only [Try.results20, Try.ntmps20, hMx, hMy, vcs, Nat.reduceAdd, Nat.reduceMul, Nat.reduceEqDiff, Nat.reduceLeDiff, Nat.reduceSub, Nat.reduceLT, Int.reduceToNat, Int.reduceLE, Int.reduceLT, Int.reduceAdd, Int.reduceSub, Int.reduceMul, Int.reduceNeg, reduceCtorEq, reduceIte, Int.reduceBEq, Int.reduceBNe, Int.reduceEq, Int.reduceNe, Nat.reduceBEq, Nat.reduceBNe, tys, plain_h, plain_d, List.length_map, List.getElem?_map, List.length_set, updTo_length]
          intro z hz'
          rcases List.mem_cons.1 hz' with rfl | hz'
          · simp only [hx, hMx, vcs, Nat.reduceAdd, Nat.reduceMul, Nat.reduceEqDiff, Nat.reduceLeDiff, Nat.reduceSub, Nat.reduceLT, Int.reduceToNat, Int.reduceLE, Int.reduceLT, Int.reduceAdd, Int.reduceSub, Int.reduceMul, Int.reduceNeg, reduceCtorEq, reduceIte, Int.reduceBEq, Int.reduceBNe, Int.reduceEq, Int.reduceNe, Nat.reduceBEq, Nat.reduceBNe, tys, plain_h, plain_d, List.length_map, List.getElem?_map, List.length_set, updTo_length]
          · rw [List.mem_singleton] at hz'
            subst hz'
            simp only [hy, hMy, vcs, Nat.reduceAdd, Nat.reduceMul, Nat.reduceEqDiff, Nat.reduceLeDiff, Nat.reduceSub, Nat.reduceLT, Int.reduceToNat, Int.reduceLE, Int.reduceLT, Int.reduceAdd, Int.reduceSub, Int.reduceMul, Int.reduceNeg, reduceCtorEq, reduceIte, Int.reduceBEq, Int.reduceBNe, Int.reduceEq, Int.reduceNe, Nat.reduceBEq, Nat.reduceBNe, tys, plain_h, plain_d, List.length_map, List.getElem?_map, List.length_set, updTo_length]
end Go.Proofs.Ytdbbnhmnlgfjoaa
/-
  Layer 28: what can be handed in as a desk.
-/
namespace Go.Proofs.Ytdbbnhmnlgfjoaa
set_option linter.unusedSimpArgs false
set_option linter.unusedVariables false
open Go Go.RowKit Go.Proofs.Ytdbbnhmnlgfjoaa.Vm

def Hd.fits (x : Hd) : Prop := x.body.length ≤ lim ∧ (-9223372036854775808 ≤ x.rid ∧ x.rid ≤ 9223372036854775807) ∧ (-9223372036854775808 ≤ x.conn ∧ x.conn ≤ 9223372036854775807)
def Dn.fits (x : Dn) : Prop := (x.body.length ≤ lim ∧ x.text.length ≤ lim) ∧ (-9223372036854775808 ≤ x.rid ∧ x.rid ≤ 9223372036854775807)
theorem hd_shape {n : Nat} {vs : List V} (h : Shape cx.P n 43 vs) : ∃ x : Hd, vs = hcells x ∧ x.fits := by
  obtain ⟨n', h⟩ := shape_struct kind_43 h
  obtain ⟨_, _, rfl, h1, _, _, rfl, h2, _, _, rfl, h3, _, _, rfl, h4, _, _, rfl, h5, _, _, rfl, h6, h7⟩ := h
  obtain ⟨a1, rfl, r1⟩ := shape_int kind_3 h1
  obtain ⟨a2, rfl, r2⟩ := shape_int kind_3 h2
  obtain ⟨a3, rfl, r3⟩ := shape_int kind_3 h3
  obtain ⟨a4, rfl, r4⟩ := shape_str kind_9 h4
  obtain ⟨a5, rfl, r5⟩ := shape_int kind_3 h5
  obtain ⟨a6, rfl, r6⟩ := shape_int kind_3 h6
  obtain rfl := shapeT_nil h7
  exact ⟨⟨a1, a2, a3, a4, a5, a6⟩, rfl, Nat.le_trans r4 (by decide), r1, r2⟩
theorem dn_shape {n : Nat} {vs : List V} (h : Shape cx.P n 68 vs) : ∃ x : Dn, vs = dcells x ∧ x.fits := by
  obtain ⟨n', h⟩ := shape_struct kind_68 h
  obtain ⟨_, _, rfl, h1, _, _, rfl, h2, _, _, rfl, h3, _, _, rfl, h4, h7⟩ := h
  obtain ⟨a1, rfl, r1⟩ := shape_int kind_3 h1
  obtain ⟨a2, rfl, r2⟩ := shape_str kind_9 h2
  obtain ⟨a3, rfl, r3⟩ := shape_str kind_9 h3
  obtain ⟨a4, rfl, r4⟩ := shape_int kind_3 h4
  obtain rfl := shapeT_nil h7
  exact ⟨⟨a1, a2, a3, a4⟩, rfl, ⟨Nat.le_trans r2 (by decide), Nat.le_trans r3 (by decide)⟩, r1⟩
theorem desk_shape {n : Nat} {vs : List V} (h : Shape cx.P n 25 vs) : ∃ x : Desk, vs = deskRow x ∧ x.fits ∧ (∀ y ∈ x.held, y.fits) ∧ (∀ y ∈ x.done, y.fits) ∧ -9223372036854775808 ≤ x.top ∧ x.top ≤ 9223372036854775807 := by
  obtain ⟨n', h⟩ := shape_struct kind_25 h
  obtain ⟨_, _, rfl, h1, _, _, rfl, h2, _, _, rfl, h3, _, _, rfl, h4, h7⟩ := h
  obtain ⟨_, r1, rfl, l1, m1, g1⟩ := shape_slice kind_22 h1
  obtain ⟨_, r2, rfl, l2, m2, g2⟩ := shape_slice kind_23 h2
  obtain ⟨a3, rfl, r3⟩ := shape_int kind_3 h3
  obtain ⟨a4, rfl, r4⟩ := shape_int kind_3 h4
  obtain rfl := shapeT_nil h7
  obtain ⟨x1, rfl, f1⟩ := rows_map hcells Hd.fits (fun r hr => hd_shape (g1 r hr))
  obtain ⟨x2, rfl, f2⟩ := rows_map dcells Dn.fits (fun r hr => dn_shape (g2 r hr))
  rw [List.length_map] at m1 m2
  exact ⟨⟨x1, x2, a3, a4⟩, rfl, ⟨by show x1.length ≤ lim; unfold lim; omega, by show x2.length ≤ lim; unfold lim; omega, fun h hh => (f1 h hh).1, fun h hh => (f2 h hh).1⟩, f1, f2, r3⟩
end Go.Proofs.Ytdbbnhmnlgfjoaa
