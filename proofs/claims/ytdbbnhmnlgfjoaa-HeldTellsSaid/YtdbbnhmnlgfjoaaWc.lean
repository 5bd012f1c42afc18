/-
  Layer 28: the check of desks.
-/
import Derived.Test.YtdbbnhmnlgfjoaaWb
namespace Go.Proofs.Ytdbbnhmnlgfjoaa
set_option linter.unusedSimpArgs false
set_option linter.unusedVariables false
open Go Go.RowKit Go.Proofs.Ytdbbnhmnlgfjoaa.Vm

/-- How many a list that comes in may hold. -/
def lim : Nat := 140737488355328
def deskRow (d : Desk) : List V := [.sl false 6 (d.held.map hcells), .sl false 4 (d.done.map dcells), .int .i64 d.top, .int .i64 d.size]
def JC1 (d : Desk) (p : Nat) (g nm : Nat) (e : Env) (M : Mem) : Prop := ∃ k, k ≤ d.held.length ∧ g = d.held.length - k ∧ p < nm ∧ e 1 = .ptr p 0 0 ∧ M p = some ⟨4, [deskRow d]⟩ ∧ e 36 = .sl false 6 (d.held.map hcells) ∧ e 37 = .int .i64 d.held.length ∧ e 38 = .int .i64 k ∧ e 3 = .bool (d.head && hAll d.top 0 (d.held.take k))
def JC2 (d : Desk) (p : Nat) (g nm : Nat) (e : Env) (M : Mem) : Prop := ∃ k, k ≤ d.done.length ∧ g = d.done.length - k ∧ p < nm ∧ e 1 = .ptr p 0 0 ∧ M p = some ⟨4, [deskRow d]⟩ ∧ e 60 = .sl false 4 (d.done.map dcells) ∧ e 61 = .int .i64 d.done.length ∧ e 62 = .int .i64 k ∧ e 3 = .bool (d.head && hAll d.top 0 d.held && dAll (d.top - d.done.length) 0 (d.done.take k))

theorem head_top {d : Desk} (h : d.head = true) : 0 ≤ d.top ∧ d.top ≤ 9007199254740991 := by
  simp only [Desk.head, num, Bool.and_eq_true, decide_eq_true_eq] at h
  exact h.1.1.2
theorem round1 (d : Desk) (A m : Bool) (r : Int) (k : Nat) (hk : k ≤ 140737488355328) : (d.head && A && m && r == IntKind.i64.wrap (IntKind.i64.wrap (d.top + k) + 1)) = (d.head && (A && (m && r == d.top + k + 1))) := by
  cases hd : d.head with
  | false => simp
  | true =>
    obtain ⟨h0, h1⟩ := head_top hd
    rw [wrap_in (n := d.top + k) (by omega) (by omega), wrap_in (by omega) (by omega)]
    simp only [Bool.true_and, Bool.and_assoc]
theorem round2 (d : Desk) (A B m : Bool) (r : Int) (k n : Nat) (hk : k ≤ 140737488355328) (hn : n ≤ 140737488355328) : (d.head && A && B && m && r == IntKind.i64.wrap (IntKind.i64.wrap (IntKind.i64.wrap (d.top - n) + k) + 1)) = (d.head && A && (B && (m && r == d.top - n + k + 1))) := by
  cases hd : d.head with
  | false => simp
  | true =>
    obtain ⟨h0, h1⟩ := head_top hd
    rw [wrap_in (n := d.top - n) (by omega) (by omega), wrap_in (n := d.top - n + k) (by omega) (by omega), wrap_in (by omega) (by omega)]
    simp only [Bool.true_and, Bool.and_assoc]

set_option maxHeartbeats 1000000 in
theorem Check_ev (d : Desk) (hn : d.held.length ≤ lim) (hm : d.done.length ≤ lim) (nm : Nat) : Ev cx 17 nm [deskV d] Mem.nil (.int .i64 (if d.may then 0 else 8)) [] := by
  have k0 : ((0 : Int), (0 : Int), (9007199254740991 : Int)) ∈ [(0, 0, 9007199254740991), (1, 0, 1048576), (2, 0, 60), (3, 0, 1000000), (4, -1, (9007199254740991 : Int))] := by simp
  unfold lim at hn hm
  refine ev_go (fun cargs w => Try.call17 cargs w) Try.func17 rfl mixed (by kernel_rfl) rfl ?_
  intro b0 hb0
  simp only [deskV]
  repeat (first | refine draw_end (by decide +kernel) ?_ | simp only [vcs, Nat.reduceAdd, Nat.reduceMul, Nat.reduceEqDiff, Nat.reduceLeDiff, Nat.reduceSub, Nat.reduceLT, Int.reduceToNat, Int.reduceLE, Int.reduceLT, Int.reduceAdd, Int.reduceSub, Int.reduceMul, Int.reduceNeg, reduceCtorEq, reduceIte, Int.reduceBEq, Int.reduceBNe, Int.reduceEq, Int.reduceNe, Nat.reduceBEq, Nat.reduceBNe, tys])
  refine call_fn_g (by simp only [vcs, Nat.reduceAdd, Nat.reduceMul, Nat.reduceEqDiff, Nat.reduceLeDiff, Nat.reduceSub, Nat.reduceLT, Int.reduceToNat, Int.reduceLE, Int.reduceLT, Int.reduceAdd, Int.reduceSub, Int.reduceMul, Int.reduceNeg, reduceCtorEq, reduceIte, Int.reduceBEq, Int.reduceBNe, Int.reduceEq, Int.reduceNe, Nat.reduceBEq, Nat.reduceBNe, tys] <;> rfl) (fun _ => has_ev 0 0 9007199254740991 d.top k0 _) ?_
  simp only [List.length_map, vcs, Nat.reduceAdd, Nat.reduceMul, Nat.reduceEqDiff, Nat.reduceLeDiff, Nat.reduceSub, Nat.reduceLT, Int.reduceToNat, Int.reduceLE, Int.reduceLT, Int.reduceAdd, Int.reduceSub, Int.reduceMul, Int.reduceNeg, reduceCtorEq, reduceIte, Int.reduceBEq, Int.reduceBNe, Int.reduceEq, Int.reduceNe, Nat.reduceBEq, Nat.reduceBNe, tys]
  refine loop_by (JC1 d b0) d.held.length ⟨0, Nat.zero_le _, by omega, by omega, ?_⟩ ?_
  · simp only [List.length_map, deskRow, List.take_zero, hAll, Desk.head, inRange, num, Int.natCast_zero, vcs, Nat.reduceAdd, Nat.reduceMul, Nat.reduceEqDiff, Nat.reduceLeDiff, Nat.reduceSub, Nat.reduceLT, Int.reduceToNat, Int.reduceLE, Int.reduceLT, Int.reduceAdd, Int.reduceSub, Int.reduceMul, Int.reduceNeg, reduceCtorEq, reduceIte, Int.reduceBEq, Int.reduceBNe, Int.reduceEq, Int.reduceNe, Nat.reduceBEq, Nat.reduceBNe, tys]
  · rintro g nm e M ⟨k, hk, rfl, hp, e1, hM, e36, e37, e38, e3⟩
    have p0 : (b0 = nm) = False := eq_false (by omega)
    have p1 : ∀ c, (b0 = nm + c) = False := fun c => eq_false (by omega)
    have wk : IntKind.i64.wrap ((k : Int) + 1) = ((k + 1 : Nat) : Int) := by rw [wrap_in (by omega) (by omega)]; push_cast; rfl
    by_cases hlt : k < d.held.length
    · have hd : decide ((k : Int) < (d.held.length : Int)) = true := by simpa using hlt
      obtain ⟨h, hh⟩ : ∃ h, d.held[k]? = some h := ⟨_, List.getElem?_eq_getElem hlt⟩
      simp only [List.length_map, List.getElem?_map, hh, hcells, e1, hM, e36, e37, e38, e3, p0, p1, hd, hlt, vcs, Nat.reduceAdd, Nat.reduceMul, Nat.reduceEqDiff, Nat.reduceLeDiff, Nat.reduceSub, Nat.reduceLT, Int.reduceToNat, Int.reduceLE, Int.reduceLT, Int.reduceAdd, Int.reduceSub, Int.reduceMul, Int.reduceNeg, reduceCtorEq, reduceIte, Int.reduceBEq, Int.reduceBNe, Int.reduceEq, Int.reduceNe, Nat.reduceBEq, Nat.reduceBNe, tys]
      refine call_fn_g (by simp only [vcs, Nat.reduceAdd, Nat.reduceMul, Nat.reduceEqDiff, Nat.reduceLeDiff, Nat.reduceSub, Nat.reduceLT, Int.reduceToNat, Int.reduceLE, Int.reduceLT, Int.reduceAdd, Int.reduceSub, Int.reduceMul, Int.reduceNeg, reduceCtorEq, reduceIte, Int.reduceBEq, Int.reduceBNe, Int.reduceEq, Int.reduceNe, Nat.reduceBEq, Nat.reduceBNe, tys] <;> rfl) (fun _ => held_ev h.rid h.conn h.left h.body h.report h.time _) ?_
      simp only [deskRow, e1, hM, e36, e37, e38, e3, p0, p1, wk, vcs, Nat.reduceAdd, Nat.reduceMul, Nat.reduceEqDiff, Nat.reduceLeDiff, Nat.reduceSub, Nat.reduceLT, Int.reduceToNat, Int.reduceLE, Int.reduceLT, Int.reduceAdd, Int.reduceSub, Int.reduceMul, Int.reduceNeg, reduceCtorEq, reduceIte, Int.reduceBEq, Int.reduceBNe, Int.reduceEq, Int.reduceNe, Nat.reduceBEq, Nat.reduceBNe, tys]
      refine again_by (d.held.length - (k + 1)) (by omega) ⟨k + 1, by omega, rfl, by omega, ?_⟩
      simp only [deskRow, e1, hM, e36, e37, e38, e3, p0, p1, vcs, Nat.reduceAdd, Nat.reduceMul, Nat.reduceEqDiff, Nat.reduceLeDiff, Nat.reduceSub, Nat.reduceLT, Int.reduceToNat, Int.reduceLE, Int.reduceLT, Int.reduceAdd, Int.reduceSub, Int.reduceMul, Int.reduceNeg, reduceCtorEq, reduceIte, Int.reduceBEq, Int.reduceBNe, Int.reduceEq, Int.reduceNe, Nat.reduceBEq, Nat.reduceBNe, tys]
      rw [hAll_snoc hh, ← round1 d _ _ _ k (by omega)]
      simp only [Hd.may]
    · have hd : decide ((k : Int) < (d.held.length : Int)) = false := by simpa using hlt
      have hke : k = d.held.length := by omega
      subst hke
      simp only [List.length_map, deskRow, e1, hM, e36, e37, e38, e3, p0, p1, hd, List.take_length, vcs, Nat.reduceAdd, Nat.reduceMul, Nat.reduceEqDiff, Nat.reduceLeDiff, Nat.reduceSub, Nat.reduceLT, Int.reduceToNat, Int.reduceLE, Int.reduceLT, Int.reduceAdd, Int.reduceSub, Int.reduceMul, Int.reduceNeg, reduceCtorEq, reduceIte, Int.reduceBEq, Int.reduceBNe, Int.reduceEq, Int.reduceNe, Nat.reduceBEq, Nat.reduceBNe, tys]
      refine loop_by (JC2 d b0) d.done.length ⟨0, Nat.zero_le _, by omega, by omega, ?_⟩ ?_
      · simp only [List.length_map, deskRow, List.take_zero, dAll, e1, hM, e3, p0, p1, List.take_length, Int.natCast_zero, vcs, Nat.reduceAdd, Nat.reduceMul, Nat.reduceEqDiff, Nat.reduceLeDiff, Nat.reduceSub, Nat.reduceLT, Int.reduceToNat, Int.reduceLE, Int.reduceLT, Int.reduceAdd, Int.reduceSub, Int.reduceMul, Int.reduceNeg, reduceCtorEq, reduceIte, Int.reduceBEq, Int.reduceBNe, Int.reduceEq, Int.reduceNe, Nat.reduceBEq, Nat.reduceBNe, tys]
      · clear e1 hM e36 e37 e38 e3 p0 p1 wk hp hlt hd hk
        rintro g nm e M ⟨k, hk, rfl, hp, e1, hM, e60, e61, e62, e3⟩
        have p0 : (b0 = nm) = False := eq_false (by omega)
        have p1 : ∀ c, (b0 = nm + c) = False := fun c => eq_false (by omega)
        have wk : IntKind.i64.wrap ((k : Int) + 1) = ((k + 1 : Nat) : Int) := by rw [wrap_in (by omega) (by omega)]; push_cast; rfl
        by_cases hlt : k < d.done.length
        · have hd : decide ((k : Int) < (d.done.length : Int)) = true := by simpa using hlt
          obtain ⟨h, hh⟩ : ∃ h, d.done[k]? = some h := ⟨_, List.getElem?_eq_getElem hlt⟩
          simp only [List.length_map, List.getElem?_map, hh, dcells, e1, hM, e60, e61, e62, e3, p0, p1, hd, hlt, vcs, Nat.reduceAdd, Nat.reduceMul, Nat.reduceEqDiff, Nat.reduceLeDiff, Nat.reduceSub, Nat.reduceLT, Int.reduceToNat, Int.reduceLE, Int.reduceLT, Int.reduceAdd, Int.reduceSub, Int.reduceMul, Int.reduceNeg, reduceCtorEq, reduceIte, Int.reduceBEq, Int.reduceBNe, Int.reduceEq, Int.reduceNe, Nat.reduceBEq, Nat.reduceBNe, tys]
          refine call_fn_g (by simp only [vcs, Nat.reduceAdd, Nat.reduceMul, Nat.reduceEqDiff, Nat.reduceLeDiff, Nat.reduceSub, Nat.reduceLT, Int.reduceToNat, Int.reduceLE, Int.reduceLT, Int.reduceAdd, Int.reduceSub, Int.reduceMul, Int.reduceNeg, reduceCtorEq, reduceIte, Int.reduceBEq, Int.reduceBNe, Int.reduceEq, Int.reduceNe, Nat.reduceBEq, Nat.reduceBNe, tys] <;> rfl) (fun _ => done_ev h.rid h.body h.text h.age _) ?_
          simp only [List.length_map, deskRow, e1, hM, e60, e61, e62, e3, p0, p1, wk, vcs, Nat.reduceAdd, Nat.reduceMul, Nat.reduceEqDiff, Nat.reduceLeDiff, Nat.reduceSub, Nat.reduceLT, Int.reduceToNat, Int.reduceLE, Int.reduceLT, Int.reduceAdd, Int.reduceSub, Int.reduceMul, Int.reduceNeg, reduceCtorEq, reduceIte, Int.reduceBEq, Int.reduceBNe, Int.reduceEq, Int.reduceNe, Nat.reduceBEq, Nat.reduceBNe, tys]
          refine again_by (d.done.length - (k + 1)) (by omega) ⟨k + 1, by omega, rfl, by omega, ?_⟩
          simp only [deskRow, e1, hM, e60, e61, e62, e3, p0, p1, vcs, Nat.reduceAdd, Nat.reduceMul, Nat.reduceEqDiff, Nat.reduceLeDiff, Nat.reduceSub, Nat.reduceLT, Int.reduceToNat, Int.reduceLE, Int.reduceLT, Int.reduceAdd, Int.reduceSub, Int.reduceMul, Int.reduceNeg, reduceCtorEq, reduceIte, Int.reduceBEq, Int.reduceBNe, Int.reduceEq, Int.reduceNe, Nat.reduceBEq, Nat.reduceBNe, tys]
          rw [dAll_snoc hh, ← round2 d _ _ _ _ k _ (by omega) hm]
          simp only [Dn.may]
        · have hd : decide ((k : Int) < (d.done.length : Int)) = false := by simpa using hlt
          have hke : k = d.done.length := by omega
          subst hke
          simp only [List.length_map, deskRow, e1, hM, e60, e61, e62, e3, p0, p1, hd, List.take_length, vcs, Nat.reduceAdd, Nat.reduceMul, Nat.reduceEqDiff, Nat.reduceLeDiff, Nat.reduceSub, Nat.reduceLT, Int.reduceToNat, Int.reduceLE, Int.reduceLT, Int.reduceAdd, Int.reduceSub, Int.reduceMul, Int.reduceNeg, reduceCtorEq, reduceIte, Int.reduceBEq, Int.reduceBNe, Int.reduceEq, Int.reduceNe, Nat.reduceBEq, Nat.reduceBNe, tys]
          constructor
          · intro hmay
            have hmay' : d.may = false := by simp only [Desk.may]; first | exact hmay | (simp only [Bool.and_eq_false_iff]; exact hmay) | (revert hmay; cases d.head <;> cases hAll d.top 0 d.held <;> simp)
            (refine Fin.pure ?_ ?_ ?_ <;> simp only [Try.results17, Try.ntmps17, vcs, Nat.reduceAdd, Nat.reduceMul, Nat.reduceEqDiff, Nat.reduceLeDiff, Nat.reduceSub, Nat.reduceLT, Int.reduceToNat, Int.reduceLE, Int.reduceLT, Int.reduceAdd, Int.reduceSub, Int.reduceMul, Int.reduceNeg, reduceCtorEq, reduceIte, Int.reduceBEq, Int.reduceBNe, Int.reduceEq, Int.reduceNe, Nat.reduceBEq, Nat.reduceBNe, tys])
            simp only [hmay', vcs, Nat.reduceAdd, Nat.reduceMul, Nat.reduceEqDiff, Nat.reduceLeDiff, Nat.reduceSub, Nat.reduceLT, Int.reduceToNat, Int.reduceLE, Int.reduceLT, Int.reduceAdd, Int.reduceSub, Int.reduceMul, Int.reduceNeg, reduceCtorEq, reduceIte, Int.reduceBEq, Int.reduceBNe, Int.reduceEq, Int.reduceNe, Nat.reduceBEq, Nat.reduceBNe, tys]
          · intro hmay
            have hmay' : d.may = true := by simp only [Desk.may]; first | exact hmay | (simp only [Bool.and_eq_true]; exact hmay) | (revert hmay; cases d.head <;> cases hAll d.top 0 d.held <;> simp)
            (refine Fin.pure ?_ ?_ ?_ <;> simp only [Try.results17, Try.ntmps17, vcs, Nat.reduceAdd, Nat.reduceMul, Nat.reduceEqDiff, Nat.reduceLeDiff, Nat.reduceSub, Nat.reduceLT, Int.reduceToNat, Int.reduceLE, Int.reduceLT, Int.reduceAdd, Int.reduceSub, Int.reduceMul, Int.reduceNeg, reduceCtorEq, reduceIte, Int.reduceBEq, Int.reduceBNe, Int.reduceEq, Int.reduceNe, Nat.reduceBEq, Nat.reduceBNe, tys])
            simp only [hmay', vcs, Nat.reduceAdd, Nat.reduceMul, Nat.reduceEqDiff, Nat.reduceLeDiff, Nat.reduceSub, Nat.reduceLT, Int.reduceToNat, Int.reduceLE, Int.reduceLT, Int.reduceAdd, Int.reduceSub, Int.reduceMul, Int.reduceNeg, reduceCtorEq, reduceIte, Int.reduceBEq, Int.reduceBNe, Int.reduceEq, Int.reduceNe, Nat.reduceBEq, Nat.reduceBNe, tys]
end Go.Proofs.Ytdbbnhmnlgfjoaa
