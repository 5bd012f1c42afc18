/-
  Layer 28: the document's answer: which desks may be.
-/
import Derived.Test.YtdbbnhmnlgfjoaaWc
namespace Go.Proofs.Ytdbbnhmnlgfjoaa
set_option linter.unusedSimpArgs false
set_option linter.unusedVariables false
open Go Go.RowKit Go.Proofs.Ytdbbnhmnlgfjoaa.Vm

set_option maxHeartbeats 1000000 in
theorem refHeld_ev (a1 a2 a3 : Int) (a4 : List UInt8) (a5 a6 : Int) (nm : Nat) : Ev cx 55 nm [.agg [.int .i64 a1, .int .i64 a2, .int .i64 a3, .str a4, .int .i64 a5, .int .i64 a6]] Mem.nil (.bool (num a1 && inRange 0 1048576 a2 && inRange 0 60 a3 && shortB a4 && inRange (-1) 9007199254740991 a5 && inRange (-1) 9007199254740991 a6)) [] := by
  refine ev_go (fun cargs w => Try.call55 cargs w) Try.func55 rfl mixed (by kernel_rfl) rfl ?_
  intro b0 hb0
  repeat (first | refine draw_end (by decide +kernel) ?_ | simp only [vcs, Nat.reduceAdd, Nat.reduceMul, Nat.reduceEqDiff, Nat.reduceLeDiff, Nat.reduceSub, Nat.reduceLT, Int.reduceToNat, Int.reduceLE, Int.reduceLT, Int.reduceAdd, Int.reduceSub, Int.reduceMul, Int.reduceNeg, reduceCtorEq, reduceIte, Int.reduceBEq, Int.reduceBNe, Int.reduceEq, Int.reduceNe, Nat.reduceBEq, Nat.reduceBNe, tys])
  refine call_fn (by simp only [vcs, Nat.reduceAdd, Nat.reduceMul, Nat.reduceEqDiff, Nat.reduceLeDiff, Nat.reduceSub, Nat.reduceLT, Int.reduceToNat, Int.reduceLE, Int.reduceLT, Int.reduceAdd, Int.reduceSub, Int.reduceMul, Int.reduceNeg, reduceCtorEq, reduceIte, Int.reduceBEq, Int.reduceBNe, Int.reduceEq, Int.reduceNe, Nat.reduceBEq, Nat.reduceBNe, tys] <;> rfl) (number_ev a1 _) ?_
  repeat (first | refine draw_end (by decide +kernel) ?_ | simp only [vcs, Nat.reduceAdd, Nat.reduceMul, Nat.reduceEqDiff, Nat.reduceLeDiff, Nat.reduceSub, Nat.reduceLT, Int.reduceToNat, Int.reduceLE, Int.reduceLT, Int.reduceAdd, Int.reduceSub, Int.reduceMul, Int.reduceNeg, reduceCtorEq, reduceIte, Int.reduceBEq, Int.reduceBNe, Int.reduceEq, Int.reduceNe, Nat.reduceBEq, Nat.reduceBNe, tys])
  (refine Fin.pure ?_ ?_ ?_ <;> simp only [Try.results55, Try.ntmps55, vcs, Nat.reduceAdd, Nat.reduceMul, Nat.reduceEqDiff, Nat.reduceLeDiff, Nat.reduceSub, Nat.reduceLT, Int.reduceToNat, Int.reduceLE, Int.reduceLT, Int.reduceAdd, Int.reduceSub, Int.reduceMul, Int.reduceNeg, reduceCtorEq, reduceIte, Int.reduceBEq, Int.reduceBNe, Int.reduceEq, Int.reduceNe, Nat.reduceBEq, Nat.reduceBNe, tys])
  simp only [num, inRange, shortB, Bool.and_assoc]

set_option maxHeartbeats 1000000 in
theorem refDone_ev (a1 : Int) (a2 a3 : List UInt8) (a4 : Int) (nm : Nat) : Ev cx 56 nm [.agg [.int .i64 a1, .str a2, .str a3, .int .i64 a4]] Mem.nil (.bool (num a1 && shortB a2 && shortB a3 && inRange 0 1000000 a4)) [] := by
  refine ev_go (fun cargs w => Try.call56 cargs w) Try.func56 rfl mixed (by kernel_rfl) rfl ?_
  intro b0 hb0
  repeat (first | refine draw_end (by decide +kernel) ?_ | simp only [vcs, Nat.reduceAdd, Nat.reduceMul, Nat.reduceEqDiff, Nat.reduceLeDiff, Nat.reduceSub, Nat.reduceLT, Int.reduceToNat, Int.reduceLE, Int.reduceLT, Int.reduceAdd, Int.reduceSub, Int.reduceMul, Int.reduceNeg, reduceCtorEq, reduceIte, Int.reduceBEq, Int.reduceBNe, Int.reduceEq, Int.reduceNe, Nat.reduceBEq, Nat.reduceBNe, tys])
  refine call_fn (by simp only [vcs, Nat.reduceAdd, Nat.reduceMul, Nat.reduceEqDiff, Nat.reduceLeDiff, Nat.reduceSub, Nat.reduceLT, Int.reduceToNat, Int.reduceLE, Int.reduceLT, Int.reduceAdd, Int.reduceSub, Int.reduceMul, Int.reduceNeg, reduceCtorEq, reduceIte, Int.reduceBEq, Int.reduceBNe, Int.reduceEq, Int.reduceNe, Nat.reduceBEq, Nat.reduceBNe, tys] <;> rfl) (number_ev a1 _) ?_
  repeat (first | refine draw_end (by decide +kernel) ?_ | simp only [vcs, Nat.reduceAdd, Nat.reduceMul, Nat.reduceEqDiff, Nat.reduceLeDiff, Nat.reduceSub, Nat.reduceLT, Int.reduceToNat, Int.reduceLE, Int.reduceLT, Int.reduceAdd, Int.reduceSub, Int.reduceMul, Int.reduceNeg, reduceCtorEq, reduceIte, Int.reduceBEq, Int.reduceBNe, Int.reduceEq, Int.reduceNe, Nat.reduceBEq, Nat.reduceBNe, tys])
  (refine Fin.pure ?_ ?_ ?_ <;> simp only [Try.results56, Try.ntmps56, vcs, Nat.reduceAdd, Nat.reduceMul, Nat.reduceEqDiff, Nat.reduceLeDiff, Nat.reduceSub, Nat.reduceLT, Int.reduceToNat, Int.reduceLE, Int.reduceLT, Int.reduceAdd, Int.reduceSub, Int.reduceMul, Int.reduceNeg, reduceCtorEq, reduceIte, Int.reduceBEq, Int.reduceBNe, Int.reduceEq, Int.reduceNe, Nat.reduceBEq, Nat.reduceBNe, tys])
  simp only [num, inRange, shortB, Bool.and_assoc]

def JR1 (d : Desk) (p : Nat) (g nm : Nat) (e : Env) (M : Mem) : Prop := ∃ k, k ≤ d.held.length ∧ g = d.held.length - k ∧ p < nm ∧ e 1 = .ptr p 0 0 ∧ M p = some ⟨4, [deskRow d]⟩ ∧ e 3 = .int .i64 k ∧ hAll d.top 0 (d.held.take k) = true
def JR2 (d : Desk) (p : Nat) (g nm : Nat) (e : Env) (M : Mem) : Prop := ∃ k, k ≤ d.done.length ∧ g = d.done.length - k ∧ p < nm ∧ e 1 = .ptr p 0 0 ∧ M p = some ⟨4, [deskRow d]⟩ ∧ e 4 = .int .i64 k ∧ hAll d.top 0 d.held = true ∧ dAll (d.top - d.done.length) 0 (d.done.take k) = true
theorem hAll_not {top : Int} {l : List Hd} {k : Nat} {h : Hd} (hk : l[k]? = some h) (hf : (h.may && (h.rid == top + k + 1)) = false) : hAll top 0 l = false := by
  have hlt := (List.getElem?_eq_some_iff.1 hk).1
  rw [← List.take_append_drop (k + 1) l, hAll_append, hAll_snoc hk, hf]; simp
theorem dAll_not {top : Int} {l : List Dn} {k : Nat} {h : Dn} (hk : l[k]? = some h) (hf : (h.may && (h.rid == top + k + 1)) = false) : dAll top 0 l = false := by
  have hlt := (List.getElem?_eq_some_iff.1 hk).1
  rw [← List.take_append_drop (k + 1) l, dAll_append, dAll_snoc hk, hf]; simp
theorem bne_flip {a b : Bool} {x y z : Int} (h : (!a || (x != y)) = b) (e : y = z) : (a && (x == z)) = !b := by
  subst e; subst h; cases a <;> simp [bne]

set_option maxHeartbeats 2000000 in
theorem refMay_ev (d : Desk) (hn : d.held.length ≤ lim) (hm : d.done.length ≤ lim) (nm : Nat) : Ev cx 31 nm [deskV d] Mem.nil (.bool d.may) [] := by
  unfold lim at hn hm
  refine ev_go (fun cargs w => Try.call31 cargs w) Try.func31 rfl mixed (by kernel_rfl) rfl ?_
  intro b0 hb0
  simp only [deskV]
  repeat (first | refine draw_end (by decide +kernel) ?_ | simp only [vcs, Nat.reduceAdd, Nat.reduceMul, Nat.reduceEqDiff, Nat.reduceLeDiff, Nat.reduceSub, Nat.reduceLT, Int.reduceToNat, Int.reduceLE, Int.reduceLT, Int.reduceAdd, Int.reduceSub, Int.reduceMul, Int.reduceNeg, reduceCtorEq, reduceIte, Int.reduceBEq, Int.reduceBNe, Int.reduceEq, Int.reduceNe, Nat.reduceBEq, Nat.reduceBNe, tys])
  refine call_fn_g (by simp only [vcs, Nat.reduceAdd, Nat.reduceMul, Nat.reduceEqDiff, Nat.reduceLeDiff, Nat.reduceSub, Nat.reduceLT, Int.reduceToNat, Int.reduceLE, Int.reduceLT, Int.reduceAdd, Int.reduceSub, Int.reduceMul, Int.reduceNeg, reduceCtorEq, reduceIte, Int.reduceBEq, Int.reduceBNe, Int.reduceEq, Int.reduceNe, Nat.reduceBEq, Nat.reduceBNe, tys] <;> rfl) (fun _ => number_ev d.top _) ?_
  repeat (first | refine draw_end (by decide +kernel) ?_ | simp only [vcs, Nat.reduceAdd, Nat.reduceMul, Nat.reduceEqDiff, Nat.reduceLeDiff, Nat.reduceSub, Nat.reduceLT, Int.reduceToNat, Int.reduceLE, Int.reduceLT, Int.reduceAdd, Int.reduceSub, Int.reduceMul, Int.reduceNeg, reduceCtorEq, reduceIte, Int.reduceBEq, Int.reduceBNe, Int.reduceEq, Int.reduceNe, Nat.reduceBEq, Nat.reduceBNe, tys])
  constructor
  · intro hd
    (refine Fin.pure ?_ ?_ ?_ <;> simp only [Try.results31, Try.ntmps31, vcs, Nat.reduceAdd, Nat.reduceMul, Nat.reduceEqDiff, Nat.reduceLeDiff, Nat.reduceSub, Nat.reduceLT, Int.reduceToNat, Int.reduceLE, Int.reduceLT, Int.reduceAdd, Int.reduceSub, Int.reduceMul, Int.reduceNeg, reduceCtorEq, reduceIte, Int.reduceBEq, Int.reduceBNe, Int.reduceEq, Int.reduceNe, Nat.reduceBEq, Nat.reduceBNe, tys])
    have hh : d.head = false := by
      rw [List.length_map, List.length_map] at hd
      simp only [Desk.head, inRange, ← decide_not]
      revert hd
      by_cases h1 : d.size < 1
      · simp [show ¬ 1 ≤ d.size by omega]
      · by_cases h2 : 3 < d.size
        · simp [show ¬ d.size ≤ 3 by omega]
        · by_cases h3 : 4 < (d.held.length : Int)
          · simp [show ¬ (d.held.length : Int) ≤ 4 by omega]
          · by_cases h4 : d.size < (d.done.length : Int)
            · simp [show ¬ (d.done.length : Int) ≤ d.size by omega]
            · simp only [h1, h2, h3, h4]
              cases num d.top <;> simp
    simp only [Desk.may, hh, Bool.false_and, vcs, Nat.reduceAdd, Nat.reduceMul, Nat.reduceEqDiff, Nat.reduceLeDiff, Nat.reduceSub, Nat.reduceLT, Int.reduceToNat, Int.reduceLE, Int.reduceLT, Int.reduceAdd, Int.reduceSub, Int.reduceMul, Int.reduceNeg, reduceCtorEq, reduceIte, Int.reduceBEq, Int.reduceBNe, Int.reduceEq, Int.reduceNe, Nat.reduceBEq, Nat.reduceBNe, tys]
  · intro hd
    have hh : d.head = true := by
      rw [List.length_map, List.length_map] at hd
      simp only [Bool.or_eq_false_iff, decide_eq_false_iff_not, Bool.not_eq_false'] at hd
      obtain ⟨⟨⟨⟨h1, h2⟩, h3⟩, h4⟩, h5⟩ := hd
      simp only [Desk.head, inRange, h3, Bool.and_true, Bool.and_eq_true, decide_eq_true_eq]
      omega
    obtain ⟨h0, h1⟩ := head_top hh
    repeat (first | refine draw_end (by decide +kernel) ?_ | simp only [vcs, Nat.reduceAdd, Nat.reduceMul, Nat.reduceEqDiff, Nat.reduceLeDiff, Nat.reduceSub, Nat.reduceLT, Int.reduceToNat, Int.reduceLE, Int.reduceLT, Int.reduceAdd, Int.reduceSub, Int.reduceMul, Int.reduceNeg, reduceCtorEq, reduceIte, Int.reduceBEq, Int.reduceBNe, Int.reduceEq, Int.reduceNe, Nat.reduceBEq, Nat.reduceBNe, tys])
    refine loop_by (JR1 d b0) d.held.length ⟨0, Nat.zero_le _, by omega, by omega, ?_⟩ ?_
    · simp only [deskRow, List.take_zero, hAll, Int.natCast_zero, vcs, Nat.reduceAdd, Nat.reduceMul, Nat.reduceEqDiff, Nat.reduceLeDiff, Nat.reduceSub, Nat.reduceLT, Int.reduceToNat, Int.reduceLE, Int.reduceLT, Int.reduceAdd, Int.reduceSub, Int.reduceMul, Int.reduceNeg, reduceCtorEq, reduceIte, Int.reduceBEq, Int.reduceBNe, Int.reduceEq, Int.reduceNe, Nat.reduceBEq, Nat.reduceBNe, tys]
    · clear hd
      rintro g nm e M ⟨k, hk, rfl, hp, e1, hM, e3, hall⟩
      have p0 : (b0 = nm) = False := eq_false (by omega)
      have p1 : ∀ c, (b0 = nm + c) = False := fun c => eq_false (by omega)
      have wk : IntKind.i64.wrap ((k : Int) + 1) = ((k + 1 : Nat) : Int) := by rw [wrap_in (by omega) (by omega)]; push_cast; rfl
      by_cases hlt : k < d.held.length
      · have hd : decide ((k : Int) < (d.held.length : Int)) = true := by simpa using hlt
        obtain ⟨h, hk2⟩ : ∃ h, d.held[k]? = some h := ⟨_, List.getElem?_eq_getElem hlt⟩
        simp only [List.length_map, List.getElem?_map, hk2, hcells, deskRow, e1, hM, e3, p0, p1, hd, hlt, vcs, Nat.reduceAdd, Nat.reduceMul, Nat.reduceEqDiff, Nat.reduceLeDiff, Nat.reduceSub, Nat.reduceLT, Int.reduceToNat, Int.reduceLE, Int.reduceLT, Int.reduceAdd, Int.reduceSub, Int.reduceMul, Int.reduceNeg, reduceCtorEq, reduceIte, Int.reduceBEq, Int.reduceBNe, Int.reduceEq, Int.reduceNe, Nat.reduceBEq, Nat.reduceBNe, tys]
        refine call_fn (by simp only [vcs, Nat.reduceAdd, Nat.reduceMul, Nat.reduceEqDiff, Nat.reduceLeDiff, Nat.reduceSub, Nat.reduceLT, Int.reduceToNat, Int.reduceLE, Int.reduceLT, Int.reduceAdd, Int.reduceSub, Int.reduceMul, Int.reduceNeg, reduceCtorEq, reduceIte, Int.reduceBEq, Int.reduceBNe, Int.reduceEq, Int.reduceNe, Nat.reduceBEq, Nat.reduceBNe, tys] <;> rfl) (refHeld_ev h.rid h.conn h.left h.body h.report h.time _) ?_
        repeat (first | refine draw_end (by decide +kernel) ?_ | simp only [List.length_map, List.getElem?_map, hk2, hcells, hlt, deskRow, e1, hM, e3, p0, p1, wk, vcs, Nat.reduceAdd, Nat.reduceMul, Nat.reduceEqDiff, Nat.reduceLeDiff, Nat.reduceSub, Nat.reduceLT, Int.reduceToNat, Int.reduceLE, Int.reduceLT, Int.reduceAdd, Int.reduceSub, Int.reduceMul, Int.reduceNeg, reduceCtorEq, reduceIte, Int.reduceBEq, Int.reduceBNe, Int.reduceEq, Int.reduceNe, Nat.reduceBEq, Nat.reduceBNe, tys])
        have hw : IntKind.i64.wrap (IntKind.i64.wrap (d.top + 1) + k) = d.top + k + 1 := by rw [wrap_in (n := d.top + 1) (by omega) (by omega), wrap_in (by omega) (by omega)]; omega
        constructor
        · intro hb
          (refine Fin.pure ?_ ?_ ?_ <;> simp only [Try.results31, Try.ntmps31, vcs, Nat.reduceAdd, Nat.reduceMul, Nat.reduceEqDiff, Nat.reduceLeDiff, Nat.reduceSub, Nat.reduceLT, Int.reduceToNat, Int.reduceLE, Int.reduceLT, Int.reduceAdd, Int.reduceSub, Int.reduceMul, Int.reduceNeg, reduceCtorEq, reduceIte, Int.reduceBEq, Int.reduceBNe, Int.reduceEq, Int.reduceNe, Nat.reduceBEq, Nat.reduceBNe, tys])
          have := hAll_not hk2 (bne_flip hb hw)
          simp only [Desk.may, this, Bool.and_false, Bool.false_and, vcs, Nat.reduceAdd, Nat.reduceMul, Nat.reduceEqDiff, Nat.reduceLeDiff, Nat.reduceSub, Nat.reduceLT, Int.reduceToNat, Int.reduceLE, Int.reduceLT, Int.reduceAdd, Int.reduceSub, Int.reduceMul, Int.reduceNeg, reduceCtorEq, reduceIte, Int.reduceBEq, Int.reduceBNe, Int.reduceEq, Int.reduceNe, Nat.reduceBEq, Nat.reduceBNe, tys]
        · intro hb
          refine again_by (d.held.length - (k + 1)) (by omega) ⟨k + 1, by omega, rfl, by omega, ?_⟩
          simp only [deskRow, e1, hM, e3, p0, p1, wk, vcs, Nat.reduceAdd, Nat.reduceMul, Nat.reduceEqDiff, Nat.reduceLeDiff, Nat.reduceSub, Nat.reduceLT, Int.reduceToNat, Int.reduceLE, Int.reduceLT, Int.reduceAdd, Int.reduceSub, Int.reduceMul, Int.reduceNeg, reduceCtorEq, reduceIte, Int.reduceBEq, Int.reduceBNe, Int.reduceEq, Int.reduceNe, Nat.reduceBEq, Nat.reduceBNe, tys]
          rw [hAll_snoc hk2, hall]
          exact bne_flip hb hw
      · have hd : decide ((k : Int) < (d.held.length : Int)) = false := by simpa using hlt
        have hke : k = d.held.length := by omega
        subst hke
        rw [List.take_length] at hall
        simp only [List.length_map, deskRow, e1, hM, e3, p0, p1, hd, vcs, Nat.reduceAdd, Nat.reduceMul, Nat.reduceEqDiff, Nat.reduceLeDiff, Nat.reduceSub, Nat.reduceLT, Int.reduceToNat, Int.reduceLE, Int.reduceLT, Int.reduceAdd, Int.reduceSub, Int.reduceMul, Int.reduceNeg, reduceCtorEq, reduceIte, Int.reduceBEq, Int.reduceBNe, Int.reduceEq, Int.reduceNe, Nat.reduceBEq, Nat.reduceBNe, tys]
        refine loop_by (JR2 d b0) d.done.length ⟨0, Nat.zero_le _, by omega, by omega, ?_⟩ ?_
        · simp only [deskRow, List.take_zero, dAll, e1, hM, hall, p0, p1, Int.natCast_zero, vcs, Nat.reduceAdd, Nat.reduceMul, Nat.reduceEqDiff, Nat.reduceLeDiff, Nat.reduceSub, Nat.reduceLT, Int.reduceToNat, Int.reduceLE, Int.reduceLT, Int.reduceAdd, Int.reduceSub, Int.reduceMul, Int.reduceNeg, reduceCtorEq, reduceIte, Int.reduceBEq, Int.reduceBNe, Int.reduceEq, Int.reduceNe, Nat.reduceBEq, Nat.reduceBNe, tys]
        · clear e1 hM e3 p0 p1 wk hp hlt hd hk
          rintro g nm e M ⟨k, hk, rfl, hp, e1, hM, e4, hall, hdall⟩
          have p0 : (b0 = nm) = False := eq_false (by omega)
          have p1 : ∀ c, (b0 = nm + c) = False := fun c => eq_false (by omega)
          have wk : IntKind.i64.wrap ((k : Int) + 1) = ((k + 1 : Nat) : Int) := by rw [wrap_in (by omega) (by omega)]; push_cast; rfl
          by_cases hlt : k < d.done.length
          · have hd : decide ((k : Int) < (d.done.length : Int)) = true := by simpa using hlt
            obtain ⟨h, hk2⟩ : ∃ h, d.done[k]? = some h := ⟨_, List.getElem?_eq_getElem hlt⟩
            simp only [List.length_map, List.getElem?_map, hk2, dcells, deskRow, e1, hM, e4, p0, p1, hd, hlt, vcs, Nat.reduceAdd, Nat.reduceMul, Nat.reduceEqDiff, Nat.reduceLeDiff, Nat.reduceSub, Nat.reduceLT, Int.reduceToNat, Int.reduceLE, Int.reduceLT, Int.reduceAdd, Int.reduceSub, Int.reduceMul, Int.reduceNeg, reduceCtorEq, reduceIte, Int.reduceBEq, Int.reduceBNe, Int.reduceEq, Int.reduceNe, Nat.reduceBEq, Nat.reduceBNe, tys]
            refine call_fn (by simp only [vcs, Nat.reduceAdd, Nat.reduceMul, Nat.reduceEqDiff, Nat.reduceLeDiff, Nat.reduceSub, Nat.reduceLT, Int.reduceToNat, Int.reduceLE, Int.reduceLT, Int.reduceAdd, Int.reduceSub, Int.reduceMul, Int.reduceNeg, reduceCtorEq, reduceIte, Int.reduceBEq, Int.reduceBNe, Int.reduceEq, Int.reduceNe, Nat.reduceBEq, Nat.reduceBNe, tys] <;> rfl) (refDone_ev h.rid h.body h.text h.age _) ?_
            repeat (first | refine draw_end (by decide +kernel) ?_ | simp only [List.length_map, List.getElem?_map, hk2, dcells, hlt, deskRow, e1, hM, e4, p0, p1, wk, vcs, Nat.reduceAdd, Nat.reduceMul, Nat.reduceEqDiff, Nat.reduceLeDiff, Nat.reduceSub, Nat.reduceLT, Int.reduceToNat, Int.reduceLE, Int.reduceLT, Int.reduceAdd, Int.reduceSub, Int.reduceMul, Int.reduceNeg, reduceCtorEq, reduceIte, Int.reduceBEq, Int.reduceBNe, Int.reduceEq, Int.reduceNe, Nat.reduceBEq, Nat.reduceBNe, tys])
            have hw : IntKind.i64.wrap (IntKind.i64.wrap (IntKind.i64.wrap (d.top - d.done.length) + 1) + k) = d.top - d.done.length + k + 1 := by rw [wrap_in (n := d.top - d.done.length) (by omega) (by omega), wrap_in (n := d.top - d.done.length + 1) (by omega) (by omega), wrap_in (by omega) (by omega)]; omega
            constructor
            · intro hb
              (refine Fin.pure ?_ ?_ ?_ <;> simp only [Try.results31, Try.ntmps31, vcs, Nat.reduceAdd, Nat.reduceMul, Nat.reduceEqDiff, Nat.reduceLeDiff, Nat.reduceSub, Nat.reduceLT, Int.reduceToNat, Int.reduceLE, Int.reduceLT, Int.reduceAdd, Int.reduceSub, Int.reduceMul, Int.reduceNeg, reduceCtorEq, reduceIte, Int.reduceBEq, Int.reduceBNe, Int.reduceEq, Int.reduceNe, Nat.reduceBEq, Nat.reduceBNe, tys])
              have := dAll_not hk2 (bne_flip hb hw)
              simp only [Desk.may, this, Bool.and_false, Bool.false_and, vcs, Nat.reduceAdd, Nat.reduceMul, Nat.reduceEqDiff, Nat.reduceLeDiff, Nat.reduceSub, Nat.reduceLT, Int.reduceToNat, Int.reduceLE, Int.reduceLT, Int.reduceAdd, Int.reduceSub, Int.reduceMul, Int.reduceNeg, reduceCtorEq, reduceIte, Int.reduceBEq, Int.reduceBNe, Int.reduceEq, Int.reduceNe, Nat.reduceBEq, Nat.reduceBNe, tys]
            · intro hb
              refine again_by (d.done.length - (k + 1)) (by omega) ⟨k + 1, by omega, rfl, by omega, ?_⟩
              simp only [deskRow, e1, hM, e4, p0, p1, wk, hall, vcs, Nat.reduceAdd, Nat.reduceMul, Nat.reduceEqDiff, Nat.reduceLeDiff, Nat.reduceSub, Nat.reduceLT, Int.reduceToNat, Int.reduceLE, Int.reduceLT, Int.reduceAdd, Int.reduceSub, Int.reduceMul, Int.reduceNeg, reduceCtorEq, reduceIte, Int.reduceBEq, Int.reduceBNe, Int.reduceEq, Int.reduceNe, Nat.reduceBEq, Nat.reduceBNe, tys]
              rw [dAll_snoc hk2, hdall]
              exact bne_flip hb hw
          · have hd : decide ((k : Int) < (d.done.length : Int)) = false := by simpa using hlt
            have hke : k = d.done.length := by omega
            subst hke
            rw [List.take_length] at hdall
            simp only [List.length_map, deskRow, e1, hM, e4, p0, p1, hd, vcs, Nat.reduceAdd, Nat.reduceMul, Nat.reduceEqDiff, Nat.reduceLeDiff, Nat.reduceSub, Nat.reduceLT, Int.reduceToNat, Int.reduceLE, Int.reduceLT, Int.reduceAdd, Int.reduceSub, Int.reduceMul, Int.reduceNeg, reduceCtorEq, reduceIte, Int.reduceBEq, Int.reduceBNe, Int.reduceEq, Int.reduceNe, Nat.reduceBEq, Nat.reduceBNe, tys]
            (refine Fin.pure ?_ ?_ ?_ <;> simp only [Try.results31, Try.ntmps31, vcs, Nat.reduceAdd, Nat.reduceMul, Nat.reduceEqDiff, Nat.reduceLeDiff, Nat.reduceSub, Nat.reduceLT, Int.reduceToNat, Int.reduceLE, Int.reduceLT, Int.reduceAdd, Int.reduceSub, Int.reduceMul, Int.reduceNeg, reduceCtorEq, reduceIte, Int.reduceBEq, Int.reduceBNe, Int.reduceEq, Int.reduceNe, Nat.reduceBEq, Nat.reduceBNe, tys])
            simp only [Desk.may, hall, hdall, hh, Bool.and_self, vcs, Nat.reduceAdd, Nat.reduceMul, Nat.reduceEqDiff, Nat.reduceLeDiff, Nat.reduceSub, Nat.reduceLT, Int.reduceToNat, Int.reduceLE, Int.reduceLT, Int.reduceAdd, Int.reduceSub, Int.reduceMul, Int.reduceNeg, reduceCtorEq, reduceIte, Int.reduceBEq, Int.reduceBNe, Int.reduceEq, Int.reduceNe, Nat.reduceBEq, Nat.reduceBNe, tys]
theorem refCheck_ev (d : Desk) (hn : d.held.length ≤ lim) (hm : d.done.length ≤ lim) (nm : Nat) : Ev cx 18 nm [deskV d] Mem.nil (.int .i64 (if d.may then 0 else 8)) [] := by
  refine ev_go (fun cargs w => Try.call18 cargs w) Try.func18 rfl mixed (by kernel_rfl) rfl ?_
  intro b0 hb0
  simp only [deskV]
  repeat (first | refine draw_end (by decide +kernel) ?_ | simp only [vcs, Nat.reduceAdd, Nat.reduceMul, Nat.reduceEqDiff, Nat.reduceLeDiff, Nat.reduceSub, Nat.reduceLT, Int.reduceToNat, Int.reduceLE, Int.reduceLT, Int.reduceAdd, Int.reduceSub, Int.reduceMul, Int.reduceNeg, reduceCtorEq, reduceIte, Int.reduceBEq, Int.reduceBNe, Int.reduceEq, Int.reduceNe, Nat.reduceBEq, Nat.reduceBNe, tys])
  refine call_fn (by simp only [vcs, Nat.reduceAdd, Nat.reduceMul, Nat.reduceEqDiff, Nat.reduceLeDiff, Nat.reduceSub, Nat.reduceLT, Int.reduceToNat, Int.reduceLE, Int.reduceLT, Int.reduceAdd, Int.reduceSub, Int.reduceMul, Int.reduceNeg, reduceCtorEq, reduceIte, Int.reduceBEq, Int.reduceBNe, Int.reduceEq, Int.reduceNe, Nat.reduceBEq, Nat.reduceBNe, tys] <;> rfl) (refMay_ev d hn hm _) ?_
  repeat (first | refine draw_end (by decide +kernel) ?_ | simp only [vcs, Nat.reduceAdd, Nat.reduceMul, Nat.reduceEqDiff, Nat.reduceLeDiff, Nat.reduceSub, Nat.reduceLT, Int.reduceToNat, Int.reduceLE, Int.reduceLT, Int.reduceAdd, Int.reduceSub, Int.reduceMul, Int.reduceNeg, reduceCtorEq, reduceIte, Int.reduceBEq, Int.reduceBNe, Int.reduceEq, Int.reduceNe, Nat.reduceBEq, Nat.reduceBNe, tys])
  constructor
  · intro hb
    (refine Fin.pure ?_ ?_ ?_ <;> simp only [Try.results18, Try.ntmps18, vcs, Nat.reduceAdd, Nat.reduceMul, Nat.reduceEqDiff, Nat.reduceLeDiff, Nat.reduceSub, Nat.reduceLT, Int.reduceToNat, Int.reduceLE, Int.reduceLT, Int.reduceAdd, Int.reduceSub, Int.reduceMul, Int.reduceNeg, reduceCtorEq, reduceIte, Int.reduceBEq, Int.reduceBNe, Int.reduceEq, Int.reduceNe, Nat.reduceBEq, Nat.reduceBNe, tys])
    rw [Bool.not_eq_true'] at hb
    simp only [hb, vcs, Nat.reduceAdd, Nat.reduceMul, Nat.reduceEqDiff, Nat.reduceLeDiff, Nat.reduceSub, Nat.reduceLT, Int.reduceToNat, Int.reduceLE, Int.reduceLT, Int.reduceAdd, Int.reduceSub, Int.reduceMul, Int.reduceNeg, reduceCtorEq, reduceIte, Int.reduceBEq, Int.reduceBNe, Int.reduceEq, Int.reduceNe, Nat.reduceBEq, Nat.reduceBNe, tys]
  · intro hb
    (refine Fin.pure ?_ ?_ ?_ <;> simp only [Try.results18, Try.ntmps18, vcs, Nat.reduceAdd, Nat.reduceMul, Nat.reduceEqDiff, Nat.reduceLeDiff, Nat.reduceSub, Nat.reduceLT, Int.reduceToNat, Int.reduceLE, Int.reduceLT, Int.reduceAdd, Int.reduceSub, Int.reduceMul, Int.reduceNeg, reduceCtorEq, reduceIte, Int.reduceBEq, Int.reduceBNe, Int.reduceEq, Int.reduceNe, Nat.reduceBEq, Nat.reduceBNe, tys])
    rw [Bool.not_eq_false'] at hb
    simp only [hb, vcs, Nat.reduceAdd, Nat.reduceMul, Nat.reduceEqDiff, Nat.reduceLeDiff, Nat.reduceSub, Nat.reduceLT, Int.reduceToNat, Int.reduceLE, Int.reduceLT, Int.reduceAdd, Int.reduceSub, Int.reduceMul, Int.reduceNeg, reduceCtorEq, reduceIte, Int.reduceBEq, Int.reduceBNe, Int.reduceEq, Int.reduceNe, Nat.reduceBEq, Nat.reduceBNe, tys]
end Go.Proofs.Ytdbbnhmnlgfjoaa
