/-
  Layer 28: desks that are more than the statements go through.
-/
import Derived.Test.YtdbbnhmnlgfjoaaWe
namespace Go.Proofs.Ytdbbnhmnlgfjoaa
set_option linter.unusedSimpArgs false
set_option linter.unusedVariables false
open Go Go.RowKit Go.Proofs.Ytdbbnhmnlgfjoaa.Vm

def hBig (h : Hd) : Bool := decide (20000 < h.body.length)
def dBig (x : Dn) : Bool := decide (40000 < x.body.length + x.text.length)
def Desk.great (d : Desk) : Bool := (d.held.take 8).any hBig || ((d.done.take 8).any dBig || (decide ((6 : Int) < d.held.length) || decide ((6 : Int) < d.done.length)))
/-- Texts are of a length that a machine has. -/
def Desk.fits (d : Desk) : Prop := d.held.length ≤ lim ∧ d.done.length ≤ lim ∧ (∀ h ∈ d.held, h.body.length ≤ lim) ∧ ∀ x ∈ d.done, x.body.length ≤ lim ∧ x.text.length ≤ lim
def JG1 (d : Desk) (p : Nat) (k nm : Nat) (e : Env) (M : Mem) : Prop := p < nm ∧ e 1 = .ptr p 0 0 ∧ M p = some ⟨4, [deskRow d]⟩ ∧ e 3 = .int .i64 k ∧ (d.held.take k).any hBig = false
def JG2 (d : Desk) (p : Nat) (k nm : Nat) (e : Env) (M : Mem) : Prop := p < nm ∧ e 1 = .ptr p 0 0 ∧ M p = some ⟨4, [deskRow d]⟩ ∧ e 4 = .int .i64 k ∧ (d.done.take k).any dBig = false
theorem any_snoc {α : Type} {p : α → Bool} {l : List α} {k : Nat} {x : α} (h : l[k]? = some x) : (l.take (k + 1)).any p = ((l.take k).any p || p x) := by
  rw [List.take_add_one, h]; simp
theorem any_take {α : Type} {p : α → Bool} {l : List α} {k n : Nat} (hk : k < n) {x : α} (h : l[k]? = some x) (hp : p x = true) : (l.take n).any p = true := by
  rw [List.any_eq_true]
  exact ⟨x, List.mem_of_getElem? (i := k) (by rw [List.getElem?_take, if_pos hk]; exact h), hp⟩
theorem take_min {α : Type} {l : List α} {k n : Nat} (hk : ¬ k < min l.length n) (hn : k ≤ min l.length n) : l.take n = l.take k := by
  have : k = min l.length n := by omega
  rcases Nat.le_total l.length n with h | h
  · rw [List.take_of_length_le h, List.take_of_length_le (by omega)]
  · rw [show k = n by omega]

set_option maxHeartbeats 2000000 in
theorem great_ev (d : Desk) (hf : d.fits) (nm : Nat) : Ev cx 9 nm [deskV d] Mem.nil (.bool d.great) [] := by
  obtain ⟨f1, f2, f3, f4⟩ := hf
  unfold lim at f1 f2 f3 f4
  refine ev_go (fun cargs w => Try.call9 cargs w) Try.func9 rfl mixed (by kernel_rfl) rfl ?_
  intro b0 hb0
  simp only [deskV]
  repeat (first | refine draw_end (by decide +kernel) ?_ | simp only [vcs, Nat.reduceAdd, Nat.reduceMul, Nat.reduceEqDiff, Nat.reduceLeDiff, Nat.reduceSub, Nat.reduceLT, Int.reduceToNat, Int.reduceLE, Int.reduceLT, Int.reduceAdd, Int.reduceSub, Int.reduceMul, Int.reduceNeg, reduceCtorEq, reduceIte, Int.reduceBEq, Int.reduceBNe, Int.reduceEq, Int.reduceNe, Nat.reduceBEq, Nat.reduceBNe, tys, List.length_map, List.getElem?_map])
  refine loop_up (min d.held.length 8) (JG1 d b0) ⟨by omega, ?_⟩ ?_
  · simp only [deskRow, List.any_nil, Int.natCast_zero, vcs, Nat.reduceAdd, Nat.reduceMul, Nat.reduceEqDiff, Nat.reduceLeDiff, Nat.reduceSub, Nat.reduceLT, Int.reduceToNat, Int.reduceLE, Int.reduceLT, Int.reduceAdd, Int.reduceSub, Int.reduceMul, Int.reduceNeg, reduceCtorEq, reduceIte, Int.reduceBEq, Int.reduceBNe, Int.reduceEq, Int.reduceNe, Nat.reduceBEq, Nat.reduceBNe, tys, List.length_map, List.getElem?_map]
  · rintro k nm e M hk ⟨hp, e1, hM, e3, hany⟩
    have p0 := lt_ne hp
    have p1 := lt_ne_add hp
    by_cases hlt : k < min d.held.length 8
    · have wk := wrap_up hlt (by omega)
      have q1 : k < d.held.length := by omega
      have q2 : (k : Int) < 8 := by omega
      obtain ⟨h, hh⟩ : ∃ h, d.held[k]? = some h := ⟨_, List.getElem?_eq_getElem q1⟩
      repeat (first | refine draw_end (by decide +kernel) ?_ | simp only [hh, hcells, deskRow, e1, hM, e3, p0, p1, q1, q2, wk, vcs, Nat.reduceAdd, Nat.reduceMul, Nat.reduceEqDiff, Nat.reduceLeDiff, Nat.reduceSub, Nat.reduceLT, Int.reduceToNat, Int.reduceLE, Int.reduceLT, Int.reduceAdd, Int.reduceSub, Int.reduceMul, Int.reduceNeg, reduceCtorEq, reduceIte, Int.reduceBEq, Int.reduceBNe, Int.reduceEq, Int.reduceNe, Nat.reduceBEq, Nat.reduceBNe, tys, List.length_map, List.getElem?_map])
      constructor
      · intro hb
        (refine Fin.pure ?_ ?_ ?_ <;> simp only [Try.results9, Try.ntmps9, vcs, Nat.reduceAdd, Nat.reduceMul, Nat.reduceEqDiff, Nat.reduceLeDiff, Nat.reduceSub, Nat.reduceLT, Int.reduceToNat, Int.reduceLE, Int.reduceLT, Int.reduceAdd, Int.reduceSub, Int.reduceMul, Int.reduceNeg, reduceCtorEq, reduceIte, Int.reduceBEq, Int.reduceBNe, Int.reduceEq, Int.reduceNe, Nat.reduceBEq, Nat.reduceBNe, tys, List.length_map, List.getElem?_map])
        have hg : d.great = true := by
          unfold Desk.great
          rw [any_take (by omega) hh (decide_eq_true (by have := of_decide_eq_true hb; omega)), Bool.true_or]
        rw [hg]
      · intro hb
        refine again_up hlt ⟨by omega, ?_⟩
        simp only [deskRow, e1, hM, e3, p0, p1, wk, vcs, Nat.reduceAdd, Nat.reduceMul, Nat.reduceEqDiff, Nat.reduceLeDiff, Nat.reduceSub, Nat.reduceLT, Int.reduceToNat, Int.reduceLE, Int.reduceLT, Int.reduceAdd, Int.reduceSub, Int.reduceMul, Int.reduceNeg, reduceCtorEq, reduceIte, Int.reduceBEq, Int.reduceBNe, Int.reduceEq, Int.reduceNe, Nat.reduceBEq, Nat.reduceBNe, tys, List.length_map, List.getElem?_map]
        rw [any_snoc hh, hany, Bool.false_or]
        exact decide_eq_false (by have := of_decide_eq_false hb; omega)
    · have hcond : (decide (k < d.held.length) && decide ((k : Int) < 8)) = false := by
        rw [Bool.and_eq_false_iff, decide_eq_false_iff_not, decide_eq_false_iff_not]; omega
      have hall := take_min hlt hk
      repeat (first | refine draw_end (by decide +kernel) ?_ | simp only [hcond, deskRow, e1, hM, e3, p0, p1, vcs, Nat.reduceAdd, Nat.reduceMul, Nat.reduceEqDiff, Nat.reduceLeDiff, Nat.reduceSub, Nat.reduceLT, Int.reduceToNat, Int.reduceLE, Int.reduceLT, Int.reduceAdd, Int.reduceSub, Int.reduceMul, Int.reduceNeg, reduceCtorEq, reduceIte, Int.reduceBEq, Int.reduceBNe, Int.reduceEq, Int.reduceNe, Nat.reduceBEq, Nat.reduceBNe, tys, List.length_map, List.getElem?_map])
      refine loop_up (min d.done.length 8) (JG2 d b0) ⟨by omega, ?_⟩ ?_
      · simp only [deskRow, List.any_nil, Int.natCast_zero, e1, hM, e3, p0, p1, vcs, Nat.reduceAdd, Nat.reduceMul, Nat.reduceEqDiff, Nat.reduceLeDiff, Nat.reduceSub, Nat.reduceLT, Int.reduceToNat, Int.reduceLE, Int.reduceLT, Int.reduceAdd, Int.reduceSub, Int.reduceMul, Int.reduceNeg, reduceCtorEq, reduceIte, Int.reduceBEq, Int.reduceBNe, Int.reduceEq, Int.reduceNe, Nat.reduceBEq, Nat.reduceBNe, tys, List.length_map, List.getElem?_map]
      · rw [← hall] at hany
        clear hp e1 hM e3 p0 p1 hlt hcond hall hk
        rintro k nm e M hk ⟨hp, e1, hM, e4, hany2⟩
        have p0 := lt_ne hp
        have p1 := lt_ne_add hp
        by_cases hlt : k < min d.done.length 8
        · have wk := wrap_up hlt (by omega)
          have q1 : k < d.done.length := by omega
          have q2 : (k : Int) < 8 := by omega
          obtain ⟨h, hh⟩ : ∃ h, d.done[k]? = some h := ⟨_, List.getElem?_eq_getElem q1⟩
          have hl := f4 h (List.mem_of_getElem? hh)
          have hw : IntKind.i64.wrap ((h.body.length : Int) + h.text.length) = (h.body.length : Int) + h.text.length := wrap_in (by omega) (by omega)
          repeat (first | refine draw_end (by decide +kernel) ?_ | simp only [hh, dcells, deskRow, e1, hM, e4, p0, p1, q1, q2, wk, hw, vcs, Nat.reduceAdd, Nat.reduceMul, Nat.reduceEqDiff, Nat.reduceLeDiff, Nat.reduceSub, Nat.reduceLT, Int.reduceToNat, Int.reduceLE, Int.reduceLT, Int.reduceAdd, Int.reduceSub, Int.reduceMul, Int.reduceNeg, reduceCtorEq, reduceIte, Int.reduceBEq, Int.reduceBNe, Int.reduceEq, Int.reduceNe, Nat.reduceBEq, Nat.reduceBNe, tys, List.length_map, List.getElem?_map])
          constructor
          · intro hb
            (refine Fin.pure ?_ ?_ ?_ <;> simp only [Try.results9, Try.ntmps9, vcs, Nat.reduceAdd, Nat.reduceMul, Nat.reduceEqDiff, Nat.reduceLeDiff, Nat.reduceSub, Nat.reduceLT, Int.reduceToNat, Int.reduceLE, Int.reduceLT, Int.reduceAdd, Int.reduceSub, Int.reduceMul, Int.reduceNeg, reduceCtorEq, reduceIte, Int.reduceBEq, Int.reduceBNe, Int.reduceEq, Int.reduceNe, Nat.reduceBEq, Nat.reduceBNe, tys, List.length_map, List.getElem?_map])
            have hg : d.great = true := by
              unfold Desk.great
              rw [any_take (l := d.done) (by omega) hh (decide_eq_true (by have := of_decide_eq_true hb; omega)), Bool.true_or, Bool.or_true]
            rw [hg]
          · intro hb
            refine again_up hlt ⟨by omega, ?_⟩
            simp only [deskRow, e1, hM, e4, p0, p1, wk, vcs, Nat.reduceAdd, Nat.reduceMul, Nat.reduceEqDiff, Nat.reduceLeDiff, Nat.reduceSub, Nat.reduceLT, Int.reduceToNat, Int.reduceLE, Int.reduceLT, Int.reduceAdd, Int.reduceSub, Int.reduceMul, Int.reduceNeg, reduceCtorEq, reduceIte, Int.reduceBEq, Int.reduceBNe, Int.reduceEq, Int.reduceNe, Nat.reduceBEq, Nat.reduceBNe, tys, List.length_map, List.getElem?_map]
            rw [any_snoc hh, hany2, Bool.false_or]
            exact decide_eq_false (by have := of_decide_eq_false hb; omega)
        · have hcond : (decide (k < d.done.length) && decide ((k : Int) < 8)) = false := by
            rw [Bool.and_eq_false_iff, decide_eq_false_iff_not, decide_eq_false_iff_not]; omega
          have hall := take_min hlt hk
          rw [← hall] at hany2
          repeat (first | refine draw_end (by decide +kernel) ?_ | simp only [hcond, deskRow, e1, hM, e4, p0, p1, vcs, Nat.reduceAdd, Nat.reduceMul, Nat.reduceEqDiff, Nat.reduceLeDiff, Nat.reduceSub, Nat.reduceLT, Int.reduceToNat, Int.reduceLE, Int.reduceLT, Int.reduceAdd, Int.reduceSub, Int.reduceMul, Int.reduceNeg, reduceCtorEq, reduceIte, Int.reduceBEq, Int.reduceBNe, Int.reduceEq, Int.reduceNe, Nat.reduceBEq, Nat.reduceBNe, tys, List.length_map, List.getElem?_map])
          (refine Fin.pure ?_ ?_ ?_ <;> simp only [Try.results9, Try.ntmps9, vcs, Nat.reduceAdd, Nat.reduceMul, Nat.reduceEqDiff, Nat.reduceLeDiff, Nat.reduceSub, Nat.reduceLT, Int.reduceToNat, Int.reduceLE, Int.reduceLT, Int.reduceAdd, Int.reduceSub, Int.reduceMul, Int.reduceNeg, reduceCtorEq, reduceIte, Int.reduceBEq, Int.reduceBNe, Int.reduceEq, Int.reduceNe, Nat.reduceBEq, Nat.reduceBNe, tys, List.length_map, List.getElem?_map])
          simp only [Desk.great, hany, hany2, Bool.false_or]
theorem great_small {d : Desk} (h : d.great = false) : d.held.length ≤ 6 ∧ d.done.length ≤ 6 := by
  simp only [Desk.great, Bool.or_eq_false_iff, decide_eq_false_iff_not] at h
  omega
end Go.Proofs.Ytdbbnhmnlgfjoaa
