/-
  Texts joined: XYs.
-/
import Derived.Test.YtnnlicidlidclaaMo
/-
  Layer 27: requests that were kept. (No program in sight.)
-/
namespace Go.Proofs.Ytnnlicidlidclaa
set_option linter.unusedSimpArgs false
set_option linter.unusedVariables false
open Go Go.RowKit Go.Proofs.Ytnnlicidlidclaa.Vm

theorem lastR_lt {r : Int} : ∀ {a : List Ea} {l : Int}, l < r → (∀ y ∈ a, y.rid < r) → lastR l a < r
  | [], _, h, _ => h
  | x :: a, _, _, h => lastR_lt (a := a) (h x (List.mem_cons_self ..)) (fun y hy => h y (List.mem_cons_of_mem _ hy))
theorem eAll_raise {hi l l' : Int} {a : List Ea} (h : eAll hi l a = true) (ha : ∀ y ∈ a, l' < y.rid) : eAll hi l' a = true := by
  cases a with
  | nil => rfl
  | cons x a =>
    simp only [eAll, Bool.and_eq_true, inRange, decide_eq_true_eq] at h ⊢
    have := ha x (List.mem_cons_self ..)
    exact ⟨⟨h.1.1, by omega, h.1.2.2⟩, h.2⟩
/-- A request that was kept: B are those ahead of it, C those behind. -/
structure Kept (w : Wn) (x : Ea) (B C : List Ea) : Prop where
  head : w.head = true
  xmay : x.may = true
  lo : w.last < x.rid
  hi : x.rid ≤ w.last + w.size
  below : ∀ y ∈ B, y.rid < x.rid
  above : ∀ y ∈ C, x.rid < y.rid
  all1 : eAll (w.last + w.size) w.last B = true
  all2 : eAll (w.last + w.size) (lastR w.last B) C = true
theorem Kept.may {w : Wn} {x : Ea} {B C : List Ea} (h : Kept w x B C) {z : Ea} (hz : z.may = true) (hr : z.rid = x.rid) : ({ w with early := B ++ z :: C } : Wn).may = true := by
  have h1 := lastR_lt h.lo h.below
  have h2 : eAll (w.last + w.size) x.rid C = true := eAll_raise h.all2 h.above
  have h3 : inRange (lastR w.last B + 1) (w.last + w.size) x.rid = true := by
    simp only [inRange, Bool.and_eq_true, decide_eq_true_eq]; have := h.hi; omega
  have h4 : ({ w with early := B ++ z :: C } : Wn).head = true := h.head
  simp only [Wn.may, h4, eAll_append, eAll, hz, hr, h.all1, h2, h3, Bool.and_self]
theorem kept_of {w : Wn} {x : Ea} (h0 : (comeR w x).2 = 0) (h1 : (comeR w x).1.2.1 = 1) : ∃ B C, Kept w x B C ∧ comeR w x = (({ w with early := B ++ x :: C }, 1, 0), 0) := by
  cases hm : w.may with
  | false => rw [comeR, if_neg (by simp [hm])] at h0; cases h0
  | true =>
    cases hx : x.may with
    | false => rw [comeR, if_pos hm, if_neg (by simp [hx])] at h0; cases h0
    | true =>
      have hc : comeR w x = (cameR w x, 0) := by rw [comeR, if_pos hm, if_pos hx]
      rw [hc] at h1
      simp only at h1
      by_cases g1 : x.rid ≤ w.last
      · rw [cameR, if_pos g1] at h1; cases h1
      · by_cases g2 : w.last + w.size < x.rid
        · rw [cameR, if_neg g1, if_pos g2] at h1; cases h1
        · cases hf : w.early.findIdx? (isE x.rid) with
          | some n =>
            rw [cameR, if_neg g1, if_neg g2, hf] at h1
            simp only at h1
            split at h1
            · split at h1 <;> cases h1
            · cases h1
          | none =>
            have hcam : cameR w x = ({ w with early := w.early.filter (lowE x.rid) ++ x :: w.early.filter (highE x.rid) }, 1, 0) := by
              rw [cameR, if_neg g1, if_neg g2, hf]
            refine ⟨w.early.filter (lowE x.rid), w.early.filter (highE x.rid), ?_, by rw [hc, hcam]⟩
            have hany : w.early.any (isE x.rid) = false := by
              rw [List.findIdx?_eq_none_iff] at hf
              rw [List.any_eq_false]; intro y hy; simpa using hf y hy
            have hm' := hm
            simp only [Wn.may, Bool.and_eq_true] at hm'
            obtain ⟨hord, _⟩ := eAll_ord hm'.2
            have hs : w.early = w.early.filter (lowE x.rid) ++ w.early.filter (highE x.rid) := by
              rw [← atE_take hord, ← atE_drop hord hany, List.take_append_drop]
            have hall := hm'.2
            rw [hs, eAll_append, Bool.and_eq_true] at hall
            exact ⟨hm'.1, hx, by omega, by omega, fun y hy => by simpa [lowE] using (List.mem_filter.1 hy).2, fun y hy => by simpa [highE] using (List.mem_filter.1 hy).2, hall.1, hall.2⟩
/-- It comes again. -/
theorem Kept.again {w : Wn} {x : Ea} {B C : List Ea} (h : Kept w x B C) (body : List UInt8) (conn : Int) (hy : (⟨x.rid, body, conn, x.left⟩ : Ea).may = true) :
    comeR { w with early := B ++ x :: C } ⟨x.rid, body, conn, x.left⟩ = if x.body == body then (({ w with early := B ++ { x with conn := conn } :: C }, 2, x.conn), 0) else (({ w with early := B ++ x :: C }, 0, 0), 0) := by
  have hm := h.may h.xmay rfl
  have hk : (B ++ x :: C)[B.length]? = some x := by simp
  have hf : (B ++ x :: C).findIdx? (isE x.rid) = some B.length := by
    refine find_some hk (by simp [isE]) ?_
    rw [List.take_left' rfl, List.any_eq_false]
    intro y hy hc
    have := h.below y hy
    simp only [isE, beq_iff_eq] at hc
    omega
  have hs : (B ++ x :: C).set B.length { x with conn := conn } = B ++ { x with conn := conn } :: C := by
    rw [List.set_append_right (h := Nat.le_refl _), Nat.sub_self]; rfl
  rw [comeR, if_pos hm, if_pos hy, cameR, if_neg (by have := h.lo; simp only; omega), if_neg (by have := h.hi; simp only; omega)]
  simp only [hf, hk, hs]
  split <;> rfl
end Go.Proofs.Ytnnlicidlidclaa
