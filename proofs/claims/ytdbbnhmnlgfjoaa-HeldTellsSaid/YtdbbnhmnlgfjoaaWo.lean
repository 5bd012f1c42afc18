/-
  Layer 28: what can be handed in as a desk.
-/
import Derived.Test.YtdbbnhmnlgfjoaaWn
namespace Go.Proofs.Ytdbbnhmnlgfjoaa
set_option linter.unusedSimpArgs false
set_option linter.unusedVariables false
open Go Go.RowKit Go.Proofs.Ytdbbnhmnlgfjoaa.Vm

def Hd.fits (x : Hd) : Prop := x.body.length ≤ lim ∧ (-9223372036854775808 ≤ x.rid ∧ x.rid ≤ 9223372036854775807) ∧ (-9223372036854775808 ≤ x.conn ∧ x.conn ≤ 9223372036854775807)
def Dn.fits (x : Dn) : Prop := (x.body.length ≤ lim ∧ x.text.length ≤ lim) ∧ (-9223372036854775808 ≤ x.rid ∧ x.rid ≤ 9223372036854775807)
theorem hd_shape {n : Nat} {vs : List V} (h : Shape cx.P n 43 vs) : ∃ x : Hd, vs = hcells x ∧ x.fits := by
  obtain ⟨n', h⟩ := shape_struct kind_43 h
  obtain ⟨_, _, rfl, h1, _, _, rfl, h2, _, _, rfl, h3, _, _, rfl, h4, _, _, rfl, h5, _, _, rfl, h6, h7⟩ := h
  obtain ⟨a1, rfl, r1⟩ := shape_int kind_3 h1
  obtain ⟨a2, rfl, r2⟩ := shape_int kind_3 h2
  obtain ⟨a3, rfl, r3⟩ := shape_int kind_3 h3
  obtain ⟨a4, rfl, r4⟩ := shape_str kind_9 h4
  obtain ⟨a5, rfl, r5⟩ := shape_int kind_3 h5
  obtain ⟨a6, rfl, r6⟩ := shape_int kind_3 h6
  obtain rfl := shapeT_nil h7
  exact ⟨⟨a1, a2, a3, a4, a5, a6⟩, rfl, Nat.le_trans r4 (by decide), r1, r2⟩
theorem dn_shape {n : Nat} {vs : List V} (h : Shape cx.P n 68 vs) : ∃ x : Dn, vs = dcells x ∧ x.fits := by
  obtain ⟨n', h⟩ := shape_struct kind_68 h
  obtain ⟨_, _, rfl, h1, _, _, rfl, h2, _, _, rfl, h3, _, _, rfl, h4, h7⟩ := h
  obtain ⟨a1, rfl, r1⟩ := shape_int kind_3 h1
  obtain ⟨a2, rfl, r2⟩ := shape_str kind_9 h2
  obtain ⟨a3, rfl, r3⟩ := shape_str kind_9 h3
  obtain ⟨a4, rfl, r4⟩ := shape_int kind_3 h4
  obtain rfl := shapeT_nil h7
  exact ⟨⟨a1, a2, a3, a4⟩, rfl, ⟨Nat.le_trans r2 (by decide), Nat.le_trans r3 (by decide)⟩, r1⟩
theorem desk_shape {n : Nat} {vs : List V} (h : Shape cx.P n 25 vs) : ∃ x : Desk, vs = deskRow x ∧ x.fits ∧ (∀ y ∈ x.held, y.fits) ∧ (∀ y ∈ x.done, y.fits) ∧ -9223372036854775808 ≤ x.top ∧ x.top ≤ 9223372036854775807 := by
  obtain ⟨n', h⟩ := shape_struct kind_25 h
  obtain ⟨_, _, rfl, h1, _, _, rfl, h2, _, _, rfl, h3, _, _, rfl, h4, h7⟩ := h
  obtain ⟨_, r1, rfl, l1, m1, g1⟩ := shape_slice kind_22 h1
  obtain ⟨_, r2, rfl, l2, m2, g2⟩ := shape_slice kind_23 h2
  obtain ⟨a3, rfl, r3⟩ := shape_int kind_3 h3
  obtain ⟨a4, rfl, r4⟩ := shape_int kind_3 h4
  obtain rfl := shapeT_nil h7
  obtain ⟨x1, rfl, f1⟩ := rows_map hcells Hd.fits (fun r hr => hd_shape (g1 r hr))
  obtain ⟨x2, rfl, f2⟩ := rows_map dcells Dn.fits (fun r hr => dn_shape (g2 r hr))
  rw [List.length_map] at m1 m2
  exact ⟨⟨x1, x2, a3, a4⟩, rfl, ⟨by show x1.length ≤ lim; unfold lim; omega, by show x2.length ≤ lim; unfold lim; omega, fun h hh => (f1 h hh).1, fun h hh => (f2 h hh).1⟩, f1, f2, r3⟩
theorem heldTells_args (xs : List V) (h : ShapeArgs cx.P Try.f3.params.toList xs) : Ev cx 3 0 xs Mem.nil (.bool true) [] := by
  rw [Try.params3] at h
  obtain ⟨_, v1, _, rfl, h1, _, v2, _, rfl, h2, _, v3, _, rfl, h3, h4⟩ := h
  obtain rfl := args_nil h4
  obtain ⟨d, rfl, fd, _⟩ := desk_shape h1
  obtain ⟨o, rfl, fo, _⟩ := desk_shape h2
  obtain ⟨c, rfl, _⟩ := shape_int kind_3 h3
  rw [argV_struct kind_25, argV_struct kind_25, argV_one kind_3 (by simp)]
  exact heldTells_ev d o c fd fo 0
end Go.Proofs.Ytdbbnhmnlgfjoaa
