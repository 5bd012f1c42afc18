/-
  HeldAcks holds for every input: answers that came are told no more, all others are, and what is reported is the first of these.
-/
import Derived.Test.YtdbbnhmnlgfjoaaRows
import Derived.WalkKit
import Derived.ProofKit
import Derived.OpenShut
import Derived.ChangeOld
import Derived.Test.YtdbbnhmnlgfjoaaMk
namespace Go.Proofs.Ytdbbnhmnlgfjoaa.heldAcks
set_option linter.unusedSimpArgs false
set_option linter.unusedVariables false
open Go Go.RowKit Go.Proofs.Ytdbbnhmnlgfjoaa.Vm
theorem lifted (os : Os) (started : os.Started) (H : Type) (enc : TypeId × Value → H) :
    ReturnsInHanded {} Try.checked os 7 .any (Rows.heldAcksSpec.pre6 enc Try.prog Try.f7 Rows.heldAcksRow.domain false) (Rows.heldAcksSpec.post enc Try.prog Try.f7 false true false false) :=
  lifted_of_ev (C := Try.checked) (cx := cx) rfl (fun _ => rfl) (by kernel_rfl) started (by kernel_rfl) Try.func7 rfl (by kernel_rfl) (reachT cx.P 1000 Try.f7.params.toList []) (by kernel_rfl) (by kernel_rfl) (by kernel_rfl)
    (tb := 4) rfl (by kernel_rfl) (fun H ds hn => by
      simp only [Try.params7, List.length_cons, List.length_nil] at hn
      match ds, hn with
      | [d0, d1], _ => exact ⟨rfl, rfl, rfl⟩
      )
    (ChangeSpec.witness6 (enc := enc) (C := Try.checked) false ⟨#[], #[.agg #[.slice none 0 0, .slice none 0 0, .int .i64 0, .int .i64 0], .int .i64 0], []⟩ 8 (by kernel_rfl) (by kernel_rfl) (by kernel_rfl) (by kernel_rfl))
    (fun xs has => heldAcks_args xs has)
theorem over : Rows.heldAcksRow.holds Try.pinned (OpenSpec.ofChange Rows.heldAcksSpec) :=
  OpenClaim.holds_of_wide 7 Try.f7 rfl rfl rfl rfl rfl rfl rfl ⟨rfl, rfl, rfl, rfl, rfl⟩ rfl rfl rfl rfl rfl (by kernel_rfl) Try.func7 (by kernel_rfl)
    (of_decide_eq_true (by kernel_rfl)) (by unfold Func.isWrapper; first | (rw [if_pos (by decide +kernel)]; kernel_rfl) | (rw [if_neg (by decide +kernel)]; exact ⟨rfl, rfl⟩))
    (fun os started H enc _ => lifted os started H enc)
/-- The statement. -/
theorem proved : Rows.HeldAcksSaid := over
#print axioms proved
end Go.Proofs.Ytdbbnhmnlgfjoaa.heldAcks
