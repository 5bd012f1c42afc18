/-
  HeldTurns holds for every input: what is added, answered, asked again and acknowledged is as the document says.
-/
import Derived.Test.YtdbbnhmnlgfjoaaRows
import Derived.WalkKit
import Derived.ProofKit
import Derived.OpenShut
import Derived.ChangeOld
import Derived.Test.YtdbbnhmnlgfjoaaMg
namespace Go.Proofs.Ytdbbnhmnlgfjoaa.heldTurns
set_option linter.unusedSimpArgs false
set_option linter.unusedVariables false
open Go Go.RowKit Go.Proofs.Ytdbbnhmnlgfjoaa.Vm
theorem lifted (os : Os) (started : os.Started) (H : Type) (enc : TypeId × Value → H) :
    ReturnsInHanded {} Try.checked os 4 .any (Rows.heldTurnsSpec.pre6 enc Try.prog Try.f4 Rows.heldTurnsRow.domain false) (Rows.heldTurnsSpec.post enc Try.prog Try.f4 false true false false) :=
  lifted_of_ev (C := Try.checked) (cx := cx) rfl (fun _ => rfl) (by kernel_rfl) started (by kernel_rfl) Try.func4 rfl (by kernel_rfl) (reachT cx.P 1000 Try.f4.params.toList []) (by kernel_rfl) (by kernel_rfl) (by kernel_rfl)
    (tb := 4) rfl (by kernel_rfl) (fun H ds hn => by
      simp only [Try.params4, List.length_cons, List.length_nil] at hn
      match ds, hn with
      | [d0, d1, d2, d3, d4], _ => exact ⟨rfl, rfl, rfl⟩
      )
    (ChangeSpec.witness6 (enc := enc) (C := Try.checked) false ⟨#[], #[.agg #[.slice none 0 0, .slice none 0 0, .int .i64 0, .int .i64 0], .agg #[.int .i64 0, .int .i64 0, .int .i64 0, .string ⟨#[]⟩, .int .i64 0, .int .i64 0], .string ⟨#[]⟩, .int .i64 0, .int .i64 0], []⟩ 8 (by kernel_rfl) (by kernel_rfl) (by kernel_rfl) (by kernel_rfl))
    (fun xs has => heldTurns_args xs has)
theorem over : Rows.heldTurnsRow.holds Try.pinned (OpenSpec.ofChange Rows.heldTurnsSpec) :=
  OpenClaim.holds_of_wide 4 Try.f4 rfl rfl rfl rfl rfl rfl rfl ⟨rfl, rfl, rfl, rfl, rfl⟩ rfl rfl rfl rfl rfl (by kernel_rfl) Try.func4 (by kernel_rfl)
    (of_decide_eq_true (by kernel_rfl)) (by unfold Func.isWrapper; first | (rw [if_pos (by decide +kernel)]; kernel_rfl) | (rw [if_neg (by decide +kernel)]; exact ⟨rfl, rfl⟩))
    (fun os started H enc _ => lifted os started H enc)
/-- The statement. -/
theorem proved : Rows.HeldTurnsSaid := over
#print axioms proved
end Go.Proofs.Ytdbbnhmnlgfjoaa.heldTurns
