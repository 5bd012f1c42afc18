/-
  WindowOrder holds for every input: those whose turn comes have the numbers last + 1, last + 2 and so on, each once, each with the body with which it was kept.
-/
import Derived.Test.YtnnlicidlidclaaRows
import Derived.WalkKit
import Derived.ProofKit
import Derived.OpenShut
import Derived.ChangeOld
import Derived.Test.YtnnlicidlidclaaMs
namespace Go.Proofs.Ytnnlicidlidclaa.windowOrder
set_option linter.unusedSimpArgs false
set_option linter.unusedVariables false
open Go Go.RowKit Go.Proofs.Ytnnlicidlidclaa.Vm
theorem lifted (os : Os) (started : os.Started) (H : Type) (enc : TypeId × Value → H) :
    ReturnsInHanded {} Try.checked os 3 .any (Rows.windowOrderSpec.pre6 enc Try.prog Try.f3 Rows.windowOrderRow.domain false) (Rows.windowOrderSpec.post enc Try.prog Try.f3 false true false false) :=
  lifted_of_ev (C := Try.checked) (cx := cx) rfl (fun _ => rfl) (by kernel_rfl) started (by kernel_rfl) Try.func3 (fun cargs w => Try.call3 cargs w) rfl (by kernel_rfl) (reachT cx.P 1000 Try.f3.params.toList []) (by kernel_rfl) (by kernel_rfl) (by kernel_rfl)
    (tb := 4) rfl (by kernel_rfl) (fun H ds hn => by
      simp only [Try.params3, List.length_cons, List.length_nil] at hn
      match ds, hn with
      | [d0, d1, d2, d3], _ => exact ⟨rfl, rfl, rfl⟩
      )
    (ChangeSpec.witness6 (enc := enc) (C := Try.checked) false ⟨#[], #[.int .i64 0, .int .i64 0, .slice none 0 0, .slice none 0 0], []⟩ 8 (by kernel_rfl) (by kernel_rfl) (by kernel_rfl) (by kernel_rfl))
    (fun xs has => windowOrder_args xs has)
theorem over : Rows.windowOrderRow.holds Try.pinned (OpenSpec.ofChange Rows.windowOrderSpec) :=
  OpenClaim.holds_of_wide 3 Try.f3 rfl rfl rfl rfl rfl rfl rfl ⟨rfl, rfl, rfl, rfl, rfl⟩ rfl rfl rfl rfl rfl (by kernel_rfl) Try.func3 (by kernel_rfl)
    (of_decide_eq_true (by kernel_rfl)) (by unfold Func.isWrapper; first | (rw [if_pos (by decide +kernel)]; kernel_rfl) | (rw [if_neg (by decide +kernel)]; exact ⟨rfl, rfl⟩))
    (fun os started H enc _ => lifted os started H enc)
/-- The statement. -/
theorem proved : Rows.WindowOrderSaid := over
#print axioms proved
end Go.Proofs.Ytnnlicidlidclaa.windowOrder
