/-
  QueueOrder holds for every input: whatever is put and taken: what was taken, and what waits, is what was put and not lost, in order, each once.
-/
import Derived.Test.YtnnlicidlidclaaRows
import Derived.WalkKit
import Derived.ProofKit
import Derived.OpenShut
import Derived.ChangeOld
import Derived.Test.YtnnlicidlidclaaMo
namespace Go.Proofs.Ytnnlicidlidclaa.queueOrder
set_option linter.unusedSimpArgs false
set_option linter.unusedVariables false
open Go Go.RowKit Go.Proofs.Ytnnlicidlidclaa.Vm
theorem lifted (os : Os) (started : os.Started) (H : Type) (enc : TypeId × Value → H) :
    ReturnsInHanded {} Try.checked os 9 .any (Rows.queueOrderSpec.pre6 enc Try.prog Try.f9 Rows.queueOrderRow.domain false) (Rows.queueOrderSpec.post enc Try.prog Try.f9 false true false false) :=
  lifted_of_ev (C := Try.checked) (cx := cx) rfl (fun _ => rfl) (by kernel_rfl) started (by kernel_rfl) Try.func9 (fun cargs w => Try.call9 cargs w) rfl (by kernel_rfl) (reachT cx.P 1000 Try.f9.params.toList []) (by kernel_rfl) (by kernel_rfl) (by kernel_rfl)
    (tb := 4) rfl (by kernel_rfl) (fun H ds hn => by
      simp only [Try.params9, List.length_cons, List.length_nil] at hn
      match ds, hn with
      | [d0], _ => exact ⟨rfl, rfl, rfl⟩
      )
    (ChangeSpec.witness6 (enc := enc) (C := Try.checked) false ⟨#[], #[.slice none 0 0], []⟩ 8 (by kernel_rfl) (by kernel_rfl) (by kernel_rfl) (by kernel_rfl))
    (fun xs has => queueOrder_args xs has)
theorem over : Rows.queueOrderRow.holds Try.pinned (OpenSpec.ofChange Rows.queueOrderSpec) :=
  OpenClaim.holds_of_wide 9 Try.f9 rfl rfl rfl rfl rfl rfl rfl ⟨rfl, rfl, rfl, rfl, rfl⟩ rfl rfl rfl rfl rfl (by kernel_rfl) Try.func9 (by kernel_rfl)
    (of_decide_eq_true (by kernel_rfl)) (by unfold Func.isWrapper; first | (rw [if_pos (by decide +kernel)]; kernel_rfl) | (rw [if_neg (by decide +kernel)]; exact ⟨rfl, rfl⟩))
    (fun os started H enc _ => lifted os started H enc)
/-- The statement. -/
theorem proved : Rows.QueueOrderSaid := over
#print axioms proved
end Go.Proofs.Ytnnlicidlidclaa.queueOrder
