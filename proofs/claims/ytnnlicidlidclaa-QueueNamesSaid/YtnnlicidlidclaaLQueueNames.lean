/-
  QueueNames holds: the limits and errors of queues have the numbers that the chapter names, and its further examples are as it says.
-/
import Derived.Test.YtnnlicidlidclaaRows
import Derived.WalkKit
import Derived.ProofKit
import Derived.OpenShut
import Derived.ChangeOld
import Derived.Test.YtnnlicidlidclaaMk
namespace Go.Proofs.Ytnnlicidlidclaa.queueNames
set_option linter.unusedSimpArgs false
set_option linter.unusedVariables false
open Go Go.RowKit Go.Proofs.Ytnnlicidlidclaa.Vm
theorem lifted (os : Os) (started : os.Started) (H : Type) (enc : TypeId × Value → H) :
    ReturnsInHanded {} Try.checked os 8 .any (Rows.queueNamesSpec.pre6 enc Try.prog Try.f8 Rows.queueNamesRow.domain false) (Rows.queueNamesSpec.post enc Try.prog Try.f8 false true false false) :=
  lifted_of_ev (C := Try.checked) (cx := cx) rfl (fun _ => rfl) (by kernel_rfl) started (by kernel_rfl) Try.func8 (fun cargs w => Try.call8 cargs w) rfl (by kernel_rfl) (reachT cx.P 1000 Try.f8.params.toList []) (by kernel_rfl) (by kernel_rfl) (by kernel_rfl)
    (tb := 4) rfl (by kernel_rfl) (fun H ds hn => by
      simp only [Try.params8, List.length_cons, List.length_nil] at hn
      obtain rfl : ds = [] := List.eq_nil_of_length_eq_zero hn
      exact ⟨rfl, rfl, rfl⟩)
    (ChangeSpec.witness6 (enc := enc) (C := Try.checked) false ⟨#[], #[], []⟩ 8 (by kernel_rfl) (by kernel_rfl) (by kernel_rfl) (by kernel_rfl))
    (fun xs has => queueNames_args xs has)
theorem over : Rows.queueNamesRow.holds Try.pinned (OpenSpec.ofChange Rows.queueNamesSpec) :=
  OpenClaim.holds_of_wide 8 Try.f8 rfl rfl rfl rfl rfl rfl rfl ⟨rfl, rfl, rfl, rfl, rfl⟩ rfl rfl rfl rfl rfl (by kernel_rfl) Try.func8 (by kernel_rfl)
    (of_decide_eq_true (by kernel_rfl)) (by unfold Func.isWrapper; first | (rw [if_pos (by decide +kernel)]; kernel_rfl) | (rw [if_neg (by decide +kernel)]; exact ⟨rfl, rfl⟩))
    (fun os started H enc _ => lifted os started H enc)
/-- The statement. -/
theorem proved : Rows.QueueNamesSaid := over
#print axioms proved
end Go.Proofs.Ytnnlicidlidclaa.queueNames
