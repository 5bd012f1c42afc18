/-
  QueueParts holds for every input: texts that are put one by one are put as all at once, and so with what is taken.
-/
import Derived.Test.YtnnlicidlidclaaRows
import Derived.WalkKit
import Derived.ProofKit
import Derived.OpenShut
import Derived.ChangeOld
import Derived.Test.YtnnlicidlidclaaMn
namespace Go.Proofs.Ytnnlicidlidclaa.queueParts
set_option linter.unusedSimpArgs false
set_option linter.unusedVariables false
open Go Go.RowKit Go.Proofs.Ytnnlicidlidclaa.Vm
theorem lifted (os : Os) (started : os.Started) (H : Type) (enc : TypeId × Value → H) :
    ReturnsInHanded {} Try.checked os 10 .any (Rows.queuePartsSpec.pre6 enc Try.prog Try.f10 Rows.queuePartsRow.domain false) (Rows.queuePartsSpec.post enc Try.prog Try.f10 false true false false) :=
  lifted_of_ev (C := Try.checked) (cx := cx) rfl (fun _ => rfl) (by kernel_rfl) started (by kernel_rfl) Try.func10 (fun cargs w => Try.call10 cargs w) rfl (by kernel_rfl) (reachT cx.P 1000 Try.f10.params.toList []) (by kernel_rfl) (by kernel_rfl) (by kernel_rfl)
    (tb := 4) rfl (by kernel_rfl) (fun H ds hn => by
      simp only [Try.params10, List.length_cons, List.length_nil] at hn
      match ds, hn with
      | [d0, d1, d2, d3, d4], _ => exact ⟨rfl, rfl, rfl⟩
      )
    (ChangeSpec.witness6 (enc := enc) (C := Try.checked) false ⟨#[], #[.agg #[.int .i64 0, .slice none 0 0], .slice none 0 0, .slice none 0 0, .int .i64 0, .int .i64 0], []⟩ 8 (by kernel_rfl) (by kernel_rfl) (by kernel_rfl) (by kernel_rfl))
    (fun xs has => queueParts_args xs has)
theorem over : Rows.queuePartsRow.holds Try.pinned (OpenSpec.ofChange Rows.queuePartsSpec) :=
  OpenClaim.holds_of_wide 10 Try.f10 rfl rfl rfl rfl rfl rfl rfl ⟨rfl, rfl, rfl, rfl, rfl⟩ rfl rfl rfl rfl rfl (by kernel_rfl) Try.func10 (by kernel_rfl)
    (of_decide_eq_true (by kernel_rfl)) (by unfold Func.isWrapper; first | (rw [if_pos (by decide +kernel)]; kernel_rfl) | (rw [if_neg (by decide +kernel)]; exact ⟨rfl, rfl⟩))
    (fun os started H enc _ => lifted os started H enc)
/-- The statement. -/
theorem proved : Rows.QueuePartsSaid := over
#print axioms proved
end Go.Proofs.Ytnnlicidlidclaa.queueParts
