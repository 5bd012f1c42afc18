/-
  QueueTells holds for every input: queues are checked, put to, taken from, counted, compared and copied as the document says; what is handed in stays, and what is answered is new memory.
-/
import Derived.Test.YtnnlicidlidclaaRows
import Derived.WalkKit
import Derived.ProofKit
import Derived.OpenShut
import Derived.ChangeOld
import Derived.Test.YtnnlicidlidclaaMj
namespace Go.Proofs.Ytnnlicidlidclaa.queueTells
set_option linter.unusedSimpArgs false
set_option linter.unusedVariables false
open Go Go.RowKit Go.Proofs.Ytnnlicidlidclaa.Vm
theorem lifted (os : Os) (started : os.Started) (H : Type) (enc : TypeId × Value → H) :
    ReturnsInHanded {} Try.checked os 11 .any (Rows.queueTellsSpec.pre6 enc Try.prog Try.f11 Rows.queueTellsRow.domain false) (Rows.queueTellsSpec.post enc Try.prog Try.f11 false true false false) :=
  lifted_of_ev (C := Try.checked) (cx := cx) rfl (fun _ => rfl) (by kernel_rfl) started (by kernel_rfl) Try.func11 (fun cargs w => Try.call11 cargs w) rfl (by kernel_rfl) (reachT cx.P 1000 Try.f11.params.toList []) (by kernel_rfl) (by kernel_rfl) (by kernel_rfl)
    (tb := 4) rfl (by kernel_rfl) (fun H ds hn => by
      simp only [Try.params11, List.length_cons, List.length_nil] at hn
      match ds, hn with
      | [d0, d1, d2, d3], _ => exact ⟨rfl, rfl, rfl⟩
      )
    (ChangeSpec.witness6 (enc := enc) (C := Try.checked) false ⟨#[], #[.agg #[.int .i64 0, .slice none 0 0], .agg #[.int .i64 0, .slice none 0 0], .slice none 0 0, .int .i64 0], []⟩ 8 (by kernel_rfl) (by kernel_rfl) (by kernel_rfl) (by kernel_rfl))
    (fun xs has => queueTells_args xs has)
theorem over : Rows.queueTellsRow.holds Try.pinned (OpenSpec.ofChange Rows.queueTellsSpec) :=
  OpenClaim.holds_of_wide 11 Try.f11 rfl rfl rfl rfl rfl rfl rfl ⟨rfl, rfl, rfl, rfl, rfl⟩ rfl rfl rfl rfl rfl (by kernel_rfl) Try.func11 (by kernel_rfl)
    (of_decide_eq_true (by kernel_rfl)) (by unfold Func.isWrapper; first | (rw [if_pos (by decide +kernel)]; kernel_rfl) | (rw [if_neg (by decide +kernel)]; exact ⟨rfl, rfl⟩))
    (fun os started H enc _ => lifted os started H enc)
/-- The statement. -/
theorem proved : Rows.QueueTellsSaid := over
#print axioms proved
end Go.Proofs.Ytnnlicidlidclaa.queueTells
