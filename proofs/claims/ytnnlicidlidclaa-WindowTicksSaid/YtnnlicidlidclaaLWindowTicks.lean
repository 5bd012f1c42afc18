/-
  WindowTicks holds for every input: a request is late behind as many ticks as it may wait, and not sooner.
-/
import Derived.Test.YtnnlicidlidclaaRows
import Derived.WalkKit
import Derived.ProofKit
import Derived.OpenShut
import Derived.ChangeOld
import Derived.Test.YtnnlicidlidclaaMp
namespace Go.Proofs.Ytnnlicidlidclaa.windowTicks
set_option linter.unusedSimpArgs false
set_option linter.unusedVariables false
open Go Go.RowKit Go.Proofs.Ytnnlicidlidclaa.Vm
theorem lifted (os : Os) (started : os.Started) (H : Type) (enc : TypeId × Value → H) :
    ReturnsInHanded {} Try.checked os 4 .any (Rows.windowTicksSpec.pre6 enc Try.prog Try.f4 Rows.windowTicksRow.domain false) (Rows.windowTicksSpec.post enc Try.prog Try.f4 false true false false) :=
  lifted_of_ev (C := Try.checked) (cx := cx) rfl (fun _ => rfl) (by kernel_rfl) started (by kernel_rfl) Try.func4 (fun cargs w => Try.call4 cargs w) rfl (by kernel_rfl) (reachT cx.P 1000 Try.f4.params.toList []) (by kernel_rfl) (by kernel_rfl) (by kernel_rfl)
    (tb := 4) rfl (by kernel_rfl) (fun H ds hn => by
      simp only [Try.params4, List.length_cons, List.length_nil] at hn
      match ds, hn with
      | [d0, d1], _ => exact ⟨rfl, rfl, rfl⟩
      )
    (ChangeSpec.witness6 (enc := enc) (C := Try.checked) false ⟨#[], #[.agg #[.int .i64 0, .int .i64 0, .slice none 0 0], .int .i64 0], []⟩ 8 (by kernel_rfl) (by kernel_rfl) (by kernel_rfl) (by kernel_rfl))
    (fun xs has => windowTicks_args xs has)
theorem over : Rows.windowTicksRow.holds Try.pinned (OpenSpec.ofChange Rows.windowTicksSpec) :=
  OpenClaim.holds_of_wide 4 Try.f4 rfl rfl rfl rfl rfl rfl rfl ⟨rfl, rfl, rfl, rfl, rfl⟩ rfl rfl rfl rfl rfl (by kernel_rfl) Try.func4 (by kernel_rfl)
    (of_decide_eq_true (by kernel_rfl)) (by unfold Func.isWrapper; first | (rw [if_pos (by decide +kernel)]; kernel_rfl) | (rw [if_neg (by decide +kernel)]; exact ⟨rfl, rfl⟩))
    (fun os started H enc _ => lifted os started H enc)
/-- The statement. -/
theorem proved : Rows.WindowTicksSaid := over
#print axioms proved
end Go.Proofs.Ytnnlicidlidclaa.windowTicks
