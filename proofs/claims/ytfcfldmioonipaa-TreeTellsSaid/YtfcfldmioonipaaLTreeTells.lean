/-
  TreeTells holds for every input: which trees may be, their tokens, and what is within nodes are the document's, and what is answered is new memory.
-/
import Derived.Test.YtfcfldmioonipaaRows
import Derived.WalkKit
import Derived.ProofKit
import Derived.OpenShut
import Derived.ChangeOld
import Derived.Test.YtfcfldmioonipaaQw
namespace Go.Proofs.Ytfcfldmioonipaa.treeTells
set_option linter.unusedSimpArgs false
set_option linter.unusedVariables false
open Go Go.RowKit Go.Proofs.Ytfcfldmioonipaa.Vm
theorem lifted (os : Os) (started : os.Started) (H : Type) (enc : TypeId × Value → H) :
    ReturnsInHanded {} Try.checked os 4 .any (Rows.treeTellsSpec.pre6 enc Try.prog Try.f4 Rows.treeTellsRow.domain false) (Rows.treeTellsSpec.post enc Try.prog Try.f4 false true false false) :=
  lifted_of_ev (C := Try.checked) (cx := cx) rfl (fun _ => rfl) (by kernel_rfl) started (by kernel_rfl) Try.func4 (fun cargs w => Try.call4 cargs w) rfl (by kernel_rfl) (reachT cx.P 1000 Try.f4.params.toList []) (by kernel_rfl) (by kernel_rfl) (by kernel_rfl)
    (tb := 4) rfl (by kernel_rfl) (fun H ds hn => by
      simp only [Try.params4,List.length_cons,List.length_nil] at hn
      match ds, hn with
      | [d0, d1, d2], _ => exact ⟨rfl, rfl, rfl⟩
      )
    (ChangeSpec.witness6 (enc := enc) (C := Try.checked) false ⟨#[], #[.slice none 0 0, .slice none 0 0, .int .i64 0], []⟩ 8 (by kernel_rfl) (by kernel_rfl) (by kernel_rfl) (by kernel_rfl))
    (fun xs has => treeTells_args xs has)
theorem over : Rows.treeTellsRow.holds Try.pinned (OpenSpec.ofChange Rows.treeTellsSpec) :=
  OpenClaim.holds_of_wide 4 Try.f4 rfl rfl rfl rfl rfl rfl rfl ⟨rfl, rfl, rfl, rfl, rfl⟩ rfl rfl rfl rfl rfl (by kernel_rfl) Try.func4 (by kernel_rfl)
    (of_decide_eq_true (by kernel_rfl)) (by unfold Func.isWrapper; first | (rw [if_pos (by decide +kernel)]; kernel_rfl) | (rw [if_neg (by decide +kernel)]; exact ⟨rfl, rfl⟩))
    (fun os started H enc _ => lifted os started H enc)
/-- The statement. -/
theorem proved : Rows.TreeTellsSaid := over
#print axioms proved
end Go.Proofs.Ytfcfldmioonipaa.treeTells
