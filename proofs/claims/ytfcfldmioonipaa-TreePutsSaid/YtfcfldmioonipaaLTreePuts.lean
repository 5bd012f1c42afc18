/-
  TreePuts holds for every input: an element put together of parts, or the error, is the document's, and new memory.
-/
import Derived.Test.YtfcfldmioonipaaRows
import Derived.WalkKit
import Derived.ProofKit
import Derived.OpenShut
import Derived.ChangeOld
import Derived.Test.YtfcfldmioonipaaQw
namespace Go.Proofs.Ytfcfldmioonipaa.treePuts
set_option linter.unusedSimpArgs false
set_option linter.unusedVariables false
open Go Go.RowKit Go.Proofs.Ytfcfldmioonipaa.Vm
theorem lifted (os : Os) (started : os.Started) (H : Type) (enc : TypeId × Value → H) :
    ReturnsInHanded {} Try.checked os 3 .any (Rows.treePutsSpec.pre6 enc Try.prog Try.f3 Rows.treePutsRow.domain false) (Rows.treePutsSpec.post enc Try.prog Try.f3 false true false false) :=
  lifted_of_ev (C := Try.checked) (cx := cx) rfl (fun _ => rfl) (by kernel_rfl) started (by kernel_rfl) Try.func3 (fun cargs w => Try.call3 cargs w) rfl (by kernel_rfl) (reachT cx.P 1000 Try.f3.params.toList []) (by kernel_rfl) (by kernel_rfl) (by kernel_rfl)
    (tb := 4) rfl (by kernel_rfl) (fun H ds hn => by
      simp only [Try.params3,List.length_cons,List.length_nil] at hn
      match ds, hn with
      | [d0, d1], _ => exact ⟨rfl, rfl, rfl⟩
      )
    (ChangeSpec.witness6 (enc := enc) (C := Try.checked) false ⟨#[], #[.agg #[.int .u8 0, .string ⟨#[]⟩, .string ⟨#[]⟩, .slice none 0 0, .string ⟨#[]⟩, .int .i64 0], .slice none 0 0], []⟩ 8 (by kernel_rfl) (by kernel_rfl) (by kernel_rfl) (by kernel_rfl))
    (fun xs has => treePuts_args xs has)
theorem over : Rows.treePutsRow.holds Try.pinned (OpenSpec.ofChange Rows.treePutsSpec) :=
  OpenClaim.holds_of_wide 3 Try.f3 rfl rfl rfl rfl rfl rfl rfl ⟨rfl, rfl, rfl, rfl, rfl⟩ rfl rfl rfl rfl rfl (by kernel_rfl) Try.func3 (by kernel_rfl)
    (of_decide_eq_true (by kernel_rfl)) (by unfold Func.isWrapper; first | (rw [if_pos (by decide +kernel)]; kernel_rfl) | (rw [if_neg (by decide +kernel)]; exact ⟨rfl, rfl⟩))
    (fun os started H enc _ => lifted os started H enc)
/-- The statement. -/
theorem proved : Rows.TreePutsSaid := over
#print axioms proved
end Go.Proofs.Ytfcfldmioonipaa.treePuts
