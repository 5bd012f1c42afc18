/-
  Texts joined: XDb.
-/
import Derived.Test.YtoaclokiggoeiaaGreatDoorCards
import Derived.Test.YtoaclokiggoeiaaGreatDoorTie
import Derived.Lib.LaidIn
import Derived.Lib.LaidU8
import Derived.Deep.DeepHandedRow
import Derived.Deep.DeepWitnessRowRef
import Derived.ProofKit
import Derived.OpenShut
import Derived.ShutString
import Derived.ChangeOld
namespace Go.Proofs.YtoaclokiggoeiaaGreatDoor
set_option linter.unusedSimpArgs false
set_option linter.unusedVariables false
open Go Go.RowKit Go.Lib
theorem own : ownKnob Tryz.prog.godebug = none := by kernel_rfl
theorem accept_eq : (Rows.laid_unicode_utf8_acceptRanges : DataW Unit) = Lib.acceptData := by kernel_rfl
theorem first_eq : Rows.laid_unicode_utf8_first = Lib.firstData := by kernel_rfl
def tabVals : DataW Unit → List Value
  | .agg l => l.filterMap fun | .lit (.int k n) => some (.int k n) | _ => none
  | _ => []
def errText : DataW Unit → List UInt8
  | .iface _ (.ptr (.agg [.lit (.string s)])) => s
  | _ => []
noncomputable def laidWorld (os : Os) : World :=
  let w0 := World.holding Tryz.prog os ⟨#[], #[], []⟩
  let put (h : Array Obj) (g : Nat) (cs : Array Value) : Array Obj := h.modify g fun
    | .cells _ t frozen => .cells cs t frozen
    | o => o
  let h1 := put w0.heap 1 (Lib.firstTab.map fun z => Value.int .u8 z).toArray
  let h2 := put h1 2 ((List.range 16).flatMap fun i => [Value.int .u8 (Lib.accLo i), Value.int .u8 (Lib.accHi i)]).toArray
  let h3 := put h2 6 (tabVals Rows.laid_math_bits_deBruijn32tab).toArray
  let h4 := put h3 7 (tabVals Rows.laid_math_bits_deBruijn64tab).toArray
  let h5 := put h4 5 (tabVals Rows.laid_internal_strconv_uint64pow10).toArray
  let n := h5.size
  let h6 := put h5 4 #[.iface 170 (.pointer (some ⟨n, 0, none⟩))]
  let h7 := put h6 3 #[.iface 170 (.pointer (some ⟨n + 1, 0, none⟩))]
  { w0 with heap := (h7.push (.cells #[.string ⟨(errText Rows.laid_strconv_ErrRange).toArray⟩] 172 (0, 0))).push (.cells #[.string ⟨(errText Rows.laid_strconv_ErrSyntax).toArray⟩] 172 (0, 0)) }
theorem laid_met (os : Os) (args : Array Value) : laidMet Tryz.prog [("math/bits.deBruijn32tab", Rows.laid_math_bits_deBruijn32tab), ("math/bits.deBruijn64tab", Rows.laid_math_bits_deBruijn64tab), ("internal/strconv.uint64pow10", Rows.laid_internal_strconv_uint64pow10), ("unicode/utf8.acceptRanges", Rows.laid_unicode_utf8_acceptRanges), ("strconv.ErrRange", Rows.laid_strconv_ErrRange), ("strconv.ErrSyntax", Rows.laid_strconv_ErrSyntax), ("unicode/utf8.first", Rows.laid_unicode_utf8_first)] ((laidWorld os).forCall (fun _ _ => 0) ⟨#[], args, []⟩).memory := by
  rw [accept_eq, first_eq]
  exact (LaidIn.of_run (l := [("math/bits.deBruijn32tab", Rows.laid_math_bits_deBruijn32tab), ("math/bits.deBruijn64tab", Rows.laid_math_bits_deBruijn64tab), ("internal/strconv.uint64pow10", Rows.laid_internal_strconv_uint64pow10), ("unicode/utf8.acceptRanges", Lib.acceptData), ("strconv.ErrRange", Rows.laid_strconv_ErrRange), ("strconv.ErrSyntax", Rows.laid_strconv_ErrSyntax), ("unicode/utf8.first", Lib.firstData)]) (((laidWorld os).heap.size) :: ((laidWorld os).heap.size + 1) :: ((laidWorld os).heap.size - 1) :: ((laidWorld os).heap.size - 2) :: [6, 7, 5, 2, 4, 3, 1]) 8 (by kernel_rfl) (by kernel_rfl) (by kernel_rfl) (by kernel_rfl)).met
end Go.Proofs.YtoaclokiggoeiaaGreatDoor
