/-
  No cell of these rows narrows 'for every input' (looked for: loops, veiled, ifaces, maps, wideKeys, modest, calm, conditions, laid).
  DERIVED. THE GIVEN ROWS OF THIS SEAT. 9 by the template 'for every input the law returns true; each argument reads behind the call as it read before'; 0 by the template 'total and deterministic' (their statements: YtnnlicidlidclaaTotals.lean).
  GIVEN WITH THE SEED: the statements are not yours to turn. If you find one false, say at which input.
  Laid BY PROGRAM, IN A SANDBOX (cutbox-rows.mjs): the forced cells as the released guide's own fill.sh prints them over the translation c273c73664805bb9… (all of the seat's roots in one cut). By AI agents, Wed Nov 11 2026. No macro, syntax, notation, axiom, sorry.
-/
import Derived.Test.YtnnlicidlidclaaChecked
import GoSem.Claim
import GoSem.ClaimJoined
import GoSem.ClaimMapViews
import Derived.JoinedTies
import Derived.KernelRfl
namespace Go.Proofs.Ytnnlicidlidclaa
/- THE CELL 'sum', in the pinned program and in every row, IS THE sha256 OF THE DUMP (.gsa) THAT YtnnlicidlidclaaProg.lean LOADS. Nothing in Lean hashes anything: it is a label: what it is worth is what the hold of that sum in a sandbox is worth. -/
noncomputable def Try.pinned : Pinned := { name := "ytnnlicidlidclaa", sum := "c273c73664805bb9fbd3100e40385b585788243d7d8bdfc274ff98c31dd5dc32", checked := Try.checked }
namespace Rows
def none {H : Type} : Left H := { results := [], args := [] }

/-- 'tidewaiterlaw27.WindowOrder': WHATEVER THE INPUT: true; the input reads as it did. -/
def windowOrderSpec : ChangeSpec := { name := "windowOrder", fn := fun _ => fun
  | [d1, d2, d3, d4] => { results := [.lit (.bool true)], args := [d1, d2, d3, d4] }
  | _ => none }
def windowOrderRow : OpenClaim := { program := "ytnnlicidlidclaa", sum := "c273c73664805bb9fbd3100e40385b585788243d7d8bdfc274ff98c31dd5dc32", func := "tidewaiter/tidewaiterlaw27.WindowOrder", spec := "windowOrder", inPlace := ["slices.overlaps[tidewaiter/api.Early]"], unfollowed := true, recurses := true, apart := false }
def WindowOrderSaid : Prop := windowOrderRow.holds Try.pinned (OpenSpec.ofChange windowOrderSpec)

/-- ITS FALSE NEIGHBOUR: 'it returns false'. Refute it at one input. -/
def windowOrderWrong : ChangeSpec := { name := "windowOrder", fn := fun _ => fun
  | [d1, d2, d3, d4] => { results := [.lit (.bool false)], args := [d1, d2, d3, d4] }
  | _ => none }
def WindowOrderWrongFalsely : Prop := windowOrderRow.holds Try.pinned (OpenSpec.ofChange windowOrderWrong)

/-- 'tidewaiterlaw27.WindowTicks': WHATEVER THE INPUT: true; the input reads as it did. -/
def windowTicksSpec : ChangeSpec := { name := "windowTicks", fn := fun _ => fun
  | [d1, d2] => { results := [.lit (.bool true)], args := [d1, d2] }
  | _ => none }
def windowTicksRow : OpenClaim := { program := "ytnnlicidlidclaa", sum := "c273c73664805bb9fbd3100e40385b585788243d7d8bdfc274ff98c31dd5dc32", func := "tidewaiter/tidewaiterlaw27.WindowTicks", spec := "windowTicks", inPlace := ["slices.overlaps[tidewaiter/api.Early]"], unfollowed := true, recurses := true, apart := false }
def WindowTicksSaid : Prop := windowTicksRow.holds Try.pinned (OpenSpec.ofChange windowTicksSpec)

/-- ITS FALSE NEIGHBOUR: 'it returns false'. Refute it at one input. -/
def windowTicksWrong : ChangeSpec := { name := "windowTicks", fn := fun _ => fun
  | [d1, d2] => { results := [.lit (.bool false)], args := [d1, d2] }
  | _ => none }
def WindowTicksWrongFalsely : Prop := windowTicksRow.holds Try.pinned (OpenSpec.ofChange windowTicksWrong)

/-- 'tidewaiterlaw27.WindowAgain': WHATEVER THE INPUT: true; the input reads as it did. -/
def windowAgainSpec : ChangeSpec := { name := "windowAgain", fn := fun _ => fun
  | [d1, d2, d3, d4] => { results := [.lit (.bool true)], args := [d1, d2, d3, d4] }
  | _ => none }
def windowAgainRow : OpenClaim := { program := "ytnnlicidlidclaa", sum := "c273c73664805bb9fbd3100e40385b585788243d7d8bdfc274ff98c31dd5dc32", func := "tidewaiter/tidewaiterlaw27.WindowAgain", spec := "windowAgain", inPlace := ["slices.overlaps[tidewaiter/api.Early]"], unfollowed := true, recurses := true, apart := false }
def WindowAgainSaid : Prop := windowAgainRow.holds Try.pinned (OpenSpec.ofChange windowAgainSpec)

/-- ITS FALSE NEIGHBOUR: 'it returns false'. Refute it at one input. -/
def windowAgainWrong : ChangeSpec := { name := "windowAgain", fn := fun _ => fun
  | [d1, d2, d3, d4] => { results := [.lit (.bool false)], args := [d1, d2, d3, d4] }
  | _ => none }
def WindowAgainWrongFalsely : Prop := windowAgainRow.holds Try.pinned (OpenSpec.ofChange windowAgainWrong)

/-- 'tidewaiterlaw27.WindowNames': WHATEVER THE INPUT: true; the input reads as it did. -/
def windowNamesSpec : ChangeSpec := { name := "windowNames", fn := fun _ => fun
  | [] => { results := [.lit (.bool true)], args := [] }
  | _ => none }
def windowNamesRow : OpenClaim := { program := "ytnnlicidlidclaa", sum := "c273c73664805bb9fbd3100e40385b585788243d7d8bdfc274ff98c31dd5dc32", func := "tidewaiter/tidewaiterlaw27.WindowNames", spec := "windowNames", inPlace := ["slices.overlaps[tidewaiter/api.Early]"], unfollowed := true, recurses := true, apart := false }
def WindowNamesSaid : Prop := windowNamesRow.holds Try.pinned (OpenSpec.ofChange windowNamesSpec)

/-- ITS FALSE NEIGHBOUR: 'it returns false'. Refute it at one input. -/
def windowNamesWrong : ChangeSpec := { name := "windowNames", fn := fun _ => fun
  | [] => { results := [.lit (.bool false)], args := [] }
  | _ => none }
def WindowNamesWrongFalsely : Prop := windowNamesRow.holds Try.pinned (OpenSpec.ofChange windowNamesWrong)

/-- 'tidewaiterlaw27.WindowTells': WHATEVER THE INPUT: true; the input reads as it did. -/
def windowTellsSpec : ChangeSpec := { name := "windowTells", fn := fun _ => fun
  | [d1, d2, d3, d4] => { results := [.lit (.bool true)], args := [d1, d2, d3, d4] }
  | _ => none }
def windowTellsRow : OpenClaim := { program := "ytnnlicidlidclaa", sum := "c273c73664805bb9fbd3100e40385b585788243d7d8bdfc274ff98c31dd5dc32", func := "tidewaiter/tidewaiterlaw27.WindowTells", spec := "windowTells", inPlace := ["slices.overlaps[tidewaiter/api.Early]"], unfollowed := true, recurses := true, apart := false }
def WindowTellsSaid : Prop := windowTellsRow.holds Try.pinned (OpenSpec.ofChange windowTellsSpec)

/-- ITS FALSE NEIGHBOUR: 'it returns false'. Refute it at one input. -/
def windowTellsWrong : ChangeSpec := { name := "windowTells", fn := fun _ => fun
  | [d1, d2, d3, d4] => { results := [.lit (.bool false)], args := [d1, d2, d3, d4] }
  | _ => none }
def WindowTellsWrongFalsely : Prop := windowTellsRow.holds Try.pinned (OpenSpec.ofChange windowTellsWrong)

/-- 'tidewaiterlaw23.QueueNames': WHATEVER THE INPUT: true; the input reads as it did. -/
def queueNamesSpec : ChangeSpec := { name := "queueNames", fn := fun _ => fun
  | [] => { results := [.lit (.bool true)], args := [] }
  | _ => none }
def queueNamesRow : OpenClaim := { program := "ytnnlicidlidclaa", sum := "c273c73664805bb9fbd3100e40385b585788243d7d8bdfc274ff98c31dd5dc32", func := "tidewaiter/tidewaiterlaw23.QueueNames", spec := "queueNames", unfollowed := true, recurses := true, apart := false }
def QueueNamesSaid : Prop := queueNamesRow.holds Try.pinned (OpenSpec.ofChange queueNamesSpec)

/-- ITS FALSE NEIGHBOUR: 'it returns false'. Refute it at one input. -/
def queueNamesWrong : ChangeSpec := { name := "queueNames", fn := fun _ => fun
  | [] => { results := [.lit (.bool false)], args := [] }
  | _ => none }
def QueueNamesWrongFalsely : Prop := queueNamesRow.holds Try.pinned (OpenSpec.ofChange queueNamesWrong)

/-- 'tidewaiterlaw23.QueueOrder': WHATEVER THE INPUT: true; the input reads as it did. -/
def queueOrderSpec : ChangeSpec := { name := "queueOrder", fn := fun _ => fun
  | [d] => { results := [.lit (.bool true)], args := [d] }
  | _ => none }
def queueOrderRow : OpenClaim := { program := "ytnnlicidlidclaa", sum := "c273c73664805bb9fbd3100e40385b585788243d7d8bdfc274ff98c31dd5dc32", func := "tidewaiter/tidewaiterlaw23.QueueOrder", spec := "queueOrder", unfollowed := true, recurses := true, apart := false }
def QueueOrderSaid : Prop := queueOrderRow.holds Try.pinned (OpenSpec.ofChange queueOrderSpec)

/-- ITS FALSE NEIGHBOUR: 'it returns false'. Refute it at one input. -/
def queueOrderWrong : ChangeSpec := { name := "queueOrder", fn := fun _ => fun
  | [d] => { results := [.lit (.bool false)], args := [d] }
  | _ => none }
def QueueOrderWrongFalsely : Prop := queueOrderRow.holds Try.pinned (OpenSpec.ofChange queueOrderWrong)

/-- 'tidewaiterlaw23.QueueParts': WHATEVER THE INPUT: true; the input reads as it did. -/
def queuePartsSpec : ChangeSpec := { name := "queueParts", fn := fun _ => fun
  | [d1, d2, d3, d4, d5] => { results := [.lit (.bool true)], args := [d1, d2, d3, d4, d5] }
  | _ => none }
def queuePartsRow : OpenClaim := { program := "ytnnlicidlidclaa", sum := "c273c73664805bb9fbd3100e40385b585788243d7d8bdfc274ff98c31dd5dc32", func := "tidewaiter/tidewaiterlaw23.QueueParts", spec := "queueParts", unfollowed := true, recurses := true, apart := false }
def QueuePartsSaid : Prop := queuePartsRow.holds Try.pinned (OpenSpec.ofChange queuePartsSpec)

/-- ITS FALSE NEIGHBOUR: 'it returns false'. Refute it at one input. -/
def queuePartsWrong : ChangeSpec := { name := "queueParts", fn := fun _ => fun
  | [d1, d2, d3, d4, d5] => { results := [.lit (.bool false)], args := [d1, d2, d3, d4, d5] }
  | _ => none }
def QueuePartsWrongFalsely : Prop := queuePartsRow.holds Try.pinned (OpenSpec.ofChange queuePartsWrong)

/-- 'tidewaiterlaw23.QueueTells': WHATEVER THE INPUT: true; the input reads as it did. -/
def queueTellsSpec : ChangeSpec := { name := "queueTells", fn := fun _ => fun
  | [d1, d2, d3, d4] => { results := [.lit (.bool true)], args := [d1, d2, d3, d4] }
  | _ => none }
def queueTellsRow : OpenClaim := { program := "ytnnlicidlidclaa", sum := "c273c73664805bb9fbd3100e40385b585788243d7d8bdfc274ff98c31dd5dc32", func := "tidewaiter/tidewaiterlaw23.QueueTells", spec := "queueTells", unfollowed := true, recurses := true, apart := false }
def QueueTellsSaid : Prop := queueTellsRow.holds Try.pinned (OpenSpec.ofChange queueTellsSpec)

/-- ITS FALSE NEIGHBOUR: 'it returns false'. Refute it at one input. -/
def queueTellsWrong : ChangeSpec := { name := "queueTells", fn := fun _ => fun
  | [d1, d2, d3, d4] => { results := [.lit (.bool false)], args := [d1, d2, d3, d4] }
  | _ => none }
def QueueTellsWrongFalsely : Prop := queueTellsRow.holds Try.pinned (OpenSpec.ofChange queueTellsWrong)

/- THE SECOND FORM. 'bulk': how many values and letters a reading holds, each counted each time it is reached (what is shared counts as often as it is met; a slice's spare places count too). A statement '..UptoSaid' is the law's where the arguments, and the package variables that the reading takes, are together of bulk at most 1048576: NARROWER than '..Said'. Prove '..Said' where nothing that the law and all that it calls make is longer than what came in: it says more and counts as full. Else prove '..UptoSaid'. A law counts once. -/
mutual
def uptoBulk {H : Type} : DataW H → Nat
  | .lit (.string bytes) => bytes.length + 1
  | .lit _ => 1
  | .nil => 1
  | .ptr d => uptoBulk d + 1
  | .slice elems spare => uptoBulkAll elems + uptoBulkAll spare + 1
  | .agg parts => uptoBulkAll parts + 1
  | .iface _ d => uptoBulk d + 1
  | .map entries => uptoBulkEntries entries + 1
  | .held _ => 1
def uptoBulkAll {H : Type} : List (DataW H) → Nat
  | [] => 0
  | d :: r => uptoBulk d + uptoBulkAll r
def uptoBulkEntries {H : Type} : List (Lit × DataW H) → Nat
  | [] => 0
  | x :: r => uptoBulkEntry x + uptoBulkEntries r
def uptoBulkEntry {H : Type} : Lit × DataW H → Nat
  | (.string bytes, d) => bytes.length + uptoBulk d + 1
  | (_, d) => uptoBulk d + 1
 end
def uptoSmall : (H : Type) → List (DataW H) → Bool := fun _ ds => decide (uptoBulkAll ds ≤ 1048576)
def OpenSpec.upto (s : _root_.Go.ChangeSpec) : _root_.Go.OpenSpec := { _root_.Go.OpenSpec.ofChange s with cond := some uptoSmall }

/-- 'tidewaiterlaw27.WindowOrder', WHERE WHAT IT READS IS OF BULK AT MOST 1048576: true; the input reads as it did. -/
def windowOrderUptoRow : OpenClaim := { program := "ytnnlicidlidclaa", sum := "c273c73664805bb9fbd3100e40385b585788243d7d8bdfc274ff98c31dd5dc32", func := "tidewaiter/tidewaiterlaw27.WindowOrder", spec := "windowOrder", inPlace := ["slices.overlaps[tidewaiter/api.Early]"], unfollowed := true, recurses := true, apart := false, narrowed := true }
def WindowOrderUptoSaid : Prop := windowOrderUptoRow.holds Try.pinned (OpenSpec.upto windowOrderSpec)

/-- 'tidewaiterlaw27.WindowTicks', WHERE WHAT IT READS IS OF BULK AT MOST 1048576: true; the input reads as it did. -/
def windowTicksUptoRow : OpenClaim := { program := "ytnnlicidlidclaa", sum := "c273c73664805bb9fbd3100e40385b585788243d7d8bdfc274ff98c31dd5dc32", func := "tidewaiter/tidewaiterlaw27.WindowTicks", spec := "windowTicks", inPlace := ["slices.overlaps[tidewaiter/api.Early]"], unfollowed := true, recurses := true, apart := false, narrowed := true }
def WindowTicksUptoSaid : Prop := windowTicksUptoRow.holds Try.pinned (OpenSpec.upto windowTicksSpec)

/-- 'tidewaiterlaw27.WindowAgain', WHERE WHAT IT READS IS OF BULK AT MOST 1048576: true; the input reads as it did. -/
def windowAgainUptoRow : OpenClaim := { program := "ytnnlicidlidclaa", sum := "c273c73664805bb9fbd3100e40385b585788243d7d8bdfc274ff98c31dd5dc32", func := "tidewaiter/tidewaiterlaw27.WindowAgain", spec := "windowAgain", inPlace := ["slices.overlaps[tidewaiter/api.Early]"], unfollowed := true, recurses := true, apart := false, narrowed := true }
def WindowAgainUptoSaid : Prop := windowAgainUptoRow.holds Try.pinned (OpenSpec.upto windowAgainSpec)

/-- 'tidewaiterlaw27.WindowNames', WHERE WHAT IT READS IS OF BULK AT MOST 1048576: true; the input reads as it did. -/
def windowNamesUptoRow : OpenClaim := { program := "ytnnlicidlidclaa", sum := "c273c73664805bb9fbd3100e40385b585788243d7d8bdfc274ff98c31dd5dc32", func := "tidewaiter/tidewaiterlaw27.WindowNames", spec := "windowNames", inPlace := ["slices.overlaps[tidewaiter/api.Early]"], unfollowed := true, recurses := true, apart := false, narrowed := true }
def WindowNamesUptoSaid : Prop := windowNamesUptoRow.holds Try.pinned (OpenSpec.upto windowNamesSpec)

/-- 'tidewaiterlaw27.WindowTells', WHERE WHAT IT READS IS OF BULK AT MOST 1048576: true; the input reads as it did. -/
def windowTellsUptoRow : OpenClaim := { program := "ytnnlicidlidclaa", sum := "c273c73664805bb9fbd3100e40385b585788243d7d8bdfc274ff98c31dd5dc32", func := "tidewaiter/tidewaiterlaw27.WindowTells", spec := "windowTells", inPlace := ["slices.overlaps[tidewaiter/api.Early]"], unfollowed := true, recurses := true, apart := false, narrowed := true }
def WindowTellsUptoSaid : Prop := windowTellsUptoRow.holds Try.pinned (OpenSpec.upto windowTellsSpec)

/-- 'tidewaiterlaw23.QueueNames', WHERE WHAT IT READS IS OF BULK AT MOST 1048576: true; the input reads as it did. -/
def queueNamesUptoRow : OpenClaim := { program := "ytnnlicidlidclaa", sum := "c273c73664805bb9fbd3100e40385b585788243d7d8bdfc274ff98c31dd5dc32", func := "tidewaiter/tidewaiterlaw23.QueueNames", spec := "queueNames", unfollowed := true, recurses := true, apart := false, narrowed := true }
def QueueNamesUptoSaid : Prop := queueNamesUptoRow.holds Try.pinned (OpenSpec.upto queueNamesSpec)

/-- 'tidewaiterlaw23.QueueOrder', WHERE WHAT IT READS IS OF BULK AT MOST 1048576: true; the input reads as it did. -/
def queueOrderUptoRow : OpenClaim := { program := "ytnnlicidlidclaa", sum := "c273c73664805bb9fbd3100e40385b585788243d7d8bdfc274ff98c31dd5dc32", func := "tidewaiter/tidewaiterlaw23.QueueOrder", spec := "queueOrder", unfollowed := true, recurses := true, apart := false, narrowed := true }
def QueueOrderUptoSaid : Prop := queueOrderUptoRow.holds Try.pinned (OpenSpec.upto queueOrderSpec)

/-- 'tidewaiterlaw23.QueueParts', WHERE WHAT IT READS IS OF BULK AT MOST 1048576: true; the input reads as it did. -/
def queuePartsUptoRow : OpenClaim := { program := "ytnnlicidlidclaa", sum := "c273c73664805bb9fbd3100e40385b585788243d7d8bdfc274ff98c31dd5dc32", func := "tidewaiter/tidewaiterlaw23.QueueParts", spec := "queueParts", unfollowed := true, recurses := true, apart := false, narrowed := true }
def QueuePartsUptoSaid : Prop := queuePartsUptoRow.holds Try.pinned (OpenSpec.upto queuePartsSpec)

/-- 'tidewaiterlaw23.QueueTells', WHERE WHAT IT READS IS OF BULK AT MOST 1048576: true; the input reads as it did. -/
def queueTellsUptoRow : OpenClaim := { program := "ytnnlicidlidclaa", sum := "c273c73664805bb9fbd3100e40385b585788243d7d8bdfc274ff98c31dd5dc32", func := "tidewaiter/tidewaiterlaw23.QueueTells", spec := "queueTells", unfollowed := true, recurses := true, apart := false, narrowed := true }
def QueueTellsUptoSaid : Prop := queueTellsUptoRow.holds Try.pinned (OpenSpec.upto queueTellsSpec)

end Rows
end Go.Proofs.Ytnnlicidlidclaa
