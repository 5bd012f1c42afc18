/-
  No cell of these rows narrows 'for every input' (looked for: loops, veiled, ifaces, maps, wideKeys, modest, calm, conditions, laid).
  DERIVED. THE GIVEN ROWS OF THIS SEAT. 6 by the template 'for every input the law returns true; each argument reads behind the call as it read before'; 0 by the template 'total and deterministic' (their statements: YtdbbnhmnlgfjoaaTotals.lean).
  GIVEN WITH THE SEED: the statements are not yours to turn. If you find one false, say at which input.
  Laid BY PROGRAM, IN A SANDBOX (cutbox-rows.mjs): the forced cells as the released guide's own fill.sh prints them over the translation 6561ceeb8da1a6d4… (all of the seat's roots in one cut). By AI agents, Wed Nov 11 2026. No macro, syntax, notation, axiom, sorry.
-/
import Derived.Test.YtdbbnhmnlgfjoaaChecked
import GoSem.Claim
import GoSem.ClaimJoined
import GoSem.ClaimMapViews
import Derived.JoinedTies
import Derived.KernelRfl
namespace Go.Proofs.Ytdbbnhmnlgfjoaa
/- THE CELL 'sum', in the pinned program and in every row, IS THE sha256 OF THE DUMP (.gsa) THAT YtdbbnhmnlgfjoaaProg.lean LOADS. Nothing in Lean hashes anything: it is a label: what it is worth is what the hold of that sum in a sandbox is worth. -/
noncomputable def Try.pinned : Pinned := { name := "ytdbbnhmnlgfjoaa", sum := "6561ceeb8da1a6d466fde79086144223b831356413fcf7778a59d2f4e60a0f64", checked := Try.checked }
namespace Rows
def none {H : Type} : Left H := { results := [], args := [] }

/-- 'tidewaiterlaw28.HeldTells': WHATEVER THE INPUT: true; the input reads as it did. -/
def heldTellsSpec : ChangeSpec := { name := "heldTells", fn := fun _ => fun
  | [d1, d2, d3] => { results := [.lit (.bool true)], args := [d1, d2, d3] }
  | _ => none }
def heldTellsRow : OpenClaim := { program := "ytdbbnhmnlgfjoaa", sum := "6561ceeb8da1a6d466fde79086144223b831356413fcf7778a59d2f4e60a0f64", func := "tidewaiter/tidewaiterlaw28.HeldTells", spec := "heldTells", apart := false }
def HeldTellsSaid : Prop := heldTellsRow.holds Try.pinned (OpenSpec.ofChange heldTellsSpec)

/-- ITS FALSE NEIGHBOUR: 'it returns false'. Refute it at one input. -/
def heldTellsWrong : ChangeSpec := { name := "heldTells", fn := fun _ => fun
  | [d1, d2, d3] => { results := [.lit (.bool false)], args := [d1, d2, d3] }
  | _ => none }
def HeldTellsWrongFalsely : Prop := heldTellsRow.holds Try.pinned (OpenSpec.ofChange heldTellsWrong)

/-- 'tidewaiterlaw28.HeldTurns': WHATEVER THE INPUT: true; the input reads as it did. -/
def heldTurnsSpec : ChangeSpec := { name := "heldTurns", fn := fun _ => fun
  | [d1, d2, d3, d4, d5] => { results := [.lit (.bool true)], args := [d1, d2, d3, d4, d5] }
  | _ => none }
def heldTurnsRow : OpenClaim := { program := "ytdbbnhmnlgfjoaa", sum := "6561ceeb8da1a6d466fde79086144223b831356413fcf7778a59d2f4e60a0f64", func := "tidewaiter/tidewaiterlaw28.HeldTurns", spec := "heldTurns", unfollowed := true, recurses := true, apart := false }
def HeldTurnsSaid : Prop := heldTurnsRow.holds Try.pinned (OpenSpec.ofChange heldTurnsSpec)

/-- ITS FALSE NEIGHBOUR: 'it returns false'. Refute it at one input. -/
def heldTurnsWrong : ChangeSpec := { name := "heldTurns", fn := fun _ => fun
  | [d1, d2, d3, d4, d5] => { results := [.lit (.bool false)], args := [d1, d2, d3, d4, d5] }
  | _ => none }
def HeldTurnsWrongFalsely : Prop := heldTurnsRow.holds Try.pinned (OpenSpec.ofChange heldTurnsWrong)

/-- 'tidewaiterlaw28.HeldOrder': WHATEVER THE INPUT: true; the input reads as it did. -/
def heldOrderSpec : ChangeSpec := { name := "heldOrder", fn := fun _ => fun
  | [d1, d2, d3] => { results := [.lit (.bool true)], args := [d1, d2, d3] }
  | _ => none }
def heldOrderRow : OpenClaim := { program := "ytdbbnhmnlgfjoaa", sum := "6561ceeb8da1a6d466fde79086144223b831356413fcf7778a59d2f4e60a0f64", func := "tidewaiter/tidewaiterlaw28.HeldOrder", spec := "heldOrder", unfollowed := true, recurses := true, apart := false }
def HeldOrderSaid : Prop := heldOrderRow.holds Try.pinned (OpenSpec.ofChange heldOrderSpec)

/-- ITS FALSE NEIGHBOUR: 'it returns false'. Refute it at one input. -/
def heldOrderWrong : ChangeSpec := { name := "heldOrder", fn := fun _ => fun
  | [d1, d2, d3] => { results := [.lit (.bool false)], args := [d1, d2, d3] }
  | _ => none }
def HeldOrderWrongFalsely : Prop := heldOrderRow.holds Try.pinned (OpenSpec.ofChange heldOrderWrong)

/-- 'tidewaiterlaw28.HeldDue': WHATEVER THE INPUT: true; the input reads as it did. -/
def heldDueSpec : ChangeSpec := { name := "heldDue", fn := fun _ => fun
  | [d1, d2] => { results := [.lit (.bool true)], args := [d1, d2] }
  | _ => none }
def heldDueRow : OpenClaim := { program := "ytdbbnhmnlgfjoaa", sum := "6561ceeb8da1a6d466fde79086144223b831356413fcf7778a59d2f4e60a0f64", func := "tidewaiter/tidewaiterlaw28.HeldDue", spec := "heldDue", unfollowed := true, recurses := true, apart := false }
def HeldDueSaid : Prop := heldDueRow.holds Try.pinned (OpenSpec.ofChange heldDueSpec)

/-- ITS FALSE NEIGHBOUR: 'it returns false'. Refute it at one input. -/
def heldDueWrong : ChangeSpec := { name := "heldDue", fn := fun _ => fun
  | [d1, d2] => { results := [.lit (.bool false)], args := [d1, d2] }
  | _ => none }
def HeldDueWrongFalsely : Prop := heldDueRow.holds Try.pinned (OpenSpec.ofChange heldDueWrong)

/-- 'tidewaiterlaw28.HeldAcks': WHATEVER THE INPUT: true; the input reads as it did. -/
def heldAcksSpec : ChangeSpec := { name := "heldAcks", fn := fun _ => fun
  | [d1, d2] => { results := [.lit (.bool true)], args := [d1, d2] }
  | _ => none }
def heldAcksRow : OpenClaim := { program := "ytdbbnhmnlgfjoaa", sum := "6561ceeb8da1a6d466fde79086144223b831356413fcf7778a59d2f4e60a0f64", func := "tidewaiter/tidewaiterlaw28.HeldAcks", spec := "heldAcks", unfollowed := true, recurses := true, apart := false }
def HeldAcksSaid : Prop := heldAcksRow.holds Try.pinned (OpenSpec.ofChange heldAcksSpec)

/-- ITS FALSE NEIGHBOUR: 'it returns false'. Refute it at one input. -/
def heldAcksWrong : ChangeSpec := { name := "heldAcks", fn := fun _ => fun
  | [d1, d2] => { results := [.lit (.bool false)], args := [d1, d2] }
  | _ => none }
def HeldAcksWrongFalsely : Prop := heldAcksRow.holds Try.pinned (OpenSpec.ofChange heldAcksWrong)

/-- 'tidewaiterlaw28.HeldNames': WHATEVER THE INPUT: true; the input reads as it did. -/
def heldNamesSpec : ChangeSpec := { name := "heldNames", fn := fun _ => fun
  | [] => { results := [.lit (.bool true)], args := [] }
  | _ => none }
def heldNamesRow : OpenClaim := { program := "ytdbbnhmnlgfjoaa", sum := "6561ceeb8da1a6d466fde79086144223b831356413fcf7778a59d2f4e60a0f64", func := "tidewaiter/tidewaiterlaw28.HeldNames", spec := "heldNames", unfollowed := true, recurses := true, apart := false }
def HeldNamesSaid : Prop := heldNamesRow.holds Try.pinned (OpenSpec.ofChange heldNamesSpec)

/-- ITS FALSE NEIGHBOUR: 'it returns false'. Refute it at one input. -/
def heldNamesWrong : ChangeSpec := { name := "heldNames", fn := fun _ => fun
  | [] => { results := [.lit (.bool false)], args := [] }
  | _ => none }
def HeldNamesWrongFalsely : Prop := heldNamesRow.holds Try.pinned (OpenSpec.ofChange heldNamesWrong)

/- THE SECOND FORM. 'bulk': how many values and letters a reading holds, each counted each time it is reached (what is shared counts as often as it is met; a slice's spare places count too). A statement '..UptoSaid' is the law's where the arguments, and the package variables that the reading takes, are together of bulk at most 1048576: NARROWER than '..Said'. Prove '..Said' where nothing that the law and all that it calls make is longer than what came in: it says more and counts as full. Else prove '..UptoSaid'. A law counts once. -/
mutual
def uptoBulk {H : Type} : DataW H → Nat
  | .lit (.string bytes) => bytes.length + 1
  | .lit _ => 1
  | .nil => 1
  | .ptr d => uptoBulk d + 1
  | .slice elems spare => uptoBulkAll elems + uptoBulkAll spare + 1
  | .agg parts => uptoBulkAll parts + 1
  | .iface _ d => uptoBulk d + 1
  | .map entries => uptoBulkEntries entries + 1
  | .held _ => 1
def uptoBulkAll {H : Type} : List (DataW H) → Nat
  | [] => 0
  | d :: r => uptoBulk d + uptoBulkAll r
def uptoBulkEntries {H : Type} : List (Lit × DataW H) → Nat
  | [] => 0
  | x :: r => uptoBulkEntry x + uptoBulkEntries r
def uptoBulkEntry {H : Type} : Lit × DataW H → Nat
  | (.string bytes, d) => bytes.length + uptoBulk d + 1
  | (_, d) => uptoBulk d + 1
 end
def uptoSmall : (H : Type) → List (DataW H) → Bool := fun _ ds => decide (uptoBulkAll ds ≤ 1048576)
def OpenSpec.upto (s : _root_.Go.ChangeSpec) : _root_.Go.OpenSpec := { _root_.Go.OpenSpec.ofChange s with cond := some uptoSmall }

/-- 'tidewaiterlaw28.HeldTells', WHERE WHAT IT READS IS OF BULK AT MOST 1048576: true; the input reads as it did. -/
def heldTellsUptoRow : OpenClaim := { program := "ytdbbnhmnlgfjoaa", sum := "6561ceeb8da1a6d466fde79086144223b831356413fcf7778a59d2f4e60a0f64", func := "tidewaiter/tidewaiterlaw28.HeldTells", spec := "heldTells", apart := false, narrowed := true }
def HeldTellsUptoSaid : Prop := heldTellsUptoRow.holds Try.pinned (OpenSpec.upto heldTellsSpec)

/-- 'tidewaiterlaw28.HeldTurns', WHERE WHAT IT READS IS OF BULK AT MOST 1048576: true; the input reads as it did. -/
def heldTurnsUptoRow : OpenClaim := { program := "ytdbbnhmnlgfjoaa", sum := "6561ceeb8da1a6d466fde79086144223b831356413fcf7778a59d2f4e60a0f64", func := "tidewaiter/tidewaiterlaw28.HeldTurns", spec := "heldTurns", unfollowed := true, recurses := true, apart := false, narrowed := true }
def HeldTurnsUptoSaid : Prop := heldTurnsUptoRow.holds Try.pinned (OpenSpec.upto heldTurnsSpec)

/-- 'tidewaiterlaw28.HeldOrder', WHERE WHAT IT READS IS OF BULK AT MOST 1048576: true; the input reads as it did. -/
def heldOrderUptoRow : OpenClaim := { program := "ytdbbnhmnlgfjoaa", sum := "6561ceeb8da1a6d466fde79086144223b831356413fcf7778a59d2f4e60a0f64", func := "tidewaiter/tidewaiterlaw28.HeldOrder", spec := "heldOrder", unfollowed := true, recurses := true, apart := false, narrowed := true }
def HeldOrderUptoSaid : Prop := heldOrderUptoRow.holds Try.pinned (OpenSpec.upto heldOrderSpec)

/-- 'tidewaiterlaw28.HeldDue', WHERE WHAT IT READS IS OF BULK AT MOST 1048576: true; the input reads as it did. -/
def heldDueUptoRow : OpenClaim := { program := "ytdbbnhmnlgfjoaa", sum := "6561ceeb8da1a6d466fde79086144223b831356413fcf7778a59d2f4e60a0f64", func := "tidewaiter/tidewaiterlaw28.HeldDue", spec := "heldDue", unfollowed := true, recurses := true, apart := false, narrowed := true }
def HeldDueUptoSaid : Prop := heldDueUptoRow.holds Try.pinned (OpenSpec.upto heldDueSpec)

/-- 'tidewaiterlaw28.HeldAcks', WHERE WHAT IT READS IS OF BULK AT MOST 1048576: true; the input reads as it did. -/
def heldAcksUptoRow : OpenClaim := { program := "ytdbbnhmnlgfjoaa", sum := "6561ceeb8da1a6d466fde79086144223b831356413fcf7778a59d2f4e60a0f64", func := "tidewaiter/tidewaiterlaw28.HeldAcks", spec := "heldAcks", unfollowed := true, recurses := true, apart := false, narrowed := true }
def HeldAcksUptoSaid : Prop := heldAcksUptoRow.holds Try.pinned (OpenSpec.upto heldAcksSpec)

/-- 'tidewaiterlaw28.HeldNames', WHERE WHAT IT READS IS OF BULK AT MOST 1048576: true; the input reads as it did. -/
def heldNamesUptoRow : OpenClaim := { program := "ytdbbnhmnlgfjoaa", sum := "6561ceeb8da1a6d466fde79086144223b831356413fcf7778a59d2f4e60a0f64", func := "tidewaiter/tidewaiterlaw28.HeldNames", spec := "heldNames", unfollowed := true, recurses := true, apart := false, narrowed := true }
def HeldNamesUptoSaid : Prop := heldNamesUptoRow.holds Try.pinned (OpenSpec.upto heldNamesSpec)

end Rows
end Go.Proofs.Ytdbbnhmnlgfjoaa
