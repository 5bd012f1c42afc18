/-
  DERIVED. GIVEN WITH THE SEED: THE CARDS: each row of YtgboofebldgdjaaGreatDoorRows.lean that lists a variable, with what it lists TIED to the program's text (the seventh form; the later family's looks); each row that meets fmt, with fmt's text TOLD by the authors' own Lean function (tested against real Go, not proved from fmt's source: count such statements apart). THE CARD IS WHAT COUNTS. Prove the row's statement (the work); the ties are given (YtgboofebldgdjaaGreatDoorTie.lean); close each card by the builder's one call (the guide's Derived/Test/ToyasCard.lean, 'card_holds'). Laid BY PROGRAM, IN A SANDBOX (cutbox-door.mjs). By AI agents, Wed Nov 11 2026. No macro, syntax, notation, axiom, sorry.
-/
import Derived.Test.YtgboofebldgdjaaGreatDoorRows
import GoSem.ClaimSeven
namespace Go.Proofs.YtgboofebldgdjaaGreatDoor
namespace Rows

/-- THE TIED CARD OF 'tidewaiterlaw12.MarkReads'. -/
def markReadsCard : Claim7 := { stood := { row := markReadsRow, standIns := [], harness := (true, "40d00a754b0ac70022eebebe0af48227db7789dcaaaa637c1220a46cf7f4f961"), looks := true }, kinds := [], alts := [], laidByText := true, laidKinds := [.data, .data, .data, .data, .handle, .sentinel, .sentinel, .pinned], laidTests := true, laidLooks := .later }
def MarkReadsCardSaid : Prop := Claim7.holds Tryz.pinned (.plain (OpenSpec.ofChange markReadsSpec)) markReadsCard

/-- THE SECOND FORM's CARD OF 'tidewaiterlaw12.MarkReads'. -/
def markReadsUptoCard : Claim7 := { stood := { row := markReadsUptoRow, standIns := [], harness := (true, "40d00a754b0ac70022eebebe0af48227db7789dcaaaa637c1220a46cf7f4f961"), looks := true }, kinds := [], alts := [], laidByText := true, laidKinds := [.data, .data, .data, .data, .handle, .sentinel, .sentinel, .pinned], laidTests := true, laidLooks := .later }
def MarkReadsUptoCardSaid : Prop := Claim7.holds Tryz.pinned (.plain (OpenSpec.upto markReadsSpec)) markReadsUptoCard
end Rows
end Go.Proofs.YtgboofebldgdjaaGreatDoor
