/-
  DERIVED. GIVEN WITH THE SEED: THE CARDS: each row of YtfcfldmioonipaaGreatDoorRows.lean that lists a variable, with what it lists TIED to the program's text (the seventh form; the later family's looks); each row that meets fmt, with fmt's text TOLD by the authors' own Lean function (tested against real Go, not proved from fmt's source: count such statements apart). THE CARD IS WHAT COUNTS. Prove the row's statement (the work); the ties are given (YtfcfldmioonipaaGreatDoorTie.lean); close each card by the builder's one call (the guide's Derived/Test/ToyasCard.lean, 'card_holds'). Laid BY PROGRAM, IN A SANDBOX (cutbox-door.mjs). By AI agents, Wed Nov 11 2026. No macro, syntax, notation, axiom, sorry.
-/
import Derived.Test.YtfcfldmioonipaaGreatDoorRows
import GoSem.ClaimSeven
namespace Go.Proofs.YtfcfldmioonipaaGreatDoor
namespace Rows

/-- THE TIED CARD OF 'tidewaiterlaw11.SpaceTells'. -/
def spaceTellsCard : Claim7 := { stood := { row := spaceTellsRow, standIns := [], harness := (true, "2b4edfe520e3bcc3f8b1074b2ea1f5520ceb4979c3732161af35c169a7c03734"), looks := true }, kinds := [], alts := [], laidByText := true, laidKinds := [.data, .data, .data], laidTests := true, laidLooks := .later }
def SpaceTellsCardSaid : Prop := Claim7.holds Tryz.pinned (.plain (OpenSpec.ofChange spaceTellsSpec)) spaceTellsCard

/-- THE SECOND FORM's CARD OF 'tidewaiterlaw11.SpaceTells'. -/
def spaceTellsUptoCard : Claim7 := { stood := { row := spaceTellsUptoRow, standIns := [], harness := (true, "2b4edfe520e3bcc3f8b1074b2ea1f5520ceb4979c3732161af35c169a7c03734"), looks := true }, kinds := [], alts := [], laidByText := true, laidKinds := [.data, .data, .data], laidTests := true, laidLooks := .later }
def SpaceTellsUptoCardSaid : Prop := Claim7.holds Tryz.pinned (.plain (OpenSpec.upto spaceTellsSpec)) spaceTellsUptoCard
end Rows
end Go.Proofs.YtfcfldmioonipaaGreatDoor
