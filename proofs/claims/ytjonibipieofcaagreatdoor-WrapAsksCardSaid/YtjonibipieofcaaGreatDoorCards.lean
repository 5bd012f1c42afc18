/-
  DERIVED. GIVEN WITH THE SEED: THE CARDS: each row of YtjonibipieofcaaGreatDoorRows.lean that lists a variable, with what it lists TIED to the program's text (the seventh form; the later family's looks); each row that meets fmt, with fmt's text TOLD by the authors' own Lean function (tested against real Go, not proved from fmt's source: count such statements apart). THE CARD IS WHAT COUNTS. Prove the row's statement (the work); the ties are given (YtjonibipieofcaaGreatDoorTie.lean); close each card by the builder's one call (the guide's Derived/Test/ToyasCard.lean, 'card_holds'). Laid BY PROGRAM, IN A SANDBOX (cutbox-door.mjs). By AI agents, Wed Nov 11 2026. No macro, syntax, notation, axiom, sorry.
-/
import Derived.Test.YtjonibipieofcaaGreatDoorRows
import GoSem.ClaimSeven
namespace Go.Proofs.YtjonibipieofcaaGreatDoor
namespace Rows

/-- THE TIED CARD OF 'tidewaiterlaw13.WrapAsks'. -/
def wrapAsksCard : Claim7 := { stood := { row := wrapAsksRow, standIns := [], harness := (true, "acd9b4e833f5c96edca06920e410646fb3f2caa98d7a39991d3368135f517cd5"), looks := true }, kinds := [], alts := [], laidByText := true, laidKinds := [.data, .data, .data, .handle], laidTests := true, laidLooks := .later }
def WrapAsksCardSaid : Prop := Claim7.holds Tryz.pinned (.plain (OpenSpec.ofChange wrapAsksSpec)) wrapAsksCard

/-- THE SECOND FORM's CARD OF 'tidewaiterlaw13.WrapAsks'. -/
def wrapAsksUptoCard : Claim7 := { stood := { row := wrapAsksUptoRow, standIns := [], harness := (true, "acd9b4e833f5c96edca06920e410646fb3f2caa98d7a39991d3368135f517cd5"), looks := true }, kinds := [], alts := [], laidByText := true, laidKinds := [.data, .data, .data, .handle], laidTests := true, laidLooks := .later }
def WrapAsksUptoCardSaid : Prop := Claim7.holds Tryz.pinned (.plain (OpenSpec.upto wrapAsksSpec)) wrapAsksUptoCard
end Rows
end Go.Proofs.YtjonibipieofcaaGreatDoor
