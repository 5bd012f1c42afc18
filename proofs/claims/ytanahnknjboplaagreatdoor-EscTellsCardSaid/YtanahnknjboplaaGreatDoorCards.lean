/-
  DERIVED. GIVEN WITH THE SEED: THE CARDS: each row of YtanahnknjboplaaGreatDoorRows.lean that lists a variable, with what it lists TIED to the program's text (the seventh form; the later family's looks); each row that meets fmt, with fmt's text TOLD by the authors' own Lean function (tested against real Go, not proved from fmt's source: count such statements apart). THE CARD IS WHAT COUNTS. Prove the row's statement (the work); the ties are given (YtanahnknjboplaaGreatDoorTie.lean); close each card by the builder's one call (the guide's Derived/Test/ToyasCard.lean, 'card_holds'). Laid BY PROGRAM, IN A SANDBOX (cutbox-door.mjs). By AI agents, Wed Nov 11 2026. No macro, syntax, notation, axiom, sorry.
-/
import Derived.Test.YtanahnknjboplaaGreatDoorRows
import GoSem.ClaimSeven
namespace Go.Proofs.YtanahnknjboplaaGreatDoor
namespace Rows

/-- THE TIED CARD OF 'tidewaiterlaw08.EscTells'. -/
def escTellsCard : Claim7 := { stood := { row := escTellsRow, standIns := [], harness := (true, "7c11398bf93a38b1c104b43c0800fe41631478cb72323e2c0823721547a3f2da"), looks := true }, kinds := [], alts := [], laidByText := true, laidKinds := [.data, .data, .data, .data, .sentinel, .sentinel, .pinned], laidTests := true, laidLooks := .later }
def EscTellsCardSaid : Prop := Claim7.holds Tryz.pinned (.plain (OpenSpec.ofChange escTellsSpec)) escTellsCard

/-- THE SECOND FORM's CARD OF 'tidewaiterlaw08.EscTells'. -/
def escTellsUptoCard : Claim7 := { stood := { row := escTellsUptoRow, standIns := [], harness := (true, "7c11398bf93a38b1c104b43c0800fe41631478cb72323e2c0823721547a3f2da"), looks := true }, kinds := [], alts := [], laidByText := true, laidKinds := [.data, .data, .data, .data, .sentinel, .sentinel, .pinned], laidTests := true, laidLooks := .later }
def EscTellsUptoCardSaid : Prop := Claim7.holds Tryz.pinned (.plain (OpenSpec.upto escTellsSpec)) escTellsUptoCard
end Rows
end Go.Proofs.YtanahnknjboplaaGreatDoor
