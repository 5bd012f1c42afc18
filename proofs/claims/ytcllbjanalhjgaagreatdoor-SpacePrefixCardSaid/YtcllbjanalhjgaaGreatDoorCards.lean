/-
  DERIVED. GIVEN WITH THE SEED: THE CARDS: each row of YtcllbjanalhjgaaGreatDoorRows.lean that lists a variable, with what it lists TIED to the program's text (the seventh form; the later family's looks); each row that meets fmt, with fmt's text TOLD by the authors' own Lean function (tested against real Go, not proved from fmt's source: count such statements apart). THE CARD IS WHAT COUNTS. Prove the row's statement (the work); the ties are given (YtcllbjanalhjgaaGreatDoorTie.lean); close each card by the builder's one call (the guide's Derived/Test/ToyasCard.lean, 'card_holds'). Laid BY PROGRAM, IN A SANDBOX (cutbox-door.mjs). By AI agents, Wed Nov 11 2026. No macro, syntax, notation, axiom, sorry.
-/
import Derived.Test.YtcllbjanalhjgaaGreatDoorRows
import GoSem.ClaimSeven
namespace Go.Proofs.YtcllbjanalhjgaaGreatDoor
namespace Rows

/-- THE TIED CARD OF 'tidewaiterlaw11.SpaceTells'. -/
def spaceTellsCard : Claim7 := { stood := { row := spaceTellsRow, standIns := [], harness := (true, "e494b50de0c37fb6518881c868b8c2b0a494490aec48c911d2b2a04fcffe5bd0"), looks := true }, kinds := [], alts := [], laidByText := true, laidKinds := [.data, .data, .data], laidTests := true, laidLooks := .later }
def SpaceTellsCardSaid : Prop := Claim7.holds Tryz.pinned (.plain (OpenSpec.ofChange spaceTellsSpec)) spaceTellsCard

/-- THE TIED CARD OF 'tidewaiterlaw11.SpacePrefix'. -/
def spacePrefixCard : Claim7 := { stood := { row := spacePrefixRow, standIns := [], harness := (true, "e494b50de0c37fb6518881c868b8c2b0a494490aec48c911d2b2a04fcffe5bd0"), looks := true }, kinds := [], alts := [], laidByText := true, laidKinds := [.data, .data, .data, .data, .sentinel, .sentinel, .pinned], laidTests := true, laidLooks := .later }
def SpacePrefixCardSaid : Prop := Claim7.holds Tryz.pinned (.plain (OpenSpec.ofChange spacePrefixSpec)) spacePrefixCard

/-- THE SECOND FORM's CARD OF 'tidewaiterlaw11.SpaceTells'. -/
def spaceTellsUptoCard : Claim7 := { stood := { row := spaceTellsUptoRow, standIns := [], harness := (true, "e494b50de0c37fb6518881c868b8c2b0a494490aec48c911d2b2a04fcffe5bd0"), looks := true }, kinds := [], alts := [], laidByText := true, laidKinds := [.data, .data, .data], laidTests := true, laidLooks := .later }
def SpaceTellsUptoCardSaid : Prop := Claim7.holds Tryz.pinned (.plain (OpenSpec.upto spaceTellsSpec)) spaceTellsUptoCard

/-- THE SECOND FORM's CARD OF 'tidewaiterlaw11.SpacePrefix'. -/
def spacePrefixUptoCard : Claim7 := { stood := { row := spacePrefixUptoRow, standIns := [], harness := (true, "e494b50de0c37fb6518881c868b8c2b0a494490aec48c911d2b2a04fcffe5bd0"), looks := true }, kinds := [], alts := [], laidByText := true, laidKinds := [.data, .data, .data, .data, .sentinel, .sentinel, .pinned], laidTests := true, laidLooks := .later }
def SpacePrefixUptoCardSaid : Prop := Claim7.holds Tryz.pinned (.plain (OpenSpec.upto spacePrefixSpec)) spacePrefixUptoCard
end Rows
end Go.Proofs.YtcllbjanalhjgaaGreatDoor
