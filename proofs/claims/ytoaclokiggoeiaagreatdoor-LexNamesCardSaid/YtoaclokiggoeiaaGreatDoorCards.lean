/-
  DERIVED. GIVEN WITH THE SEED: THE CARDS: each row of YtoaclokiggoeiaaGreatDoorRows.lean that lists a variable, with what it lists TIED to the program's text (the seventh form; the later family's looks); each row that meets fmt, with fmt's text TOLD by the authors' own Lean function (tested against real Go, not proved from fmt's source: count such statements apart). THE CARD IS WHAT COUNTS. Prove the row's statement (the work); the ties are given (YtoaclokiggoeiaaGreatDoorTie.lean); close each card by the builder's one call (the guide's Derived/Test/ToyasCard.lean, 'card_holds'). Laid BY PROGRAM, IN A SANDBOX (cutbox-door.mjs). By AI agents, Wed Nov 11 2026. No macro, syntax, notation, axiom, sorry.
-/
import Derived.Test.YtoaclokiggoeiaaGreatDoorRows
import GoSem.ClaimSeven
namespace Go.Proofs.YtoaclokiggoeiaaGreatDoor
namespace Rows

/-- THE TIED CARD OF 'tidewaiterlaw09.LexTells'. -/
def lexTellsCard : Claim7 := { stood := { row := lexTellsRow, standIns := [], harness := (true, "0fa94c969dbf9cfacfb556f51e305c95b54f5f178bd51843a8ed1dfcf3d869fc"), looks := true }, kinds := [], alts := [], laidByText := true, laidKinds := [.data, .data, .data, .data, .sentinel, .sentinel, .pinned], laidTests := true, laidLooks := .later }
def LexTellsCardSaid : Prop := Claim7.holds Tryz.pinned (.plain (OpenSpec.ofChange lexTellsSpec)) lexTellsCard

/-- THE TIED CARD OF 'tidewaiterlaw09.LexParts'. -/
def lexPartsCard : Claim7 := { stood := { row := lexPartsRow, standIns := [], harness := (true, "0fa94c969dbf9cfacfb556f51e305c95b54f5f178bd51843a8ed1dfcf3d869fc"), looks := true }, kinds := [], alts := [], laidByText := true, laidKinds := [.data, .data, .data, .data, .sentinel, .sentinel, .pinned], laidTests := true, laidLooks := .later }
def LexPartsCardSaid : Prop := Claim7.holds Tryz.pinned (.plain (OpenSpec.ofChange lexPartsSpec)) lexPartsCard

/-- THE TIED CARD OF 'tidewaiterlaw09.LexMay'. -/
def lexMayCard : Claim7 := { stood := { row := lexMayRow, standIns := [], harness := (true, "0fa94c969dbf9cfacfb556f51e305c95b54f5f178bd51843a8ed1dfcf3d869fc"), looks := true }, kinds := [], alts := [], laidByText := true, laidKinds := [.data, .data, .data, .data, .sentinel, .sentinel, .pinned], laidTests := true, laidLooks := .later }
def LexMayCardSaid : Prop := Claim7.holds Tryz.pinned (.plain (OpenSpec.ofChange lexMaySpec)) lexMayCard

/-- THE TIED CARD OF 'tidewaiterlaw09.LexNames'. -/
def lexNamesCard : Claim7 := { stood := { row := lexNamesRow, standIns := [], harness := (true, "0fa94c969dbf9cfacfb556f51e305c95b54f5f178bd51843a8ed1dfcf3d869fc"), looks := true }, kinds := [], alts := [], laidByText := true, laidKinds := [.data, .data, .data, .data, .sentinel, .sentinel, .pinned], laidTests := true, laidLooks := .later }
def LexNamesCardSaid : Prop := Claim7.holds Tryz.pinned (.plain (OpenSpec.ofChange lexNamesSpec)) lexNamesCard

/-- THE TIED CARD OF 'tidewaiterlaw09.LexBack'. -/
def lexBackCard : Claim7 := { stood := { row := lexBackRow, standIns := [], harness := (true, "0fa94c969dbf9cfacfb556f51e305c95b54f5f178bd51843a8ed1dfcf3d869fc"), looks := true }, kinds := [], alts := [], laidByText := true, laidKinds := [.data, .data, .data, .data, .sentinel, .sentinel, .pinned], laidTests := true, laidLooks := .later }
def LexBackCardSaid : Prop := Claim7.holds Tryz.pinned (.plain (OpenSpec.ofChange lexBackSpec)) lexBackCard

/-- THE SECOND FORM's CARD OF 'tidewaiterlaw09.LexTells'. -/
def lexTellsUptoCard : Claim7 := { stood := { row := lexTellsUptoRow, standIns := [], harness := (true, "0fa94c969dbf9cfacfb556f51e305c95b54f5f178bd51843a8ed1dfcf3d869fc"), looks := true }, kinds := [], alts := [], laidByText := true, laidKinds := [.data, .data, .data, .data, .sentinel, .sentinel, .pinned], laidTests := true, laidLooks := .later }
def LexTellsUptoCardSaid : Prop := Claim7.holds Tryz.pinned (.plain (OpenSpec.upto lexTellsSpec)) lexTellsUptoCard

/-- THE SECOND FORM's CARD OF 'tidewaiterlaw09.LexParts'. -/
def lexPartsUptoCard : Claim7 := { stood := { row := lexPartsUptoRow, standIns := [], harness := (true, "0fa94c969dbf9cfacfb556f51e305c95b54f5f178bd51843a8ed1dfcf3d869fc"), looks := true }, kinds := [], alts := [], laidByText := true, laidKinds := [.data, .data, .data, .data, .sentinel, .sentinel, .pinned], laidTests := true, laidLooks := .later }
def LexPartsUptoCardSaid : Prop := Claim7.holds Tryz.pinned (.plain (OpenSpec.upto lexPartsSpec)) lexPartsUptoCard

/-- THE SECOND FORM's CARD OF 'tidewaiterlaw09.LexMay'. -/
def lexMayUptoCard : Claim7 := { stood := { row := lexMayUptoRow, standIns := [], harness := (true, "0fa94c969dbf9cfacfb556f51e305c95b54f5f178bd51843a8ed1dfcf3d869fc"), looks := true }, kinds := [], alts := [], laidByText := true, laidKinds := [.data, .data, .data, .data, .sentinel, .sentinel, .pinned], laidTests := true, laidLooks := .later }
def LexMayUptoCardSaid : Prop := Claim7.holds Tryz.pinned (.plain (OpenSpec.upto lexMaySpec)) lexMayUptoCard

/-- THE SECOND FORM's CARD OF 'tidewaiterlaw09.LexNames'. -/
def lexNamesUptoCard : Claim7 := { stood := { row := lexNamesUptoRow, standIns := [], harness := (true, "0fa94c969dbf9cfacfb556f51e305c95b54f5f178bd51843a8ed1dfcf3d869fc"), looks := true }, kinds := [], alts := [], laidByText := true, laidKinds := [.data, .data, .data, .data, .sentinel, .sentinel, .pinned], laidTests := true, laidLooks := .later }
def LexNamesUptoCardSaid : Prop := Claim7.holds Tryz.pinned (.plain (OpenSpec.upto lexNamesSpec)) lexNamesUptoCard

/-- THE SECOND FORM's CARD OF 'tidewaiterlaw09.LexBack'. -/
def lexBackUptoCard : Claim7 := { stood := { row := lexBackUptoRow, standIns := [], harness := (true, "0fa94c969dbf9cfacfb556f51e305c95b54f5f178bd51843a8ed1dfcf3d869fc"), looks := true }, kinds := [], alts := [], laidByText := true, laidKinds := [.data, .data, .data, .data, .sentinel, .sentinel, .pinned], laidTests := true, laidLooks := .later }
def LexBackUptoCardSaid : Prop := Claim7.holds Tryz.pinned (.plain (OpenSpec.upto lexBackSpec)) lexBackUptoCard
end Rows
end Go.Proofs.YtoaclokiggoeiaaGreatDoor
