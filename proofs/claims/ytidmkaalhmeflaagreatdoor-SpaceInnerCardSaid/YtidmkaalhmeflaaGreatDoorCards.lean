/-
  DERIVED. GIVEN WITH THE SEED: THE CARDS: each row of YtidmkaalhmeflaaGreatDoorRows.lean that lists a variable, with what it lists TIED to the program's text (the seventh form; the later family's looks); each row that meets fmt, with fmt's text TOLD by the authors' own Lean function (tested against real Go, not proved from fmt's source: count such statements apart). THE CARD IS WHAT COUNTS. Prove the row's statement (the work); the ties are given (YtidmkaalhmeflaaGreatDoorTie.lean); close each card by the builder's one call (the guide's Derived/Test/ToyasCard.lean, 'card_holds'). Laid BY PROGRAM, IN A SANDBOX (cutbox-door.mjs). By AI agents, Wed Nov 11 2026. No macro, syntax, notation, axiom, sorry.
-/
import Derived.Test.YtidmkaalhmeflaaGreatDoorRows
import GoSem.ClaimSeven
namespace Go.Proofs.YtidmkaalhmeflaaGreatDoor
namespace Rows

/-- THE TIED CARD OF 'tidewaiterlaw11.SpaceTells'. -/
def spaceTellsCard : Claim7 := { stood := { row := spaceTellsRow, standIns := [], harness := (true, "09ffd3ba7048c1a9235404d939d9208f342d42e65dc723b548d51f331d911dcf"), looks := true }, kinds := [], alts := [], laidByText := true, laidKinds := [.data, .data, .data], laidTests := true, laidLooks := .later }
def SpaceTellsCardSaid : Prop := Claim7.holds Tryz.pinned (.plain (OpenSpec.ofChange spaceTellsSpec)) spaceTellsCard

/-- THE TIED CARD OF 'tidewaiterlaw12.MarkWrites'. -/
def markWritesCard : Claim7 := { stood := { row := markWritesRow, standIns := [], harness := (true, "09ffd3ba7048c1a9235404d939d9208f342d42e65dc723b548d51f331d911dcf"), looks := true }, kinds := [], alts := [], laidByText := true, laidKinds := [.data, .data, .data, .handle], laidTests := true, laidLooks := .later }
def MarkWritesCardSaid : Prop := Claim7.holds Tryz.pinned (.plain (OpenSpec.ofChange markWritesSpec)) markWritesCard

/-- THE TIED CARD OF 'tidewaiterlaw11.SpaceNames'. -/
def spaceNamesCard : Claim7 := { stood := { row := spaceNamesRow, standIns := [], harness := (true, "09ffd3ba7048c1a9235404d939d9208f342d42e65dc723b548d51f331d911dcf"), looks := true }, kinds := [], alts := [], laidByText := true, laidKinds := [.data, .data, .data, .data, .sentinel, .sentinel, .pinned], laidTests := true, laidLooks := .later }
def SpaceNamesCardSaid : Prop := Claim7.holds Tryz.pinned (.plain (OpenSpec.ofChange spaceNamesSpec)) spaceNamesCard

/-- THE TIED CARD OF 'tidewaiterlaw11.SpaceInner'. -/
def spaceInnerCard : Claim7 := { stood := { row := spaceInnerRow, standIns := [], harness := (true, "09ffd3ba7048c1a9235404d939d9208f342d42e65dc723b548d51f331d911dcf"), looks := true }, kinds := [], alts := [], laidByText := true, laidKinds := [.data, .data, .data, .data, .sentinel, .sentinel, .pinned], laidTests := true, laidLooks := .later }
def SpaceInnerCardSaid : Prop := Claim7.holds Tryz.pinned (.plain (OpenSpec.ofChange spaceInnerSpec)) spaceInnerCard

/-- THE TIED CARD OF 'tidewaiterlaw11.SpaceBack'. -/
def spaceBackCard : Claim7 := { stood := { row := spaceBackRow, standIns := [], harness := (true, "09ffd3ba7048c1a9235404d939d9208f342d42e65dc723b548d51f331d911dcf"), looks := true }, kinds := [], alts := [], laidByText := true, laidKinds := [.data, .data, .data, .data, .sentinel, .sentinel, .pinned], laidTests := true, laidLooks := .later }
def SpaceBackCardSaid : Prop := Claim7.holds Tryz.pinned (.plain (OpenSpec.ofChange spaceBackSpec)) spaceBackCard

/-- THE TIED CARD OF 'tidewaiterlaw11.SpacePrefix'. -/
def spacePrefixCard : Claim7 := { stood := { row := spacePrefixRow, standIns := [], harness := (true, "09ffd3ba7048c1a9235404d939d9208f342d42e65dc723b548d51f331d911dcf"), looks := true }, kinds := [], alts := [], laidByText := true, laidKinds := [.data, .data, .data, .data, .sentinel, .sentinel, .pinned], laidTests := true, laidLooks := .later }
def SpacePrefixCardSaid : Prop := Claim7.holds Tryz.pinned (.plain (OpenSpec.ofChange spacePrefixSpec)) spacePrefixCard

/-- THE TIED CARD OF 'tidewaiterlaw12.MarkReads'. -/
def markReadsCard : Claim7 := { stood := { row := markReadsRow, standIns := [], harness := (true, "09ffd3ba7048c1a9235404d939d9208f342d42e65dc723b548d51f331d911dcf"), looks := true }, kinds := [], alts := [], laidByText := true, laidKinds := [.data, .data, .data, .data, .handle, .sentinel, .sentinel, .pinned], laidTests := true, laidLooks := .later }
def MarkReadsCardSaid : Prop := Claim7.holds Tryz.pinned (.plain (OpenSpec.ofChange markReadsSpec)) markReadsCard

/-- THE TIED CARD OF 'tidewaiterlaw12.MarkNames'. -/
def markNamesCard : Claim7 := { stood := { row := markNamesRow, standIns := [], harness := (true, "09ffd3ba7048c1a9235404d939d9208f342d42e65dc723b548d51f331d911dcf"), looks := true }, kinds := [], alts := [], laidByText := true, laidKinds := [.data, .data, .data, .data, .handle, .sentinel, .sentinel, .pinned], laidTests := true, laidLooks := .later }
def MarkNamesCardSaid : Prop := Claim7.holds Tryz.pinned (.plain (OpenSpec.ofChange markNamesSpec)) markNamesCard

/-- THE TIED CARD OF 'tidewaiterlaw12.MarkCanon'. -/
def markCanonCard : Claim7 := { stood := { row := markCanonRow, standIns := [], harness := (true, "09ffd3ba7048c1a9235404d939d9208f342d42e65dc723b548d51f331d911dcf"), looks := true }, kinds := [], alts := [], laidByText := true, laidKinds := [.data, .data, .data, .data, .handle, .sentinel, .sentinel, .pinned], laidTests := true, laidLooks := .later }
def MarkCanonCardSaid : Prop := Claim7.holds Tryz.pinned (.plain (OpenSpec.ofChange markCanonSpec)) markCanonCard

/-- THE TIED CARD OF 'tidewaiterlaw12.MarkBack'. -/
def markBackCard : Claim7 := { stood := { row := markBackRow, standIns := [], harness := (true, "09ffd3ba7048c1a9235404d939d9208f342d42e65dc723b548d51f331d911dcf"), looks := true }, kinds := [], alts := [], laidByText := true, laidKinds := [.data, .data, .data, .data, .handle, .sentinel, .sentinel, .pinned], laidTests := true, laidLooks := .later }
def MarkBackCardSaid : Prop := Claim7.holds Tryz.pinned (.plain (OpenSpec.ofChange markBackSpec)) markBackCard

/-- THE TIED CARD OF 'tidewaiterlaw12.MarkInner'. -/
def markInnerCard : Claim7 := { stood := { row := markInnerRow, standIns := [], harness := (true, "09ffd3ba7048c1a9235404d939d9208f342d42e65dc723b548d51f331d911dcf"), looks := true }, kinds := [], alts := [], laidByText := true, laidKinds := [.data, .data, .data, .data, .handle, .sentinel, .sentinel, .pinned], laidTests := true, laidLooks := .later }
def MarkInnerCardSaid : Prop := Claim7.holds Tryz.pinned (.plain (OpenSpec.ofChange markInnerSpec)) markInnerCard

/-- THE SECOND FORM's CARD OF 'tidewaiterlaw11.SpaceTells'. -/
def spaceTellsUptoCard : Claim7 := { stood := { row := spaceTellsUptoRow, standIns := [], harness := (true, "09ffd3ba7048c1a9235404d939d9208f342d42e65dc723b548d51f331d911dcf"), looks := true }, kinds := [], alts := [], laidByText := true, laidKinds := [.data, .data, .data], laidTests := true, laidLooks := .later }
def SpaceTellsUptoCardSaid : Prop := Claim7.holds Tryz.pinned (.plain (OpenSpec.upto spaceTellsSpec)) spaceTellsUptoCard

/-- THE SECOND FORM's CARD OF 'tidewaiterlaw12.MarkWrites'. -/
def markWritesUptoCard : Claim7 := { stood := { row := markWritesUptoRow, standIns := [], harness := (true, "09ffd3ba7048c1a9235404d939d9208f342d42e65dc723b548d51f331d911dcf"), looks := true }, kinds := [], alts := [], laidByText := true, laidKinds := [.data, .data, .data, .handle], laidTests := true, laidLooks := .later }
def MarkWritesUptoCardSaid : Prop := Claim7.holds Tryz.pinned (.plain (OpenSpec.upto markWritesSpec)) markWritesUptoCard

/-- THE SECOND FORM's CARD OF 'tidewaiterlaw11.SpaceNames'. -/
def spaceNamesUptoCard : Claim7 := { stood := { row := spaceNamesUptoRow, standIns := [], harness := (true, "09ffd3ba7048c1a9235404d939d9208f342d42e65dc723b548d51f331d911dcf"), looks := true }, kinds := [], alts := [], laidByText := true, laidKinds := [.data, .data, .data, .data, .sentinel, .sentinel, .pinned], laidTests := true, laidLooks := .later }
def SpaceNamesUptoCardSaid : Prop := Claim7.holds Tryz.pinned (.plain (OpenSpec.upto spaceNamesSpec)) spaceNamesUptoCard

/-- THE SECOND FORM's CARD OF 'tidewaiterlaw11.SpaceInner'. -/
def spaceInnerUptoCard : Claim7 := { stood := { row := spaceInnerUptoRow, standIns := [], harness := (true, "09ffd3ba7048c1a9235404d939d9208f342d42e65dc723b548d51f331d911dcf"), looks := true }, kinds := [], alts := [], laidByText := true, laidKinds := [.data, .data, .data, .data, .sentinel, .sentinel, .pinned], laidTests := true, laidLooks := .later }
def SpaceInnerUptoCardSaid : Prop := Claim7.holds Tryz.pinned (.plain (OpenSpec.upto spaceInnerSpec)) spaceInnerUptoCard

/-- THE SECOND FORM's CARD OF 'tidewaiterlaw11.SpaceBack'. -/
def spaceBackUptoCard : Claim7 := { stood := { row := spaceBackUptoRow, standIns := [], harness := (true, "09ffd3ba7048c1a9235404d939d9208f342d42e65dc723b548d51f331d911dcf"), looks := true }, kinds := [], alts := [], laidByText := true, laidKinds := [.data, .data, .data, .data, .sentinel, .sentinel, .pinned], laidTests := true, laidLooks := .later }
def SpaceBackUptoCardSaid : Prop := Claim7.holds Tryz.pinned (.plain (OpenSpec.upto spaceBackSpec)) spaceBackUptoCard

/-- THE SECOND FORM's CARD OF 'tidewaiterlaw11.SpacePrefix'. -/
def spacePrefixUptoCard : Claim7 := { stood := { row := spacePrefixUptoRow, standIns := [], harness := (true, "09ffd3ba7048c1a9235404d939d9208f342d42e65dc723b548d51f331d911dcf"), looks := true }, kinds := [], alts := [], laidByText := true, laidKinds := [.data, .data, .data, .data, .sentinel, .sentinel, .pinned], laidTests := true, laidLooks := .later }
def SpacePrefixUptoCardSaid : Prop := Claim7.holds Tryz.pinned (.plain (OpenSpec.upto spacePrefixSpec)) spacePrefixUptoCard

/-- THE SECOND FORM's CARD OF 'tidewaiterlaw12.MarkReads'. -/
def markReadsUptoCard : Claim7 := { stood := { row := markReadsUptoRow, standIns := [], harness := (true, "09ffd3ba7048c1a9235404d939d9208f342d42e65dc723b548d51f331d911dcf"), looks := true }, kinds := [], alts := [], laidByText := true, laidKinds := [.data, .data, .data, .data, .handle, .sentinel, .sentinel, .pinned], laidTests := true, laidLooks := .later }
def MarkReadsUptoCardSaid : Prop := Claim7.holds Tryz.pinned (.plain (OpenSpec.upto markReadsSpec)) markReadsUptoCard

/-- THE SECOND FORM's CARD OF 'tidewaiterlaw12.MarkNames'. -/
def markNamesUptoCard : Claim7 := { stood := { row := markNamesUptoRow, standIns := [], harness := (true, "09ffd3ba7048c1a9235404d939d9208f342d42e65dc723b548d51f331d911dcf"), looks := true }, kinds := [], alts := [], laidByText := true, laidKinds := [.data, .data, .data, .data, .handle, .sentinel, .sentinel, .pinned], laidTests := true, laidLooks := .later }
def MarkNamesUptoCardSaid : Prop := Claim7.holds Tryz.pinned (.plain (OpenSpec.upto markNamesSpec)) markNamesUptoCard

/-- THE SECOND FORM's CARD OF 'tidewaiterlaw12.MarkCanon'. -/
def markCanonUptoCard : Claim7 := { stood := { row := markCanonUptoRow, standIns := [], harness := (true, "09ffd3ba7048c1a9235404d939d9208f342d42e65dc723b548d51f331d911dcf"), looks := true }, kinds := [], alts := [], laidByText := true, laidKinds := [.data, .data, .data, .data, .handle, .sentinel, .sentinel, .pinned], laidTests := true, laidLooks := .later }
def MarkCanonUptoCardSaid : Prop := Claim7.holds Tryz.pinned (.plain (OpenSpec.upto markCanonSpec)) markCanonUptoCard

/-- THE SECOND FORM's CARD OF 'tidewaiterlaw12.MarkBack'. -/
def markBackUptoCard : Claim7 := { stood := { row := markBackUptoRow, standIns := [], harness := (true, "09ffd3ba7048c1a9235404d939d9208f342d42e65dc723b548d51f331d911dcf"), looks := true }, kinds := [], alts := [], laidByText := true, laidKinds := [.data, .data, .data, .data, .handle, .sentinel, .sentinel, .pinned], laidTests := true, laidLooks := .later }
def MarkBackUptoCardSaid : Prop := Claim7.holds Tryz.pinned (.plain (OpenSpec.upto markBackSpec)) markBackUptoCard

/-- THE SECOND FORM's CARD OF 'tidewaiterlaw12.MarkInner'. -/
def markInnerUptoCard : Claim7 := { stood := { row := markInnerUptoRow, standIns := [], harness := (true, "09ffd3ba7048c1a9235404d939d9208f342d42e65dc723b548d51f331d911dcf"), looks := true }, kinds := [], alts := [], laidByText := true, laidKinds := [.data, .data, .data, .data, .handle, .sentinel, .sentinel, .pinned], laidTests := true, laidLooks := .later }
def MarkInnerUptoCardSaid : Prop := Claim7.holds Tryz.pinned (.plain (OpenSpec.upto markInnerSpec)) markInnerUptoCard
end Rows
end Go.Proofs.YtidmkaalhmeflaaGreatDoor
