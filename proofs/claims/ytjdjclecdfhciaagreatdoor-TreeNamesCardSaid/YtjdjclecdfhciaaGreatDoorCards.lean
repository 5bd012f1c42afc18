/-
  DERIVED. GIVEN WITH THE SEED: THE CARDS: each row of YtjdjclecdfhciaaGreatDoorRows.lean that lists a variable, with what it lists TIED to the program's text (the seventh form; the later family's looks); each row that meets fmt, with fmt's text TOLD by the authors' own Lean function (tested against real Go, not proved from fmt's source: count such statements apart). THE CARD IS WHAT COUNTS. Prove the row's statement (the work); the ties are given (YtjdjclecdfhciaaGreatDoorTie.lean); close each card by the builder's one call (the guide's Derived/Test/ToyasCard.lean, 'card_holds'). Laid BY PROGRAM, IN A SANDBOX (cutbox-door.mjs). By AI agents, Wed Nov 11 2026. No macro, syntax, notation, axiom, sorry.
-/
import Derived.Test.YtjdjclecdfhciaaGreatDoorRows
import GoSem.ClaimSeven
namespace Go.Proofs.YtjdjclecdfhciaaGreatDoor
namespace Rows

/-- THE TIED CARD OF 'tidewaiterlaw11.SpaceTells'. -/
def spaceTellsCard : Claim7 := { stood := { row := spaceTellsRow, standIns := [], harness := (true, "ce196d89a26ac0cf46838314d63c112cf1386125c1c452f2ffcf1d63922db94d"), looks := true }, kinds := [], alts := [], laidByText := true, laidKinds := [.data, .data, .data], laidTests := true, laidLooks := .later }
def SpaceTellsCardSaid : Prop := Claim7.holds Tryz.pinned (.plain (OpenSpec.ofChange spaceTellsSpec)) spaceTellsCard

/-- THE TIED CARD OF 'tidewaiterlaw10.TreeShort'. -/
def treeShortCard : Claim7 := { stood := { row := treeShortRow, standIns := [], harness := (true, "ce196d89a26ac0cf46838314d63c112cf1386125c1c452f2ffcf1d63922db94d"), looks := true }, kinds := [], alts := [], laidByText := true, laidKinds := [.data, .data, .data, .data, .sentinel, .sentinel, .pinned], laidTests := true, laidLooks := .later }
def TreeShortCardSaid : Prop := Claim7.holds Tryz.pinned (.plain (OpenSpec.ofChange treeShortSpec)) treeShortCard

/-- THE TIED CARD OF 'tidewaiterlaw10.TreeBack'. -/
def treeBackCard : Claim7 := { stood := { row := treeBackRow, standIns := [], harness := (true, "ce196d89a26ac0cf46838314d63c112cf1386125c1c452f2ffcf1d63922db94d"), looks := true }, kinds := [], alts := [], laidByText := true, laidKinds := [.data, .data, .data, .data, .sentinel, .sentinel, .pinned], laidTests := true, laidLooks := .later }
def TreeBackCardSaid : Prop := Claim7.holds Tryz.pinned (.plain (OpenSpec.ofChange treeBackSpec)) treeBackCard

/-- THE TIED CARD OF 'tidewaiterlaw10.TreeNames'. -/
def treeNamesCard : Claim7 := { stood := { row := treeNamesRow, standIns := [], harness := (true, "ce196d89a26ac0cf46838314d63c112cf1386125c1c452f2ffcf1d63922db94d"), looks := true }, kinds := [], alts := [], laidByText := true, laidKinds := [.data, .data, .data, .data, .sentinel, .sentinel, .pinned], laidTests := true, laidLooks := .later }
def TreeNamesCardSaid : Prop := Claim7.holds Tryz.pinned (.plain (OpenSpec.ofChange treeNamesSpec)) treeNamesCard

/-- THE TIED CARD OF 'tidewaiterlaw10.TreeWhole'. -/
def treeWholeCard : Claim7 := { stood := { row := treeWholeRow, standIns := [], harness := (true, "ce196d89a26ac0cf46838314d63c112cf1386125c1c452f2ffcf1d63922db94d"), looks := true }, kinds := [], alts := [], laidByText := true, laidKinds := [.data, .data, .data, .data, .sentinel, .sentinel, .pinned], laidTests := true, laidLooks := .later }
def TreeWholeCardSaid : Prop := Claim7.holds Tryz.pinned (.plain (OpenSpec.ofChange treeWholeSpec)) treeWholeCard

/-- THE TIED CARD OF 'tidewaiterlaw11.SpaceNames'. -/
def spaceNamesCard : Claim7 := { stood := { row := spaceNamesRow, standIns := [], harness := (true, "ce196d89a26ac0cf46838314d63c112cf1386125c1c452f2ffcf1d63922db94d"), looks := true }, kinds := [], alts := [], laidByText := true, laidKinds := [.data, .data, .data, .data, .sentinel, .sentinel, .pinned], laidTests := true, laidLooks := .later }
def SpaceNamesCardSaid : Prop := Claim7.holds Tryz.pinned (.plain (OpenSpec.ofChange spaceNamesSpec)) spaceNamesCard

/-- THE TIED CARD OF 'tidewaiterlaw11.SpaceInner'. -/
def spaceInnerCard : Claim7 := { stood := { row := spaceInnerRow, standIns := [], harness := (true, "ce196d89a26ac0cf46838314d63c112cf1386125c1c452f2ffcf1d63922db94d"), looks := true }, kinds := [], alts := [], laidByText := true, laidKinds := [.data, .data, .data, .data, .sentinel, .sentinel, .pinned], laidTests := true, laidLooks := .later }
def SpaceInnerCardSaid : Prop := Claim7.holds Tryz.pinned (.plain (OpenSpec.ofChange spaceInnerSpec)) spaceInnerCard

/-- THE TIED CARD OF 'tidewaiterlaw11.SpaceBack'. -/
def spaceBackCard : Claim7 := { stood := { row := spaceBackRow, standIns := [], harness := (true, "ce196d89a26ac0cf46838314d63c112cf1386125c1c452f2ffcf1d63922db94d"), looks := true }, kinds := [], alts := [], laidByText := true, laidKinds := [.data, .data, .data, .data, .sentinel, .sentinel, .pinned], laidTests := true, laidLooks := .later }
def SpaceBackCardSaid : Prop := Claim7.holds Tryz.pinned (.plain (OpenSpec.ofChange spaceBackSpec)) spaceBackCard

/-- THE TIED CARD OF 'tidewaiterlaw11.SpacePrefix'. -/
def spacePrefixCard : Claim7 := { stood := { row := spacePrefixRow, standIns := [], harness := (true, "ce196d89a26ac0cf46838314d63c112cf1386125c1c452f2ffcf1d63922db94d"), looks := true }, kinds := [], alts := [], laidByText := true, laidKinds := [.data, .data, .data, .data, .sentinel, .sentinel, .pinned], laidTests := true, laidLooks := .later }
def SpacePrefixCardSaid : Prop := Claim7.holds Tryz.pinned (.plain (OpenSpec.ofChange spacePrefixSpec)) spacePrefixCard

/-- THE SECOND FORM's CARD OF 'tidewaiterlaw11.SpaceTells'. -/
def spaceTellsUptoCard : Claim7 := { stood := { row := spaceTellsUptoRow, standIns := [], harness := (true, "ce196d89a26ac0cf46838314d63c112cf1386125c1c452f2ffcf1d63922db94d"), looks := true }, kinds := [], alts := [], laidByText := true, laidKinds := [.data, .data, .data], laidTests := true, laidLooks := .later }
def SpaceTellsUptoCardSaid : Prop := Claim7.holds Tryz.pinned (.plain (OpenSpec.upto spaceTellsSpec)) spaceTellsUptoCard

/-- THE SECOND FORM's CARD OF 'tidewaiterlaw10.TreeShort'. -/
def treeShortUptoCard : Claim7 := { stood := { row := treeShortUptoRow, standIns := [], harness := (true, "ce196d89a26ac0cf46838314d63c112cf1386125c1c452f2ffcf1d63922db94d"), looks := true }, kinds := [], alts := [], laidByText := true, laidKinds := [.data, .data, .data, .data, .sentinel, .sentinel, .pinned], laidTests := true, laidLooks := .later }
def TreeShortUptoCardSaid : Prop := Claim7.holds Tryz.pinned (.plain (OpenSpec.upto treeShortSpec)) treeShortUptoCard

/-- THE SECOND FORM's CARD OF 'tidewaiterlaw10.TreeBack'. -/
def treeBackUptoCard : Claim7 := { stood := { row := treeBackUptoRow, standIns := [], harness := (true, "ce196d89a26ac0cf46838314d63c112cf1386125c1c452f2ffcf1d63922db94d"), looks := true }, kinds := [], alts := [], laidByText := true, laidKinds := [.data, .data, .data, .data, .sentinel, .sentinel, .pinned], laidTests := true, laidLooks := .later }
def TreeBackUptoCardSaid : Prop := Claim7.holds Tryz.pinned (.plain (OpenSpec.upto treeBackSpec)) treeBackUptoCard

/-- THE SECOND FORM's CARD OF 'tidewaiterlaw10.TreeNames'. -/
def treeNamesUptoCard : Claim7 := { stood := { row := treeNamesUptoRow, standIns := [], harness := (true, "ce196d89a26ac0cf46838314d63c112cf1386125c1c452f2ffcf1d63922db94d"), looks := true }, kinds := [], alts := [], laidByText := true, laidKinds := [.data, .data, .data, .data, .sentinel, .sentinel, .pinned], laidTests := true, laidLooks := .later }
def TreeNamesUptoCardSaid : Prop := Claim7.holds Tryz.pinned (.plain (OpenSpec.upto treeNamesSpec)) treeNamesUptoCard

/-- THE SECOND FORM's CARD OF 'tidewaiterlaw10.TreeWhole'. -/
def treeWholeUptoCard : Claim7 := { stood := { row := treeWholeUptoRow, standIns := [], harness := (true, "ce196d89a26ac0cf46838314d63c112cf1386125c1c452f2ffcf1d63922db94d"), looks := true }, kinds := [], alts := [], laidByText := true, laidKinds := [.data, .data, .data, .data, .sentinel, .sentinel, .pinned], laidTests := true, laidLooks := .later }
def TreeWholeUptoCardSaid : Prop := Claim7.holds Tryz.pinned (.plain (OpenSpec.upto treeWholeSpec)) treeWholeUptoCard

/-- THE SECOND FORM's CARD OF 'tidewaiterlaw11.SpaceNames'. -/
def spaceNamesUptoCard : Claim7 := { stood := { row := spaceNamesUptoRow, standIns := [], harness := (true, "ce196d89a26ac0cf46838314d63c112cf1386125c1c452f2ffcf1d63922db94d"), looks := true }, kinds := [], alts := [], laidByText := true, laidKinds := [.data, .data, .data, .data, .sentinel, .sentinel, .pinned], laidTests := true, laidLooks := .later }
def SpaceNamesUptoCardSaid : Prop := Claim7.holds Tryz.pinned (.plain (OpenSpec.upto spaceNamesSpec)) spaceNamesUptoCard

/-- THE SECOND FORM's CARD OF 'tidewaiterlaw11.SpaceInner'. -/
def spaceInnerUptoCard : Claim7 := { stood := { row := spaceInnerUptoRow, standIns := [], harness := (true, "ce196d89a26ac0cf46838314d63c112cf1386125c1c452f2ffcf1d63922db94d"), looks := true }, kinds := [], alts := [], laidByText := true, laidKinds := [.data, .data, .data, .data, .sentinel, .sentinel, .pinned], laidTests := true, laidLooks := .later }
def SpaceInnerUptoCardSaid : Prop := Claim7.holds Tryz.pinned (.plain (OpenSpec.upto spaceInnerSpec)) spaceInnerUptoCard

/-- THE SECOND FORM's CARD OF 'tidewaiterlaw11.SpaceBack'. -/
def spaceBackUptoCard : Claim7 := { stood := { row := spaceBackUptoRow, standIns := [], harness := (true, "ce196d89a26ac0cf46838314d63c112cf1386125c1c452f2ffcf1d63922db94d"), looks := true }, kinds := [], alts := [], laidByText := true, laidKinds := [.data, .data, .data, .data, .sentinel, .sentinel, .pinned], laidTests := true, laidLooks := .later }
def SpaceBackUptoCardSaid : Prop := Claim7.holds Tryz.pinned (.plain (OpenSpec.upto spaceBackSpec)) spaceBackUptoCard

/-- THE SECOND FORM's CARD OF 'tidewaiterlaw11.SpacePrefix'. -/
def spacePrefixUptoCard : Claim7 := { stood := { row := spacePrefixUptoRow, standIns := [], harness := (true, "ce196d89a26ac0cf46838314d63c112cf1386125c1c452f2ffcf1d63922db94d"), looks := true }, kinds := [], alts := [], laidByText := true, laidKinds := [.data, .data, .data, .data, .sentinel, .sentinel, .pinned], laidTests := true, laidLooks := .later }
def SpacePrefixUptoCardSaid : Prop := Claim7.holds Tryz.pinned (.plain (OpenSpec.upto spacePrefixSpec)) spacePrefixUptoCard
end Rows
end Go.Proofs.YtjdjclecdfhciaaGreatDoor
