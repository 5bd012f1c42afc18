/-
  DERIVED. GIVEN WITH THE SEED: THE CARDS: each row of YtlnlopnpcmahgaaGreatDoorRows.lean that lists a variable, with what it lists TIED to the program's text (the seventh form; the later family's looks); each row that meets fmt, with fmt's text TOLD by the authors' own Lean function (tested against real Go, not proved from fmt's source: count such statements apart). THE CARD IS WHAT COUNTS. Prove the row's statement (the work); the ties are given (YtlnlopnpcmahgaaGreatDoorTie.lean); close each card by the builder's one call (the guide's Derived/Test/ToyasCard.lean, 'card_holds'). Laid BY PROGRAM, IN A SANDBOX (cutbox-door.mjs). By AI agents, Wed Nov 11 2026. No macro, syntax, notation, axiom, sorry.
-/
import Derived.Test.YtlnlopnpcmahgaaGreatDoorRows
import GoSem.ClaimSeven
namespace Go.Proofs.YtlnlopnpcmahgaaGreatDoor
namespace Rows

/-- THE TIED CARD OF 'tidewaiterlaw12.MarkWrites'. -/
def markWritesCard : Claim7 := { stood := { row := markWritesRow, standIns := [], harness := (true, "dd5bccba092380383536f9e627006f6790e6673e9bd956886d1d117875cd5b41"), looks := true }, kinds := [], alts := [], laidByText := true, laidKinds := [.data, .data, .data, .handle], laidTests := true, laidLooks := .later }
def MarkWritesCardSaid : Prop := Claim7.holds Tryz.pinned (.plain (OpenSpec.ofChange markWritesSpec)) markWritesCard

/-- THE TIED CARD OF 'tidewaiterlaw12.MarkReads'. -/
def markReadsCard : Claim7 := { stood := { row := markReadsRow, standIns := [], harness := (true, "dd5bccba092380383536f9e627006f6790e6673e9bd956886d1d117875cd5b41"), looks := true }, kinds := [], alts := [], laidByText := true, laidKinds := [.data, .data, .data, .data, .handle, .sentinel, .sentinel, .pinned], laidTests := true, laidLooks := .later }
def MarkReadsCardSaid : Prop := Claim7.holds Tryz.pinned (.plain (OpenSpec.ofChange markReadsSpec)) markReadsCard

/-- THE TIED CARD OF 'tidewaiterlaw12.MarkNames'. -/
def markNamesCard : Claim7 := { stood := { row := markNamesRow, standIns := [], harness := (true, "dd5bccba092380383536f9e627006f6790e6673e9bd956886d1d117875cd5b41"), looks := true }, kinds := [], alts := [], laidByText := true, laidKinds := [.data, .data, .data, .data, .handle, .sentinel, .sentinel, .pinned], laidTests := true, laidLooks := .later }
def MarkNamesCardSaid : Prop := Claim7.holds Tryz.pinned (.plain (OpenSpec.ofChange markNamesSpec)) markNamesCard

/-- THE TIED CARD OF 'tidewaiterlaw12.MarkCanon'. -/
def markCanonCard : Claim7 := { stood := { row := markCanonRow, standIns := [], harness := (true, "dd5bccba092380383536f9e627006f6790e6673e9bd956886d1d117875cd5b41"), looks := true }, kinds := [], alts := [], laidByText := true, laidKinds := [.data, .data, .data, .data, .handle, .sentinel, .sentinel, .pinned], laidTests := true, laidLooks := .later }
def MarkCanonCardSaid : Prop := Claim7.holds Tryz.pinned (.plain (OpenSpec.ofChange markCanonSpec)) markCanonCard

/-- THE TIED CARD OF 'tidewaiterlaw12.MarkBack'. -/
def markBackCard : Claim7 := { stood := { row := markBackRow, standIns := [], harness := (true, "dd5bccba092380383536f9e627006f6790e6673e9bd956886d1d117875cd5b41"), looks := true }, kinds := [], alts := [], laidByText := true, laidKinds := [.data, .data, .data, .data, .handle, .sentinel, .sentinel, .pinned], laidTests := true, laidLooks := .later }
def MarkBackCardSaid : Prop := Claim7.holds Tryz.pinned (.plain (OpenSpec.ofChange markBackSpec)) markBackCard

/-- THE TIED CARD OF 'tidewaiterlaw12.MarkInner'. -/
def markInnerCard : Claim7 := { stood := { row := markInnerRow, standIns := [], harness := (true, "dd5bccba092380383536f9e627006f6790e6673e9bd956886d1d117875cd5b41"), looks := true }, kinds := [], alts := [], laidByText := true, laidKinds := [.data, .data, .data, .data, .handle, .sentinel, .sentinel, .pinned], laidTests := true, laidLooks := .later }
def MarkInnerCardSaid : Prop := Claim7.holds Tryz.pinned (.plain (OpenSpec.ofChange markInnerSpec)) markInnerCard

/-- THE SECOND FORM's CARD OF 'tidewaiterlaw12.MarkWrites'. -/
def markWritesUptoCard : Claim7 := { stood := { row := markWritesUptoRow, standIns := [], harness := (true, "dd5bccba092380383536f9e627006f6790e6673e9bd956886d1d117875cd5b41"), looks := true }, kinds := [], alts := [], laidByText := true, laidKinds := [.data, .data, .data, .handle], laidTests := true, laidLooks := .later }
def MarkWritesUptoCardSaid : Prop := Claim7.holds Tryz.pinned (.plain (OpenSpec.upto markWritesSpec)) markWritesUptoCard

/-- THE SECOND FORM's CARD OF 'tidewaiterlaw12.MarkReads'. -/
def markReadsUptoCard : Claim7 := { stood := { row := markReadsUptoRow, standIns := [], harness := (true, "dd5bccba092380383536f9e627006f6790e6673e9bd956886d1d117875cd5b41"), looks := true }, kinds := [], alts := [], laidByText := true, laidKinds := [.data, .data, .data, .data, .handle, .sentinel, .sentinel, .pinned], laidTests := true, laidLooks := .later }
def MarkReadsUptoCardSaid : Prop := Claim7.holds Tryz.pinned (.plain (OpenSpec.upto markReadsSpec)) markReadsUptoCard

/-- THE SECOND FORM's CARD OF 'tidewaiterlaw12.MarkNames'. -/
def markNamesUptoCard : Claim7 := { stood := { row := markNamesUptoRow, standIns := [], harness := (true, "dd5bccba092380383536f9e627006f6790e6673e9bd956886d1d117875cd5b41"), looks := true }, kinds := [], alts := [], laidByText := true, laidKinds := [.data, .data, .data, .data, .handle, .sentinel, .sentinel, .pinned], laidTests := true, laidLooks := .later }
def MarkNamesUptoCardSaid : Prop := Claim7.holds Tryz.pinned (.plain (OpenSpec.upto markNamesSpec)) markNamesUptoCard

/-- THE SECOND FORM's CARD OF 'tidewaiterlaw12.MarkCanon'. -/
def markCanonUptoCard : Claim7 := { stood := { row := markCanonUptoRow, standIns := [], harness := (true, "dd5bccba092380383536f9e627006f6790e6673e9bd956886d1d117875cd5b41"), looks := true }, kinds := [], alts := [], laidByText := true, laidKinds := [.data, .data, .data, .data, .handle, .sentinel, .sentinel, .pinned], laidTests := true, laidLooks := .later }
def MarkCanonUptoCardSaid : Prop := Claim7.holds Tryz.pinned (.plain (OpenSpec.upto markCanonSpec)) markCanonUptoCard

/-- THE SECOND FORM's CARD OF 'tidewaiterlaw12.MarkBack'. -/
def markBackUptoCard : Claim7 := { stood := { row := markBackUptoRow, standIns := [], harness := (true, "dd5bccba092380383536f9e627006f6790e6673e9bd956886d1d117875cd5b41"), looks := true }, kinds := [], alts := [], laidByText := true, laidKinds := [.data, .data, .data, .data, .handle, .sentinel, .sentinel, .pinned], laidTests := true, laidLooks := .later }
def MarkBackUptoCardSaid : Prop := Claim7.holds Tryz.pinned (.plain (OpenSpec.upto markBackSpec)) markBackUptoCard

/-- THE SECOND FORM's CARD OF 'tidewaiterlaw12.MarkInner'. -/
def markInnerUptoCard : Claim7 := { stood := { row := markInnerUptoRow, standIns := [], harness := (true, "dd5bccba092380383536f9e627006f6790e6673e9bd956886d1d117875cd5b41"), looks := true }, kinds := [], alts := [], laidByText := true, laidKinds := [.data, .data, .data, .data, .handle, .sentinel, .sentinel, .pinned], laidTests := true, laidLooks := .later }
def MarkInnerUptoCardSaid : Prop := Claim7.holds Tryz.pinned (.plain (OpenSpec.upto markInnerSpec)) markInnerUptoCard
end Rows
end Go.Proofs.YtlnlopnpcmahgaaGreatDoor
