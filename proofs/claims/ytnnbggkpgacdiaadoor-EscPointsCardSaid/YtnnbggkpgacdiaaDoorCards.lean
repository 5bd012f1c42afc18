/-
  DERIVED. GIVEN WITH THE SEED: THE CARDS: each row of YtnnbggkpgacdiaaDoorRows.lean that lists a variable, with what it lists TIED to the program's text (the seventh form; the later family's looks); each row that meets fmt, with fmt's text TOLD by the authors' own Lean function (tested against real Go, not proved from fmt's source: count such statements apart). THE CARD IS WHAT COUNTS. Prove the row's statement (the work); the ties are given (YtnnbggkpgacdiaaDoorTie.lean); close each card by the builder's one call (the guide's Derived/Test/ToyasCard.lean, 'card_holds'). Laid BY PROGRAM, IN A SANDBOX (cutbox-door.mjs). By AI agents, Wed Nov 11 2026. No macro, syntax, notation, axiom, sorry.
-/
import Derived.Test.YtnnbggkpgacdiaaDoorRows
import GoSem.ClaimSeven
namespace Go.Proofs.YtnnbggkpgacdiaaDoor
namespace Rows

/-- THE TIED CARD OF 'tidewaiterlaw08.EscPoints'. -/
def escPointsCard : Claim7 := { stood := { row := escPointsRow, standIns := [], harness := (true, "5643a983c3f75b23e4fef2bb1e1abcb5b06f75137ed1a879ec0da15b09906eeb"), looks := true }, kinds := [], alts := [], laidByText := true, laidKinds := [.data, .data, .data, .data, .sentinel, .sentinel, .pinned], laidTests := true, laidLooks := .later }
def EscPointsCardSaid : Prop := Claim7.holds Tryd.pinned (.plain (OpenSpec.ofChange escPointsSpec)) escPointsCard

/-- THE SECOND FORM's CARD OF 'tidewaiterlaw08.EscPoints'. -/
def escPointsUptoCard : Claim7 := { stood := { row := escPointsUptoRow, standIns := [], harness := (true, "5643a983c3f75b23e4fef2bb1e1abcb5b06f75137ed1a879ec0da15b09906eeb"), looks := true }, kinds := [], alts := [], laidByText := true, laidKinds := [.data, .data, .data, .data, .sentinel, .sentinel, .pinned], laidTests := true, laidLooks := .later }
def EscPointsUptoCardSaid : Prop := Claim7.holds Tryd.pinned (.plain (OpenSpec.upto escPointsSpec)) escPointsUptoCard
end Rows
end Go.Proofs.YtnnbggkpgacdiaaDoor
