/-
  DERIVED. GIVEN WITH THE SEED: THE CARDS: each row of YtanahnknjboplaaDoorRows.lean that lists a variable, with what it lists TIED to the program's text (the seventh form; the later family's looks); each row that meets fmt, with fmt's text TOLD by the authors' own Lean function (tested against real Go, not proved from fmt's source: count such statements apart). THE CARD IS WHAT COUNTS. Prove the row's statement (the work); the ties are given (YtanahnknjboplaaDoorTie.lean); close each card by the builder's one call (the guide's Derived/Test/ToyasCard.lean, 'card_holds'). Laid BY PROGRAM, IN A SANDBOX (cutbox-door.mjs). By AI agents, Wed Nov 11 2026. No macro, syntax, notation, axiom, sorry.
-/
import Derived.Test.YtanahnknjboplaaDoorRows
import GoSem.ClaimSeven
namespace Go.Proofs.YtanahnknjboplaaDoor
namespace Rows

/-- THE TIED CARD OF 'tidewaiterlaw10.TreeParses'. -/
def treeParsesCard : Claim7 := { stood := { row := treeParsesRow, standIns := [], harness := (true, "1d5bdfb6e0e88ca5ee5c062bbff6073571ea9560af188ee662f64a1406cc2f02"), looks := true }, kinds := [], alts := [], laidByText := true, laidKinds := [.data, .pinned], laidTests := true, laidLooks := .later }
def TreeParsesCardSaid : Prop := Claim7.holds Tryd.pinned (.plain (OpenSpec.ofChange treeParsesSpec)) treeParsesCard

/-- THE TIED CARD OF 'tidewaiterlaw08.EscNames'. -/
def escNamesCard : Claim7 := { stood := { row := escNamesRow, standIns := [], harness := (true, "1d5bdfb6e0e88ca5ee5c062bbff6073571ea9560af188ee662f64a1406cc2f02"), looks := true }, kinds := [], alts := [], laidByText := true, laidKinds := [.data, .data, .data, .data, .sentinel, .sentinel, .pinned], laidTests := true, laidLooks := .later }
def EscNamesCardSaid : Prop := Claim7.holds Tryd.pinned (.plain (OpenSpec.ofChange escNamesSpec)) escNamesCard

/-- THE TIED CARD OF 'tidewaiterlaw08.EscBack'. -/
def escBackCard : Claim7 := { stood := { row := escBackRow, standIns := [], harness := (true, "1d5bdfb6e0e88ca5ee5c062bbff6073571ea9560af188ee662f64a1406cc2f02"), looks := true }, kinds := [], alts := [], laidByText := true, laidKinds := [.data, .data, .data, .data, .sentinel, .sentinel, .pinned], laidTests := true, laidLooks := .later }
def EscBackCardSaid : Prop := Claim7.holds Tryd.pinned (.plain (OpenSpec.ofChange escBackSpec)) escBackCard

/-- THE TIED CARD OF 'tidewaiterlaw08.EscParts'. -/
def escPartsCard : Claim7 := { stood := { row := escPartsRow, standIns := [], harness := (true, "1d5bdfb6e0e88ca5ee5c062bbff6073571ea9560af188ee662f64a1406cc2f02"), looks := true }, kinds := [], alts := [], laidByText := true, laidKinds := [.data, .data, .data, .data, .sentinel, .sentinel, .pinned], laidTests := true, laidLooks := .later }
def EscPartsCardSaid : Prop := Claim7.holds Tryd.pinned (.plain (OpenSpec.ofChange escPartsSpec)) escPartsCard

/-- THE TIED CARD OF 'tidewaiterlaw08.EscPoints'. -/
def escPointsCard : Claim7 := { stood := { row := escPointsRow, standIns := [], harness := (true, "1d5bdfb6e0e88ca5ee5c062bbff6073571ea9560af188ee662f64a1406cc2f02"), looks := true }, kinds := [], alts := [], laidByText := true, laidKinds := [.data, .data, .data, .data, .sentinel, .sentinel, .pinned], laidTests := true, laidLooks := .later }
def EscPointsCardSaid : Prop := Claim7.holds Tryd.pinned (.plain (OpenSpec.ofChange escPointsSpec)) escPointsCard

/-- THE SECOND FORM's CARD OF 'tidewaiterlaw10.TreeParses'. -/
def treeParsesUptoCard : Claim7 := { stood := { row := treeParsesUptoRow, standIns := [], harness := (true, "1d5bdfb6e0e88ca5ee5c062bbff6073571ea9560af188ee662f64a1406cc2f02"), looks := true }, kinds := [], alts := [], laidByText := true, laidKinds := [.data, .pinned], laidTests := true, laidLooks := .later }
def TreeParsesUptoCardSaid : Prop := Claim7.holds Tryd.pinned (.plain (OpenSpec.upto treeParsesSpec)) treeParsesUptoCard

/-- THE SECOND FORM's CARD OF 'tidewaiterlaw08.EscNames'. -/
def escNamesUptoCard : Claim7 := { stood := { row := escNamesUptoRow, standIns := [], harness := (true, "1d5bdfb6e0e88ca5ee5c062bbff6073571ea9560af188ee662f64a1406cc2f02"), looks := true }, kinds := [], alts := [], laidByText := true, laidKinds := [.data, .data, .data, .data, .sentinel, .sentinel, .pinned], laidTests := true, laidLooks := .later }
def EscNamesUptoCardSaid : Prop := Claim7.holds Tryd.pinned (.plain (OpenSpec.upto escNamesSpec)) escNamesUptoCard

/-- THE SECOND FORM's CARD OF 'tidewaiterlaw08.EscBack'. -/
def escBackUptoCard : Claim7 := { stood := { row := escBackUptoRow, standIns := [], harness := (true, "1d5bdfb6e0e88ca5ee5c062bbff6073571ea9560af188ee662f64a1406cc2f02"), looks := true }, kinds := [], alts := [], laidByText := true, laidKinds := [.data, .data, .data, .data, .sentinel, .sentinel, .pinned], laidTests := true, laidLooks := .later }
def EscBackUptoCardSaid : Prop := Claim7.holds Tryd.pinned (.plain (OpenSpec.upto escBackSpec)) escBackUptoCard

/-- THE SECOND FORM's CARD OF 'tidewaiterlaw08.EscParts'. -/
def escPartsUptoCard : Claim7 := { stood := { row := escPartsUptoRow, standIns := [], harness := (true, "1d5bdfb6e0e88ca5ee5c062bbff6073571ea9560af188ee662f64a1406cc2f02"), looks := true }, kinds := [], alts := [], laidByText := true, laidKinds := [.data, .data, .data, .data, .sentinel, .sentinel, .pinned], laidTests := true, laidLooks := .later }
def EscPartsUptoCardSaid : Prop := Claim7.holds Tryd.pinned (.plain (OpenSpec.upto escPartsSpec)) escPartsUptoCard

/-- THE SECOND FORM's CARD OF 'tidewaiterlaw08.EscPoints'. -/
def escPointsUptoCard : Claim7 := { stood := { row := escPointsUptoRow, standIns := [], harness := (true, "1d5bdfb6e0e88ca5ee5c062bbff6073571ea9560af188ee662f64a1406cc2f02"), looks := true }, kinds := [], alts := [], laidByText := true, laidKinds := [.data, .data, .data, .data, .sentinel, .sentinel, .pinned], laidTests := true, laidLooks := .later }
def EscPointsUptoCardSaid : Prop := Claim7.holds Tryd.pinned (.plain (OpenSpec.upto escPointsSpec)) escPointsUptoCard
end Rows
end Go.Proofs.YtanahnknjboplaaDoor
