/-
  DERIVED. GIVEN WITH THE SEED: THE CARDS: each row of YtdjndoafnoidbaaDoorRows.lean that lists a variable, with what it lists TIED to the program's text (the seventh form; the later family's looks); each row that meets fmt, with fmt's text TOLD by the authors' own Lean function (tested against real Go, not proved from fmt's source: count such statements apart). THE CARD IS WHAT COUNTS. Prove the row's statement (the work); the ties are given (YtdjndoafnoidbaaDoorTie.lean); close each card by the builder's one call (the guide's Derived/Test/ToyasCard.lean, 'card_holds'). Laid BY PROGRAM, IN A SANDBOX (cutbox-door.mjs). By AI agents, Wed Nov 11 2026. No macro, syntax, notation, axiom, sorry.
-/
import Derived.Test.YtdjndoafnoidbaaDoorRows
import GoSem.ClaimSeven
namespace Go.Proofs.YtdjndoafnoidbaaDoor
namespace Rows

/-- THE TIED CARD OF 'planispherelaw28.DesigOrders'. -/
def desigOrdersCard : Claim7 := { stood := { row := desigOrdersRow, standIns := [], harness := (true, "9f3b1f1434fbf61bfdb1033b63c7a2849505b1db99424aa81c13a29023b64706"), looks := false }, kinds := [], alts := [], laidByText := true, laidKinds := [.widerDeep], laidTests := true, laidLooks := .later }
def DesigOrdersCardSaid : Prop := Claim7.holds Tryd.pinned (.plain (OpenSpec.ofChange desigOrdersSpec)) desigOrdersCard

/-- THE TIED CARD OF 'planispherelaw28.DesigTexts'. -/
def desigTextsCard : Claim7 := { stood := { row := desigTextsRow, standIns := [], harness := (true, "9f3b1f1434fbf61bfdb1033b63c7a2849505b1db99424aa81c13a29023b64706"), looks := false }, kinds := [], alts := [], laidByText := true, laidKinds := [.data, .data, .data, .widerDeep], laidTests := true, laidLooks := .later }
def DesigTextsCardSaid : Prop := Claim7.holds Tryd.pinned (.plain (OpenSpec.ofChange desigTextsSpec)) desigTextsCard

/-- THE TIED CARD OF 'planispherelaw28.DesigBack'. -/
def desigBackCard : Claim7 := { stood := { row := desigBackRow, standIns := [], harness := (true, "9f3b1f1434fbf61bfdb1033b63c7a2849505b1db99424aa81c13a29023b64706"), looks := false }, kinds := [], alts := [], laidByText := true, laidKinds := [.data, .data, .data, .widerDeep], laidTests := true, laidLooks := .later }
def DesigBackCardSaid : Prop := Claim7.holds Tryd.pinned (.plain (OpenSpec.ofChange desigBackSpec)) desigBackCard

/-- THE TIED CARD OF 'planispherelaw28.DesigHalves'. -/
def desigHalvesCard : Claim7 := { stood := { row := desigHalvesRow, standIns := [], harness := (true, "9f3b1f1434fbf61bfdb1033b63c7a2849505b1db99424aa81c13a29023b64706"), looks := false }, kinds := [], alts := [], laidByText := true, laidKinds := [.data, .data, .data, .widerDeep], laidTests := true, laidLooks := .later }
def DesigHalvesCardSaid : Prop := Claim7.holds Tryd.pinned (.plain (OpenSpec.ofChange desigHalvesSpec)) desigHalvesCard

/-- THE TIED CARD OF 'planispherelaw28.DesigNames'. -/
def desigNamesCard : Claim7 := { stood := { row := desigNamesRow, standIns := [], harness := (true, "9f3b1f1434fbf61bfdb1033b63c7a2849505b1db99424aa81c13a29023b64706"), looks := false }, kinds := [], alts := [], laidByText := true, laidKinds := [.data, .data, .data, .widerDeep], laidTests := true, laidLooks := .later }
def DesigNamesCardSaid : Prop := Claim7.holds Tryd.pinned (.plain (OpenSpec.ofChange desigNamesSpec)) desigNamesCard

/-- THE TIED CARD OF 'planispherelaw28.DesigSorted'. -/
def desigSortedCard : Claim7 := { stood := { row := desigSortedRow, standIns := [], harness := (true, "9f3b1f1434fbf61bfdb1033b63c7a2849505b1db99424aa81c13a29023b64706"), looks := false }, kinds := [], alts := [], laidByText := true, laidKinds := [.data, .data, .data, .widerDeep], laidTests := true, laidLooks := .later }
def DesigSortedCardSaid : Prop := Claim7.holds Tryd.pinned (.plain (OpenSpec.ofChange desigSortedSpec)) desigSortedCard

/-- THE TIED CARD OF 'planispherelaw28.DesigNext'. -/
def desigNextCard : Claim7 := { stood := { row := desigNextRow, standIns := [], harness := (true, "9f3b1f1434fbf61bfdb1033b63c7a2849505b1db99424aa81c13a29023b64706"), looks := false }, kinds := [], alts := [], laidByText := true, laidKinds := [.data, .data, .data, .widerDeep], laidTests := true, laidLooks := .later }
def DesigNextCardSaid : Prop := Claim7.holds Tryd.pinned (.plain (OpenSpec.ofChange desigNextSpec)) desigNextCard

/-- THE SECOND FORM's CARD OF 'planispherelaw28.DesigOrders'. -/
def desigOrdersUptoCard : Claim7 := { stood := { row := desigOrdersUptoRow, standIns := [], harness := (true, "9f3b1f1434fbf61bfdb1033b63c7a2849505b1db99424aa81c13a29023b64706"), looks := false }, kinds := [], alts := [], laidByText := true, laidKinds := [.widerDeep], laidTests := true, laidLooks := .later }
def DesigOrdersUptoCardSaid : Prop := Claim7.holds Tryd.pinned (.plain (OpenSpec.upto desigOrdersSpec)) desigOrdersUptoCard

/-- THE SECOND FORM's CARD OF 'planispherelaw28.DesigTexts'. -/
def desigTextsUptoCard : Claim7 := { stood := { row := desigTextsUptoRow, standIns := [], harness := (true, "9f3b1f1434fbf61bfdb1033b63c7a2849505b1db99424aa81c13a29023b64706"), looks := false }, kinds := [], alts := [], laidByText := true, laidKinds := [.data, .data, .data, .widerDeep], laidTests := true, laidLooks := .later }
def DesigTextsUptoCardSaid : Prop := Claim7.holds Tryd.pinned (.plain (OpenSpec.upto desigTextsSpec)) desigTextsUptoCard

/-- THE SECOND FORM's CARD OF 'planispherelaw28.DesigBack'. -/
def desigBackUptoCard : Claim7 := { stood := { row := desigBackUptoRow, standIns := [], harness := (true, "9f3b1f1434fbf61bfdb1033b63c7a2849505b1db99424aa81c13a29023b64706"), looks := false }, kinds := [], alts := [], laidByText := true, laidKinds := [.data, .data, .data, .widerDeep], laidTests := true, laidLooks := .later }
def DesigBackUptoCardSaid : Prop := Claim7.holds Tryd.pinned (.plain (OpenSpec.upto desigBackSpec)) desigBackUptoCard

/-- THE SECOND FORM's CARD OF 'planispherelaw28.DesigHalves'. -/
def desigHalvesUptoCard : Claim7 := { stood := { row := desigHalvesUptoRow, standIns := [], harness := (true, "9f3b1f1434fbf61bfdb1033b63c7a2849505b1db99424aa81c13a29023b64706"), looks := false }, kinds := [], alts := [], laidByText := true, laidKinds := [.data, .data, .data, .widerDeep], laidTests := true, laidLooks := .later }
def DesigHalvesUptoCardSaid : Prop := Claim7.holds Tryd.pinned (.plain (OpenSpec.upto desigHalvesSpec)) desigHalvesUptoCard

/-- THE SECOND FORM's CARD OF 'planispherelaw28.DesigNames'. -/
def desigNamesUptoCard : Claim7 := { stood := { row := desigNamesUptoRow, standIns := [], harness := (true, "9f3b1f1434fbf61bfdb1033b63c7a2849505b1db99424aa81c13a29023b64706"), looks := false }, kinds := [], alts := [], laidByText := true, laidKinds := [.data, .data, .data, .widerDeep], laidTests := true, laidLooks := .later }
def DesigNamesUptoCardSaid : Prop := Claim7.holds Tryd.pinned (.plain (OpenSpec.upto desigNamesSpec)) desigNamesUptoCard

/-- THE SECOND FORM's CARD OF 'planispherelaw28.DesigSorted'. -/
def desigSortedUptoCard : Claim7 := { stood := { row := desigSortedUptoRow, standIns := [], harness := (true, "9f3b1f1434fbf61bfdb1033b63c7a2849505b1db99424aa81c13a29023b64706"), looks := false }, kinds := [], alts := [], laidByText := true, laidKinds := [.data, .data, .data, .widerDeep], laidTests := true, laidLooks := .later }
def DesigSortedUptoCardSaid : Prop := Claim7.holds Tryd.pinned (.plain (OpenSpec.upto desigSortedSpec)) desigSortedUptoCard

/-- THE SECOND FORM's CARD OF 'planispherelaw28.DesigNext'. -/
def desigNextUptoCard : Claim7 := { stood := { row := desigNextUptoRow, standIns := [], harness := (true, "9f3b1f1434fbf61bfdb1033b63c7a2849505b1db99424aa81c13a29023b64706"), looks := false }, kinds := [], alts := [], laidByText := true, laidKinds := [.data, .data, .data, .widerDeep], laidTests := true, laidLooks := .later }
def DesigNextUptoCardSaid : Prop := Claim7.holds Tryd.pinned (.plain (OpenSpec.upto desigNextSpec)) desigNextUptoCard
end Rows
end Go.Proofs.YtdjndoafnoidbaaDoor
