/-
  DERIVED. GIVEN WITH THE SEED: THE CARDS: each row of YtaghilgfldaaiaaGreatDoorRows.lean that lists a variable, with what it lists TIED to the program's text (the seventh form; the later family's looks); each row that meets fmt, with fmt's text TOLD by the authors' own Lean function (tested against real Go, not proved from fmt's source: count such statements apart). THE CARD IS WHAT COUNTS. Prove the row's statement (the work); the ties are given (YtaghilgfldaaiaaGreatDoorTie.lean); close each card by the builder's one call (the guide's Derived/Test/ToyasCard.lean, 'card_holds'). Laid BY PROGRAM, IN A SANDBOX (cutbox-door.mjs). By AI agents, Wed Nov 11 2026. No macro, syntax, notation, axiom, sorry.
-/
import Derived.Test.YtaghilgfldaaiaaGreatDoorRows
import GoSem.ClaimSeven
namespace Go.Proofs.YtaghilgfldaaiaaGreatDoor
namespace Rows

/-- THE TIED CARD OF 'planispherelaw27.PsvMerges'. -/
def psvMergesCard : Claim7 := { stood := { row := psvMergesRow, standIns := [], harness := (true, "b3082fbb6bafad4f5b2d2bc82e2f0138efa30e7c758d06f310e668e260fe923e"), looks := true }, kinds := [], alts := [], laidByText := true, laidKinds := [.data, .data, .data, .data, .sentinel, .sentinel, .pinned], laidTests := true, laidLooks := .later }
def PsvMergesCardSaid : Prop := Claim7.holds Tryz.pinned (.plain (OpenSpec.ofChange psvMergesSpec)) psvMergesCard

/-- THE TIED CARD OF 'planispherelaw27.PsvRound'. -/
def psvRoundCard : Claim7 := { stood := { row := psvRoundRow, standIns := [], harness := (true, "b3082fbb6bafad4f5b2d2bc82e2f0138efa30e7c758d06f310e668e260fe923e"), looks := true }, kinds := [], alts := [], laidByText := true, laidKinds := [.data, .data, .data, .data, .sentinel, .sentinel, .pinned], laidTests := true, laidLooks := .later }
def PsvRoundCardSaid : Prop := Claim7.holds Tryz.pinned (.plain (OpenSpec.ofChange psvRoundSpec)) psvRoundCard

/-- THE TIED CARD OF 'planispherelaw27.PsvOrder'. -/
def psvOrderCard : Claim7 := { stood := { row := psvOrderRow, standIns := [], harness := (true, "b3082fbb6bafad4f5b2d2bc82e2f0138efa30e7c758d06f310e668e260fe923e"), looks := true }, kinds := [], alts := [], laidByText := true, laidKinds := [.data, .data, .data, .data, .sentinel, .sentinel, .pinned], laidTests := true, laidLooks := .later }
def PsvOrderCardSaid : Prop := Claim7.holds Tryz.pinned (.plain (OpenSpec.ofChange psvOrderSpec)) psvOrderCard

/-- THE TIED CARD OF 'planispherelaw27.PsvBack'. -/
def psvBackCard : Claim7 := { stood := { row := psvBackRow, standIns := [], harness := (true, "b3082fbb6bafad4f5b2d2bc82e2f0138efa30e7c758d06f310e668e260fe923e"), looks := true }, kinds := [], alts := [], laidByText := true, laidKinds := [.data, .data, .data, .data, .sentinel, .sentinel, .pinned], laidTests := true, laidLooks := .later }
def PsvBackCardSaid : Prop := Claim7.holds Tryz.pinned (.plain (OpenSpec.ofChange psvBackSpec)) psvBackCard

/-- THE TIED CARD OF 'planispherelaw27.PsvKept'. -/
def psvKeptCard : Claim7 := { stood := { row := psvKeptRow, standIns := [], harness := (true, "b3082fbb6bafad4f5b2d2bc82e2f0138efa30e7c758d06f310e668e260fe923e"), looks := true }, kinds := [], alts := [], laidByText := true, laidKinds := [.data, .data, .data, .data, .sentinel, .sentinel, .pinned], laidTests := true, laidLooks := .later }
def PsvKeptCardSaid : Prop := Claim7.holds Tryz.pinned (.plain (OpenSpec.ofChange psvKeptSpec)) psvKeptCard

/-- THE TIED CARD OF 'planispherelaw27.PsvNames'. -/
def psvNamesCard : Claim7 := { stood := { row := psvNamesRow, standIns := [], harness := (true, "b3082fbb6bafad4f5b2d2bc82e2f0138efa30e7c758d06f310e668e260fe923e"), looks := true }, kinds := [], alts := [], laidByText := true, laidKinds := [.data, .data, .data, .data, .sentinel, .sentinel, .pinned], laidTests := true, laidLooks := .later }
def PsvNamesCardSaid : Prop := Claim7.holds Tryz.pinned (.plain (OpenSpec.ofChange psvNamesSpec)) psvNamesCard

/-- THE SECOND FORM's CARD OF 'planispherelaw27.PsvMerges'. -/
def psvMergesUptoCard : Claim7 := { stood := { row := psvMergesUptoRow, standIns := [], harness := (true, "b3082fbb6bafad4f5b2d2bc82e2f0138efa30e7c758d06f310e668e260fe923e"), looks := true }, kinds := [], alts := [], laidByText := true, laidKinds := [.data, .data, .data, .data, .sentinel, .sentinel, .pinned], laidTests := true, laidLooks := .later }
def PsvMergesUptoCardSaid : Prop := Claim7.holds Tryz.pinned (.plain (OpenSpec.upto psvMergesSpec)) psvMergesUptoCard

/-- THE SECOND FORM's CARD OF 'planispherelaw27.PsvRound'. -/
def psvRoundUptoCard : Claim7 := { stood := { row := psvRoundUptoRow, standIns := [], harness := (true, "b3082fbb6bafad4f5b2d2bc82e2f0138efa30e7c758d06f310e668e260fe923e"), looks := true }, kinds := [], alts := [], laidByText := true, laidKinds := [.data, .data, .data, .data, .sentinel, .sentinel, .pinned], laidTests := true, laidLooks := .later }
def PsvRoundUptoCardSaid : Prop := Claim7.holds Tryz.pinned (.plain (OpenSpec.upto psvRoundSpec)) psvRoundUptoCard

/-- THE SECOND FORM's CARD OF 'planispherelaw27.PsvOrder'. -/
def psvOrderUptoCard : Claim7 := { stood := { row := psvOrderUptoRow, standIns := [], harness := (true, "b3082fbb6bafad4f5b2d2bc82e2f0138efa30e7c758d06f310e668e260fe923e"), looks := true }, kinds := [], alts := [], laidByText := true, laidKinds := [.data, .data, .data, .data, .sentinel, .sentinel, .pinned], laidTests := true, laidLooks := .later }
def PsvOrderUptoCardSaid : Prop := Claim7.holds Tryz.pinned (.plain (OpenSpec.upto psvOrderSpec)) psvOrderUptoCard

/-- THE SECOND FORM's CARD OF 'planispherelaw27.PsvBack'. -/
def psvBackUptoCard : Claim7 := { stood := { row := psvBackUptoRow, standIns := [], harness := (true, "b3082fbb6bafad4f5b2d2bc82e2f0138efa30e7c758d06f310e668e260fe923e"), looks := true }, kinds := [], alts := [], laidByText := true, laidKinds := [.data, .data, .data, .data, .sentinel, .sentinel, .pinned], laidTests := true, laidLooks := .later }
def PsvBackUptoCardSaid : Prop := Claim7.holds Tryz.pinned (.plain (OpenSpec.upto psvBackSpec)) psvBackUptoCard

/-- THE SECOND FORM's CARD OF 'planispherelaw27.PsvKept'. -/
def psvKeptUptoCard : Claim7 := { stood := { row := psvKeptUptoRow, standIns := [], harness := (true, "b3082fbb6bafad4f5b2d2bc82e2f0138efa30e7c758d06f310e668e260fe923e"), looks := true }, kinds := [], alts := [], laidByText := true, laidKinds := [.data, .data, .data, .data, .sentinel, .sentinel, .pinned], laidTests := true, laidLooks := .later }
def PsvKeptUptoCardSaid : Prop := Claim7.holds Tryz.pinned (.plain (OpenSpec.upto psvKeptSpec)) psvKeptUptoCard

/-- THE SECOND FORM's CARD OF 'planispherelaw27.PsvNames'. -/
def psvNamesUptoCard : Claim7 := { stood := { row := psvNamesUptoRow, standIns := [], harness := (true, "b3082fbb6bafad4f5b2d2bc82e2f0138efa30e7c758d06f310e668e260fe923e"), looks := true }, kinds := [], alts := [], laidByText := true, laidKinds := [.data, .data, .data, .data, .sentinel, .sentinel, .pinned], laidTests := true, laidLooks := .later }
def PsvNamesUptoCardSaid : Prop := Claim7.holds Tryz.pinned (.plain (OpenSpec.upto psvNamesSpec)) psvNamesUptoCard
end Rows
end Go.Proofs.YtaghilgfldaaiaaGreatDoor
