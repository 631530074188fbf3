/-
  DERIVED. GIVEN WITH THE SEED: THE CARDS: each row of YtdnogmanbdgadaaGreatDoorRows.lean that lists a variable, with what it lists TIED to the program's text (the seventh form; the later family's looks); each row that meets fmt, with fmt's text TOLD by the authors' own Lean function (tested against real Go, not proved from fmt's source: count such statements apart). THE CARD IS WHAT COUNTS. Prove the row's statement (the work); the ties are given (YtdnogmanbdgadaaGreatDoorTie.lean); close each card by the builder's one call (the guide's Derived/Test/ToyasCard.lean, 'card_holds'). Laid BY PROGRAM, IN A SANDBOX (cutbox-door.mjs). By AI agents, Wed Nov 11 2026. No macro, syntax, notation, axiom, sorry.
-/
import Derived.Test.YtdnogmanbdgadaaGreatDoorRows
import GoSem.ClaimSeven
namespace Go.Proofs.YtdnogmanbdgadaaGreatDoor
namespace Rows

/-- THE TIED CARD OF 'planispherelaw29.TrackletWhole'. -/
def trackletWholeCard : Claim7 := { stood := { row := trackletWholeRow, standIns := [], harness := (true, "208fff2b93dae7c8ad18fb7b7ebb000b286e60f1020c8d152fe398a4ea08c400"), looks := true }, kinds := [], alts := [], laidByText := true, laidKinds := [.data, .data, .data, .sentinel, .sentinel], laidTests := true, laidLooks := .later }
def TrackletWholeCardSaid : Prop := Claim7.holds Tryz.pinned (.plain (OpenSpec.ofChange trackletWholeSpec)) trackletWholeCard

/-- THE TIED CARD OF 'planispherelaw29.TrackletMost'. -/
def trackletMostCard : Claim7 := { stood := { row := trackletMostRow, standIns := [], harness := (true, "208fff2b93dae7c8ad18fb7b7ebb000b286e60f1020c8d152fe398a4ea08c400"), looks := true }, kinds := [], alts := [], laidByText := true, laidKinds := [.data, .data, .data, .sentinel, .sentinel], laidTests := true, laidLooks := .later }
def TrackletMostCardSaid : Prop := Claim7.holds Tryz.pinned (.plain (OpenSpec.ofChange trackletMostSpec)) trackletMostCard

/-- THE TIED CARD OF 'planispherelaw29.TrackletTurned'. -/
def trackletTurnedCard : Claim7 := { stood := { row := trackletTurnedRow, standIns := [], harness := (true, "208fff2b93dae7c8ad18fb7b7ebb000b286e60f1020c8d152fe398a4ea08c400"), looks := true }, kinds := [], alts := [], laidByText := true, laidKinds := [.data, .data, .data, .sentinel, .sentinel], laidTests := true, laidLooks := .later }
def TrackletTurnedCardSaid : Prop := Claim7.holds Tryz.pinned (.plain (OpenSpec.ofChange trackletTurnedSpec)) trackletTurnedCard

/-- THE TIED CARD OF 'planispherelaw29.TrackletUniform'. -/
def trackletUniformCard : Claim7 := { stood := { row := trackletUniformRow, standIns := [], harness := (true, "208fff2b93dae7c8ad18fb7b7ebb000b286e60f1020c8d152fe398a4ea08c400"), looks := true }, kinds := [], alts := [], laidByText := true, laidKinds := [.data, .data, .data, .sentinel, .sentinel], laidTests := true, laidLooks := .later }
def TrackletUniformCardSaid : Prop := Claim7.holds Tryz.pinned (.plain (OpenSpec.ofChange trackletUniformSpec)) trackletUniformCard

/-- THE TIED CARD OF 'planispherelaw29.TrackletNames'. -/
def trackletNamesCard : Claim7 := { stood := { row := trackletNamesRow, standIns := [], harness := (true, "208fff2b93dae7c8ad18fb7b7ebb000b286e60f1020c8d152fe398a4ea08c400"), looks := true }, kinds := [], alts := [], laidByText := true, laidKinds := [.data, .data, .data, .sentinel, .sentinel], laidTests := true, laidLooks := .later }
def TrackletNamesCardSaid : Prop := Claim7.holds Tryz.pinned (.plain (OpenSpec.ofChange trackletNamesSpec)) trackletNamesCard

/-- THE SECOND FORM's CARD OF 'planispherelaw29.TrackletWhole'. -/
def trackletWholeUptoCard : Claim7 := { stood := { row := trackletWholeUptoRow, standIns := [], harness := (true, "208fff2b93dae7c8ad18fb7b7ebb000b286e60f1020c8d152fe398a4ea08c400"), looks := true }, kinds := [], alts := [], laidByText := true, laidKinds := [.data, .data, .data, .sentinel, .sentinel], laidTests := true, laidLooks := .later }
def TrackletWholeUptoCardSaid : Prop := Claim7.holds Tryz.pinned (.plain (OpenSpec.upto trackletWholeSpec)) trackletWholeUptoCard

/-- THE SECOND FORM's CARD OF 'planispherelaw29.TrackletMost'. -/
def trackletMostUptoCard : Claim7 := { stood := { row := trackletMostUptoRow, standIns := [], harness := (true, "208fff2b93dae7c8ad18fb7b7ebb000b286e60f1020c8d152fe398a4ea08c400"), looks := true }, kinds := [], alts := [], laidByText := true, laidKinds := [.data, .data, .data, .sentinel, .sentinel], laidTests := true, laidLooks := .later }
def TrackletMostUptoCardSaid : Prop := Claim7.holds Tryz.pinned (.plain (OpenSpec.upto trackletMostSpec)) trackletMostUptoCard

/-- THE SECOND FORM's CARD OF 'planispherelaw29.TrackletTurned'. -/
def trackletTurnedUptoCard : Claim7 := { stood := { row := trackletTurnedUptoRow, standIns := [], harness := (true, "208fff2b93dae7c8ad18fb7b7ebb000b286e60f1020c8d152fe398a4ea08c400"), looks := true }, kinds := [], alts := [], laidByText := true, laidKinds := [.data, .data, .data, .sentinel, .sentinel], laidTests := true, laidLooks := .later }
def TrackletTurnedUptoCardSaid : Prop := Claim7.holds Tryz.pinned (.plain (OpenSpec.upto trackletTurnedSpec)) trackletTurnedUptoCard

/-- THE SECOND FORM's CARD OF 'planispherelaw29.TrackletUniform'. -/
def trackletUniformUptoCard : Claim7 := { stood := { row := trackletUniformUptoRow, standIns := [], harness := (true, "208fff2b93dae7c8ad18fb7b7ebb000b286e60f1020c8d152fe398a4ea08c400"), looks := true }, kinds := [], alts := [], laidByText := true, laidKinds := [.data, .data, .data, .sentinel, .sentinel], laidTests := true, laidLooks := .later }
def TrackletUniformUptoCardSaid : Prop := Claim7.holds Tryz.pinned (.plain (OpenSpec.upto trackletUniformSpec)) trackletUniformUptoCard

/-- THE SECOND FORM's CARD OF 'planispherelaw29.TrackletNames'. -/
def trackletNamesUptoCard : Claim7 := { stood := { row := trackletNamesUptoRow, standIns := [], harness := (true, "208fff2b93dae7c8ad18fb7b7ebb000b286e60f1020c8d152fe398a4ea08c400"), looks := true }, kinds := [], alts := [], laidByText := true, laidKinds := [.data, .data, .data, .sentinel, .sentinel], laidTests := true, laidLooks := .later }
def TrackletNamesUptoCardSaid : Prop := Claim7.holds Tryz.pinned (.plain (OpenSpec.upto trackletNamesSpec)) trackletNamesUptoCard
end Rows
end Go.Proofs.YtdnogmanbdgadaaGreatDoor
