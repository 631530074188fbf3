/-
  DERIVED. GIVEN WITH THE SEED: THE CARDS: each row of YtgodhaphbgllhaaGreatDoorRows.lean that lists a variable, with what it lists TIED to the program's text (the seventh form; the later family's looks); each row that meets fmt, with fmt's text TOLD by the authors' own Lean function (tested against real Go, not proved from fmt's source: count such statements apart). THE CARD IS WHAT COUNTS. Prove the row's statement (the work); the ties are given (YtgodhaphbgllhaaGreatDoorTie.lean); close each card by the builder's one call (the guide's Derived/Test/ToyasCard.lean, 'card_holds'). Laid BY PROGRAM, IN A SANDBOX (cutbox-door.mjs). By AI agents, Wed Nov 11 2026. No macro, syntax, notation, axiom, sorry.
-/
import Derived.Test.YtgodhaphbgllhaaGreatDoorRows
import GoSem.ClaimSeven
namespace Go.Proofs.YtgodhaphbgllhaaGreatDoor
namespace Rows

/-- THE TIED CARD OF 'planispherelaw26.ObsLines'. -/
def obsLinesCard : Claim7 := { stood := { row := obsLinesRow, standIns := [], harness := (true, "38deb419bc944a1dc01059d3d5a683e64d8cd0a94d792b1d8153eb880e87297a"), looks := true }, kinds := [], alts := [], laidByText := true, laidKinds := [.data, .data, .data, .data, .sentinel, .sentinel, .pinned], laidTests := true, laidLooks := .later }
def ObsLinesCardSaid : Prop := Claim7.holds Tryz.pinned (.plain (OpenSpec.ofChange obsLinesSpec)) obsLinesCard

/-- THE TIED CARD OF 'planispherelaw26.ObsBack'. -/
def obsBackCard : Claim7 := { stood := { row := obsBackRow, standIns := [], harness := (true, "38deb419bc944a1dc01059d3d5a683e64d8cd0a94d792b1d8153eb880e87297a"), looks := true }, kinds := [], alts := [], laidByText := true, laidKinds := [.data, .data, .data, .data, .sentinel, .sentinel, .pinned], laidTests := true, laidLooks := .later }
def ObsBackCardSaid : Prop := Claim7.holds Tryz.pinned (.plain (OpenSpec.ofChange obsBackSpec)) obsBackCard

/-- THE TIED CARD OF 'planispherelaw26.ObsBlank'. -/
def obsBlankCard : Claim7 := { stood := { row := obsBlankRow, standIns := [], harness := (true, "38deb419bc944a1dc01059d3d5a683e64d8cd0a94d792b1d8153eb880e87297a"), looks := true }, kinds := [], alts := [], laidByText := true, laidKinds := [.data, .data, .data, .data, .sentinel, .sentinel, .pinned], laidTests := true, laidLooks := .later }
def ObsBlankCardSaid : Prop := Claim7.holds Tryz.pinned (.plain (OpenSpec.ofChange obsBlankSpec)) obsBlankCard

/-- THE TIED CARD OF 'planispherelaw26.ObsRound'. -/
def obsRoundCard : Claim7 := { stood := { row := obsRoundRow, standIns := [], harness := (true, "38deb419bc944a1dc01059d3d5a683e64d8cd0a94d792b1d8153eb880e87297a"), looks := true }, kinds := [], alts := [], laidByText := true, laidKinds := [.data, .data, .data, .data, .sentinel, .sentinel, .pinned], laidTests := true, laidLooks := .later }
def ObsRoundCardSaid : Prop := Claim7.holds Tryz.pinned (.plain (OpenSpec.ofChange obsRoundSpec)) obsRoundCard

/-- THE TIED CARD OF 'planispherelaw26.ObsFiles'. -/
def obsFilesCard : Claim7 := { stood := { row := obsFilesRow, standIns := [], harness := (true, "38deb419bc944a1dc01059d3d5a683e64d8cd0a94d792b1d8153eb880e87297a"), looks := true }, kinds := [], alts := [], laidByText := true, laidKinds := [.data, .data, .data, .data, .sentinel, .sentinel, .pinned], laidTests := true, laidLooks := .later }
def ObsFilesCardSaid : Prop := Claim7.holds Tryz.pinned (.plain (OpenSpec.ofChange obsFilesSpec)) obsFilesCard

/-- THE TIED CARD OF 'planispherelaw26.ObsNames'. -/
def obsNamesCard : Claim7 := { stood := { row := obsNamesRow, standIns := [], harness := (true, "38deb419bc944a1dc01059d3d5a683e64d8cd0a94d792b1d8153eb880e87297a"), looks := true }, kinds := [], alts := [], laidByText := true, laidKinds := [.data, .data, .data, .data, .sentinel, .sentinel, .pinned], laidTests := true, laidLooks := .later }
def ObsNamesCardSaid : Prop := Claim7.holds Tryz.pinned (.plain (OpenSpec.ofChange obsNamesSpec)) obsNamesCard

/-- THE TIED CARD OF 'planispherelaw26.ObsSorted'. -/
def obsSortedCard : Claim7 := { stood := { row := obsSortedRow, standIns := [], harness := (true, "38deb419bc944a1dc01059d3d5a683e64d8cd0a94d792b1d8153eb880e87297a"), looks := true }, kinds := [], alts := [], laidByText := true, laidKinds := [.data, .data, .data, .data, .sentinel, .sentinel, .pinned], laidTests := true, laidLooks := .later }
def ObsSortedCardSaid : Prop := Claim7.holds Tryz.pinned (.plain (OpenSpec.ofChange obsSortedSpec)) obsSortedCard

/-- THE SECOND FORM's CARD OF 'planispherelaw26.ObsLines'. -/
def obsLinesUptoCard : Claim7 := { stood := { row := obsLinesUptoRow, standIns := [], harness := (true, "38deb419bc944a1dc01059d3d5a683e64d8cd0a94d792b1d8153eb880e87297a"), looks := true }, kinds := [], alts := [], laidByText := true, laidKinds := [.data, .data, .data, .data, .sentinel, .sentinel, .pinned], laidTests := true, laidLooks := .later }
def ObsLinesUptoCardSaid : Prop := Claim7.holds Tryz.pinned (.plain (OpenSpec.upto obsLinesSpec)) obsLinesUptoCard

/-- THE SECOND FORM's CARD OF 'planispherelaw26.ObsBack'. -/
def obsBackUptoCard : Claim7 := { stood := { row := obsBackUptoRow, standIns := [], harness := (true, "38deb419bc944a1dc01059d3d5a683e64d8cd0a94d792b1d8153eb880e87297a"), looks := true }, kinds := [], alts := [], laidByText := true, laidKinds := [.data, .data, .data, .data, .sentinel, .sentinel, .pinned], laidTests := true, laidLooks := .later }
def ObsBackUptoCardSaid : Prop := Claim7.holds Tryz.pinned (.plain (OpenSpec.upto obsBackSpec)) obsBackUptoCard

/-- THE SECOND FORM's CARD OF 'planispherelaw26.ObsBlank'. -/
def obsBlankUptoCard : Claim7 := { stood := { row := obsBlankUptoRow, standIns := [], harness := (true, "38deb419bc944a1dc01059d3d5a683e64d8cd0a94d792b1d8153eb880e87297a"), looks := true }, kinds := [], alts := [], laidByText := true, laidKinds := [.data, .data, .data, .data, .sentinel, .sentinel, .pinned], laidTests := true, laidLooks := .later }
def ObsBlankUptoCardSaid : Prop := Claim7.holds Tryz.pinned (.plain (OpenSpec.upto obsBlankSpec)) obsBlankUptoCard

/-- THE SECOND FORM's CARD OF 'planispherelaw26.ObsRound'. -/
def obsRoundUptoCard : Claim7 := { stood := { row := obsRoundUptoRow, standIns := [], harness := (true, "38deb419bc944a1dc01059d3d5a683e64d8cd0a94d792b1d8153eb880e87297a"), looks := true }, kinds := [], alts := [], laidByText := true, laidKinds := [.data, .data, .data, .data, .sentinel, .sentinel, .pinned], laidTests := true, laidLooks := .later }
def ObsRoundUptoCardSaid : Prop := Claim7.holds Tryz.pinned (.plain (OpenSpec.upto obsRoundSpec)) obsRoundUptoCard

/-- THE SECOND FORM's CARD OF 'planispherelaw26.ObsFiles'. -/
def obsFilesUptoCard : Claim7 := { stood := { row := obsFilesUptoRow, standIns := [], harness := (true, "38deb419bc944a1dc01059d3d5a683e64d8cd0a94d792b1d8153eb880e87297a"), looks := true }, kinds := [], alts := [], laidByText := true, laidKinds := [.data, .data, .data, .data, .sentinel, .sentinel, .pinned], laidTests := true, laidLooks := .later }
def ObsFilesUptoCardSaid : Prop := Claim7.holds Tryz.pinned (.plain (OpenSpec.upto obsFilesSpec)) obsFilesUptoCard

/-- THE SECOND FORM's CARD OF 'planispherelaw26.ObsNames'. -/
def obsNamesUptoCard : Claim7 := { stood := { row := obsNamesUptoRow, standIns := [], harness := (true, "38deb419bc944a1dc01059d3d5a683e64d8cd0a94d792b1d8153eb880e87297a"), looks := true }, kinds := [], alts := [], laidByText := true, laidKinds := [.data, .data, .data, .data, .sentinel, .sentinel, .pinned], laidTests := true, laidLooks := .later }
def ObsNamesUptoCardSaid : Prop := Claim7.holds Tryz.pinned (.plain (OpenSpec.upto obsNamesSpec)) obsNamesUptoCard

/-- THE SECOND FORM's CARD OF 'planispherelaw26.ObsSorted'. -/
def obsSortedUptoCard : Claim7 := { stood := { row := obsSortedUptoRow, standIns := [], harness := (true, "38deb419bc944a1dc01059d3d5a683e64d8cd0a94d792b1d8153eb880e87297a"), looks := true }, kinds := [], alts := [], laidByText := true, laidKinds := [.data, .data, .data, .data, .sentinel, .sentinel, .pinned], laidTests := true, laidLooks := .later }
def ObsSortedUptoCardSaid : Prop := Claim7.holds Tryz.pinned (.plain (OpenSpec.upto obsSortedSpec)) obsSortedUptoCard
end Rows
end Go.Proofs.YtgodhaphbgllhaaGreatDoor
