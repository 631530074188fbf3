/-
  DERIVED. GIVEN WITH THE SEED: THE CARDS: each row of YtmgehfakcnmdnaaGreatDoorRows.lean that lists a variable, with what it lists TIED to the program's text (the seventh form; the later family's looks); each row that meets fmt, with fmt's text TOLD by the authors' own Lean function (tested against real Go, not proved from fmt's source: count such statements apart). THE CARD IS WHAT COUNTS. Prove the row's statement (the work); the ties are given (YtmgehfakcnmdnaaGreatDoorTie.lean); close each card by the builder's one call (the guide's Derived/Test/ToyasCard.lean, 'card_holds'). Laid BY PROGRAM, IN A SANDBOX (cutbox-door.mjs). By AI agents, Wed Nov 11 2026. No macro, syntax, notation, axiom, sorry.
-/
import Derived.Test.YtmgehfakcnmdnaaGreatDoorRows
import GoSem.ClaimSeven
namespace Go.Proofs.YtmgehfakcnmdnaaGreatDoor
namespace Rows

/-- THE TIED CARD OF 'planispherelaw18.MomentTexts'. -/
def momentTextsCard : Claim7 := { stood := { row := momentTextsRow, standIns := [], harness := (true, "27f5c18d01ffaa02cf92f964ee45d50685b9d33a02dc665fa9c28217da7eabf3"), looks := true }, kinds := [], alts := [], laidByText := true, laidKinds := [.data, .data, .data], laidTests := true, laidLooks := .later }
def MomentTextsCardSaid : Prop := Claim7.holds Tryz.pinned (.plain (OpenSpec.ofChange momentTextsSpec)) momentTextsCard

/-- THE TIED CARD OF 'planispherelaw18.MomentBack'. -/
def momentBackCard : Claim7 := { stood := { row := momentBackRow, standIns := [], harness := (true, "27f5c18d01ffaa02cf92f964ee45d50685b9d33a02dc665fa9c28217da7eabf3"), looks := true }, kinds := [], alts := [], laidByText := true, laidKinds := [.data, .data, .data], laidTests := true, laidLooks := .later }
def MomentBackCardSaid : Prop := Claim7.holds Tryz.pinned (.plain (OpenSpec.ofChange momentBackSpec)) momentBackCard

/-- THE TIED CARD OF 'planispherelaw18.MomentDays'. -/
def momentDaysCard : Claim7 := { stood := { row := momentDaysRow, standIns := [], harness := (true, "27f5c18d01ffaa02cf92f964ee45d50685b9d33a02dc665fa9c28217da7eabf3"), looks := true }, kinds := [], alts := [], laidByText := true, laidKinds := [.data, .data, .data], laidTests := true, laidLooks := .later }
def MomentDaysCardSaid : Prop := Claim7.holds Tryz.pinned (.plain (OpenSpec.ofChange momentDaysSpec)) momentDaysCard

/-- THE TIED CARD OF 'planispherelaw18.MomentOrder'. -/
def momentOrderCard : Claim7 := { stood := { row := momentOrderRow, standIns := [], harness := (true, "27f5c18d01ffaa02cf92f964ee45d50685b9d33a02dc665fa9c28217da7eabf3"), looks := true }, kinds := [], alts := [], laidByText := true, laidKinds := [.data, .data, .data], laidTests := true, laidLooks := .later }
def MomentOrderCardSaid : Prop := Claim7.holds Tryz.pinned (.plain (OpenSpec.ofChange momentOrderSpec)) momentOrderCard

/-- THE TIED CARD OF 'planispherelaw18.MomentRounds'. -/
def momentRoundsCard : Claim7 := { stood := { row := momentRoundsRow, standIns := [], harness := (true, "27f5c18d01ffaa02cf92f964ee45d50685b9d33a02dc665fa9c28217da7eabf3"), looks := true }, kinds := [], alts := [], laidByText := true, laidKinds := [.data, .data, .data, .sentinel, .sentinel], laidTests := true, laidLooks := .later }
def MomentRoundsCardSaid : Prop := Claim7.holds Tryz.pinned (.plain (OpenSpec.ofChange momentRoundsSpec)) momentRoundsCard

/-- THE TIED CARD OF 'planispherelaw18.MomentNames'. -/
def momentNamesCard : Claim7 := { stood := { row := momentNamesRow, standIns := [], harness := (true, "27f5c18d01ffaa02cf92f964ee45d50685b9d33a02dc665fa9c28217da7eabf3"), looks := true }, kinds := [], alts := [], laidByText := true, laidKinds := [.data, .data, .data, .sentinel, .sentinel], laidTests := true, laidLooks := .later }
def MomentNamesCardSaid : Prop := Claim7.holds Tryz.pinned (.plain (OpenSpec.ofChange momentNamesSpec)) momentNamesCard

/-- THE SECOND FORM's CARD OF 'planispherelaw18.MomentTexts'. -/
def momentTextsUptoCard : Claim7 := { stood := { row := momentTextsUptoRow, standIns := [], harness := (true, "27f5c18d01ffaa02cf92f964ee45d50685b9d33a02dc665fa9c28217da7eabf3"), looks := true }, kinds := [], alts := [], laidByText := true, laidKinds := [.data, .data, .data], laidTests := true, laidLooks := .later }
def MomentTextsUptoCardSaid : Prop := Claim7.holds Tryz.pinned (.plain (OpenSpec.upto momentTextsSpec)) momentTextsUptoCard

/-- THE SECOND FORM's CARD OF 'planispherelaw18.MomentBack'. -/
def momentBackUptoCard : Claim7 := { stood := { row := momentBackUptoRow, standIns := [], harness := (true, "27f5c18d01ffaa02cf92f964ee45d50685b9d33a02dc665fa9c28217da7eabf3"), looks := true }, kinds := [], alts := [], laidByText := true, laidKinds := [.data, .data, .data], laidTests := true, laidLooks := .later }
def MomentBackUptoCardSaid : Prop := Claim7.holds Tryz.pinned (.plain (OpenSpec.upto momentBackSpec)) momentBackUptoCard

/-- THE SECOND FORM's CARD OF 'planispherelaw18.MomentDays'. -/
def momentDaysUptoCard : Claim7 := { stood := { row := momentDaysUptoRow, standIns := [], harness := (true, "27f5c18d01ffaa02cf92f964ee45d50685b9d33a02dc665fa9c28217da7eabf3"), looks := true }, kinds := [], alts := [], laidByText := true, laidKinds := [.data, .data, .data], laidTests := true, laidLooks := .later }
def MomentDaysUptoCardSaid : Prop := Claim7.holds Tryz.pinned (.plain (OpenSpec.upto momentDaysSpec)) momentDaysUptoCard

/-- THE SECOND FORM's CARD OF 'planispherelaw18.MomentOrder'. -/
def momentOrderUptoCard : Claim7 := { stood := { row := momentOrderUptoRow, standIns := [], harness := (true, "27f5c18d01ffaa02cf92f964ee45d50685b9d33a02dc665fa9c28217da7eabf3"), looks := true }, kinds := [], alts := [], laidByText := true, laidKinds := [.data, .data, .data], laidTests := true, laidLooks := .later }
def MomentOrderUptoCardSaid : Prop := Claim7.holds Tryz.pinned (.plain (OpenSpec.upto momentOrderSpec)) momentOrderUptoCard

/-- THE SECOND FORM's CARD OF 'planispherelaw18.MomentRounds'. -/
def momentRoundsUptoCard : Claim7 := { stood := { row := momentRoundsUptoRow, standIns := [], harness := (true, "27f5c18d01ffaa02cf92f964ee45d50685b9d33a02dc665fa9c28217da7eabf3"), looks := true }, kinds := [], alts := [], laidByText := true, laidKinds := [.data, .data, .data, .sentinel, .sentinel], laidTests := true, laidLooks := .later }
def MomentRoundsUptoCardSaid : Prop := Claim7.holds Tryz.pinned (.plain (OpenSpec.upto momentRoundsSpec)) momentRoundsUptoCard

/-- THE SECOND FORM's CARD OF 'planispherelaw18.MomentNames'. -/
def momentNamesUptoCard : Claim7 := { stood := { row := momentNamesUptoRow, standIns := [], harness := (true, "27f5c18d01ffaa02cf92f964ee45d50685b9d33a02dc665fa9c28217da7eabf3"), looks := true }, kinds := [], alts := [], laidByText := true, laidKinds := [.data, .data, .data, .sentinel, .sentinel], laidTests := true, laidLooks := .later }
def MomentNamesUptoCardSaid : Prop := Claim7.holds Tryz.pinned (.plain (OpenSpec.upto momentNamesSpec)) momentNamesUptoCard
end Rows
end Go.Proofs.YtmgehfakcnmdnaaGreatDoor
