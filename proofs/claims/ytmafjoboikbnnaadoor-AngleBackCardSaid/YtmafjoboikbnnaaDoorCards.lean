/-
  DERIVED. GIVEN WITH THE SEED: THE CARDS: each row of YtmafjoboikbnnaaDoorRows.lean that lists a variable, with what it lists TIED to the program's text (the seventh form; the later family's looks); each row that meets fmt, with fmt's text TOLD by the authors' own Lean function (tested against real Go, not proved from fmt's source: count such statements apart). THE CARD IS WHAT COUNTS. Prove the row's statement (the work); the ties are given (YtmafjoboikbnnaaDoorTie.lean); close each card by the builder's one call (the guide's Derived/Test/ToyasCard.lean, 'card_holds'). Laid BY PROGRAM, IN A SANDBOX (cutbox-door.mjs). By AI agents, Wed Nov 11 2026. No macro, syntax, notation, axiom, sorry.
-/
import Derived.Test.YtmafjoboikbnnaaDoorRows
import GoSem.ClaimSeven
namespace Go.Proofs.YtmafjoboikbnnaaDoor
namespace Rows

/-- THE TIED CARD OF 'planispherelaw15.AngleParses'. -/
def angleParsesCard : Claim7 := { stood := { row := angleParsesRow, standIns := [], harness := (true, "79c77657254c8a749c9946176cd3a86b617a0379c399888f48273154f5c4d536"), looks := false }, kinds := [], alts := [], laidByText := true, laidKinds := [.data, .pinned], laidTests := true, laidLooks := .later }
def AngleParsesCardSaid : Prop := Claim7.holds Tryd.pinned (.plain (OpenSpec.ofChange angleParsesSpec)) angleParsesCard

/-- THE TIED CARD OF 'planispherelaw15.AngleDiffs'. -/
def angleDiffsCard : Claim7 := { stood := { row := angleDiffsRow, standIns := [], harness := (true, "79c77657254c8a749c9946176cd3a86b617a0379c399888f48273154f5c4d536"), looks := false }, kinds := [], alts := [], laidByText := true, laidKinds := [.data, .data, .data], laidTests := true, laidLooks := .later }
def AngleDiffsCardSaid : Prop := Claim7.holds Tryd.pinned (.plain (OpenSpec.ofChange angleDiffsSpec)) angleDiffsCard

/-- THE TIED CARD OF 'planispherelaw15.AngleBack'. -/
def angleBackCard : Claim7 := { stood := { row := angleBackRow, standIns := [], harness := (true, "79c77657254c8a749c9946176cd3a86b617a0379c399888f48273154f5c4d536"), looks := false }, kinds := [], alts := [], laidByText := true, laidKinds := [.data, .data, .data, .data, .pinned], laidTests := true, laidLooks := .later }
def AngleBackCardSaid : Prop := Claim7.holds Tryd.pinned (.plain (OpenSpec.ofChange angleBackSpec)) angleBackCard

/-- THE TIED CARD OF 'planispherelaw15.AngleNames'. -/
def angleNamesCard : Claim7 := { stood := { row := angleNamesRow, standIns := [], harness := (true, "79c77657254c8a749c9946176cd3a86b617a0379c399888f48273154f5c4d536"), looks := false }, kinds := [], alts := [], laidByText := true, laidKinds := [.data, .data, .data, .data, .pinned], laidTests := true, laidLooks := .later }
def AngleNamesCardSaid : Prop := Claim7.holds Tryd.pinned (.plain (OpenSpec.ofChange angleNamesSpec)) angleNamesCard

/-- THE SECOND FORM's CARD OF 'planispherelaw15.AngleParses'. -/
def angleParsesUptoCard : Claim7 := { stood := { row := angleParsesUptoRow, standIns := [], harness := (true, "79c77657254c8a749c9946176cd3a86b617a0379c399888f48273154f5c4d536"), looks := false }, kinds := [], alts := [], laidByText := true, laidKinds := [.data, .pinned], laidTests := true, laidLooks := .later }
def AngleParsesUptoCardSaid : Prop := Claim7.holds Tryd.pinned (.plain (OpenSpec.upto angleParsesSpec)) angleParsesUptoCard

/-- THE SECOND FORM's CARD OF 'planispherelaw15.AngleDiffs'. -/
def angleDiffsUptoCard : Claim7 := { stood := { row := angleDiffsUptoRow, standIns := [], harness := (true, "79c77657254c8a749c9946176cd3a86b617a0379c399888f48273154f5c4d536"), looks := false }, kinds := [], alts := [], laidByText := true, laidKinds := [.data, .data, .data], laidTests := true, laidLooks := .later }
def AngleDiffsUptoCardSaid : Prop := Claim7.holds Tryd.pinned (.plain (OpenSpec.upto angleDiffsSpec)) angleDiffsUptoCard

/-- THE SECOND FORM's CARD OF 'planispherelaw15.AngleBack'. -/
def angleBackUptoCard : Claim7 := { stood := { row := angleBackUptoRow, standIns := [], harness := (true, "79c77657254c8a749c9946176cd3a86b617a0379c399888f48273154f5c4d536"), looks := false }, kinds := [], alts := [], laidByText := true, laidKinds := [.data, .data, .data, .data, .pinned], laidTests := true, laidLooks := .later }
def AngleBackUptoCardSaid : Prop := Claim7.holds Tryd.pinned (.plain (OpenSpec.upto angleBackSpec)) angleBackUptoCard

/-- THE SECOND FORM's CARD OF 'planispherelaw15.AngleNames'. -/
def angleNamesUptoCard : Claim7 := { stood := { row := angleNamesUptoRow, standIns := [], harness := (true, "79c77657254c8a749c9946176cd3a86b617a0379c399888f48273154f5c4d536"), looks := false }, kinds := [], alts := [], laidByText := true, laidKinds := [.data, .data, .data, .data, .pinned], laidTests := true, laidLooks := .later }
def AngleNamesUptoCardSaid : Prop := Claim7.holds Tryd.pinned (.plain (OpenSpec.upto angleNamesSpec)) angleNamesUptoCard
end Rows
end Go.Proofs.YtmafjoboikbnnaaDoor
