/-
  DERIVED. GIVEN WITH THE SEED: THE CARDS: each row of YtafeigpmldgifaaGreatDoorRows.lean that lists a variable, with what it lists TIED to the program's text (the seventh form; the later family's looks); each row that meets fmt, with fmt's text TOLD by the authors' own Lean function (tested against real Go, not proved from fmt's source: count such statements apart). THE CARD IS WHAT COUNTS. Prove the row's statement (the work); the ties are given (YtafeigpmldgifaaGreatDoorTie.lean); close each card by the builder's one call (the guide's Derived/Test/ToyasCard.lean, 'card_holds'). Laid BY PROGRAM, IN A SANDBOX (cutbox-door.mjs). By AI agents, Wed Nov 11 2026. No macro, syntax, notation, axiom, sorry.
-/
import Derived.Test.YtafeigpmldgifaaGreatDoorRows
import GoSem.ClaimSeven
namespace Go.Proofs.YtafeigpmldgifaaGreatDoor
namespace Rows

/-- THE TIED CARD OF 'planispherelaw43.ArchivePrints'. -/
def archivePrintsCard : Claim7 := { stood := { row := archivePrintsRow, standIns := [], harness := (true, "577b1a465a079878a5019c3d44bd1929b716a2d6d5157f911ed9fd83f94dd5b1"), looks := true }, kinds := [], alts := [], laidByText := true, laidKinds := [.data, .data, .data, .sentinel, .sentinel, .widerDeep], laidTests := true, laidLooks := .later }
def ArchivePrintsCardSaid : Prop := Claim7.holds Tryz.pinned (.plain (OpenSpec.ofChange archivePrintsSpec)) archivePrintsCard

/-- THE SECOND FORM's CARD OF 'planispherelaw43.ArchivePrints'. -/
def archivePrintsUptoCard : Claim7 := { stood := { row := archivePrintsUptoRow, standIns := [], harness := (true, "577b1a465a079878a5019c3d44bd1929b716a2d6d5157f911ed9fd83f94dd5b1"), looks := true }, kinds := [], alts := [], laidByText := true, laidKinds := [.data, .data, .data, .sentinel, .sentinel, .widerDeep], laidTests := true, laidLooks := .later }
def ArchivePrintsUptoCardSaid : Prop := Claim7.holds Tryz.pinned (.plain (OpenSpec.upto archivePrintsSpec)) archivePrintsUptoCard
end Rows
end Go.Proofs.YtafeigpmldgifaaGreatDoor
