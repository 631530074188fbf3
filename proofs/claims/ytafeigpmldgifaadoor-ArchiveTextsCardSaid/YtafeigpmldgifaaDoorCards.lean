/-
  DERIVED. GIVEN WITH THE SEED: THE CARDS: each row of YtafeigpmldgifaaDoorRows.lean that lists a variable, with what it lists TIED to the program's text (the seventh form; the later family's looks); each row that meets fmt, with fmt's text TOLD by the authors' own Lean function (tested against real Go, not proved from fmt's source: count such statements apart). THE CARD IS WHAT COUNTS. Prove the row's statement (the work); the ties are given (YtafeigpmldgifaaDoorTie.lean); close each card by the builder's one call (the guide's Derived/Test/ToyasCard.lean, 'card_holds'). Laid BY PROGRAM, IN A SANDBOX (cutbox-door.mjs). By AI agents, Wed Nov 11 2026. No macro, syntax, notation, axiom, sorry.
-/
import Derived.Test.YtafeigpmldgifaaDoorRows
import GoSem.ClaimSeven
namespace Go.Proofs.YtafeigpmldgifaaDoor
namespace Rows

/-- THE TIED CARD OF 'planispherelaw43.ArchiveTexts'. -/
def archiveTextsCard : Claim7 := { stood := { row := archiveTextsRow, standIns := [], harness := (true, "5ecd607736d762fa7769bab01512d19c21535782845e26acd6f1395129a1e15a"), looks := true }, kinds := [], alts := [], laidByText := true, laidKinds := [.data, .data, .data, .sentinel, .sentinel, .widerDeep, .data, .widerDeep], laidTests := true, laidLooks := .later }
def ArchiveTextsCardSaid : Prop := Claim7.holds Tryd.pinned (.plain (OpenSpec.ofChange archiveTextsSpec)) archiveTextsCard

/-- THE SECOND FORM's CARD OF 'planispherelaw43.ArchiveTexts'. -/
def archiveTextsUptoCard : Claim7 := { stood := { row := archiveTextsUptoRow, standIns := [], harness := (true, "5ecd607736d762fa7769bab01512d19c21535782845e26acd6f1395129a1e15a"), looks := true }, kinds := [], alts := [], laidByText := true, laidKinds := [.data, .data, .data, .sentinel, .sentinel, .widerDeep, .data, .widerDeep], laidTests := true, laidLooks := .later }
def ArchiveTextsUptoCardSaid : Prop := Claim7.holds Tryd.pinned (.plain (OpenSpec.upto archiveTextsSpec)) archiveTextsUptoCard
end Rows
end Go.Proofs.YtafeigpmldgifaaDoor
