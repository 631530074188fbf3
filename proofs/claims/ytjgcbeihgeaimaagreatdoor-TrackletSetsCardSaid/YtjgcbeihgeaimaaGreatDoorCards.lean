/-
  DERIVED. GIVEN WITH THE SEED: THE CARDS: each row of YtjgcbeihgeaimaaGreatDoorRows.lean that lists a variable, with what it lists TIED to the program's text (the seventh form; the later family's looks); each row that meets fmt, with fmt's text TOLD by the authors' own Lean function (tested against real Go, not proved from fmt's source: count such statements apart). THE CARD IS WHAT COUNTS. Prove the row's statement (the work); the ties are given (YtjgcbeihgeaimaaGreatDoorTie.lean); close each card by the builder's one call (the guide's Derived/Test/ToyasCard.lean, 'card_holds'). Laid BY PROGRAM, IN A SANDBOX (cutbox-door.mjs). By AI agents, Wed Nov 11 2026. No macro, syntax, notation, axiom, sorry.
-/
import Derived.Test.YtjgcbeihgeaimaaGreatDoorRows
import GoSem.ClaimSeven
namespace Go.Proofs.YtjgcbeihgeaimaaGreatDoor
namespace Rows

/-- THE TIED CARD OF 'planispherelaw29.TrackletSets'. -/
def trackletSetsCard : Claim7 := { stood := { row := trackletSetsRow, standIns := [], harness := (true, "4dc8f8ee5185ee3389e7b28f48dd1b71654ecb2fbf56c93137314d596bf57ba0"), looks := true }, kinds := [], alts := [], laidByText := true, laidKinds := [.data, .data, .data, .sentinel, .sentinel], laidTests := true, laidLooks := .later }
def TrackletSetsCardSaid : Prop := Claim7.holds Tryz.pinned (.plain (OpenSpec.ofChange trackletSetsSpec)) trackletSetsCard

/-- THE SECOND FORM's CARD OF 'planispherelaw29.TrackletSets'. -/
def trackletSetsUptoCard : Claim7 := { stood := { row := trackletSetsUptoRow, standIns := [], harness := (true, "4dc8f8ee5185ee3389e7b28f48dd1b71654ecb2fbf56c93137314d596bf57ba0"), looks := true }, kinds := [], alts := [], laidByText := true, laidKinds := [.data, .data, .data, .sentinel, .sentinel], laidTests := true, laidLooks := .later }
def TrackletSetsUptoCardSaid : Prop := Claim7.holds Tryz.pinned (.plain (OpenSpec.upto trackletSetsSpec)) trackletSetsUptoCard
end Rows
end Go.Proofs.YtjgcbeihgeaimaaGreatDoor
