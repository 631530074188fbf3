/-
  DERIVED. GIVEN WITH THE SEED: THE CARDS: each row of YtmgehfakcnmdnaaDoorRows.lean that lists a variable, with what it lists TIED to the program's text (the seventh form; the later family's looks); each row that meets fmt, with fmt's text TOLD by the authors' own Lean function (tested against real Go, not proved from fmt's source: count such statements apart). THE CARD IS WHAT COUNTS. Prove the row's statement (the work); the ties are given (YtmgehfakcnmdnaaDoorTie.lean); close each card by the builder's one call (the guide's Derived/Test/ToyasCard.lean, 'card_holds'). Laid BY PROGRAM, IN A SANDBOX (cutbox-door.mjs). By AI agents, Wed Nov 11 2026. No macro, syntax, notation, axiom, sorry.
-/
import Derived.Test.YtmgehfakcnmdnaaDoorRows
import GoSem.ClaimSeven
namespace Go.Proofs.YtmgehfakcnmdnaaDoor
namespace Rows

/-- THE TIED CARD OF 'planispherelaw18.MomentParses'. -/
def momentParsesCard : Claim7 := { stood := { row := momentParsesRow, standIns := [], harness := (true, "5816584a7aa0307edfe4e89a06f67c33c58880bcf9bb269f95b6a3349b94c910"), looks := true }, kinds := [], alts := [], laidByText := true, laidKinds := [.data, .data, .data, .sentinel, .sentinel], laidTests := true, laidLooks := .later }
def MomentParsesCardSaid : Prop := Claim7.holds Tryd.pinned (.plain (OpenSpec.ofChange momentParsesSpec)) momentParsesCard

/-- THE SECOND FORM's CARD OF 'planispherelaw18.MomentParses'. -/
def momentParsesUptoCard : Claim7 := { stood := { row := momentParsesUptoRow, standIns := [], harness := (true, "5816584a7aa0307edfe4e89a06f67c33c58880bcf9bb269f95b6a3349b94c910"), looks := true }, kinds := [], alts := [], laidByText := true, laidKinds := [.data, .data, .data, .sentinel, .sentinel], laidTests := true, laidLooks := .later }
def MomentParsesUptoCardSaid : Prop := Claim7.holds Tryd.pinned (.plain (OpenSpec.upto momentParsesSpec)) momentParsesUptoCard
end Rows
end Go.Proofs.YtmgehfakcnmdnaaDoor
