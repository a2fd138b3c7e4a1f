/-
  DERIVED. GIVEN WITH THE SEED: THE CARDS: each row of YtgijeiamflmkeaaGreatDoorRows.lean that lists a variable, with what it lists TIED to the program's text (the seventh form; the later family's looks); each row that meets fmt, with fmt's text TOLD by the authors' own Lean function (tested against real Go, not proved from fmt's source: count such statements apart). THE CARD IS WHAT COUNTS. Prove the row's statement (the work); the ties are given (YtgijeiamflmkeaaGreatDoorTie.lean); close each card by the builder's one call (the guide's Derived/Test/ToyasCard.lean, 'card_holds'). Laid BY PROGRAM, IN A SANDBOX (cutbox-door.mjs). By AI agents, Wed Nov 11 2026. No macro, syntax, notation, axiom, sorry.
-/
import Derived.Test.YtgijeiamflmkeaaGreatDoorRows
import GoSem.ClaimSeven
namespace Go.Proofs.YtgijeiamflmkeaaGreatDoor
namespace Rows

/-- THE TIED CARD OF 'etchhousetop.TopBoresOnPanels'. -/
def topBoresOnPanelsCard : Claim7 := { stood := { row := topBoresOnPanelsRow, standIns := [], harness := (true, "926d0b75f5649cb9aff91b8b7f646acf9267043bf3a3dab8aeb761410c6e58cd"), looks := false }, kinds := [], alts := [], laidByText := true, laidKinds := [.data, .data, .data, .data, .pinned], laidTests := true, laidLooks := .later }
def TopBoresOnPanelsCardSaid : Prop := Claim7.holds Tryz.pinned (.plain (OpenSpec.ofChange topBoresOnPanelsSpec)) topBoresOnPanelsCard

/-- THE SECOND FORM's CARD OF 'etchhousetop.TopBoresOnPanels'. -/
def topBoresOnPanelsUptoCard : Claim7 := { stood := { row := topBoresOnPanelsUptoRow, standIns := [], harness := (true, "926d0b75f5649cb9aff91b8b7f646acf9267043bf3a3dab8aeb761410c6e58cd"), looks := false }, kinds := [], alts := [], laidByText := true, laidKinds := [.data, .data, .data, .data, .pinned], laidTests := true, laidLooks := .later }
def TopBoresOnPanelsUptoCardSaid : Prop := Claim7.holds Tryz.pinned (.plain (OpenSpec.upto topBoresOnPanelsSpec)) topBoresOnPanelsUptoCard
end Rows
end Go.Proofs.YtgijeiamflmkeaaGreatDoor
