/-
  DERIVED. GIVEN WITH THE SEED: THE CARDS: each row of YtejfmgjfdnmmgaaGreatDoorRows.lean that lists a variable, with what it lists TIED to the program's text (the seventh form; the later family's looks); each row that meets fmt, with fmt's text TOLD by the authors' own Lean function (tested against real Go, not proved from fmt's source: count such statements apart). THE CARD IS WHAT COUNTS. Prove the row's statement (the work); the ties are given (YtejfmgjfdnmmgaaGreatDoorTie.lean); close each card by the builder's one call (the guide's Derived/Test/ToyasCard.lean, 'card_holds'). Laid BY PROGRAM, IN A SANDBOX (cutbox-door.mjs). By AI agents, Wed Nov 11 2026. No macro, syntax, notation, axiom, sorry.
-/
import Derived.Test.YtejfmgjfdnmmgaaGreatDoorRows
import GoSem.ClaimSeven
namespace Go.Proofs.YtejfmgjfdnmmgaaGreatDoor
namespace Rows

/-- THE TIED CARD OF 'etchhousetop.TopPartsForPanels'. -/
def topPartsForPanelsCard : Claim7 := { stood := { row := topPartsForPanelsRow, standIns := [], harness := (true, "056c5d01e141f28331e7c170d075a04d5e8598c0e405b9edfd6235669acdacce"), looks := false }, kinds := [], alts := [], laidByText := true, laidKinds := [.data, .pinned], laidTests := true, laidLooks := .later }
def TopPartsForPanelsCardSaid : Prop := Claim7.holds Tryz.pinned (.plain (OpenSpec.ofChange topPartsForPanelsSpec)) topPartsForPanelsCard

/-- THE SECOND FORM's CARD OF 'etchhousetop.TopPartsForPanels'. -/
def topPartsForPanelsUptoCard : Claim7 := { stood := { row := topPartsForPanelsUptoRow, standIns := [], harness := (true, "056c5d01e141f28331e7c170d075a04d5e8598c0e405b9edfd6235669acdacce"), looks := false }, kinds := [], alts := [], laidByText := true, laidKinds := [.data, .pinned], laidTests := true, laidLooks := .later }
def TopPartsForPanelsUptoCardSaid : Prop := Claim7.holds Tryz.pinned (.plain (OpenSpec.upto topPartsForPanelsSpec)) topPartsForPanelsUptoCard
end Rows
end Go.Proofs.YtejfmgjfdnmmgaaGreatDoor
