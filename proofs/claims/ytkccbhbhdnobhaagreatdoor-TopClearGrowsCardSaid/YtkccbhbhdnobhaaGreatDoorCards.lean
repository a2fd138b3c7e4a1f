/-
  DERIVED. GIVEN WITH THE SEED: THE CARDS: each row of YtkccbhbhdnobhaaGreatDoorRows.lean that lists a variable, with what it lists TIED to the program's text (the seventh form; the later family's looks); each row that meets fmt, with fmt's text TOLD by the authors' own Lean function (tested against real Go, not proved from fmt's source: count such statements apart). THE CARD IS WHAT COUNTS. Prove the row's statement (the work); the ties are given (YtkccbhbhdnobhaaGreatDoorTie.lean); close each card by the builder's one call (the guide's Derived/Test/ToyasCard.lean, 'card_holds'). Laid BY PROGRAM, IN A SANDBOX (cutbox-door.mjs). By AI agents, Wed Nov 11 2026. No macro, syntax, notation, axiom, sorry.
-/
import Derived.Test.YtkccbhbhdnobhaaGreatDoorRows
import GoSem.ClaimSeven
namespace Go.Proofs.YtkccbhbhdnobhaaGreatDoor
namespace Rows

/-- THE TIED CARD OF 'etchhousetop.TopClearGrows'. -/
def topClearGrowsCard : Claim7 := { stood := { row := topClearGrowsRow, standIns := [], harness := (true, "847725bde54a50e16a64668c844af90e906ca6eada51b3c304ef764cb070b03e"), looks := false }, kinds := [], alts := [], laidByText := true, laidKinds := [.data, .data, .data, .data, .pinned], laidTests := true, laidLooks := .later }
def TopClearGrowsCardSaid : Prop := Claim7.holds Tryz.pinned (.plain (OpenSpec.ofChange topClearGrowsSpec)) topClearGrowsCard

/-- THE SECOND FORM's CARD OF 'etchhousetop.TopClearGrows'. -/
def topClearGrowsUptoCard : Claim7 := { stood := { row := topClearGrowsUptoRow, standIns := [], harness := (true, "847725bde54a50e16a64668c844af90e906ca6eada51b3c304ef764cb070b03e"), looks := false }, kinds := [], alts := [], laidByText := true, laidKinds := [.data, .data, .data, .data, .pinned], laidTests := true, laidLooks := .later }
def TopClearGrowsUptoCardSaid : Prop := Claim7.holds Tryz.pinned (.plain (OpenSpec.upto topClearGrowsSpec)) topClearGrowsUptoCard
end Rows
end Go.Proofs.YtkccbhbhdnobhaaGreatDoor
