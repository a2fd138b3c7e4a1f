/-
  DERIVED. GIVEN WITH THE SEED: THE CARDS: each row of YtblmajfbibbiaaaGreatDoorRows.lean that lists a variable, with what it lists TIED to the program's text (the seventh form; the later family's looks); each row that meets fmt, with fmt's text TOLD by the authors' own Lean function (tested against real Go, not proved from fmt's source: count such statements apart). THE CARD IS WHAT COUNTS. Prove the row's statement (the work); the ties are given (YtblmajfbibbiaaaGreatDoorTie.lean); close each card by the builder's one call (the guide's Derived/Test/ToyasCard.lean, 'card_holds'). Laid BY PROGRAM, IN A SANDBOX (cutbox-door.mjs). By AI agents, Wed Nov 11 2026. No macro, syntax, notation, axiom, sorry.
-/
import Derived.Test.YtblmajfbibbiaaaGreatDoorRows
import GoSem.ClaimSeven
namespace Go.Proofs.YtblmajfbibbiaaaGreatDoor
namespace Rows

/-- THE TIED CARD OF 'etchhousetop.TopRegionsThroughPlots'. -/
def topRegionsThroughPlotsCard : Claim7 := { stood := { row := topRegionsThroughPlotsRow, standIns := [], harness := (true, "79bd5bf1fab0e023964b7c17aa28cf5a01bcc78c489d8406c06195ff1562b2f4"), looks := true }, kinds := [], alts := [], laidByText := true, laidKinds := [.data, .data, .data, .data, .sentinel, .sentinel, .pinned], laidTests := true, laidLooks := .later }
def TopRegionsThroughPlotsCardSaid : Prop := Claim7.holds Tryz.pinned (.plain (OpenSpec.ofChange topRegionsThroughPlotsSpec)) topRegionsThroughPlotsCard

/-- THE SECOND FORM's CARD OF 'etchhousetop.TopRegionsThroughPlots'. -/
def topRegionsThroughPlotsUptoCard : Claim7 := { stood := { row := topRegionsThroughPlotsUptoRow, standIns := [], harness := (true, "79bd5bf1fab0e023964b7c17aa28cf5a01bcc78c489d8406c06195ff1562b2f4"), looks := true }, kinds := [], alts := [], laidByText := true, laidKinds := [.data, .data, .data, .data, .sentinel, .sentinel, .pinned], laidTests := true, laidLooks := .later }
def TopRegionsThroughPlotsUptoCardSaid : Prop := Claim7.holds Tryz.pinned (.plain (OpenSpec.upto topRegionsThroughPlotsSpec)) topRegionsThroughPlotsUptoCard
end Rows
end Go.Proofs.YtblmajfbibbiaaaGreatDoor
