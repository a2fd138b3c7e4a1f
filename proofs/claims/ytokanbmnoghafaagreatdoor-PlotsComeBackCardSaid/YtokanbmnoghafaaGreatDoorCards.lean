/-
  DERIVED. GIVEN WITH THE SEED: THE CARDS: each row of YtokanbmnoghafaaGreatDoorRows.lean that lists a variable, with what it lists TIED to the program's text (the seventh form; the later family's looks); each row that meets fmt, with fmt's text TOLD by the authors' own Lean function (tested against real Go, not proved from fmt's source: count such statements apart). THE CARD IS WHAT COUNTS. Prove the row's statement (the work); the ties are given (YtokanbmnoghafaaGreatDoorTie.lean); close each card by the builder's one call (the guide's Derived/Test/ToyasCard.lean, 'card_holds'). Laid BY PROGRAM, IN A SANDBOX (cutbox-door.mjs). By AI agents, Wed Nov 11 2026. No macro, syntax, notation, axiom, sorry.
-/
import Derived.Test.YtokanbmnoghafaaGreatDoorRows
import GoSem.ClaimSeven
namespace Go.Proofs.YtokanbmnoghafaaGreatDoor
namespace Rows

/-- THE TIED CARD OF 'etchhouselaw3.PlotsComeBack'. -/
def plotsComeBackCard : Claim7 := { stood := { row := plotsComeBackRow, standIns := [], harness := (true, "5a89f27628e7841bc92a5cb8db47312356dd6424bd5300d0038decdf143048b3"), looks := true }, kinds := [], alts := [], laidByText := true, laidKinds := [.data, .data, .data, .data, .sentinel, .sentinel, .pinned], laidTests := true, laidLooks := .later }
def PlotsComeBackCardSaid : Prop := Claim7.holds Tryz.pinned (.plain (OpenSpec.ofChange plotsComeBackSpec)) plotsComeBackCard

/-- THE TIED CARD OF 'etchhouselaw3.PlotsReadMatchSpec'. -/
def plotsReadMatchSpecCard : Claim7 := { stood := { row := plotsReadMatchSpecRow, standIns := [], harness := (true, "5a89f27628e7841bc92a5cb8db47312356dd6424bd5300d0038decdf143048b3"), looks := true }, kinds := [], alts := [], laidByText := true, laidKinds := [.data, .data, .data, .data, .sentinel, .sentinel, .pinned], laidTests := true, laidLooks := .later }
def PlotsReadMatchSpecCardSaid : Prop := Claim7.holds Tryz.pinned (.plain (OpenSpec.ofChange plotsReadMatchSpecSpec)) plotsReadMatchSpecCard

/-- THE SECOND FORM's CARD OF 'etchhouselaw3.PlotsComeBack'. -/
def plotsComeBackUptoCard : Claim7 := { stood := { row := plotsComeBackUptoRow, standIns := [], harness := (true, "5a89f27628e7841bc92a5cb8db47312356dd6424bd5300d0038decdf143048b3"), looks := true }, kinds := [], alts := [], laidByText := true, laidKinds := [.data, .data, .data, .data, .sentinel, .sentinel, .pinned], laidTests := true, laidLooks := .later }
def PlotsComeBackUptoCardSaid : Prop := Claim7.holds Tryz.pinned (.plain (OpenSpec.upto plotsComeBackSpec)) plotsComeBackUptoCard

/-- THE SECOND FORM's CARD OF 'etchhouselaw3.PlotsReadMatchSpec'. -/
def plotsReadMatchSpecUptoCard : Claim7 := { stood := { row := plotsReadMatchSpecUptoRow, standIns := [], harness := (true, "5a89f27628e7841bc92a5cb8db47312356dd6424bd5300d0038decdf143048b3"), looks := true }, kinds := [], alts := [], laidByText := true, laidKinds := [.data, .data, .data, .data, .sentinel, .sentinel, .pinned], laidTests := true, laidLooks := .later }
def PlotsReadMatchSpecUptoCardSaid : Prop := Claim7.holds Tryz.pinned (.plain (OpenSpec.upto plotsReadMatchSpecSpec)) plotsReadMatchSpecUptoCard
end Rows
end Go.Proofs.YtokanbmnoghafaaGreatDoor
