/-
  DERIVED. GIVEN WITH THE SEED: THE CARDS: each row of YtneghcpnehiffaaGreatDoorRows.lean that lists a variable, with what it lists TIED to the program's text (the seventh form; the later family's looks); each row that meets fmt, with fmt's text TOLD by the authors' own Lean function (tested against real Go, not proved from fmt's source: count such statements apart). THE CARD IS WHAT COUNTS. Prove the row's statement (the work); the ties are given (YtneghcpnehiffaaGreatDoorTie.lean); close each card by the builder's one call (the guide's Derived/Test/ToyasCard.lean, 'card_holds'). Laid BY PROGRAM, IN A SANDBOX (cutbox-door.mjs). By AI agents, Wed Nov 11 2026. No macro, syntax, notation, axiom, sorry.
-/
import Derived.Test.YtneghcpnehiffaaGreatDoorRows
import GoSem.ClaimSeven
namespace Go.Proofs.YtneghcpnehiffaaGreatDoor
namespace Rows

/-- THE TIED CARD OF 'etchhouselaw3.PlotsTurnedDrawTurned'. -/
def plotsTurnedDrawTurnedCard : Claim7 := { stood := { row := plotsTurnedDrawTurnedRow, standIns := [], harness := (true, "b0ecb7d7ea93fe271510be3bccfea0ab92c7dc63503b3d303d7250e6904131ec"), looks := false }, kinds := [], alts := [], laidByText := true, laidKinds := [.data, .data, .data], laidTests := true, laidLooks := .later }
def PlotsTurnedDrawTurnedCardSaid : Prop := Claim7.holds Tryz.pinned (.plain (OpenSpec.ofChange plotsTurnedDrawTurnedSpec)) plotsTurnedDrawTurnedCard

/-- THE SECOND FORM's CARD OF 'etchhouselaw3.PlotsTurnedDrawTurned'. -/
def plotsTurnedDrawTurnedUptoCard : Claim7 := { stood := { row := plotsTurnedDrawTurnedUptoRow, standIns := [], harness := (true, "b0ecb7d7ea93fe271510be3bccfea0ab92c7dc63503b3d303d7250e6904131ec"), looks := false }, kinds := [], alts := [], laidByText := true, laidKinds := [.data, .data, .data], laidTests := true, laidLooks := .later }
def PlotsTurnedDrawTurnedUptoCardSaid : Prop := Claim7.holds Tryz.pinned (.plain (OpenSpec.upto plotsTurnedDrawTurnedSpec)) plotsTurnedDrawTurnedUptoCard
end Rows
end Go.Proofs.YtneghcpnehiffaaGreatDoor
