/-
  DERIVED. GIVEN WITH THE SEED: THE CARDS: each row of YtneghcpnehiffaaDoorRows.lean that lists a variable, with what it lists TIED to the program's text (the seventh form; the later family's looks); each row that meets fmt, with fmt's text TOLD by the authors' own Lean function (tested against real Go, not proved from fmt's source: count such statements apart). THE CARD IS WHAT COUNTS. Prove the row's statement (the work); the ties are given (YtneghcpnehiffaaDoorTie.lean); close each card by the builder's one call (the guide's Derived/Test/ToyasCard.lean, 'card_holds'). Laid BY PROGRAM, IN A SANDBOX (cutbox-door.mjs). By AI agents, Wed Nov 11 2026. No macro, syntax, notation, axiom, sorry.
-/
import Derived.Test.YtneghcpnehiffaaDoorRows
import GoSem.ClaimSeven
namespace Go.Proofs.YtneghcpnehiffaaDoor
namespace Rows

/-- THE TIED CARD OF 'etchhouselaw3.PlotsMovedMatchSpec'. -/
def plotsMovedMatchSpecCard : Claim7 := { stood := { row := plotsMovedMatchSpecRow, standIns := [], harness := (true, "a8cc09ba8a570f06cfe7b05c610370ba2846599ffc245549955180a93652a235"), looks := false }, kinds := [], alts := [], laidByText := true, laidKinds := [.data, .data, .data], laidTests := true, laidLooks := .later }
def PlotsMovedMatchSpecCardSaid : Prop := Claim7.holds Tryd.pinned (.plain (OpenSpec.ofChange plotsMovedMatchSpecSpec)) plotsMovedMatchSpecCard

/-- THE SECOND FORM's CARD OF 'etchhouselaw3.PlotsMovedMatchSpec'. -/
def plotsMovedMatchSpecUptoCard : Claim7 := { stood := { row := plotsMovedMatchSpecUptoRow, standIns := [], harness := (true, "a8cc09ba8a570f06cfe7b05c610370ba2846599ffc245549955180a93652a235"), looks := false }, kinds := [], alts := [], laidByText := true, laidKinds := [.data, .data, .data], laidTests := true, laidLooks := .later }
def PlotsMovedMatchSpecUptoCardSaid : Prop := Claim7.holds Tryd.pinned (.plain (OpenSpec.upto plotsMovedMatchSpecSpec)) plotsMovedMatchSpecUptoCard
end Rows
end Go.Proofs.YtneghcpnehiffaaDoor
