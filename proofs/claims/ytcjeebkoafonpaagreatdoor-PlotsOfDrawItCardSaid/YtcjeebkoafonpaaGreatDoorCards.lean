/-
  DERIVED. GIVEN WITH THE SEED: THE CARDS: each row of YtcjeebkoafonpaaGreatDoorRows.lean that lists a variable, with what it lists TIED to the program's text (the seventh form; the later family's looks); each row that meets fmt, with fmt's text TOLD by the authors' own Lean function (tested against real Go, not proved from fmt's source: count such statements apart). THE CARD IS WHAT COUNTS. Prove the row's statement (the work); the ties are given (YtcjeebkoafonpaaGreatDoorTie.lean); close each card by the builder's one call (the guide's Derived/Test/ToyasCard.lean, 'card_holds'). Laid BY PROGRAM, IN A SANDBOX (cutbox-door.mjs). By AI agents, Wed Nov 11 2026. No macro, syntax, notation, axiom, sorry.
-/
import Derived.Test.YtcjeebkoafonpaaGreatDoorRows
import GoSem.ClaimSeven
namespace Go.Proofs.YtcjeebkoafonpaaGreatDoor
namespace Rows

/-- THE TIED CARD OF 'etchhouselaw3.PlotsOfMatchSpec'. -/
def plotsOfMatchSpecCard : Claim7 := { stood := { row := plotsOfMatchSpecRow, standIns := [], harness := (true, "f87014b94601ef8f11e113d30fcf508090fcba9aeb8f3b9b3fdc0392649caf38"), looks := false }, kinds := [], alts := [], laidByText := true, laidKinds := [.data, .data, .data], laidTests := true, laidLooks := .later }
def PlotsOfMatchSpecCardSaid : Prop := Claim7.holds Tryz.pinned (.plain (OpenSpec.ofChange plotsOfMatchSpecSpec)) plotsOfMatchSpecCard

/-- THE TIED CARD OF 'etchhouselaw3.PlotsOfDrawIt'. -/
def plotsOfDrawItCard : Claim7 := { stood := { row := plotsOfDrawItRow, standIns := [], harness := (true, "f87014b94601ef8f11e113d30fcf508090fcba9aeb8f3b9b3fdc0392649caf38"), looks := false }, kinds := [], alts := [], laidByText := true, laidKinds := [.data, .data, .data], laidTests := true, laidLooks := .later }
def PlotsOfDrawItCardSaid : Prop := Claim7.holds Tryz.pinned (.plain (OpenSpec.ofChange plotsOfDrawItSpec)) plotsOfDrawItCard

/-- THE SECOND FORM's CARD OF 'etchhouselaw3.PlotsOfMatchSpec'. -/
def plotsOfMatchSpecUptoCard : Claim7 := { stood := { row := plotsOfMatchSpecUptoRow, standIns := [], harness := (true, "f87014b94601ef8f11e113d30fcf508090fcba9aeb8f3b9b3fdc0392649caf38"), looks := false }, kinds := [], alts := [], laidByText := true, laidKinds := [.data, .data, .data], laidTests := true, laidLooks := .later }
def PlotsOfMatchSpecUptoCardSaid : Prop := Claim7.holds Tryz.pinned (.plain (OpenSpec.upto plotsOfMatchSpecSpec)) plotsOfMatchSpecUptoCard

/-- THE SECOND FORM's CARD OF 'etchhouselaw3.PlotsOfDrawIt'. -/
def plotsOfDrawItUptoCard : Claim7 := { stood := { row := plotsOfDrawItUptoRow, standIns := [], harness := (true, "f87014b94601ef8f11e113d30fcf508090fcba9aeb8f3b9b3fdc0392649caf38"), looks := false }, kinds := [], alts := [], laidByText := true, laidKinds := [.data, .data, .data], laidTests := true, laidLooks := .later }
def PlotsOfDrawItUptoCardSaid : Prop := Claim7.holds Tryz.pinned (.plain (OpenSpec.upto plotsOfDrawItSpec)) plotsOfDrawItUptoCard
end Rows
end Go.Proofs.YtcjeebkoafonpaaGreatDoor
