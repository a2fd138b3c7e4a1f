/-
  DERIVED. GIVEN WITH THE SEED: THE CARDS: each row of YtocjndhpgjccoaaDoorRows.lean that lists a variable, with what it lists TIED to the program's text (the seventh form; the later family's looks); each row that meets fmt, with fmt's text TOLD by the authors' own Lean function (tested against real Go, not proved from fmt's source: count such statements apart). THE CARD IS WHAT COUNTS. Prove the row's statement (the work); the ties are given (YtocjndhpgjccoaaDoorTie.lean); close each card by the builder's one call (the guide's Derived/Test/ToyasCard.lean, 'card_holds'). Laid BY PROGRAM, IN A SANDBOX (cutbox-door.mjs). By AI agents, Wed Nov 11 2026. No macro, syntax, notation, axiom, sorry.
-/
import Derived.Test.YtocjndhpgjccoaaDoorRows
import GoSem.ClaimSeven
namespace Go.Proofs.YtocjndhpgjccoaaDoor
namespace Rows

/-- THE TIED CARD OF 'etchhouselaw3.PlotsMatchSpec'. -/
def plotsMatchSpecCard : Claim7 := { stood := { row := plotsMatchSpecRow, standIns := [], harness := (true, "5e76e2267636eec91094139dbff447c5f887d351107d68d9ad4408eedf8c33a7"), looks := false }, kinds := [], alts := [], laidByText := true, laidKinds := [.data, .data, .data], laidTests := true, laidLooks := .later }
def PlotsMatchSpecCardSaid : Prop := Claim7.holds Tryd.pinned (.plain (OpenSpec.ofChange plotsMatchSpecSpec)) plotsMatchSpecCard

/-- THE TIED CARD OF 'etchhouselaw3.PlotsScaledMatchSpec'. -/
def plotsScaledMatchSpecCard : Claim7 := { stood := { row := plotsScaledMatchSpecRow, standIns := [], harness := (true, "5e76e2267636eec91094139dbff447c5f887d351107d68d9ad4408eedf8c33a7"), looks := false }, kinds := [], alts := [], laidByText := true, laidKinds := [.data, .data, .data], laidTests := true, laidLooks := .later }
def PlotsScaledMatchSpecCardSaid : Prop := Claim7.holds Tryd.pinned (.plain (OpenSpec.ofChange plotsScaledMatchSpecSpec)) plotsScaledMatchSpecCard

/-- THE TIED CARD OF 'etchhouselaw3.PlotsMovedMatchSpec'. -/
def plotsMovedMatchSpecCard : Claim7 := { stood := { row := plotsMovedMatchSpecRow, standIns := [], harness := (true, "5e76e2267636eec91094139dbff447c5f887d351107d68d9ad4408eedf8c33a7"), looks := false }, kinds := [], alts := [], laidByText := true, laidKinds := [.data, .data, .data], laidTests := true, laidLooks := .later }
def PlotsMovedMatchSpecCardSaid : Prop := Claim7.holds Tryd.pinned (.plain (OpenSpec.ofChange plotsMovedMatchSpecSpec)) plotsMovedMatchSpecCard

/-- THE SECOND FORM's CARD OF 'etchhouselaw3.PlotsMatchSpec'. -/
def plotsMatchSpecUptoCard : Claim7 := { stood := { row := plotsMatchSpecUptoRow, standIns := [], harness := (true, "5e76e2267636eec91094139dbff447c5f887d351107d68d9ad4408eedf8c33a7"), looks := false }, kinds := [], alts := [], laidByText := true, laidKinds := [.data, .data, .data], laidTests := true, laidLooks := .later }
def PlotsMatchSpecUptoCardSaid : Prop := Claim7.holds Tryd.pinned (.plain (OpenSpec.upto plotsMatchSpecSpec)) plotsMatchSpecUptoCard

/-- THE SECOND FORM's CARD OF 'etchhouselaw3.PlotsScaledMatchSpec'. -/
def plotsScaledMatchSpecUptoCard : Claim7 := { stood := { row := plotsScaledMatchSpecUptoRow, standIns := [], harness := (true, "5e76e2267636eec91094139dbff447c5f887d351107d68d9ad4408eedf8c33a7"), looks := false }, kinds := [], alts := [], laidByText := true, laidKinds := [.data, .data, .data], laidTests := true, laidLooks := .later }
def PlotsScaledMatchSpecUptoCardSaid : Prop := Claim7.holds Tryd.pinned (.plain (OpenSpec.upto plotsScaledMatchSpecSpec)) plotsScaledMatchSpecUptoCard

/-- THE SECOND FORM's CARD OF 'etchhouselaw3.PlotsMovedMatchSpec'. -/
def plotsMovedMatchSpecUptoCard : Claim7 := { stood := { row := plotsMovedMatchSpecUptoRow, standIns := [], harness := (true, "5e76e2267636eec91094139dbff447c5f887d351107d68d9ad4408eedf8c33a7"), looks := false }, kinds := [], alts := [], laidByText := true, laidKinds := [.data, .data, .data], laidTests := true, laidLooks := .later }
def PlotsMovedMatchSpecUptoCardSaid : Prop := Claim7.holds Tryd.pinned (.plain (OpenSpec.upto plotsMovedMatchSpecSpec)) plotsMovedMatchSpecUptoCard
end Rows
end Go.Proofs.YtocjndhpgjccoaaDoor
