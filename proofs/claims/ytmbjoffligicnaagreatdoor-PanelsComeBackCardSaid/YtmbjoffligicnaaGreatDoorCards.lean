/-
  DERIVED. GIVEN WITH THE SEED: THE CARDS: each row of YtmbjoffligicnaaGreatDoorRows.lean that lists a variable, with what it lists TIED to the program's text (the seventh form; the later family's looks); each row that meets fmt, with fmt's text TOLD by the authors' own Lean function (tested against real Go, not proved from fmt's source: count such statements apart). THE CARD IS WHAT COUNTS. Prove the row's statement (the work); the ties are given (YtmbjoffligicnaaGreatDoorTie.lean); close each card by the builder's one call (the guide's Derived/Test/ToyasCard.lean, 'card_holds'). Laid BY PROGRAM, IN A SANDBOX (cutbox-door.mjs). By AI agents, Wed Nov 11 2026. No macro, syntax, notation, axiom, sorry.
-/
import Derived.Test.YtmbjoffligicnaaGreatDoorRows
import GoSem.ClaimSeven
namespace Go.Proofs.YtmbjoffligicnaaGreatDoor
namespace Rows

/-- THE TIED CARD OF 'etchhouselaw9.PanelsComeBack'. -/
def panelsComeBackCard : Claim7 := { stood := { row := panelsComeBackRow, standIns := [], harness := (true, "f7e714039b35b8e6cfbd1fd9e6940bcd47d4379777f3413499e02a650f2b161d"), looks := true }, kinds := [], alts := [], laidByText := true, laidKinds := [.data, .data, .data, .data, .sentinel, .sentinel, .pinned], laidTests := true, laidLooks := .later }
def PanelsComeBackCardSaid : Prop := Claim7.holds Tryz.pinned (.plain (OpenSpec.ofChange panelsComeBackSpec)) panelsComeBackCard

/-- THE TIED CARD OF 'etchhouselaw9.PanelsReadMatchSpec'. -/
def panelsReadMatchSpecCard : Claim7 := { stood := { row := panelsReadMatchSpecRow, standIns := [], harness := (true, "f7e714039b35b8e6cfbd1fd9e6940bcd47d4379777f3413499e02a650f2b161d"), looks := true }, kinds := [], alts := [], laidByText := true, laidKinds := [.data, .data, .data, .data, .sentinel, .sentinel, .pinned], laidTests := true, laidLooks := .later }
def PanelsReadMatchSpecCardSaid : Prop := Claim7.holds Tryz.pinned (.plain (OpenSpec.ofChange panelsReadMatchSpecSpec)) panelsReadMatchSpecCard

/-- THE SECOND FORM's CARD OF 'etchhouselaw9.PanelsComeBack'. -/
def panelsComeBackUptoCard : Claim7 := { stood := { row := panelsComeBackUptoRow, standIns := [], harness := (true, "f7e714039b35b8e6cfbd1fd9e6940bcd47d4379777f3413499e02a650f2b161d"), looks := true }, kinds := [], alts := [], laidByText := true, laidKinds := [.data, .data, .data, .data, .sentinel, .sentinel, .pinned], laidTests := true, laidLooks := .later }
def PanelsComeBackUptoCardSaid : Prop := Claim7.holds Tryz.pinned (.plain (OpenSpec.upto panelsComeBackSpec)) panelsComeBackUptoCard

/-- THE SECOND FORM's CARD OF 'etchhouselaw9.PanelsReadMatchSpec'. -/
def panelsReadMatchSpecUptoCard : Claim7 := { stood := { row := panelsReadMatchSpecUptoRow, standIns := [], harness := (true, "f7e714039b35b8e6cfbd1fd9e6940bcd47d4379777f3413499e02a650f2b161d"), looks := true }, kinds := [], alts := [], laidByText := true, laidKinds := [.data, .data, .data, .data, .sentinel, .sentinel, .pinned], laidTests := true, laidLooks := .later }
def PanelsReadMatchSpecUptoCardSaid : Prop := Claim7.holds Tryz.pinned (.plain (OpenSpec.upto panelsReadMatchSpecSpec)) panelsReadMatchSpecUptoCard
end Rows
end Go.Proofs.YtmbjoffligicnaaGreatDoor
