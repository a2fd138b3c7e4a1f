/-
  DERIVED. GIVEN WITH THE SEED: THE CARDS: each row of YtoageaoknnnfbaaGreatDoorRows.lean that lists a variable, with what it lists TIED to the program's text (the seventh form; the later family's looks); each row that meets fmt, with fmt's text TOLD by the authors' own Lean function (tested against real Go, not proved from fmt's source: count such statements apart). THE CARD IS WHAT COUNTS. Prove the row's statement (the work); the ties are given (YtoageaoknnnfbaaGreatDoorTie.lean); close each card by the builder's one call (the guide's Derived/Test/ToyasCard.lean, 'card_holds'). Laid BY PROGRAM, IN A SANDBOX (cutbox-door.mjs). By AI agents, Wed Nov 11 2026. No macro, syntax, notation, axiom, sorry.
-/
import Derived.Test.YtoageaoknnnfbaaGreatDoorRows
import GoSem.ClaimSeven
namespace Go.Proofs.YtoageaoknnnfbaaGreatDoor
namespace Rows

/-- THE TIED CARD OF 'etchhouselaw3.PlotsScaledDrawSame'. -/
def plotsScaledDrawSameCard : Claim7 := { stood := { row := plotsScaledDrawSameRow, standIns := [], harness := (true, "c44b1ef2c0d88c505592d55f9c8592435ba6879242bb344c928b354b8eb65ade"), looks := false }, kinds := [], alts := [], laidByText := true, laidKinds := [.data, .data, .data], laidTests := true, laidLooks := .later }
def PlotsScaledDrawSameCardSaid : Prop := Claim7.holds Tryz.pinned (.plain (OpenSpec.ofChange plotsScaledDrawSameSpec)) plotsScaledDrawSameCard

/-- THE TIED CARD OF 'etchhouselaw3.PlotsNeedlessCanGo'. -/
def plotsNeedlessCanGoCard : Claim7 := { stood := { row := plotsNeedlessCanGoRow, standIns := [], harness := (true, "c44b1ef2c0d88c505592d55f9c8592435ba6879242bb344c928b354b8eb65ade"), looks := false }, kinds := [], alts := [], laidByText := true, laidKinds := [.data, .data, .data], laidTests := true, laidLooks := .later }
def PlotsNeedlessCanGoCardSaid : Prop := Claim7.holds Tryz.pinned (.plain (OpenSpec.ofChange plotsNeedlessCanGoSpec)) plotsNeedlessCanGoCard

/-- THE TIED CARD OF 'etchhouselaw3.PlotsJoinedDrawBoth'. -/
def plotsJoinedDrawBothCard : Claim7 := { stood := { row := plotsJoinedDrawBothRow, standIns := [], harness := (true, "c44b1ef2c0d88c505592d55f9c8592435ba6879242bb344c928b354b8eb65ade"), looks := false }, kinds := [], alts := [], laidByText := true, laidKinds := [.data, .data, .data], laidTests := true, laidLooks := .later }
def PlotsJoinedDrawBothCardSaid : Prop := Claim7.holds Tryz.pinned (.plain (OpenSpec.ofChange plotsJoinedDrawBothSpec)) plotsJoinedDrawBothCard

/-- THE TIED CARD OF 'etchhouselaw3.PlotsShortDrawSame'. -/
def plotsShortDrawSameCard : Claim7 := { stood := { row := plotsShortDrawSameRow, standIns := [], harness := (true, "c44b1ef2c0d88c505592d55f9c8592435ba6879242bb344c928b354b8eb65ade"), looks := false }, kinds := [], alts := [], laidByText := true, laidKinds := [.data, .data, .data], laidTests := true, laidLooks := .later }
def PlotsShortDrawSameCardSaid : Prop := Claim7.holds Tryz.pinned (.plain (OpenSpec.ofChange plotsShortDrawSameSpec)) plotsShortDrawSameCard

/-- THE SECOND FORM's CARD OF 'etchhouselaw3.PlotsScaledDrawSame'. -/
def plotsScaledDrawSameUptoCard : Claim7 := { stood := { row := plotsScaledDrawSameUptoRow, standIns := [], harness := (true, "c44b1ef2c0d88c505592d55f9c8592435ba6879242bb344c928b354b8eb65ade"), looks := false }, kinds := [], alts := [], laidByText := true, laidKinds := [.data, .data, .data], laidTests := true, laidLooks := .later }
def PlotsScaledDrawSameUptoCardSaid : Prop := Claim7.holds Tryz.pinned (.plain (OpenSpec.upto plotsScaledDrawSameSpec)) plotsScaledDrawSameUptoCard

/-- THE SECOND FORM's CARD OF 'etchhouselaw3.PlotsNeedlessCanGo'. -/
def plotsNeedlessCanGoUptoCard : Claim7 := { stood := { row := plotsNeedlessCanGoUptoRow, standIns := [], harness := (true, "c44b1ef2c0d88c505592d55f9c8592435ba6879242bb344c928b354b8eb65ade"), looks := false }, kinds := [], alts := [], laidByText := true, laidKinds := [.data, .data, .data], laidTests := true, laidLooks := .later }
def PlotsNeedlessCanGoUptoCardSaid : Prop := Claim7.holds Tryz.pinned (.plain (OpenSpec.upto plotsNeedlessCanGoSpec)) plotsNeedlessCanGoUptoCard

/-- THE SECOND FORM's CARD OF 'etchhouselaw3.PlotsJoinedDrawBoth'. -/
def plotsJoinedDrawBothUptoCard : Claim7 := { stood := { row := plotsJoinedDrawBothUptoRow, standIns := [], harness := (true, "c44b1ef2c0d88c505592d55f9c8592435ba6879242bb344c928b354b8eb65ade"), looks := false }, kinds := [], alts := [], laidByText := true, laidKinds := [.data, .data, .data], laidTests := true, laidLooks := .later }
def PlotsJoinedDrawBothUptoCardSaid : Prop := Claim7.holds Tryz.pinned (.plain (OpenSpec.upto plotsJoinedDrawBothSpec)) plotsJoinedDrawBothUptoCard

/-- THE SECOND FORM's CARD OF 'etchhouselaw3.PlotsShortDrawSame'. -/
def plotsShortDrawSameUptoCard : Claim7 := { stood := { row := plotsShortDrawSameUptoRow, standIns := [], harness := (true, "c44b1ef2c0d88c505592d55f9c8592435ba6879242bb344c928b354b8eb65ade"), looks := false }, kinds := [], alts := [], laidByText := true, laidKinds := [.data, .data, .data], laidTests := true, laidLooks := .later }
def PlotsShortDrawSameUptoCardSaid : Prop := Claim7.holds Tryz.pinned (.plain (OpenSpec.upto plotsShortDrawSameSpec)) plotsShortDrawSameUptoCard
end Rows
end Go.Proofs.YtoageaoknnnfbaaGreatDoor
