/-
  No cell of these rows narrows 'for every input' (looked for: loops, veiled, ifaces, maps, wideKeys, modest, calm, conditions, laid).
  DERIVED. THE GIVEN ROWS OF THIS SEAT. 10 by the template 'for every input the law returns true; each argument reads behind the call as it read before'; 0 by the template 'total and deterministic' (their statements: YtcebbfodkadggaaTotals.lean).
  GIVEN WITH THE SEED: the statements are not yours to turn. If you find one false, say at which input.
  Laid BY PROGRAM, IN A SANDBOX (cutbox-rows.mjs): the forced cells as the released guide's own fill.sh prints them over the translation bb396fb0440c2fc4… (all of the seat's roots in one cut). By AI agents, Wed Nov 11 2026. No macro, syntax, notation, axiom, sorry.
-/
import Derived.Test.YtcebbfodkadggaaChecked
import GoSem.Claim
import GoSem.ClaimJoined
import GoSem.ClaimMapViews
import Derived.JoinedTies
import Derived.KernelRfl
namespace Go.Proofs.Ytcebbfodkadggaa
/- THE CELL 'sum', in the pinned program and in every row, IS THE sha256 OF THE DUMP (.gsa) THAT YtcebbfodkadggaaProg.lean LOADS. Nothing in Lean hashes anything: it is a label: what it is worth is what the hold of that sum in a sandbox is worth. -/
noncomputable def Try.pinned : Pinned := { name := "ytcebbfodkadggaa", sum := "bb396fb0440c2fc4e0559b20362c2e45879b4ef05c402c4e4e23d41dfd80ff8a", checked := Try.checked }
namespace Rows
def none {H : Type} : Left H := { results := [], args := [] }

/-- 'etchhouselaw1.RegionsMatchSpec': WHATEVER THE INPUT: true; the input reads as it did. -/
def regionsMatchSpecSpec : ChangeSpec := { name := "regionsMatchSpec", fn := fun _ => fun
  | [d] => { results := [.lit (.bool true)], args := [d] }
  | _ => none }
def regionsMatchSpecRow : OpenClaim := { program := "ytcebbfodkadggaa", sum := "bb396fb0440c2fc4e0559b20362c2e45879b4ef05c402c4e4e23d41dfd80ff8a", func := "etchhouse/etchhouselaw1.RegionsMatchSpec", spec := "regionsMatchSpec", unfollowed := true, recurses := true, apart := false }
def RegionsMatchSpecSaid : Prop := regionsMatchSpecRow.holds Try.pinned (OpenSpec.ofChange regionsMatchSpecSpec)

/-- ITS FALSE NEIGHBOUR: 'it returns false'. Refute it at one input. -/
def regionsMatchSpecWrong : ChangeSpec := { name := "regionsMatchSpec", fn := fun _ => fun
  | [d] => { results := [.lit (.bool false)], args := [d] }
  | _ => none }
def RegionsMatchSpecWrongFalsely : Prop := regionsMatchSpecRow.holds Try.pinned (OpenSpec.ofChange regionsMatchSpecWrong)

/-- 'etchhouselaw1.RegionsAreCanonical': WHATEVER THE INPUT: true; the input reads as it did. -/
def regionsAreCanonicalSpec : ChangeSpec := { name := "regionsAreCanonical", fn := fun _ => fun
  | [d] => { results := [.lit (.bool true)], args := [d] }
  | _ => none }
def regionsAreCanonicalRow : OpenClaim := { program := "ytcebbfodkadggaa", sum := "bb396fb0440c2fc4e0559b20362c2e45879b4ef05c402c4e4e23d41dfd80ff8a", func := "etchhouse/etchhouselaw1.RegionsAreCanonical", spec := "regionsAreCanonical", unfollowed := true, recurses := true, apart := false }
def RegionsAreCanonicalSaid : Prop := regionsAreCanonicalRow.holds Try.pinned (OpenSpec.ofChange regionsAreCanonicalSpec)

/-- ITS FALSE NEIGHBOUR: 'it returns false'. Refute it at one input. -/
def regionsAreCanonicalWrong : ChangeSpec := { name := "regionsAreCanonical", fn := fun _ => fun
  | [d] => { results := [.lit (.bool false)], args := [d] }
  | _ => none }
def RegionsAreCanonicalWrongFalsely : Prop := regionsAreCanonicalRow.holds Try.pinned (OpenSpec.ofChange regionsAreCanonicalWrong)

/-- 'etchhouselaw1.PointsMatchSpec': WHATEVER THE INPUT: true; the input reads as it did. -/
def pointsMatchSpecSpec : ChangeSpec := { name := "pointsMatchSpec", fn := fun _ => fun
  | [d1, d2] => { results := [.lit (.bool true)], args := [d1, d2] }
  | _ => none }
def pointsMatchSpecRow : OpenClaim := { program := "ytcebbfodkadggaa", sum := "bb396fb0440c2fc4e0559b20362c2e45879b4ef05c402c4e4e23d41dfd80ff8a", func := "etchhouse/etchhouselaw1.PointsMatchSpec", spec := "pointsMatchSpec", unfollowed := true, recurses := true, apart := false }
def PointsMatchSpecSaid : Prop := pointsMatchSpecRow.holds Try.pinned (OpenSpec.ofChange pointsMatchSpecSpec)

/-- ITS FALSE NEIGHBOUR: 'it returns false'. Refute it at one input. -/
def pointsMatchSpecWrong : ChangeSpec := { name := "pointsMatchSpec", fn := fun _ => fun
  | [d1, d2] => { results := [.lit (.bool false)], args := [d1, d2] }
  | _ => none }
def PointsMatchSpecWrongFalsely : Prop := pointsMatchSpecRow.holds Try.pinned (OpenSpec.ofChange pointsMatchSpecWrong)

/-- 'etchhouselaw1.TurnsMatchSpec': WHATEVER THE INPUT: true; the input reads as it did. -/
def turnsMatchSpecSpec : ChangeSpec := { name := "turnsMatchSpec", fn := fun _ => fun
  | [d1, d2, d3] => { results := [.lit (.bool true)], args := [d1, d2, d3] }
  | _ => none }
def turnsMatchSpecRow : OpenClaim := { program := "ytcebbfodkadggaa", sum := "bb396fb0440c2fc4e0559b20362c2e45879b4ef05c402c4e4e23d41dfd80ff8a", func := "etchhouse/etchhouselaw1.TurnsMatchSpec", spec := "turnsMatchSpec", unfollowed := true, recurses := true, apart := false }
def TurnsMatchSpecSaid : Prop := turnsMatchSpecRow.holds Try.pinned (OpenSpec.ofChange turnsMatchSpecSpec)

/-- ITS FALSE NEIGHBOUR: 'it returns false'. Refute it at one input. -/
def turnsMatchSpecWrong : ChangeSpec := { name := "turnsMatchSpec", fn := fun _ => fun
  | [d1, d2, d3] => { results := [.lit (.bool false)], args := [d1, d2, d3] }
  | _ => none }
def TurnsMatchSpecWrongFalsely : Prop := turnsMatchSpecRow.holds Try.pinned (OpenSpec.ofChange turnsMatchSpecWrong)

/-- 'etchhouselaw1.TurnsGoBack': WHATEVER THE INPUT: true; the input reads as it did. -/
def turnsGoBackSpec : ChangeSpec := { name := "turnsGoBack", fn := fun _ => fun
  | [d1, d2, d3] => { results := [.lit (.bool true)], args := [d1, d2, d3] }
  | _ => none }
def turnsGoBackRow : OpenClaim := { program := "ytcebbfodkadggaa", sum := "bb396fb0440c2fc4e0559b20362c2e45879b4ef05c402c4e4e23d41dfd80ff8a", func := "etchhouse/etchhouselaw1.TurnsGoBack", spec := "turnsGoBack", unfollowed := true, recurses := true, apart := false }
def TurnsGoBackSaid : Prop := turnsGoBackRow.holds Try.pinned (OpenSpec.ofChange turnsGoBackSpec)

/-- ITS FALSE NEIGHBOUR: 'it returns false'. Refute it at one input. -/
def turnsGoBackWrong : ChangeSpec := { name := "turnsGoBack", fn := fun _ => fun
  | [d1, d2, d3] => { results := [.lit (.bool false)], args := [d1, d2, d3] }
  | _ => none }
def TurnsGoBackWrongFalsely : Prop := turnsGoBackRow.holds Try.pinned (OpenSpec.ofChange turnsGoBackWrong)

/-- 'etchhouselaw1.TurnedRegionsMatchSpec': WHATEVER THE INPUT: true; the input reads as it did. -/
def turnedRegionsMatchSpecSpec : ChangeSpec := { name := "turnedRegionsMatchSpec", fn := fun _ => fun
  | [d1, d2] => { results := [.lit (.bool true)], args := [d1, d2] }
  | _ => none }
def turnedRegionsMatchSpecRow : OpenClaim := { program := "ytcebbfodkadggaa", sum := "bb396fb0440c2fc4e0559b20362c2e45879b4ef05c402c4e4e23d41dfd80ff8a", func := "etchhouse/etchhouselaw1.TurnedRegionsMatchSpec", spec := "turnedRegionsMatchSpec", unfollowed := true, recurses := true, apart := false }
def TurnedRegionsMatchSpecSaid : Prop := turnedRegionsMatchSpecRow.holds Try.pinned (OpenSpec.ofChange turnedRegionsMatchSpecSpec)

/-- ITS FALSE NEIGHBOUR: 'it returns false'. Refute it at one input. -/
def turnedRegionsMatchSpecWrong : ChangeSpec := { name := "turnedRegionsMatchSpec", fn := fun _ => fun
  | [d1, d2] => { results := [.lit (.bool false)], args := [d1, d2] }
  | _ => none }
def TurnedRegionsMatchSpecWrongFalsely : Prop := turnedRegionsMatchSpecRow.holds Try.pinned (OpenSpec.ofChange turnedRegionsMatchSpecWrong)

/-- 'etchhouselaw1.GapsMatchSpec': WHATEVER THE INPUT: true; the input reads as it did. -/
def gapsMatchSpecSpec : ChangeSpec := { name := "gapsMatchSpec", fn := fun _ => fun
  | [d1, d2] => { results := [.lit (.bool true)], args := [d1, d2] }
  | _ => none }
def gapsMatchSpecRow : OpenClaim := { program := "ytcebbfodkadggaa", sum := "bb396fb0440c2fc4e0559b20362c2e45879b4ef05c402c4e4e23d41dfd80ff8a", func := "etchhouse/etchhouselaw1.GapsMatchSpec", spec := "gapsMatchSpec", unfollowed := true, recurses := true, apart := false }
def GapsMatchSpecSaid : Prop := gapsMatchSpecRow.holds Try.pinned (OpenSpec.ofChange gapsMatchSpecSpec)

/-- ITS FALSE NEIGHBOUR: 'it returns false'. Refute it at one input. -/
def gapsMatchSpecWrong : ChangeSpec := { name := "gapsMatchSpec", fn := fun _ => fun
  | [d1, d2] => { results := [.lit (.bool false)], args := [d1, d2] }
  | _ => none }
def GapsMatchSpecWrongFalsely : Prop := gapsMatchSpecRow.holds Try.pinned (OpenSpec.ofChange gapsMatchSpecWrong)

/-- 'etchhouselaw1.SetsMatchSpec': WHATEVER THE INPUT: true; the input reads as it did. -/
def setsMatchSpecSpec : ChangeSpec := { name := "setsMatchSpec", fn := fun _ => fun
  | [d1, d2] => { results := [.lit (.bool true)], args := [d1, d2] }
  | _ => none }
def setsMatchSpecRow : OpenClaim := { program := "ytcebbfodkadggaa", sum := "bb396fb0440c2fc4e0559b20362c2e45879b4ef05c402c4e4e23d41dfd80ff8a", func := "etchhouse/etchhouselaw1.SetsMatchSpec", spec := "setsMatchSpec", unfollowed := true, recurses := true, apart := false }
def SetsMatchSpecSaid : Prop := setsMatchSpecRow.holds Try.pinned (OpenSpec.ofChange setsMatchSpecSpec)

/-- ITS FALSE NEIGHBOUR: 'it returns false'. Refute it at one input. -/
def setsMatchSpecWrong : ChangeSpec := { name := "setsMatchSpec", fn := fun _ => fun
  | [d1, d2] => { results := [.lit (.bool false)], args := [d1, d2] }
  | _ => none }
def SetsMatchSpecWrongFalsely : Prop := setsMatchSpecRow.holds Try.pinned (OpenSpec.ofChange setsMatchSpecWrong)

/-- 'etchhouselaw1.SetsAddUp': WHATEVER THE INPUT: true; the input reads as it did. -/
def setsAddUpSpec : ChangeSpec := { name := "setsAddUp", fn := fun _ => fun
  | [d1, d2] => { results := [.lit (.bool true)], args := [d1, d2] }
  | _ => none }
def setsAddUpRow : OpenClaim := { program := "ytcebbfodkadggaa", sum := "bb396fb0440c2fc4e0559b20362c2e45879b4ef05c402c4e4e23d41dfd80ff8a", func := "etchhouse/etchhouselaw1.SetsAddUp", spec := "setsAddUp", unfollowed := true, recurses := true, apart := false }
def SetsAddUpSaid : Prop := setsAddUpRow.holds Try.pinned (OpenSpec.ofChange setsAddUpSpec)

/-- ITS FALSE NEIGHBOUR: 'it returns false'. Refute it at one input. -/
def setsAddUpWrong : ChangeSpec := { name := "setsAddUp", fn := fun _ => fun
  | [d1, d2] => { results := [.lit (.bool false)], args := [d1, d2] }
  | _ => none }
def SetsAddUpWrongFalsely : Prop := setsAddUpRow.holds Try.pinned (OpenSpec.ofChange setsAddUpWrong)

/-- 'etchhouselaw1.SetsByPoints': WHATEVER THE INPUT: true; the input reads as it did. -/
def setsByPointsSpec : ChangeSpec := { name := "setsByPoints", fn := fun _ => fun
  | [d1, d2, d3] => { results := [.lit (.bool true)], args := [d1, d2, d3] }
  | _ => none }
def setsByPointsRow : OpenClaim := { program := "ytcebbfodkadggaa", sum := "bb396fb0440c2fc4e0559b20362c2e45879b4ef05c402c4e4e23d41dfd80ff8a", func := "etchhouse/etchhouselaw1.SetsByPoints", spec := "setsByPoints", unfollowed := true, recurses := true, apart := false }
def SetsByPointsSaid : Prop := setsByPointsRow.holds Try.pinned (OpenSpec.ofChange setsByPointsSpec)

/-- ITS FALSE NEIGHBOUR: 'it returns false'. Refute it at one input. -/
def setsByPointsWrong : ChangeSpec := { name := "setsByPoints", fn := fun _ => fun
  | [d1, d2, d3] => { results := [.lit (.bool false)], args := [d1, d2, d3] }
  | _ => none }
def SetsByPointsWrongFalsely : Prop := setsByPointsRow.holds Try.pinned (OpenSpec.ofChange setsByPointsWrong)

/- THE SECOND FORM. 'bulk': how many values and letters a reading holds, each counted each time it is reached (what is shared counts as often as it is met; a slice's spare places count too). A statement '..UptoSaid' is the law's where the arguments, and the package variables that the reading takes, are together of bulk at most 1048576: NARROWER than '..Said'. Prove '..Said' where nothing that the law and all that it calls make is longer than what came in: it says more and counts as full. Else prove '..UptoSaid'. A law counts once. -/
mutual
def uptoBulk {H : Type} : DataW H → Nat
  | .lit (.string bytes) => bytes.length + 1
  | .lit _ => 1
  | .nil => 1
  | .ptr d => uptoBulk d + 1
  | .slice elems spare => uptoBulkAll elems + uptoBulkAll spare + 1
  | .agg parts => uptoBulkAll parts + 1
  | .iface _ d => uptoBulk d + 1
  | .map entries => uptoBulkEntries entries + 1
  | .held _ => 1
def uptoBulkAll {H : Type} : List (DataW H) → Nat
  | [] => 0
  | d :: r => uptoBulk d + uptoBulkAll r
def uptoBulkEntries {H : Type} : List (Lit × DataW H) → Nat
  | [] => 0
  | x :: r => uptoBulkEntry x + uptoBulkEntries r
def uptoBulkEntry {H : Type} : Lit × DataW H → Nat
  | (.string bytes, d) => bytes.length + uptoBulk d + 1
  | (_, d) => uptoBulk d + 1
 end
def uptoSmall : (H : Type) → List (DataW H) → Bool := fun _ ds => decide (uptoBulkAll ds ≤ 1048576)
def OpenSpec.upto (s : _root_.Go.ChangeSpec) : _root_.Go.OpenSpec := { _root_.Go.OpenSpec.ofChange s with cond := some uptoSmall }

/-- 'etchhouselaw1.RegionsMatchSpec', WHERE WHAT IT READS IS OF BULK AT MOST 1048576: true; the input reads as it did. -/
def regionsMatchSpecUptoRow : OpenClaim := { program := "ytcebbfodkadggaa", sum := "bb396fb0440c2fc4e0559b20362c2e45879b4ef05c402c4e4e23d41dfd80ff8a", func := "etchhouse/etchhouselaw1.RegionsMatchSpec", spec := "regionsMatchSpec", unfollowed := true, recurses := true, apart := false, narrowed := true }
def RegionsMatchSpecUptoSaid : Prop := regionsMatchSpecUptoRow.holds Try.pinned (OpenSpec.upto regionsMatchSpecSpec)

/-- 'etchhouselaw1.RegionsAreCanonical', WHERE WHAT IT READS IS OF BULK AT MOST 1048576: true; the input reads as it did. -/
def regionsAreCanonicalUptoRow : OpenClaim := { program := "ytcebbfodkadggaa", sum := "bb396fb0440c2fc4e0559b20362c2e45879b4ef05c402c4e4e23d41dfd80ff8a", func := "etchhouse/etchhouselaw1.RegionsAreCanonical", spec := "regionsAreCanonical", unfollowed := true, recurses := true, apart := false, narrowed := true }
def RegionsAreCanonicalUptoSaid : Prop := regionsAreCanonicalUptoRow.holds Try.pinned (OpenSpec.upto regionsAreCanonicalSpec)

/-- 'etchhouselaw1.PointsMatchSpec', WHERE WHAT IT READS IS OF BULK AT MOST 1048576: true; the input reads as it did. -/
def pointsMatchSpecUptoRow : OpenClaim := { program := "ytcebbfodkadggaa", sum := "bb396fb0440c2fc4e0559b20362c2e45879b4ef05c402c4e4e23d41dfd80ff8a", func := "etchhouse/etchhouselaw1.PointsMatchSpec", spec := "pointsMatchSpec", unfollowed := true, recurses := true, apart := false, narrowed := true }
def PointsMatchSpecUptoSaid : Prop := pointsMatchSpecUptoRow.holds Try.pinned (OpenSpec.upto pointsMatchSpecSpec)

/-- 'etchhouselaw1.TurnsMatchSpec', WHERE WHAT IT READS IS OF BULK AT MOST 1048576: true; the input reads as it did. -/
def turnsMatchSpecUptoRow : OpenClaim := { program := "ytcebbfodkadggaa", sum := "bb396fb0440c2fc4e0559b20362c2e45879b4ef05c402c4e4e23d41dfd80ff8a", func := "etchhouse/etchhouselaw1.TurnsMatchSpec", spec := "turnsMatchSpec", unfollowed := true, recurses := true, apart := false, narrowed := true }
def TurnsMatchSpecUptoSaid : Prop := turnsMatchSpecUptoRow.holds Try.pinned (OpenSpec.upto turnsMatchSpecSpec)

/-- 'etchhouselaw1.TurnsGoBack', WHERE WHAT IT READS IS OF BULK AT MOST 1048576: true; the input reads as it did. -/
def turnsGoBackUptoRow : OpenClaim := { program := "ytcebbfodkadggaa", sum := "bb396fb0440c2fc4e0559b20362c2e45879b4ef05c402c4e4e23d41dfd80ff8a", func := "etchhouse/etchhouselaw1.TurnsGoBack", spec := "turnsGoBack", unfollowed := true, recurses := true, apart := false, narrowed := true }
def TurnsGoBackUptoSaid : Prop := turnsGoBackUptoRow.holds Try.pinned (OpenSpec.upto turnsGoBackSpec)

/-- 'etchhouselaw1.TurnedRegionsMatchSpec', WHERE WHAT IT READS IS OF BULK AT MOST 1048576: true; the input reads as it did. -/
def turnedRegionsMatchSpecUptoRow : OpenClaim := { program := "ytcebbfodkadggaa", sum := "bb396fb0440c2fc4e0559b20362c2e45879b4ef05c402c4e4e23d41dfd80ff8a", func := "etchhouse/etchhouselaw1.TurnedRegionsMatchSpec", spec := "turnedRegionsMatchSpec", unfollowed := true, recurses := true, apart := false, narrowed := true }
def TurnedRegionsMatchSpecUptoSaid : Prop := turnedRegionsMatchSpecUptoRow.holds Try.pinned (OpenSpec.upto turnedRegionsMatchSpecSpec)

/-- 'etchhouselaw1.GapsMatchSpec', WHERE WHAT IT READS IS OF BULK AT MOST 1048576: true; the input reads as it did. -/
def gapsMatchSpecUptoRow : OpenClaim := { program := "ytcebbfodkadggaa", sum := "bb396fb0440c2fc4e0559b20362c2e45879b4ef05c402c4e4e23d41dfd80ff8a", func := "etchhouse/etchhouselaw1.GapsMatchSpec", spec := "gapsMatchSpec", unfollowed := true, recurses := true, apart := false, narrowed := true }
def GapsMatchSpecUptoSaid : Prop := gapsMatchSpecUptoRow.holds Try.pinned (OpenSpec.upto gapsMatchSpecSpec)

/-- 'etchhouselaw1.SetsMatchSpec', WHERE WHAT IT READS IS OF BULK AT MOST 1048576: true; the input reads as it did. -/
def setsMatchSpecUptoRow : OpenClaim := { program := "ytcebbfodkadggaa", sum := "bb396fb0440c2fc4e0559b20362c2e45879b4ef05c402c4e4e23d41dfd80ff8a", func := "etchhouse/etchhouselaw1.SetsMatchSpec", spec := "setsMatchSpec", unfollowed := true, recurses := true, apart := false, narrowed := true }
def SetsMatchSpecUptoSaid : Prop := setsMatchSpecUptoRow.holds Try.pinned (OpenSpec.upto setsMatchSpecSpec)

/-- 'etchhouselaw1.SetsAddUp', WHERE WHAT IT READS IS OF BULK AT MOST 1048576: true; the input reads as it did. -/
def setsAddUpUptoRow : OpenClaim := { program := "ytcebbfodkadggaa", sum := "bb396fb0440c2fc4e0559b20362c2e45879b4ef05c402c4e4e23d41dfd80ff8a", func := "etchhouse/etchhouselaw1.SetsAddUp", spec := "setsAddUp", unfollowed := true, recurses := true, apart := false, narrowed := true }
def SetsAddUpUptoSaid : Prop := setsAddUpUptoRow.holds Try.pinned (OpenSpec.upto setsAddUpSpec)

/-- 'etchhouselaw1.SetsByPoints', WHERE WHAT IT READS IS OF BULK AT MOST 1048576: true; the input reads as it did. -/
def setsByPointsUptoRow : OpenClaim := { program := "ytcebbfodkadggaa", sum := "bb396fb0440c2fc4e0559b20362c2e45879b4ef05c402c4e4e23d41dfd80ff8a", func := "etchhouse/etchhouselaw1.SetsByPoints", spec := "setsByPoints", unfollowed := true, recurses := true, apart := false, narrowed := true }
def SetsByPointsUptoSaid : Prop := setsByPointsUptoRow.holds Try.pinned (OpenSpec.upto setsByPointsSpec)

end Rows
end Go.Proofs.Ytcebbfodkadggaa
