/-
  No cell of these rows narrows 'for every input' (looked for: loops, veiled, ifaces, maps, wideKeys, modest, calm, conditions, laid).
  DERIVED. THE GIVEN ROWS OF THIS SEAT. 8 by the template 'for every input the law returns true; each argument reads behind the call as it read before'; 0 by the template 'total and deterministic' (their statements: YtnlhigfglfahiaaTotals.lean).
  GIVEN WITH THE SEED: the statements are not yours to turn. If you find one false, say at which input.
  Laid BY PROGRAM, IN A SANDBOX (cutbox-rows.mjs): the forced cells as the released guide's own fill.sh prints them over the translation 5e34dd0fcfdbb7d3… (all of the seat's roots in one cut). By AI agents, Wed Nov 11 2026. No macro, syntax, notation, axiom, sorry.
-/
import Derived.Test.YtnlhigfglfahiaaChecked
import GoSem.Claim
import GoSem.ClaimJoined
import GoSem.ClaimMapViews
import Derived.JoinedTies
import Derived.KernelRfl
namespace Go.Proofs.Ytnlhigfglfahiaa
/- THE CELL 'sum', in the pinned program and in every row, IS THE sha256 OF THE DUMP (.gsa) THAT YtnlhigfglfahiaaProg.lean LOADS. Nothing in Lean hashes anything: it is a label: what it is worth is what the hold of that sum in a sandbox is worth. -/
noncomputable def Try.pinned : Pinned := { name := "ytnlhigfglfahiaa", sum := "5e34dd0fcfdbb7d36b0b285f0dd5f51979cc61ce2079387a60545072a43cbcba", checked := Try.checked }
namespace Rows
def none {H : Type} : Left H := { results := [], args := [] }

/-- 'etchhouselaw1.GrowsAdd': WHATEVER THE INPUT: true; the input reads as it did. -/
def growsAddSpec : ChangeSpec := { name := "growsAdd", fn := fun _ => fun
  | [d1, d2, d3] => { results := [.lit (.bool true)], args := [d1, d2, d3] }
  | _ => none }
def growsAddRow : OpenClaim := { program := "ytnlhigfglfahiaa", sum := "5e34dd0fcfdbb7d36b0b285f0dd5f51979cc61ce2079387a60545072a43cbcba", func := "etchhouse/etchhouselaw1.GrowsAdd", spec := "growsAdd", unfollowed := true, recurses := true, plainKeys := false, apart := false }
def GrowsAddSaid : Prop := growsAddRow.holds Try.pinned (OpenSpec.ofChange growsAddSpec)

/-- ITS FALSE NEIGHBOUR: 'it returns false'. Refute it at one input. -/
def growsAddWrong : ChangeSpec := { name := "growsAdd", fn := fun _ => fun
  | [d1, d2, d3] => { results := [.lit (.bool false)], args := [d1, d2, d3] }
  | _ => none }
def GrowsAddWrongFalsely : Prop := growsAddRow.holds Try.pinned (OpenSpec.ofChange growsAddWrong)

/-- 'etchhouselaw1.GrowsByPoints': WHATEVER THE INPUT: true; the input reads as it did. -/
def growsByPointsSpec : ChangeSpec := { name := "growsByPoints", fn := fun _ => fun
  | [d1, d2, d3] => { results := [.lit (.bool true)], args := [d1, d2, d3] }
  | _ => none }
def growsByPointsRow : OpenClaim := { program := "ytnlhigfglfahiaa", sum := "5e34dd0fcfdbb7d36b0b285f0dd5f51979cc61ce2079387a60545072a43cbcba", func := "etchhouse/etchhouselaw1.GrowsByPoints", spec := "growsByPoints", unfollowed := true, recurses := true, plainKeys := false, apart := false }
def GrowsByPointsSaid : Prop := growsByPointsRow.holds Try.pinned (OpenSpec.ofChange growsByPointsSpec)

/-- ITS FALSE NEIGHBOUR: 'it returns false'. Refute it at one input. -/
def growsByPointsWrong : ChangeSpec := { name := "growsByPoints", fn := fun _ => fun
  | [d1, d2, d3] => { results := [.lit (.bool false)], args := [d1, d2, d3] }
  | _ => none }
def GrowsByPointsWrongFalsely : Prop := growsByPointsRow.holds Try.pinned (OpenSpec.ofChange growsByPointsWrong)

/-- 'etchhouselaw1.GapsAreLeast': WHATEVER THE INPUT: true; the input reads as it did. -/
def gapsAreLeastSpec : ChangeSpec := { name := "gapsAreLeast", fn := fun _ => fun
  | [d1, d2] => { results := [.lit (.bool true)], args := [d1, d2] }
  | _ => none }
def gapsAreLeastRow : OpenClaim := { program := "ytnlhigfglfahiaa", sum := "5e34dd0fcfdbb7d36b0b285f0dd5f51979cc61ce2079387a60545072a43cbcba", func := "etchhouse/etchhouselaw1.GapsAreLeast", spec := "gapsAreLeast", unfollowed := true, recurses := true, plainKeys := false, apart := false }
def GapsAreLeastSaid : Prop := gapsAreLeastRow.holds Try.pinned (OpenSpec.ofChange gapsAreLeastSpec)

/-- ITS FALSE NEIGHBOUR: 'it returns false'. Refute it at one input. -/
def gapsAreLeastWrong : ChangeSpec := { name := "gapsAreLeast", fn := fun _ => fun
  | [d1, d2] => { results := [.lit (.bool false)], args := [d1, d2] }
  | _ => none }
def GapsAreLeastWrongFalsely : Prop := gapsAreLeastRow.holds Try.pinned (OpenSpec.ofChange gapsAreLeastWrong)

/-- 'etchhouselaw1.PiecesMakeIt': WHATEVER THE INPUT: true; the input reads as it did. -/
def piecesMakeItSpec : ChangeSpec := { name := "piecesMakeIt", fn := fun _ => fun
  | [d] => { results := [.lit (.bool true)], args := [d] }
  | _ => none }
def piecesMakeItRow : OpenClaim := { program := "ytnlhigfglfahiaa", sum := "5e34dd0fcfdbb7d36b0b285f0dd5f51979cc61ce2079387a60545072a43cbcba", func := "etchhouse/etchhouselaw1.PiecesMakeIt", spec := "piecesMakeIt", unfollowed := true, recurses := true, plainKeys := false, apart := false }
def PiecesMakeItSaid : Prop := piecesMakeItRow.holds Try.pinned (OpenSpec.ofChange piecesMakeItSpec)

/-- ITS FALSE NEIGHBOUR: 'it returns false'. Refute it at one input. -/
def piecesMakeItWrong : ChangeSpec := { name := "piecesMakeIt", fn := fun _ => fun
  | [d] => { results := [.lit (.bool false)], args := [d] }
  | _ => none }
def PiecesMakeItWrongFalsely : Prop := piecesMakeItRow.holds Try.pinned (OpenSpec.ofChange piecesMakeItWrong)

/-- 'etchhouselaw1.PiecesMatchSpec': WHATEVER THE INPUT: true; the input reads as it did. -/
def piecesMatchSpecSpec : ChangeSpec := { name := "piecesMatchSpec", fn := fun _ => fun
  | [d] => { results := [.lit (.bool true)], args := [d] }
  | _ => none }
def piecesMatchSpecRow : OpenClaim := { program := "ytnlhigfglfahiaa", sum := "5e34dd0fcfdbb7d36b0b285f0dd5f51979cc61ce2079387a60545072a43cbcba", func := "etchhouse/etchhouselaw1.PiecesMatchSpec", spec := "piecesMatchSpec", unfollowed := true, recurses := true, plainKeys := false, apart := false }
def PiecesMatchSpecSaid : Prop := piecesMatchSpecRow.holds Try.pinned (OpenSpec.ofChange piecesMatchSpecSpec)

/-- ITS FALSE NEIGHBOUR: 'it returns false'. Refute it at one input. -/
def piecesMatchSpecWrong : ChangeSpec := { name := "piecesMatchSpec", fn := fun _ => fun
  | [d] => { results := [.lit (.bool false)], args := [d] }
  | _ => none }
def PiecesMatchSpecWrongFalsely : Prop := piecesMatchSpecRow.holds Try.pinned (OpenSpec.ofChange piecesMatchSpecWrong)

/-- 'etchhouselaw1.HolesAreHoles': WHATEVER THE INPUT: true; the input reads as it did. -/
def holesAreHolesSpec : ChangeSpec := { name := "holesAreHoles", fn := fun _ => fun
  | [d] => { results := [.lit (.bool true)], args := [d] }
  | _ => none }
def holesAreHolesRow : OpenClaim := { program := "ytnlhigfglfahiaa", sum := "5e34dd0fcfdbb7d36b0b285f0dd5f51979cc61ce2079387a60545072a43cbcba", func := "etchhouse/etchhouselaw1.HolesAreHoles", spec := "holesAreHoles", unfollowed := true, recurses := true, plainKeys := false, apart := false }
def HolesAreHolesSaid : Prop := holesAreHolesRow.holds Try.pinned (OpenSpec.ofChange holesAreHolesSpec)

/-- ITS FALSE NEIGHBOUR: 'it returns false'. Refute it at one input. -/
def holesAreHolesWrong : ChangeSpec := { name := "holesAreHoles", fn := fun _ => fun
  | [d] => { results := [.lit (.bool false)], args := [d] }
  | _ => none }
def HolesAreHolesWrongFalsely : Prop := holesAreHolesRow.holds Try.pinned (OpenSpec.ofChange holesAreHolesWrong)

/-- 'etchhouselaw1.TurnedRegionsKeep': WHATEVER THE INPUT: true; the input reads as it did. -/
def turnedRegionsKeepSpec : ChangeSpec := { name := "turnedRegionsKeep", fn := fun _ => fun
  | [d1, d2] => { results := [.lit (.bool true)], args := [d1, d2] }
  | _ => none }
def turnedRegionsKeepRow : OpenClaim := { program := "ytnlhigfglfahiaa", sum := "5e34dd0fcfdbb7d36b0b285f0dd5f51979cc61ce2079387a60545072a43cbcba", func := "etchhouse/etchhouselaw1.TurnedRegionsKeep", spec := "turnedRegionsKeep", unfollowed := true, recurses := true, plainKeys := false, apart := false }
def TurnedRegionsKeepSaid : Prop := turnedRegionsKeepRow.holds Try.pinned (OpenSpec.ofChange turnedRegionsKeepSpec)

/-- ITS FALSE NEIGHBOUR: 'it returns false'. Refute it at one input. -/
def turnedRegionsKeepWrong : ChangeSpec := { name := "turnedRegionsKeep", fn := fun _ => fun
  | [d1, d2] => { results := [.lit (.bool false)], args := [d1, d2] }
  | _ => none }
def TurnedRegionsKeepWrongFalsely : Prop := turnedRegionsKeepRow.holds Try.pinned (OpenSpec.ofChange turnedRegionsKeepWrong)

/-- 'etchhouselaw1.OutlinesComeBack': WHATEVER THE INPUT: true; the input reads as it did. -/
def outlinesComeBackSpec : ChangeSpec := { name := "outlinesComeBack", fn := fun _ => fun
  | [d] => { results := [.lit (.bool true)], args := [d] }
  | _ => none }
def outlinesComeBackRow : OpenClaim := { program := "ytnlhigfglfahiaa", sum := "5e34dd0fcfdbb7d36b0b285f0dd5f51979cc61ce2079387a60545072a43cbcba", func := "etchhouse/etchhouselaw1.OutlinesComeBack", spec := "outlinesComeBack", unfollowed := true, recurses := true, plainKeys := false, apart := false }
def OutlinesComeBackSaid : Prop := outlinesComeBackRow.holds Try.pinned (OpenSpec.ofChange outlinesComeBackSpec)

/-- ITS FALSE NEIGHBOUR: 'it returns false'. Refute it at one input. -/
def outlinesComeBackWrong : ChangeSpec := { name := "outlinesComeBack", fn := fun _ => fun
  | [d] => { results := [.lit (.bool false)], args := [d] }
  | _ => none }
def OutlinesComeBackWrongFalsely : Prop := outlinesComeBackRow.holds Try.pinned (OpenSpec.ofChange outlinesComeBackWrong)

/- THE SECOND FORM. 'bulk': how many values and letters a reading holds, each counted each time it is reached (what is shared counts as often as it is met; a slice's spare places count too). A statement '..UptoSaid' is the law's where the arguments, and the package variables that the reading takes, are together of bulk at most 1048576: NARROWER than '..Said'. Prove '..Said' where nothing that the law and all that it calls make is longer than what came in: it says more and counts as full. Else prove '..UptoSaid'. A law counts once. -/
mutual
def uptoBulk {H : Type} : DataW H → Nat
  | .lit (.string bytes) => bytes.length + 1
  | .lit _ => 1
  | .nil => 1
  | .ptr d => uptoBulk d + 1
  | .slice elems spare => uptoBulkAll elems + uptoBulkAll spare + 1
  | .agg parts => uptoBulkAll parts + 1
  | .iface _ d => uptoBulk d + 1
  | .map entries => uptoBulkEntries entries + 1
  | .held _ => 1
def uptoBulkAll {H : Type} : List (DataW H) → Nat
  | [] => 0
  | d :: r => uptoBulk d + uptoBulkAll r
def uptoBulkEntries {H : Type} : List (Lit × DataW H) → Nat
  | [] => 0
  | x :: r => uptoBulkEntry x + uptoBulkEntries r
def uptoBulkEntry {H : Type} : Lit × DataW H → Nat
  | (.string bytes, d) => bytes.length + uptoBulk d + 1
  | (_, d) => uptoBulk d + 1
 end
def uptoSmall : (H : Type) → List (DataW H) → Bool := fun _ ds => decide (uptoBulkAll ds ≤ 1048576)
def OpenSpec.upto (s : _root_.Go.ChangeSpec) : _root_.Go.OpenSpec := { _root_.Go.OpenSpec.ofChange s with cond := some uptoSmall }

/-- 'etchhouselaw1.GrowsAdd', WHERE WHAT IT READS IS OF BULK AT MOST 1048576: true; the input reads as it did. -/
def growsAddUptoRow : OpenClaim := { program := "ytnlhigfglfahiaa", sum := "5e34dd0fcfdbb7d36b0b285f0dd5f51979cc61ce2079387a60545072a43cbcba", func := "etchhouse/etchhouselaw1.GrowsAdd", spec := "growsAdd", unfollowed := true, recurses := true, plainKeys := false, apart := false, narrowed := true }
def GrowsAddUptoSaid : Prop := growsAddUptoRow.holds Try.pinned (OpenSpec.upto growsAddSpec)

/-- 'etchhouselaw1.GrowsByPoints', WHERE WHAT IT READS IS OF BULK AT MOST 1048576: true; the input reads as it did. -/
def growsByPointsUptoRow : OpenClaim := { program := "ytnlhigfglfahiaa", sum := "5e34dd0fcfdbb7d36b0b285f0dd5f51979cc61ce2079387a60545072a43cbcba", func := "etchhouse/etchhouselaw1.GrowsByPoints", spec := "growsByPoints", unfollowed := true, recurses := true, plainKeys := false, apart := false, narrowed := true }
def GrowsByPointsUptoSaid : Prop := growsByPointsUptoRow.holds Try.pinned (OpenSpec.upto growsByPointsSpec)

/-- 'etchhouselaw1.GapsAreLeast', WHERE WHAT IT READS IS OF BULK AT MOST 1048576: true; the input reads as it did. -/
def gapsAreLeastUptoRow : OpenClaim := { program := "ytnlhigfglfahiaa", sum := "5e34dd0fcfdbb7d36b0b285f0dd5f51979cc61ce2079387a60545072a43cbcba", func := "etchhouse/etchhouselaw1.GapsAreLeast", spec := "gapsAreLeast", unfollowed := true, recurses := true, plainKeys := false, apart := false, narrowed := true }
def GapsAreLeastUptoSaid : Prop := gapsAreLeastUptoRow.holds Try.pinned (OpenSpec.upto gapsAreLeastSpec)

/-- 'etchhouselaw1.PiecesMakeIt', WHERE WHAT IT READS IS OF BULK AT MOST 1048576: true; the input reads as it did. -/
def piecesMakeItUptoRow : OpenClaim := { program := "ytnlhigfglfahiaa", sum := "5e34dd0fcfdbb7d36b0b285f0dd5f51979cc61ce2079387a60545072a43cbcba", func := "etchhouse/etchhouselaw1.PiecesMakeIt", spec := "piecesMakeIt", unfollowed := true, recurses := true, plainKeys := false, apart := false, narrowed := true }
def PiecesMakeItUptoSaid : Prop := piecesMakeItUptoRow.holds Try.pinned (OpenSpec.upto piecesMakeItSpec)

/-- 'etchhouselaw1.PiecesMatchSpec', WHERE WHAT IT READS IS OF BULK AT MOST 1048576: true; the input reads as it did. -/
def piecesMatchSpecUptoRow : OpenClaim := { program := "ytnlhigfglfahiaa", sum := "5e34dd0fcfdbb7d36b0b285f0dd5f51979cc61ce2079387a60545072a43cbcba", func := "etchhouse/etchhouselaw1.PiecesMatchSpec", spec := "piecesMatchSpec", unfollowed := true, recurses := true, plainKeys := false, apart := false, narrowed := true }
def PiecesMatchSpecUptoSaid : Prop := piecesMatchSpecUptoRow.holds Try.pinned (OpenSpec.upto piecesMatchSpecSpec)

/-- 'etchhouselaw1.HolesAreHoles', WHERE WHAT IT READS IS OF BULK AT MOST 1048576: true; the input reads as it did. -/
def holesAreHolesUptoRow : OpenClaim := { program := "ytnlhigfglfahiaa", sum := "5e34dd0fcfdbb7d36b0b285f0dd5f51979cc61ce2079387a60545072a43cbcba", func := "etchhouse/etchhouselaw1.HolesAreHoles", spec := "holesAreHoles", unfollowed := true, recurses := true, plainKeys := false, apart := false, narrowed := true }
def HolesAreHolesUptoSaid : Prop := holesAreHolesUptoRow.holds Try.pinned (OpenSpec.upto holesAreHolesSpec)

/-- 'etchhouselaw1.TurnedRegionsKeep', WHERE WHAT IT READS IS OF BULK AT MOST 1048576: true; the input reads as it did. -/
def turnedRegionsKeepUptoRow : OpenClaim := { program := "ytnlhigfglfahiaa", sum := "5e34dd0fcfdbb7d36b0b285f0dd5f51979cc61ce2079387a60545072a43cbcba", func := "etchhouse/etchhouselaw1.TurnedRegionsKeep", spec := "turnedRegionsKeep", unfollowed := true, recurses := true, plainKeys := false, apart := false, narrowed := true }
def TurnedRegionsKeepUptoSaid : Prop := turnedRegionsKeepUptoRow.holds Try.pinned (OpenSpec.upto turnedRegionsKeepSpec)

/-- 'etchhouselaw1.OutlinesComeBack', WHERE WHAT IT READS IS OF BULK AT MOST 1048576: true; the input reads as it did. -/
def outlinesComeBackUptoRow : OpenClaim := { program := "ytnlhigfglfahiaa", sum := "5e34dd0fcfdbb7d36b0b285f0dd5f51979cc61ce2079387a60545072a43cbcba", func := "etchhouse/etchhouselaw1.OutlinesComeBack", spec := "outlinesComeBack", unfollowed := true, recurses := true, plainKeys := false, apart := false, narrowed := true }
def OutlinesComeBackUptoSaid : Prop := outlinesComeBackUptoRow.holds Try.pinned (OpenSpec.upto outlinesComeBackSpec)

end Rows
end Go.Proofs.Ytnlhigfglfahiaa
