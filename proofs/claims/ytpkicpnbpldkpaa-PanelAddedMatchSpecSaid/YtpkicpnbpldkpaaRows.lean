/-
  No cell of these rows narrows 'for every input' (looked for: loops, veiled, ifaces, maps, wideKeys, modest, calm, conditions, laid).
  DERIVED. THE GIVEN ROWS OF THIS SEAT. 11 by the template 'for every input the law returns true; each argument reads behind the call as it read before'; 0 by the template 'total and deterministic' (their statements: YtpkicpnbpldkpaaTotals.lean).
  GIVEN WITH THE SEED: the statements are not yours to turn. If you find one false, say at which input.
  Laid BY PROGRAM, IN A SANDBOX (cutbox-rows.mjs): the forced cells as the released guide's own fill.sh prints them over the translation 270e7ccd11ee9227… (all of the seat's roots in one cut). By AI agents, Wed Nov 11 2026. No macro, syntax, notation, axiom, sorry.
-/
import Derived.Test.YtpkicpnbpldkpaaChecked
import GoSem.Claim
import GoSem.ClaimJoined
import GoSem.ClaimMapViews
import Derived.JoinedTies
import Derived.KernelRfl
namespace Go.Proofs.Ytpkicpnbpldkpaa
/- THE CELL 'sum', in the pinned program and in every row, IS THE sha256 OF THE DUMP (.gsa) THAT YtpkicpnbpldkpaaProg.lean LOADS. Nothing in Lean hashes anything: it is a label: what it is worth is what the hold of that sum in a sandbox is worth. -/
noncomputable def Try.pinned : Pinned := { name := "ytpkicpnbpldkpaa", sum := "270e7ccd11ee92271510b1bfdf0e243bd710d9fbcb59006bb2f62cfe84e47c3e", checked := Try.checked }
namespace Rows
def none {H : Type} : Left H := { results := [], args := [] }

/-- 'etchhouselaw9.PanelNeededIsLeast': WHATEVER THE INPUT: true; the input reads as it did. -/
def panelNeededIsLeastSpec : ChangeSpec := { name := "panelNeededIsLeast", fn := fun _ => fun
  | [d1, d2, d3] => { results := [.lit (.bool true)], args := [d1, d2, d3] }
  | _ => none }
def panelNeededIsLeastRow : OpenClaim := { program := "ytpkicpnbpldkpaa", sum := "270e7ccd11ee92271510b1bfdf0e243bd710d9fbcb59006bb2f62cfe84e47c3e", func := "etchhouse/etchhouselaw9.PanelNeededIsLeast", spec := "panelNeededIsLeast", unfollowed := true, recurses := true, apart := false }
def PanelNeededIsLeastSaid : Prop := panelNeededIsLeastRow.holds Try.pinned (OpenSpec.ofChange panelNeededIsLeastSpec)

/-- ITS FALSE NEIGHBOUR: 'it returns false'. Refute it at one input. -/
def panelNeededIsLeastWrong : ChangeSpec := { name := "panelNeededIsLeast", fn := fun _ => fun
  | [d1, d2, d3] => { results := [.lit (.bool false)], args := [d1, d2, d3] }
  | _ => none }
def PanelNeededIsLeastWrongFalsely : Prop := panelNeededIsLeastRow.holds Try.pinned (OpenSpec.ofChange panelNeededIsLeastWrong)

/-- 'etchhouselaw9.TabsHold': WHATEVER THE INPUT: true; the input reads as it did. -/
def tabsHoldSpec : ChangeSpec := { name := "tabsHold", fn := fun _ => fun
  | [d1, d2, d3] => { results := [.lit (.bool true)], args := [d1, d2, d3] }
  | _ => none }
def tabsHoldRow : OpenClaim := { program := "ytpkicpnbpldkpaa", sum := "270e7ccd11ee92271510b1bfdf0e243bd710d9fbcb59006bb2f62cfe84e47c3e", func := "etchhouse/etchhouselaw9.TabsHold", spec := "tabsHold", unfollowed := true, recurses := true, apart := false }
def TabsHoldSaid : Prop := tabsHoldRow.holds Try.pinned (OpenSpec.ofChange tabsHoldSpec)

/-- ITS FALSE NEIGHBOUR: 'it returns false'. Refute it at one input. -/
def tabsHoldWrong : ChangeSpec := { name := "tabsHold", fn := fun _ => fun
  | [d1, d2, d3] => { results := [.lit (.bool false)], args := [d1, d2, d3] }
  | _ => none }
def TabsHoldWrongFalsely : Prop := tabsHoldRow.holds Try.pinned (OpenSpec.ofChange tabsHoldWrong)

/-- 'etchhouselaw9.TabsMatchSpec': WHATEVER THE INPUT: true; the input reads as it did. -/
def tabsMatchSpecSpec : ChangeSpec := { name := "tabsMatchSpec", fn := fun _ => fun
  | [d1, d2, d3] => { results := [.lit (.bool true)], args := [d1, d2, d3] }
  | _ => none }
def tabsMatchSpecRow : OpenClaim := { program := "ytpkicpnbpldkpaa", sum := "270e7ccd11ee92271510b1bfdf0e243bd710d9fbcb59006bb2f62cfe84e47c3e", func := "etchhouse/etchhouselaw9.TabsMatchSpec", spec := "tabsMatchSpec", unfollowed := true, recurses := true, apart := false }
def TabsMatchSpecSaid : Prop := tabsMatchSpecRow.holds Try.pinned (OpenSpec.ofChange tabsMatchSpecSpec)

/-- ITS FALSE NEIGHBOUR: 'it returns false'. Refute it at one input. -/
def tabsMatchSpecWrong : ChangeSpec := { name := "tabsMatchSpec", fn := fun _ => fun
  | [d1, d2, d3] => { results := [.lit (.bool false)], args := [d1, d2, d3] }
  | _ => none }
def TabsMatchSpecWrongFalsely : Prop := tabsMatchSpecRow.holds Try.pinned (OpenSpec.ofChange tabsMatchSpecWrong)

/-- 'etchhouselaw9.PanelPointsMatchSpec': WHATEVER THE INPUT: true; the input reads as it did. -/
def panelPointsMatchSpecSpec : ChangeSpec := { name := "panelPointsMatchSpec", fn := fun _ => fun
  | [d1, d2, d3] => { results := [.lit (.bool true)], args := [d1, d2, d3] }
  | _ => none }
def panelPointsMatchSpecRow : OpenClaim := { program := "ytpkicpnbpldkpaa", sum := "270e7ccd11ee92271510b1bfdf0e243bd710d9fbcb59006bb2f62cfe84e47c3e", func := "etchhouse/etchhouselaw9.PanelPointsMatchSpec", spec := "panelPointsMatchSpec", unfollowed := true, recurses := true, apart := false }
def PanelPointsMatchSpecSaid : Prop := panelPointsMatchSpecRow.holds Try.pinned (OpenSpec.ofChange panelPointsMatchSpecSpec)

/-- ITS FALSE NEIGHBOUR: 'it returns false'. Refute it at one input. -/
def panelPointsMatchSpecWrong : ChangeSpec := { name := "panelPointsMatchSpec", fn := fun _ => fun
  | [d1, d2, d3] => { results := [.lit (.bool false)], args := [d1, d2, d3] }
  | _ => none }
def PanelPointsMatchSpecWrongFalsely : Prop := panelPointsMatchSpecRow.holds Try.pinned (OpenSpec.ofChange panelPointsMatchSpecWrong)

/-- 'etchhouselaw9.PanelPointsComeBack': WHATEVER THE INPUT: true; the input reads as it did. -/
def panelPointsComeBackSpec : ChangeSpec := { name := "panelPointsComeBack", fn := fun _ => fun
  | [d1, d2, d3] => { results := [.lit (.bool true)], args := [d1, d2, d3] }
  | _ => none }
def panelPointsComeBackRow : OpenClaim := { program := "ytpkicpnbpldkpaa", sum := "270e7ccd11ee92271510b1bfdf0e243bd710d9fbcb59006bb2f62cfe84e47c3e", func := "etchhouse/etchhouselaw9.PanelPointsComeBack", spec := "panelPointsComeBack", unfollowed := true, recurses := true, apart := false }
def PanelPointsComeBackSaid : Prop := panelPointsComeBackRow.holds Try.pinned (OpenSpec.ofChange panelPointsComeBackSpec)

/-- ITS FALSE NEIGHBOUR: 'it returns false'. Refute it at one input. -/
def panelPointsComeBackWrong : ChangeSpec := { name := "panelPointsComeBack", fn := fun _ => fun
  | [d1, d2, d3] => { results := [.lit (.bool false)], args := [d1, d2, d3] }
  | _ => none }
def PanelPointsComeBackWrongFalsely : Prop := panelPointsComeBackRow.holds Try.pinned (OpenSpec.ofChange panelPointsComeBackWrong)

/-- 'etchhouselaw9.PanelGridsMatchSpec': WHATEVER THE INPUT: true; the input reads as it did. -/
def panelGridsMatchSpecSpec : ChangeSpec := { name := "panelGridsMatchSpec", fn := fun _ => fun
  | [d1, d2, d3] => { results := [.lit (.bool true)], args := [d1, d2, d3] }
  | _ => none }
def panelGridsMatchSpecRow : OpenClaim := { program := "ytpkicpnbpldkpaa", sum := "270e7ccd11ee92271510b1bfdf0e243bd710d9fbcb59006bb2f62cfe84e47c3e", func := "etchhouse/etchhouselaw9.PanelGridsMatchSpec", spec := "panelGridsMatchSpec", unfollowed := true, recurses := true, apart := false }
def PanelGridsMatchSpecSaid : Prop := panelGridsMatchSpecRow.holds Try.pinned (OpenSpec.ofChange panelGridsMatchSpecSpec)

/-- ITS FALSE NEIGHBOUR: 'it returns false'. Refute it at one input. -/
def panelGridsMatchSpecWrong : ChangeSpec := { name := "panelGridsMatchSpec", fn := fun _ => fun
  | [d1, d2, d3] => { results := [.lit (.bool false)], args := [d1, d2, d3] }
  | _ => none }
def PanelGridsMatchSpecWrongFalsely : Prop := panelGridsMatchSpecRow.holds Try.pinned (OpenSpec.ofChange panelGridsMatchSpecWrong)

/-- 'etchhouselaw9.PanelRowsAreMost': WHATEVER THE INPUT: true; the input reads as it did. -/
def panelRowsAreMostSpec : ChangeSpec := { name := "panelRowsAreMost", fn := fun _ => fun
  | [d1, d2, d3] => { results := [.lit (.bool true)], args := [d1, d2, d3] }
  | _ => none }
def panelRowsAreMostRow : OpenClaim := { program := "ytpkicpnbpldkpaa", sum := "270e7ccd11ee92271510b1bfdf0e243bd710d9fbcb59006bb2f62cfe84e47c3e", func := "etchhouse/etchhouselaw9.PanelRowsAreMost", spec := "panelRowsAreMost", unfollowed := true, recurses := true, apart := false }
def PanelRowsAreMostSaid : Prop := panelRowsAreMostRow.holds Try.pinned (OpenSpec.ofChange panelRowsAreMostSpec)

/-- ITS FALSE NEIGHBOUR: 'it returns false'. Refute it at one input. -/
def panelRowsAreMostWrong : ChangeSpec := { name := "panelRowsAreMost", fn := fun _ => fun
  | [d1, d2, d3] => { results := [.lit (.bool false)], args := [d1, d2, d3] }
  | _ => none }
def PanelRowsAreMostWrongFalsely : Prop := panelRowsAreMostRow.holds Try.pinned (OpenSpec.ofChange panelRowsAreMostWrong)

/-- 'etchhouselaw9.PanelAddedIsOneMore': WHATEVER THE INPUT: true; the input reads as it did. -/
def panelAddedIsOneMoreSpec : ChangeSpec := { name := "panelAddedIsOneMore", fn := fun _ => fun
  | [d1, d2] => { results := [.lit (.bool true)], args := [d1, d2] }
  | _ => none }
def panelAddedIsOneMoreRow : OpenClaim := { program := "ytpkicpnbpldkpaa", sum := "270e7ccd11ee92271510b1bfdf0e243bd710d9fbcb59006bb2f62cfe84e47c3e", func := "etchhouse/etchhouselaw9.PanelAddedIsOneMore", spec := "panelAddedIsOneMore", unfollowed := true, recurses := true, apart := false }
def PanelAddedIsOneMoreSaid : Prop := panelAddedIsOneMoreRow.holds Try.pinned (OpenSpec.ofChange panelAddedIsOneMoreSpec)

/-- ITS FALSE NEIGHBOUR: 'it returns false'. Refute it at one input. -/
def panelAddedIsOneMoreWrong : ChangeSpec := { name := "panelAddedIsOneMore", fn := fun _ => fun
  | [d1, d2] => { results := [.lit (.bool false)], args := [d1, d2] }
  | _ => none }
def PanelAddedIsOneMoreWrongFalsely : Prop := panelAddedIsOneMoreRow.holds Try.pinned (OpenSpec.ofChange panelAddedIsOneMoreWrong)

/-- 'etchhouselaw9.PanelAddedMatchSpec': WHATEVER THE INPUT: true; the input reads as it did. -/
def panelAddedMatchSpecSpec : ChangeSpec := { name := "panelAddedMatchSpec", fn := fun _ => fun
  | [d1, d2, d3] => { results := [.lit (.bool true)], args := [d1, d2, d3] }
  | _ => none }
def panelAddedMatchSpecRow : OpenClaim := { program := "ytpkicpnbpldkpaa", sum := "270e7ccd11ee92271510b1bfdf0e243bd710d9fbcb59006bb2f62cfe84e47c3e", func := "etchhouse/etchhouselaw9.PanelAddedMatchSpec", spec := "panelAddedMatchSpec", unfollowed := true, recurses := true, apart := false }
def PanelAddedMatchSpecSaid : Prop := panelAddedMatchSpecRow.holds Try.pinned (OpenSpec.ofChange panelAddedMatchSpecSpec)

/-- ITS FALSE NEIGHBOUR: 'it returns false'. Refute it at one input. -/
def panelAddedMatchSpecWrong : ChangeSpec := { name := "panelAddedMatchSpec", fn := fun _ => fun
  | [d1, d2, d3] => { results := [.lit (.bool false)], args := [d1, d2, d3] }
  | _ => none }
def PanelAddedMatchSpecWrongFalsely : Prop := panelAddedMatchSpecRow.holds Try.pinned (OpenSpec.ofChange panelAddedMatchSpecWrong)

/-- 'etchhouselaw9.PanelOrderHasAll': WHATEVER THE INPUT: true; the input reads as it did. -/
def panelOrderHasAllSpec : ChangeSpec := { name := "panelOrderHasAll", fn := fun _ => fun
  | [d] => { results := [.lit (.bool true)], args := [d] }
  | _ => none }
def panelOrderHasAllRow : OpenClaim := { program := "ytpkicpnbpldkpaa", sum := "270e7ccd11ee92271510b1bfdf0e243bd710d9fbcb59006bb2f62cfe84e47c3e", func := "etchhouse/etchhouselaw9.PanelOrderHasAll", spec := "panelOrderHasAll", unfollowed := true, recurses := true, apart := false }
def PanelOrderHasAllSaid : Prop := panelOrderHasAllRow.holds Try.pinned (OpenSpec.ofChange panelOrderHasAllSpec)

/-- ITS FALSE NEIGHBOUR: 'it returns false'. Refute it at one input. -/
def panelOrderHasAllWrong : ChangeSpec := { name := "panelOrderHasAll", fn := fun _ => fun
  | [d] => { results := [.lit (.bool false)], args := [d] }
  | _ => none }
def PanelOrderHasAllWrongFalsely : Prop := panelOrderHasAllRow.holds Try.pinned (OpenSpec.ofChange panelOrderHasAllWrong)

/-- 'etchhouselaw9.PanelsMatchSpec': WHATEVER THE INPUT: true; the input reads as it did. -/
def panelsMatchSpecSpec : ChangeSpec := { name := "panelsMatchSpec", fn := fun _ => fun
  | [d] => { results := [.lit (.bool true)], args := [d] }
  | _ => none }
def panelsMatchSpecRow : OpenClaim := { program := "ytpkicpnbpldkpaa", sum := "270e7ccd11ee92271510b1bfdf0e243bd710d9fbcb59006bb2f62cfe84e47c3e", func := "etchhouse/etchhouselaw9.PanelsMatchSpec", spec := "panelsMatchSpec", unfollowed := true, recurses := true, apart := false }
def PanelsMatchSpecSaid : Prop := panelsMatchSpecRow.holds Try.pinned (OpenSpec.ofChange panelsMatchSpecSpec)

/-- ITS FALSE NEIGHBOUR: 'it returns false'. Refute it at one input. -/
def panelsMatchSpecWrong : ChangeSpec := { name := "panelsMatchSpec", fn := fun _ => fun
  | [d] => { results := [.lit (.bool false)], args := [d] }
  | _ => none }
def PanelsMatchSpecWrongFalsely : Prop := panelsMatchSpecRow.holds Try.pinned (OpenSpec.ofChange panelsMatchSpecWrong)

/- THE SECOND FORM. 'bulk': how many values and letters a reading holds, each counted each time it is reached (what is shared counts as often as it is met; a slice's spare places count too). A statement '..UptoSaid' is the law's where the arguments, and the package variables that the reading takes, are together of bulk at most 1048576: NARROWER than '..Said'. Prove '..Said' where nothing that the law and all that it calls make is longer than what came in: it says more and counts as full. Else prove '..UptoSaid'. A law counts once. -/
mutual
def uptoBulk {H : Type} : DataW H → Nat
  | .lit (.string bytes) => bytes.length + 1
  | .lit _ => 1
  | .nil => 1
  | .ptr d => uptoBulk d + 1
  | .slice elems spare => uptoBulkAll elems + uptoBulkAll spare + 1
  | .agg parts => uptoBulkAll parts + 1
  | .iface _ d => uptoBulk d + 1
  | .map entries => uptoBulkEntries entries + 1
  | .held _ => 1
def uptoBulkAll {H : Type} : List (DataW H) → Nat
  | [] => 0
  | d :: r => uptoBulk d + uptoBulkAll r
def uptoBulkEntries {H : Type} : List (Lit × DataW H) → Nat
  | [] => 0
  | x :: r => uptoBulkEntry x + uptoBulkEntries r
def uptoBulkEntry {H : Type} : Lit × DataW H → Nat
  | (.string bytes, d) => bytes.length + uptoBulk d + 1
  | (_, d) => uptoBulk d + 1
 end
def uptoSmall : (H : Type) → List (DataW H) → Bool := fun _ ds => decide (uptoBulkAll ds ≤ 1048576)
def OpenSpec.upto (s : _root_.Go.ChangeSpec) : _root_.Go.OpenSpec := { _root_.Go.OpenSpec.ofChange s with cond := some uptoSmall }

/-- 'etchhouselaw9.PanelNeededIsLeast', WHERE WHAT IT READS IS OF BULK AT MOST 1048576: true; the input reads as it did. -/
def panelNeededIsLeastUptoRow : OpenClaim := { program := "ytpkicpnbpldkpaa", sum := "270e7ccd11ee92271510b1bfdf0e243bd710d9fbcb59006bb2f62cfe84e47c3e", func := "etchhouse/etchhouselaw9.PanelNeededIsLeast", spec := "panelNeededIsLeast", unfollowed := true, recurses := true, apart := false, narrowed := true }
def PanelNeededIsLeastUptoSaid : Prop := panelNeededIsLeastUptoRow.holds Try.pinned (OpenSpec.upto panelNeededIsLeastSpec)

/-- 'etchhouselaw9.TabsHold', WHERE WHAT IT READS IS OF BULK AT MOST 1048576: true; the input reads as it did. -/
def tabsHoldUptoRow : OpenClaim := { program := "ytpkicpnbpldkpaa", sum := "270e7ccd11ee92271510b1bfdf0e243bd710d9fbcb59006bb2f62cfe84e47c3e", func := "etchhouse/etchhouselaw9.TabsHold", spec := "tabsHold", unfollowed := true, recurses := true, apart := false, narrowed := true }
def TabsHoldUptoSaid : Prop := tabsHoldUptoRow.holds Try.pinned (OpenSpec.upto tabsHoldSpec)

/-- 'etchhouselaw9.TabsMatchSpec', WHERE WHAT IT READS IS OF BULK AT MOST 1048576: true; the input reads as it did. -/
def tabsMatchSpecUptoRow : OpenClaim := { program := "ytpkicpnbpldkpaa", sum := "270e7ccd11ee92271510b1bfdf0e243bd710d9fbcb59006bb2f62cfe84e47c3e", func := "etchhouse/etchhouselaw9.TabsMatchSpec", spec := "tabsMatchSpec", unfollowed := true, recurses := true, apart := false, narrowed := true }
def TabsMatchSpecUptoSaid : Prop := tabsMatchSpecUptoRow.holds Try.pinned (OpenSpec.upto tabsMatchSpecSpec)

/-- 'etchhouselaw9.PanelPointsMatchSpec', WHERE WHAT IT READS IS OF BULK AT MOST 1048576: true; the input reads as it did. -/
def panelPointsMatchSpecUptoRow : OpenClaim := { program := "ytpkicpnbpldkpaa", sum := "270e7ccd11ee92271510b1bfdf0e243bd710d9fbcb59006bb2f62cfe84e47c3e", func := "etchhouse/etchhouselaw9.PanelPointsMatchSpec", spec := "panelPointsMatchSpec", unfollowed := true, recurses := true, apart := false, narrowed := true }
def PanelPointsMatchSpecUptoSaid : Prop := panelPointsMatchSpecUptoRow.holds Try.pinned (OpenSpec.upto panelPointsMatchSpecSpec)

/-- 'etchhouselaw9.PanelPointsComeBack', WHERE WHAT IT READS IS OF BULK AT MOST 1048576: true; the input reads as it did. -/
def panelPointsComeBackUptoRow : OpenClaim := { program := "ytpkicpnbpldkpaa", sum := "270e7ccd11ee92271510b1bfdf0e243bd710d9fbcb59006bb2f62cfe84e47c3e", func := "etchhouse/etchhouselaw9.PanelPointsComeBack", spec := "panelPointsComeBack", unfollowed := true, recurses := true, apart := false, narrowed := true }
def PanelPointsComeBackUptoSaid : Prop := panelPointsComeBackUptoRow.holds Try.pinned (OpenSpec.upto panelPointsComeBackSpec)

/-- 'etchhouselaw9.PanelGridsMatchSpec', WHERE WHAT IT READS IS OF BULK AT MOST 1048576: true; the input reads as it did. -/
def panelGridsMatchSpecUptoRow : OpenClaim := { program := "ytpkicpnbpldkpaa", sum := "270e7ccd11ee92271510b1bfdf0e243bd710d9fbcb59006bb2f62cfe84e47c3e", func := "etchhouse/etchhouselaw9.PanelGridsMatchSpec", spec := "panelGridsMatchSpec", unfollowed := true, recurses := true, apart := false, narrowed := true }
def PanelGridsMatchSpecUptoSaid : Prop := panelGridsMatchSpecUptoRow.holds Try.pinned (OpenSpec.upto panelGridsMatchSpecSpec)

/-- 'etchhouselaw9.PanelRowsAreMost', WHERE WHAT IT READS IS OF BULK AT MOST 1048576: true; the input reads as it did. -/
def panelRowsAreMostUptoRow : OpenClaim := { program := "ytpkicpnbpldkpaa", sum := "270e7ccd11ee92271510b1bfdf0e243bd710d9fbcb59006bb2f62cfe84e47c3e", func := "etchhouse/etchhouselaw9.PanelRowsAreMost", spec := "panelRowsAreMost", unfollowed := true, recurses := true, apart := false, narrowed := true }
def PanelRowsAreMostUptoSaid : Prop := panelRowsAreMostUptoRow.holds Try.pinned (OpenSpec.upto panelRowsAreMostSpec)

/-- 'etchhouselaw9.PanelAddedIsOneMore', WHERE WHAT IT READS IS OF BULK AT MOST 1048576: true; the input reads as it did. -/
def panelAddedIsOneMoreUptoRow : OpenClaim := { program := "ytpkicpnbpldkpaa", sum := "270e7ccd11ee92271510b1bfdf0e243bd710d9fbcb59006bb2f62cfe84e47c3e", func := "etchhouse/etchhouselaw9.PanelAddedIsOneMore", spec := "panelAddedIsOneMore", unfollowed := true, recurses := true, apart := false, narrowed := true }
def PanelAddedIsOneMoreUptoSaid : Prop := panelAddedIsOneMoreUptoRow.holds Try.pinned (OpenSpec.upto panelAddedIsOneMoreSpec)

/-- 'etchhouselaw9.PanelAddedMatchSpec', WHERE WHAT IT READS IS OF BULK AT MOST 1048576: true; the input reads as it did. -/
def panelAddedMatchSpecUptoRow : OpenClaim := { program := "ytpkicpnbpldkpaa", sum := "270e7ccd11ee92271510b1bfdf0e243bd710d9fbcb59006bb2f62cfe84e47c3e", func := "etchhouse/etchhouselaw9.PanelAddedMatchSpec", spec := "panelAddedMatchSpec", unfollowed := true, recurses := true, apart := false, narrowed := true }
def PanelAddedMatchSpecUptoSaid : Prop := panelAddedMatchSpecUptoRow.holds Try.pinned (OpenSpec.upto panelAddedMatchSpecSpec)

/-- 'etchhouselaw9.PanelOrderHasAll', WHERE WHAT IT READS IS OF BULK AT MOST 1048576: true; the input reads as it did. -/
def panelOrderHasAllUptoRow : OpenClaim := { program := "ytpkicpnbpldkpaa", sum := "270e7ccd11ee92271510b1bfdf0e243bd710d9fbcb59006bb2f62cfe84e47c3e", func := "etchhouse/etchhouselaw9.PanelOrderHasAll", spec := "panelOrderHasAll", unfollowed := true, recurses := true, apart := false, narrowed := true }
def PanelOrderHasAllUptoSaid : Prop := panelOrderHasAllUptoRow.holds Try.pinned (OpenSpec.upto panelOrderHasAllSpec)

/-- 'etchhouselaw9.PanelsMatchSpec', WHERE WHAT IT READS IS OF BULK AT MOST 1048576: true; the input reads as it did. -/
def panelsMatchSpecUptoRow : OpenClaim := { program := "ytpkicpnbpldkpaa", sum := "270e7ccd11ee92271510b1bfdf0e243bd710d9fbcb59006bb2f62cfe84e47c3e", func := "etchhouse/etchhouselaw9.PanelsMatchSpec", spec := "panelsMatchSpec", unfollowed := true, recurses := true, apart := false, narrowed := true }
def PanelsMatchSpecUptoSaid : Prop := panelsMatchSpecUptoRow.holds Try.pinned (OpenSpec.upto panelsMatchSpecSpec)

end Rows
end Go.Proofs.Ytpkicpnbpldkpaa
