/-
  No cell of these rows narrows 'for every input' (looked for: loops, veiled, ifaces, maps, wideKeys, modest, calm, conditions, laid).
  DERIVED. THE GIVEN ROWS OF THIS SEAT. 4 by the template 'for every input the law returns true; each argument reads behind the call as it read before'; 0 by the template 'total and deterministic' (their statements: YtfddmjoldoddlaaTotals.lean).
  GIVEN WITH THE SEED: the statements are not yours to turn. If you find one false, say at which input.
  Laid BY PROGRAM, IN A SANDBOX (cutbox-rows.mjs): the forced cells as the released guide's own fill.sh prints them over the translation 816dfba560e9dad5… (all of the seat's roots in one cut). By AI agents, Wed Nov 11 2026. No macro, syntax, notation, axiom, sorry.
-/
import Derived.Test.YtfddmjoldoddlaaChecked
import GoSem.Claim
import GoSem.ClaimJoined
import GoSem.ClaimMapViews
import Derived.JoinedTies
import Derived.KernelRfl
namespace Go.Proofs.Ytfddmjoldoddlaa
/- THE CELL 'sum', in the pinned program and in every row, IS THE sha256 OF THE DUMP (.gsa) THAT YtfddmjoldoddlaaProg.lean LOADS. Nothing in Lean hashes anything: it is a label: what it is worth is what the hold of that sum in a sandbox is worth. -/
noncomputable def Try.pinned : Pinned := { name := "ytfddmjoldoddlaa", sum := "816dfba560e9dad565df008c501bcff3753f6e4f217618b431bbf14b2a1b199d", checked := Try.checked }
namespace Rows
def none {H : Type} : Left H := { results := [], args := [] }

/-- 'etchhouselaw9.CutsComeApart': WHATEVER THE INPUT: true; the input reads as it did. -/
def cutsComeApartSpec : ChangeSpec := { name := "cutsComeApart", fn := fun _ => fun
  | [d] => { results := [.lit (.bool true)], args := [d] }
  | _ => none }
def cutsComeApartRow : OpenClaim := { program := "ytfddmjoldoddlaa", sum := "816dfba560e9dad565df008c501bcff3753f6e4f217618b431bbf14b2a1b199d", func := "etchhouse/etchhouselaw9.CutsComeApart", spec := "cutsComeApart", unfollowed := true, recurses := true, apart := false }
def CutsComeApartSaid : Prop := cutsComeApartRow.holds Try.pinned (OpenSpec.ofChange cutsComeApartSpec)

/-- ITS FALSE NEIGHBOUR: 'it returns false'. Refute it at one input. -/
def cutsComeApartWrong : ChangeSpec := { name := "cutsComeApart", fn := fun _ => fun
  | [d] => { results := [.lit (.bool false)], args := [d] }
  | _ => none }
def CutsComeApartWrongFalsely : Prop := cutsComeApartRow.holds Try.pinned (OpenSpec.ofChange cutsComeApartWrong)

/-- 'etchhouselaw9.CutsMatchSpec': WHATEVER THE INPUT: true; the input reads as it did. -/
def cutsMatchSpecSpec : ChangeSpec := { name := "cutsMatchSpec", fn := fun _ => fun
  | [d] => { results := [.lit (.bool true)], args := [d] }
  | _ => none }
def cutsMatchSpecRow : OpenClaim := { program := "ytfddmjoldoddlaa", sum := "816dfba560e9dad565df008c501bcff3753f6e4f217618b431bbf14b2a1b199d", func := "etchhouse/etchhouselaw9.CutsMatchSpec", spec := "cutsMatchSpec", unfollowed := true, recurses := true, apart := false }
def CutsMatchSpecSaid : Prop := cutsMatchSpecRow.holds Try.pinned (OpenSpec.ofChange cutsMatchSpecSpec)

/-- ITS FALSE NEIGHBOUR: 'it returns false'. Refute it at one input. -/
def cutsMatchSpecWrong : ChangeSpec := { name := "cutsMatchSpec", fn := fun _ => fun
  | [d] => { results := [.lit (.bool false)], args := [d] }
  | _ => none }
def CutsMatchSpecWrongFalsely : Prop := cutsMatchSpecRow.holds Try.pinned (OpenSpec.ofChange cutsMatchSpecWrong)

/-- 'etchhouselaw9.PanelOrderHasAll': WHATEVER THE INPUT: true; the input reads as it did. -/
def panelOrderHasAllSpec : ChangeSpec := { name := "panelOrderHasAll", fn := fun _ => fun
  | [d] => { results := [.lit (.bool true)], args := [d] }
  | _ => none }
def panelOrderHasAllRow : OpenClaim := { program := "ytfddmjoldoddlaa", sum := "816dfba560e9dad565df008c501bcff3753f6e4f217618b431bbf14b2a1b199d", func := "etchhouse/etchhouselaw9.PanelOrderHasAll", spec := "panelOrderHasAll", unfollowed := true, recurses := true, apart := false }
def PanelOrderHasAllSaid : Prop := panelOrderHasAllRow.holds Try.pinned (OpenSpec.ofChange panelOrderHasAllSpec)

/-- ITS FALSE NEIGHBOUR: 'it returns false'. Refute it at one input. -/
def panelOrderHasAllWrong : ChangeSpec := { name := "panelOrderHasAll", fn := fun _ => fun
  | [d] => { results := [.lit (.bool false)], args := [d] }
  | _ => none }
def PanelOrderHasAllWrongFalsely : Prop := panelOrderHasAllRow.holds Try.pinned (OpenSpec.ofChange panelOrderHasAllWrong)

/-- 'etchhouselaw9.PanelsMatchSpec': WHATEVER THE INPUT: true; the input reads as it did. -/
def panelsMatchSpecSpec : ChangeSpec := { name := "panelsMatchSpec", fn := fun _ => fun
  | [d] => { results := [.lit (.bool true)], args := [d] }
  | _ => none }
def panelsMatchSpecRow : OpenClaim := { program := "ytfddmjoldoddlaa", sum := "816dfba560e9dad565df008c501bcff3753f6e4f217618b431bbf14b2a1b199d", func := "etchhouse/etchhouselaw9.PanelsMatchSpec", spec := "panelsMatchSpec", unfollowed := true, recurses := true, apart := false }
def PanelsMatchSpecSaid : Prop := panelsMatchSpecRow.holds Try.pinned (OpenSpec.ofChange panelsMatchSpecSpec)

/-- ITS FALSE NEIGHBOUR: 'it returns false'. Refute it at one input. -/
def panelsMatchSpecWrong : ChangeSpec := { name := "panelsMatchSpec", fn := fun _ => fun
  | [d] => { results := [.lit (.bool false)], args := [d] }
  | _ => none }
def PanelsMatchSpecWrongFalsely : Prop := panelsMatchSpecRow.holds Try.pinned (OpenSpec.ofChange panelsMatchSpecWrong)

/- THE SECOND FORM. 'bulk': how many values and letters a reading holds, each counted each time it is reached (what is shared counts as often as it is met; a slice's spare places count too). A statement '..UptoSaid' is the law's where the arguments, and the package variables that the reading takes, are together of bulk at most 1048576: NARROWER than '..Said'. Prove '..Said' where nothing that the law and all that it calls make is longer than what came in: it says more and counts as full. Else prove '..UptoSaid'. A law counts once. -/
mutual
def uptoBulk {H : Type} : DataW H → Nat
  | .lit (.string bytes) => bytes.length + 1
  | .lit _ => 1
  | .nil => 1
  | .ptr d => uptoBulk d + 1
  | .slice elems spare => uptoBulkAll elems + uptoBulkAll spare + 1
  | .agg parts => uptoBulkAll parts + 1
  | .iface _ d => uptoBulk d + 1
  | .map entries => uptoBulkEntries entries + 1
  | .held _ => 1
def uptoBulkAll {H : Type} : List (DataW H) → Nat
  | [] => 0
  | d :: r => uptoBulk d + uptoBulkAll r
def uptoBulkEntries {H : Type} : List (Lit × DataW H) → Nat
  | [] => 0
  | x :: r => uptoBulkEntry x + uptoBulkEntries r
def uptoBulkEntry {H : Type} : Lit × DataW H → Nat
  | (.string bytes, d) => bytes.length + uptoBulk d + 1
  | (_, d) => uptoBulk d + 1
 end
def uptoSmall : (H : Type) → List (DataW H) → Bool := fun _ ds => decide (uptoBulkAll ds ≤ 1048576)
def OpenSpec.upto (s : _root_.Go.ChangeSpec) : _root_.Go.OpenSpec := { _root_.Go.OpenSpec.ofChange s with cond := some uptoSmall }

/-- 'etchhouselaw9.CutsComeApart', WHERE WHAT IT READS IS OF BULK AT MOST 1048576: true; the input reads as it did. -/
def cutsComeApartUptoRow : OpenClaim := { program := "ytfddmjoldoddlaa", sum := "816dfba560e9dad565df008c501bcff3753f6e4f217618b431bbf14b2a1b199d", func := "etchhouse/etchhouselaw9.CutsComeApart", spec := "cutsComeApart", unfollowed := true, recurses := true, apart := false, narrowed := true }
def CutsComeApartUptoSaid : Prop := cutsComeApartUptoRow.holds Try.pinned (OpenSpec.upto cutsComeApartSpec)

/-- 'etchhouselaw9.CutsMatchSpec', WHERE WHAT IT READS IS OF BULK AT MOST 1048576: true; the input reads as it did. -/
def cutsMatchSpecUptoRow : OpenClaim := { program := "ytfddmjoldoddlaa", sum := "816dfba560e9dad565df008c501bcff3753f6e4f217618b431bbf14b2a1b199d", func := "etchhouse/etchhouselaw9.CutsMatchSpec", spec := "cutsMatchSpec", unfollowed := true, recurses := true, apart := false, narrowed := true }
def CutsMatchSpecUptoSaid : Prop := cutsMatchSpecUptoRow.holds Try.pinned (OpenSpec.upto cutsMatchSpecSpec)

/-- 'etchhouselaw9.PanelOrderHasAll', WHERE WHAT IT READS IS OF BULK AT MOST 1048576: true; the input reads as it did. -/
def panelOrderHasAllUptoRow : OpenClaim := { program := "ytfddmjoldoddlaa", sum := "816dfba560e9dad565df008c501bcff3753f6e4f217618b431bbf14b2a1b199d", func := "etchhouse/etchhouselaw9.PanelOrderHasAll", spec := "panelOrderHasAll", unfollowed := true, recurses := true, apart := false, narrowed := true }
def PanelOrderHasAllUptoSaid : Prop := panelOrderHasAllUptoRow.holds Try.pinned (OpenSpec.upto panelOrderHasAllSpec)

/-- 'etchhouselaw9.PanelsMatchSpec', WHERE WHAT IT READS IS OF BULK AT MOST 1048576: true; the input reads as it did. -/
def panelsMatchSpecUptoRow : OpenClaim := { program := "ytfddmjoldoddlaa", sum := "816dfba560e9dad565df008c501bcff3753f6e4f217618b431bbf14b2a1b199d", func := "etchhouse/etchhouselaw9.PanelsMatchSpec", spec := "panelsMatchSpec", unfollowed := true, recurses := true, apart := false, narrowed := true }
def PanelsMatchSpecUptoSaid : Prop := panelsMatchSpecUptoRow.holds Try.pinned (OpenSpec.upto panelsMatchSpecSpec)

end Rows
end Go.Proofs.Ytfddmjoldoddlaa
