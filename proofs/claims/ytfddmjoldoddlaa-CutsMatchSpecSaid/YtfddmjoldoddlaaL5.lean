/- CutsMatchSpec: the law, and enough fuel for any panel. Plain Lean about the plain functions. -/
import Derived.Test.YtfddmjoldoddlaaL4
import Derived.Test.YtfddmjoldoddlaaB0q
import Derived.Test.YtfddmjoldoddlaaLAR
namespace Go.Proofs.Ytfddmjoldoddlaa
theorem eqC (a : TCut) : eqTCut a a = true := eqTCut_iff.2 rfl
theorem EqualC_ok (l : List TCut) : F_slices_Equal_Cut l l = some true := by
  have key : ∀ (suf pre : List TCut), l = pre ++ suf → F_slices_Equal_Cut_L1 l suf pre.length = some true := by
    intro suf
    induction suf with
    | nil => intro pre _; rfl
    | cons x suf ih =>
      intro pre h
      have hid : idx l (pre.length : Int) = some x := by rw [h]; exact idx_mid pre suf x
      rw [F_slices_Equal_Cut_L1.eq_2, hid, Option.bind_some, eqC, if_neg (by simp)]
      have := ih (pre ++ [x]) (by rw [h]; simp)
      simpa using this
  unfold F_slices_Equal_Cut
  rw [if_neg (by simp)]
  exact key l [] rfl
/-- The sum of the sizes of the names. -/
def namesSize : List TBoardKind → Nat
  | [] => 0
  | k :: l => k.Name.size + namesSize l
theorem namesSize_le : ∀ {l : List TBoardKind} {k : TBoardKind}, k ∈ l → k.Name.size ≤ namesSize l
  | a :: l, k, h => by
    rcases List.mem_cons.1 h with rfl | h
    · unfold namesSize; omega
    · have := namesSize_le h; unfold namesSize; omega
/-- Fuel for a panel. -/
def fuelOf (p : TPanel) : Nat := 20000000 + p.Kinds.length + namesSize p.Kinds + 1
theorem fuelP {p : TPanel} (h : p.Wf) : FuelP (fuelOf p) p :=
  ⟨by unfold fuelOf; omega, by unfold fuelOf; omega, fun k hk => ⟨(h.fKinds.2 k hk).fName, by have := namesSize_le hk; unfold fuelOf; omega⟩⟩
theorem Cuts_plain (p : TPanel) (h : p.Wf) : ∃ N, F_etchhouselaw9_CutsMatchSpec N p = some true := by
  refine ⟨fuelOf p, ?_⟩
  have hF := fuelP h
  have hN := hF.big
  unfold F_etchhouselaw9_CutsMatchSpec
  rw [Cuts_ok (by omega) hF.names, Option.bind_some, CutsR_ok (by omega) hF.kinds hF.names, Option.bind_some, Scores_ok (by omega) hF.names, Option.bind_some, ScoresR_ok (by omega) hF.kinds hF.names, Option.bind_some, EqualC_ok, Option.bind_some, EqualC_ok, awakeP_ok (by omega)]
  simp
end Go.Proofs.Ytfddmjoldoddlaa
