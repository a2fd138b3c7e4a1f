/- Copper of a panel: the law, and enough fuel for any panel. Plain Lean about the plain functions. -/
import Derived.Test.YtfdglihcpfpefaaGreatK1
import Derived.Test.YtfdglihcpfpefaaGreatKCR
namespace Go.Proofs.YtfdglihcpfpefaaGreat
/-- The sum of the sizes of the names. -/
def namesSize : List TBoardKind → Nat
  | [] => 0
  | k :: l => k.Name.size + namesSize l
theorem namesSize_le : ∀ {l : List TBoardKind} {k : TBoardKind}, k ∈ l → k.Name.size ≤ namesSize l
  | a :: l, k, h => by
    rcases List.mem_cons.1 h with rfl | h
    · unfold namesSize; omega
    · have := namesSize_le h; unfold namesSize; omega
/-- Fuel for a panel. -/
def fuelOf (p : TPanel) : Nat := 10000000000 + p.Kinds.length + namesSize p.Kinds + 1
theorem fuelP {p : TPanel} (h : p.Wf) : FuelP (fuelOf p) p :=
  ⟨by unfold fuelOf; omega, by unfold fuelOf; omega, fun k hk => ⟨(h.fKinds.2 k hk).fName, by have := namesSize_le hk; unfold fuelOf; omega⟩⟩
theorem Copper_plain (p : TPanel) (nm : ByteArray) (r : List TRect) (h : p.Wf) {X Y : Prop} (_ : X) (_ : Y) : ∃ N, F_etchhouselaw9_PanelCopperMatchSpec N p nm r = some true := by
  refine ⟨fuelOf p, ?_⟩
  have hN : 10000000000 ≤ fuelOf p := by unfold fuelOf; omega
  unfold F_etchhouselaw9_PanelCopperMatchSpec
  obtain ⟨b, b1, b2⟩ := EqualR_ok (copperV p nm r).1 (copperV p nm r).1
  obtain rfl : b = true := b2.2 rfl
  rw [Copper_ok hN (fuelP h), Option.bind_some, CopperR_ok hN (fuelP h), Option.bind_some, b1, Option.bind_some, awakeP_ok (by omega)]
  simp
end Go.Proofs.YtfdglihcpfpefaaGreat
