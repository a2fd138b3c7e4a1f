/- Copper of a panel keeps its area: the law, and enough fuel for any panel. Plain Lean about the plain functions. -/
import Derived.Test.YtfdglihcpfpefaaK3
import Derived.Test.YtfdglihcpfpefaaKAR
namespace Go.Proofs.Ytfdglihcpfpefaa
/-- The sum of the sizes of the names. -/
def namesSize : List TBoardKind → Nat
  | [] => 0
  | k :: l => k.Name.size + namesSize l
theorem namesSize_le : ∀ {l : List TBoardKind} {k : TBoardKind}, k ∈ l → k.Name.size ≤ namesSize l
  | a :: l, k, h => by
    rcases List.mem_cons.1 h with rfl | h
    · unfold namesSize; omega
    · have := namesSize_le h; unfold namesSize; omega
/-- Fuel for a panel. -/
def fuelOf (p : TPanel) : Nat := 10000000000 + p.Kinds.length + namesSize p.Kinds + 1
theorem fuelP {p : TPanel} (h : p.Wf) : FuelP (fuelOf p) p :=
  ⟨by unfold fuelOf; omega, by unfold fuelOf; omega, fun k hk => ⟨(h.fKinds.2 k hk).fName, by have := namesSize_le hk; unfold fuelOf; omega⟩⟩
theorem CopperArea_plain (p : TPanel) (nm : ByteArray) (r : List TRect) (h : p.Wf) {X Y : Prop} (_ : X) (_ : Y) : ∃ N, F_etchhouselaw9_PanelCopperKeepsArea N p nm r = some true := by
  refine ⟨fuelOf p, ?_⟩
  have hN : 10000000000 ≤ fuelOf p := by unfold fuelOf; omega
  unfold F_etchhouselaw9_PanelCopperKeepsArea
  rw [Copper_ok hN (fuelP h), Option.bind_some]
  by_cases h0 : (copperV p nm r).2 = 0
  · obtain ⟨k1, k2, k3, k4⟩ := copper_area (x := (copperV p nm r).1) (p := p) (nm := nm) (r := r) (by rw [← h0])
    rw [if_neg (by simpa using h0)]
    exact area_loop hN (openErr_ok k1).2.1 k2 k3 k4
  · rw [if_pos (by simpa using h0), copperV_err h0, awakeP_ok (by omega)]
    simp
end Go.Proofs.Ytfdglihcpfpefaa
