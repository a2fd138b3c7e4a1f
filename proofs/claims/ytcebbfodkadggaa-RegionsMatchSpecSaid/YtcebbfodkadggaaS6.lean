/- Regions: the law that program and reference agree, and its fuel. Plain Lean about the plain functions. -/
import Derived.Test.YtcebbfodkadggaaS5
import Derived.Test.YtcebbfodkadggaaE0
namespace Go.Proofs.Ytcebbfodkadggaa
theorem regionsMatch_ok {N : Nat} (hN : 20000 ≤ N) (l : List TRect) : F_etchhouselaw1_RegionsMatchSpec N l = some true := by
  unfold F_etchhouselaw1_RegionsMatchSpec
  rw [Region_ok hN, RegionR_ok hN, CheckRects_ok, CheckRectsR_ok hN, CheckRegion_ok hN, CheckRegionR_ok hN, awake1_ok (by omega)]
  obtain ⟨b, h1, h2⟩ := EqualR_ok (regionV l).1 (regionV l).1
  have hb : b = true := h2.2 rfl
  subst hb
  simp [h1]
theorem RegionsMatch_plain (l : List TRect) {X : Prop} (_ : X) : ∃ N, F_etchhouselaw1_RegionsMatchSpec N l = some true := ⟨20000, regionsMatch_ok (Nat.le_refl _) l⟩
end Go.Proofs.Ytcebbfodkadggaa
