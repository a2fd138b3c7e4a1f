/- PanelsMatchSpec: the law, and enough fuel for any panel. Plain Lean about the plain functions. -/
import Derived.Test.YtfddmjoldoddlaaO2
import Derived.Test.YtfddmjoldoddlaaB0a
import Derived.Test.YtfddmjoldoddlaaOAR
namespace Go.Proofs.Ytfddmjoldoddlaa
theorem area_loop {cs : List TRect} (hl : cs.length ≤ 1000000) : ∀ (suf pre : List TRect) (i m : Nat) (x : Int), cs = pre ++ suf → suf.length < m → F_etchhouseref1_AreaOf_L1 cs m x (pre.length : Int) = F_shape_AreaOf_L1 suf i x
  | suf, pre, i, 0, _, _, h => absurd h (Nat.not_lt_zero _)
  | [], pre, i, m + 1, x, h1, h2 => by
    rw [F_etchhouseref1_AreaOf_L1.eq_2, if_neg (by rw [h1]; simp)]; rfl
  | r :: suf, pre, i, m + 1, x, h1, h2 => by
    have hp : pre.length ≤ 1000000 := by rw [h1] at hl; simp at hl; omega
    have hid : idx cs (pre.length : Int) = some r := by rw [h1]; exact idx_mid pre suf r
    rw [F_etchhouseref1_AreaOf_L1.eq_2, if_pos (by rw [h1]; exact lt_mid pre suf r), hid, Option.bind_some, Option.bind_some, Option.bind_some, Option.bind_some, up_mid pre r (by omega), area_loop hl suf (pre ++ [r]) (i + 1) m _ (by rw [h1]; simp) (by simp at h2; omega), F_shape_AreaOf_L1.eq_2]
theorem area_some : ∀ (l : List TRect) (i : Nat) (x : Int), ∃ y, F_shape_AreaOf_L1 l i x = some y
  | [], i, x => ⟨x, rfl⟩
  | r :: l, i, x => by rw [F_shape_AreaOf_L1.eq_2]; exact area_some l (i + 1) _
theorem area_ok {N : Nat} {cs : List TRect} (hl : cs.length ≤ 1000000) (hN : cs.length < N) : ∃ y, F_shape_AreaOf cs = some y ∧ F_etchhouseref1_AreaOf N cs = some y := by
  obtain ⟨y, hy⟩ := area_some cs 0 0
  refine ⟨y, hy, ?_⟩
  have := area_loop hl cs [] 0 N 0 rfl hN
  unfold F_etchhouseref1_AreaOf
  rw [show (([] : List TRect).length : Int) = 0 from rfl] at this
  rw [this, hy]
theorem common_ok : ∀ (m : Nat) (x y : Int), (x ≠ 0 ∨ y ≠ 0) → y.natAbs < m → ∃ g, F_etchhouseref9_common_L1 m x y = some g ∧ g ≠ 0
  | 0, _, _, _, h => absurd h (Nat.not_lt_zero _)
  | m + 1, x, y, h, hm => by
    rw [F_etchhouseref9_common_L1.eq_2]
    by_cases hy : y = 0
    · rw [if_neg (by simp [hy])]
      exact ⟨x, rfl, by rcases h with h | h; exact h; exact absurd hy h⟩
    · have hmd : md x y = some (x.tmod y) := if_neg hy
      rw [if_pos (by simpa using hy), hmd, Option.bind_some]
      refine common_ok m y (x.tmod y) (.inl hy) ?_
      rw [Int.natAbs_tmod]
      have := Nat.mod_lt x.natAbs (show y.natAbs > 0 by omega)
      omega
theorem lowest_eq (a b : Int) : ∀ (m : Nat) (x y : Int), F_panel_Lowest_L1 a b m x y = (F_etchhouseref9_common_L1 m x y).bind fun g => (dv a g).bind fun q => (dv b g).bind fun s => some (TShare.mk q s)
  | 0, _, _ => rfl
  | m + 1, x, y => by
    rw [F_panel_Lowest_L1.eq_2, F_etchhouseref9_common_L1.eq_2]
    by_cases hy : y = 0
    · rw [if_neg (by simp [hy]), if_neg (by simp [hy])]; rfl
    · have hmd : md x y = some (x.tmod y) := if_neg hy
      rw [if_pos (by simpa using hy), if_pos (by simpa using hy), hmd, Option.bind_some, Option.bind_some, lowest_eq a b m]
theorem Use_ok {N : Nat} {p : TPanel} (hN : 2000000000000 ≤ N) (hk : p.Kinds.length < N) (hn : ∀ k ∈ p.Kinds, k.Name.size ≤ 9223372036854775807 ∧ k.Name.size < N) : ∃ y, F_panel_Use N p = some y ∧ F_etchhouseref9_Use N p = some y := by
  unfold F_panel_Use F_etchhouseref9_Use
  rw [open_ok hn, Option.bind_some, checkPanel_ok (by omega) hk hn, Option.bind_some]
  by_cases he : openErr p = 0
  · obtain ⟨hB, hl, _, hs⟩ := openErr_ok he
    obtain ⟨a, a1, a2⟩ := area_ok (N := N) (cs := p.Slots.map (cellOf p)) (by simp; omega) (by simp; omega)
    have hw := hB.w0; have hw1 := hB.w1; have hh := hB.h0; have hh1 := hB.h1
    have h1 : 1 ≤ p.W * p.H := by
      have := Int.mul_le_mul hw hh (by omega) (by omega)
      simpa using this
    have h2 : p.W * p.H ≤ 1000000 * 1000000 := Int.mul_le_mul hw1 hh1 (by omega) (by omega)
    have hb : w64 (p.W * p.H) = p.W * p.H := w64_id (by omega) (by omega)
    rw [if_pos he, if_neg (by simp), if_neg (by simpa using he), cellsR_ok hB hl hs (by omega), Option.bind_some, a1, Option.bind_some, a2, Option.bind_some, hb]
    unfold F_panel_Lowest F_etchhouseref9_common
    obtain ⟨g, g1, g2⟩ := common_ok N a (p.W * p.H) (.inr (by omega)) (by omega)
    have d1 : ∀ x, dv x g = some (w64 (x.tdiv g)) := fun x => if_neg g2
    rw [lowest_eq, g1, Option.bind_some, d1, Option.bind_some, d1, Option.bind_some, Option.bind_some]
    refine ⟨_, rfl, ?_⟩
    rw [Option.bind_some, d1, Option.bind_some, d1, Option.bind_some]
  · rw [if_neg he, if_pos (by simpa using he), if_pos (by simpa using he)]
    exact ⟨_, rfl, rfl⟩
theorem EqualR_same (l : List TRect) : F_slices_Equal_Rect l l = some true := by
  have key : ∀ (suf pre : List TRect), l = pre ++ suf → F_slices_Equal_Rect_L1 l suf pre.length = some true := by
    intro suf
    induction suf with
    | nil => intro pre _; rfl
    | cons x suf ih =>
      intro pre h
      have hid : idx l (pre.length : Int) = some x := by rw [h]; exact idx_mid pre suf x
      rw [F_slices_Equal_Rect_L1.eq_2, hid, Option.bind_some, eqTRect_iff.2 rfl, if_neg (by simp)]
      have := ih (pre ++ [x]) (by rw [h]; simp)
      simpa using this
  unfold F_slices_Equal_Rect
  rw [if_neg (by simp)]
  exact key l [] rfl
theorem EqualI_same (l : List Int) : F_slices_Equal_int l l = some true := by
  have key : ∀ (suf pre : List Int), l = pre ++ suf → F_slices_Equal_int_L1 l suf pre.length = some true := by
    intro suf
    induction suf with
    | nil => intro pre _; rfl
    | cons x suf ih =>
      intro pre h
      have hid : idx l (pre.length : Int) = some x := by rw [h]; exact idx_mid pre suf x
      rw [F_slices_Equal_int_L1.eq_2, hid, Option.bind_some, if_neg (by simp)]
      have := ih (pre ++ [x]) (by rw [h]; simp)
      simpa using this
  unfold F_slices_Equal_int
  rw [if_neg (by simp)]
  exact key l [] rfl
theorem Cells_ok {N : Nat} {p : TPanel} (hn : ∀ k ∈ p.Kinds, k.Name.size ≤ 9223372036854775807 ∧ k.Name.size < N) : F_panel_Cells N p = some (if openErr p = 0 then (p.Slots.map (cellOf p), 0) else ([], openErr p)) := by
  unfold F_panel_Cells
  rw [open_ok hn, Option.bind_some]
theorem CellsR_ok {N : Nat} {p : TPanel} (hN : 600 ≤ N) (hk : p.Kinds.length < N) (hn : ∀ k ∈ p.Kinds, k.Name.size ≤ 9223372036854775807 ∧ k.Name.size < N) : F_etchhouseref9_Cells N p = some (if openErr p = 0 then (p.Slots.map (cellOf p), 0) else ([], openErr p)) := by
  unfold F_etchhouseref9_Cells
  rw [checkPanel_ok (by omega) hk hn, Option.bind_some]
  by_cases he : openErr p = 0
  · obtain ⟨hB, hl, _, hs⟩ := openErr_ok he
    rw [if_neg (by simpa using he), if_pos he, cellsR_ok hB hl hs (by omega), Option.bind_some]
  · rw [if_pos (by simpa using he), if_neg he]
/-- The sum of the sizes of the names. -/
def namesSize : List TBoardKind → Nat
  | [] => 0
  | k :: l => k.Name.size + namesSize l
theorem namesSize_le : ∀ {l : List TBoardKind} {k : TBoardKind}, k ∈ l → k.Name.size ≤ namesSize l
  | a :: l, k, h => by
    rcases List.mem_cons.1 h with rfl | h
    · unfold namesSize; omega
    · have := namesSize_le h; unfold namesSize; omega
/-- Fuel for a panel. -/
def fuelOf (p : TPanel) : Nat := 2000000000000 + p.Kinds.length + namesSize p.Kinds + 1
theorem fuelP {p : TPanel} (h : p.Wf) : FuelP (fuelOf p) p :=
  ⟨by unfold fuelOf; omega, by unfold fuelOf; omega, fun k hk => ⟨(h.fKinds.2 k hk).fName, by have := namesSize_le hk; unfold fuelOf; omega⟩⟩
theorem Panels_plain (p : TPanel) (h : p.Wf) : ∃ N, F_etchhouselaw9_PanelsMatchSpec N p = some true := by
  refine ⟨fuelOf p, ?_⟩
  have hF := fuelP h
  have hN : 2000000000000 ≤ fuelOf p := by unfold fuelOf; omega
  obtain ⟨y, y1, y2⟩ := Use_ok hN hF.kinds hF.names
  unfold F_etchhouselaw9_PanelsMatchSpec
  rw [Cells_ok hF.names, Option.bind_some, CellsR_ok (by omega) hF.kinds hF.names, Option.bind_some, checkPanelP_ok hF, Option.bind_some, checkPanel_ok (by omega) hF.kinds hF.names, Option.bind_some, EqualR_same, y1, y2, Order_ok (by omega) hF.names, OrderR_ok (by omega) hF.kinds hF.names]
  simp only [Option.bind_some, EqualI_same, awakeP_ok (show 3 ≤ fuelOf p by omega), eqTShare_iff.2 rfl]
  simp
end Go.Proofs.Ytfddmjoldoddlaa
