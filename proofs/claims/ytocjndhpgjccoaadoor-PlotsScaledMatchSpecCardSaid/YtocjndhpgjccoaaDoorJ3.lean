/- Plots: names, places, numbers written: the program's and the reference's answer alike. Plain. Conditions: none beyond each theorem's own. Plots: the error of a step by itself: the program's and the reference's alike. Plain. Conditions: none beyond each theorem's own. Plots: how many steps are done, and the error of all steps: the program's and the reference's alike. Plain. Conditions: none beyond each theorem's own. Plots: CheckPlot: the program's and the reference's alike. Plain. Conditions: none beyond each theorem's own. Plots in another unit: what the program and the reference compute. Plain. Conditions: none beyond each theorem's own. Plots in another unit: what the reference computes. Plain. Conditions: none beyond each theorem's own. Plots in another unit: the reference's tools; Scaled of both. Plain. Conditions: none beyond each theorem's own. Plots: a plot is the same as itself. Plain. Conditions: none beyond each theorem's own. Plots in another unit: sizes of the scaled plot. Plain. Conditions: none beyond each theorem's own. -/
import Derived.Test.YtocjndhpgjccoaaDoorJ2
import Derived.Test.YtocjndhpgjccoaaDoorXF
import Derived.Lib.ItoaLen
namespace Go.Proofs.YtocjndhpgjccoaaDoor
theorem up_mid2 {α : Type} (pre : List α) (x : α) (h : pre.length < 9223372036854775807) : w64 ((pre.length : Int) + 1) = ((pre ++ [x]).length : Int) := by
  rw [w64_eq (by omega) (by omega)]; simp
/-! Names. -/
theorem IsName_same (s : ByteArray) : ∀ (m : Nat) (x : Int), F_plot_IsName_L1 s m x = F_etchhouseref3_IsName_L1 s m x
  | 0, _ => rfl
  | m + 1, x => by
    rw [F_plot_IsName_L1, F_etchhouseref3_IsName_L1]
    split
    · congr 1
      funext c
      rw [IsName_same s m]
      have e : ((!(((decide (97 ≤ c)) && (decide (c ≤ 122))) || ((decide (65 ≤ c)) && (decide (c ≤ 90))))) && ((x == 0) || ((((decide (c < 48)) || (decide (57 < c))) && (c != 95)) && (c != 45)))) = ((!(((decide (97 ≤ c)) && (decide (c ≤ 122))) || ((decide (65 ≤ c)) && (decide (c ≤ 90))))) && ((x == 0) || (((c != 95) && (c != 45)) && (!((decide (48 ≤ c)) && (decide (c ≤ 57))))))) := by
        have e2 : (decide (c < 48) || decide (57 < c)) = !(decide (48 ≤ c) && decide (c ≤ 57)) := by
          rw [Bool.eq_iff_iff]; simp <;> omega
        rw [e2]
        cases (!(decide (48 ≤ c) && decide (c ≤ 57))) <;> cases (c != 95) <;> cases (c != 45) <;> simp
      rw [e]
    · rfl
theorem IsName_loop {s : ByteArray} (hs : s.size ≤ 9223372036854775807) : ∀ (m i : Nat), s.size < m + i → i ≤ s.size → ∃ b, F_plot_IsName_L1 s m (i : Int) = some b ∧ (b = true → s.size ≤ 40)
  | 0, i, h, h2 => by omega
  | m + 1, i, h, h2 => by
    rw [F_plot_IsName_L1]
    by_cases hi : i < s.size
    · rw [if_pos (decide_eq_true (by omega))]
      have hc : ∃ c, strAt s (i : Int) = some c := by
        unfold strAt
        rw [if_pos (by omega)]
        exact ⟨(s[i].toNat : Int), by simp [hi]⟩
      obtain ⟨c, hc⟩ := hc
      rw [hc, Option.bind_some]
      split
      · exact ⟨false, rfl, fun h => by cases h⟩
      · rw [w64_eq (by omega) (by omega)]
        exact IsName_loop hs m (i + 1) (by omega) (by omega)
    · rw [if_neg (by simpa using hi)]
      exact ⟨_, rfl, fun h => by simp at h; omega⟩
theorem IsName_ok {N : Nat} {s : ByteArray} (hs : s.size ≤ 9223372036854775807) (hN : s.size < N) : ∃ b, F_plot_IsName N s = some b ∧ F_etchhouseref3_IsName N s = some b ∧ (b = true → s.size ≤ 40) := by
  obtain ⟨b, h1, h2⟩ := IsName_loop hs N 0 (by omega) (by omega)
  exact ⟨b, h1, (IsName_same s N 0).symm.trans h1, h2⟩
/-! Places. -/
def fitP (n u : Int) : Bool := decide (-(1000000 / u) ≤ n) && decide (n ≤ 1000000 / u)
theorem isAt_ok {n u : Int} (hu : 1 ≤ u ∧ u ≤ 1000) : F_plot_isAt n u = some (fitP n u) := by
  have h0 : 0 ≤ 1000000 / u := Int.ediv_nonneg (by omega) (by omega)
  have h1 : 1000000 / u ≤ 1000000 := Int.ediv_le_self _ (by omega)
  have e1 : (1000000 : Int).tdiv u = 1000000 / u := Int.tdiv_eq_ediv_of_nonneg (by omega)
  have e2 : (-1000000 : Int).tdiv u = -(1000000 / u) := by rw [show (-1000000 : Int) = -(1000000) from rfl, Int.neg_tdiv, e1]
  unfold F_plot_isAt dv
  rw [if_neg (by omega), if_neg (by omega), Option.bind_some, Option.bind_some, e1, e2, w64_id (by omega) (by omega), w64_id (by omega) (by omega)]
  rfl
theorem fits_ok {n u : Int} (hu : 1 ≤ u ∧ u ≤ 1000) : F_etchhouseref3_fits n u = some (fitP n u) := by
  have hA : ∀ k : Int, F_etchhouseref1_At k = some (decide (-1000000 ≤ k) && decide (k ≤ 1000000)) := fun _ => rfl
  unfold F_etchhouseref3_fits
  rw [hA, Option.bind_some]
  have h0 : 0 ≤ 1000000 / u := Int.ediv_nonneg (by omega) (by omega)
  have h1 : 1000000 / u ≤ 1000000 := Int.ediv_le_self _ (by omega)
  by_cases hn : -1000000 ≤ n ∧ n ≤ 1000000
  · have e : (decide (-1000000 ≤ n) && decide (n ≤ 1000000)) = true := by simp [hn]
    rw [e, if_pos rfl]
    have hb : -1000000000 ≤ n * u ∧ n * u ≤ 1000000000 := by
      constructor
      · have := Int.mul_le_mul_of_nonneg_right hn.1 (show (0 : Int) ≤ u by omega)
        omega
      · have := Int.mul_le_mul_of_nonneg_right hn.2 (show (0 : Int) ≤ u by omega)
        omega
    rw [w64_id (by omega) (by omega), hA]
    simp only [Option.bind_some]
    congr 1
    unfold fitP
    rw [Bool.eq_iff_iff]
    simp only [Bool.and_eq_true, decide_eq_true_eq]
    have k1 : n ≤ 1000000 / u ↔ n * u ≤ 1000000 := Int.le_ediv_iff_mul_le (by omega)
    have k2 : -n ≤ 1000000 / u ↔ -n * u ≤ 1000000 := Int.le_ediv_iff_mul_le (by omega)
    rw [Int.neg_mul] at k2
    omega
  · have e : (decide (-1000000 ≤ n) && decide (n ≤ 1000000)) = false := by
      rw [Bool.eq_false_iff]; simpa using hn
    rw [e]
    simp only [Bool.false_eq_true, if_false, Option.bind_some]
    congr 1
    unfold fitP
    symm
    rw [Bool.eq_false_iff]
    simp only [ne_eq, Bool.and_eq_true, decide_eq_true_eq]
    omega
def fitPt (p : TPoint) (u : Int) : Bool := fitP p.X u && fitP p.Y u
theorem isPoint_ok {p : TPoint} {u : Int} (hu : 1 ≤ u ∧ u ≤ 1000) : F_plot_isPoint p u = some (fitPt p u) := by
  unfold F_plot_isPoint fitPt
  rw [isAt_ok hu, Option.bind_some]
  cases fitP p.X u
  · rfl
  · rw [if_pos rfl, isAt_ok hu]; simp
theorem pointFits_ok {p : TPoint} {u : Int} (hu : 1 ≤ u ∧ u ≤ 1000) : F_etchhouseref3_pointFits p u = some (fitPt p u) := by
  unfold F_etchhouseref3_pointFits fitPt
  rw [fits_ok hu, Option.bind_some]
  cases fitP p.X u
  · rfl
  · rw [if_pos rfl, fits_ok hu]; simp
/-! The rectangles of a tool. -/
def rectE (r : TRect) (u : Int) : Int := if (fitP r.X0 u && fitP r.Y0 u && fitP r.X1 u && fitP r.Y1 u) then (if (decide (r.X1 ≤ r.X0) || decide (r.Y1 ≤ r.Y0)) then 13 else 0) else 1
def rectsE (u : Int) : List TRect → Int
  | [] => 0
  | r :: l => if rectE r u = 0 then rectsE u l else rectE r u
theorem checkTool_loop {u : Int} (hu : 1 ≤ u ∧ u ≤ 1000) : ∀ (l : List TRect) (i : Nat), F_plot_checkTool_L1 u l i = some (rectsE u l)
  | [], _ => rfl
  | r :: l, i => by
    rw [F_plot_checkTool_L1, rectsE, checkTool_loop hu l]
    simp only [isAt_ok hu, Option.bind_some]
    unfold rectE
    generalize (decide (r.X1 ≤ r.X0) || decide (r.Y1 ≤ r.Y0)) = g
    cases fitP r.X0 u <;> cases fitP r.Y0 u <;> cases fitP r.X1 u <;> cases fitP r.Y1 u <;> cases g <;> simp
theorem checkToolR_loop {u : Int} (hu : 1 ≤ u ∧ u ≤ 1000) : ∀ (suf pre : List TRect) (m : Nat), suf.length < m → (pre ++ suf).length ≤ 2000 → F_etchhouseref3_checkToolRects_L1 (pre ++ suf) u m (pre.length : Int) = some (rectsE u suf)
  | [], pre, m, hm, hl => by
    obtain ⟨m, rfl⟩ : ∃ k, m = k + 1 := ⟨m - 1, by omega⟩
    rw [F_etchhouseref3_checkToolRects_L1, lt_end]; rfl
  | r :: l, pre, m, hm, hl => by
    obtain ⟨m, rfl⟩ : ∃ k, m = k + 1 := ⟨m - 1, by simp at hm; omega⟩
    simp at hm hl
    rw [F_etchhouseref3_checkToolRects_L1, lt_mid, if_pos rfl, idx_mid, Option.bind_some, rectsE, up_mid _ r (by omega), snoc_mid, checkToolR_loop hu l (pre ++ [r]) m (by omega) (by simp; omega)]
    simp only [fits_ok hu, Option.bind_some]
    unfold rectE
    generalize (decide (r.X1 ≤ r.X0) || decide (r.Y1 ≤ r.Y0)) = g
    cases fitP r.X0 u <;> cases fitP r.Y0 u <;> cases fitP r.X1 u <;> cases fitP r.Y1 u <;> cases g <;> simp
/-- The error of a tool, without that of its name. -/
def toolE (t : TPlotTool) (u : Int) : Int := if (t.Rects.length : Int) = 0 then 9 else if 2000 < (t.Rects.length : Int) then 2 else rectsE u t.Rects
theorem checkTool_ok {N : Nat} {t : TPlotTool} {u : Int} (hu : 1 ≤ u ∧ u ≤ 1000) {b : Bool} (hb : F_plot_IsName N t.Name = some b) : F_plot_checkTool N t u = some (if b then toolE t u else 5) := by
  unfold F_plot_checkTool
  rw [hb, Option.bind_some]
  cases b
  · rfl
  · simp only [Bool.not_true, Bool.false_eq_true, if_false, if_true, checkTool_loop hu, toolE]
    by_cases h0 : (t.Rects.length : Int) = 0
    · rw [if_pos (beq_iff_eq.2 h0), if_pos h0]
    · rw [if_neg (fun h => h0 (beq_iff_eq.1 h)), if_neg h0]
      by_cases h1 : 2000 < (t.Rects.length : Int)
      · rw [if_pos (decide_eq_true h1), if_pos h1]
      · rw [if_neg (by simpa using h1), if_neg h1]
theorem checkToolRects_ok {N : Nat} {t : TPlotTool} {u : Int} (hu : 1 ≤ u ∧ u ≤ 1000) (hN : 3000 ≤ N) : F_etchhouseref3_checkToolRects N t.Rects u = some (toolE t u) := by
  unfold F_etchhouseref3_checkToolRects toolE
  by_cases h0 : (t.Rects.length : Int) = 0
  · rw [if_pos (beq_iff_eq.2 h0), if_pos h0]
  · rw [if_neg (fun h => h0 (beq_iff_eq.1 h)), if_neg h0]
    by_cases h1 : 2000 < (t.Rects.length : Int)
    · rw [if_pos (decide_eq_true h1), if_pos h1]
    · rw [if_neg (by simpa using h1), if_neg h1]
      exact checkToolR_loop hu t.Rects [] N (by omega) (by simp; omega)
/-! The number of a tool. -/
def toolN (nm : ByteArray) (l : List TPlotTool) : Int := ixOf (fun t => sEq t.Name nm) l 0
theorem toolAt_loop (nm : ByteArray) : ∀ (l : List TPlotTool) (i : Nat), F_slices_IndexFunc_PlotTool__toolAt_1_L1 nm l i = some (ixOf (fun t => sEq t.Name nm) l (i : Int))
  | [], _ => rfl
  | t :: l, i => by
    rw [F_slices_IndexFunc_PlotTool__toolAt_1_L1, ixOf, toolAt_loop nm l (i + 1)]
    unfold F_plot_toolAt_1
    rw [Option.bind_some]
    split <;> rfl
theorem toolAt_ok (p : TPlot) (nm : ByteArray) : F_plot_toolAt p nm = some (toolN nm p.Tools) := by
  unfold F_plot_toolAt F_slices_IndexFunc_PlotTool__toolAt_1
  rw [toolAt_loop]; rfl
theorem tool_loop {p : TPlot} (nm : ByteArray) : ∀ (suf pre : List TPlotTool) (m : Nat), p.Tools = pre ++ suf → suf.length < m → (pre ++ suf).length ≤ 2000 → F_etchhouseref3_tool_L1 p nm m (pre.length : Int) = some (ixOf (fun t => sEq t.Name nm) suf (pre.length : Int))
  | [], pre, m, he, hm, hl => by
    obtain ⟨m, rfl⟩ : ∃ k, m = k + 1 := ⟨m - 1, by omega⟩
    rw [F_etchhouseref3_tool_L1, he, lt_end]; rfl
  | r :: l, pre, m, he, hm, hl => by
    obtain ⟨m, rfl⟩ : ∃ k, m = k + 1 := ⟨m - 1, by simp at hm; omega⟩
    simp at hm hl
    rw [F_etchhouseref3_tool_L1, he, lt_mid, if_pos rfl, idx_mid, Option.bind_some, ixOf, up_mid _ r (by omega), tool_loop nm l (pre ++ [r]) m (by rw [he]; simp) (by omega) (by simp; omega)]
    split
    · rfl
    · simp
theorem tool_ok {N : Nat} {p : TPlot} (nm : ByteArray) (hN : 3000 ≤ N) (hl : p.Tools.length ≤ 2000) : F_etchhouseref3_tool N p nm = some (toolN nm p.Tools) :=
  tool_loop nm p.Tools [] N rfl (by omega) hl
end Go.Proofs.YtocjndhpgjccoaaDoor
namespace Go.Proofs.YtocjndhpgjccoaaDoor
/-! Rows of corners. -/
def rowL (l : List TPoint) : List TPoint → Nat → Bool
  | [], _ => true
  | x :: r, i => if ((x.X == (l.getD ((i + 1) % l.length) ⟨0, 0⟩).X) == (x.Y == (l.getD ((i + 1) % l.length) ⟨0, 0⟩).Y)) then false else rowL l r (i + 1)
theorem next_ok {l : List TPoint} {i : Nat} (h : i < l.length) (hl : l.length ≤ 9223372036854775807) : ((md (w64 ((i : Int) + 1)) (l.length : Int)).bind fun q => idx l q) = some (l.getD ((i + 1) % l.length) ⟨0, 0⟩) := by
  have hm : (i + 1) % l.length < l.length := Nat.mod_lt _ (by omega)
  unfold md
  rw [w64_eq (by omega) (by omega), if_neg (by omega), Option.bind_some, Int.tmod_eq_emod_of_nonneg (by omega)]
  rw [show ((i : Int) + 1) % (l.length : Int) = (((i + 1) % l.length : Nat) : Int) by simp]
  rw [idx_nat hm]
  simp [List.getD, hm]
theorem next_ok2 {β : Type} {l : List TPoint} {i : Nat} (h : i < l.length) (hl : l.length ≤ 9223372036854775807) (k : TPoint → Option β) :
    ((md (w64 ((i : Int) + 1)) (l.length : Int)).bind fun q => (idx l q).bind k) = k (l.getD ((i + 1) % l.length) ⟨0, 0⟩) := by
  have := next_ok h hl
  cases hq : md (w64 ((i : Int) + 1)) (l.length : Int) with
  | none => rw [hq] at this; simp at this
  | some q =>
    rw [hq] at this
    simp only [Option.bind_some] at this ⊢
    rw [this, Option.bind_some]
theorem IsRow_loop {l : List TPoint} (hl : l.length ≤ 9223372036854775807) : ∀ (suf : List TPoint) (i : Nat), i + suf.length = l.length → F_shape_IsRow_L1 l suf i = some (rowL l suf i)
  | [], _, _ => rfl
  | x :: r, i, h => by
    simp at h
    rw [F_shape_IsRow_L1, rowL, next_ok2 (by omega) hl, IsRow_loop hl r (i + 1) (by omega)]
    split <;> rfl
theorem IsRow_ok {l : List TPoint} (hl : l.length ≤ 9223372036854775807) : F_shape_IsRow l = some (if (l.length : Int) < 4 then false else rowL l l 0) := by
  unfold F_shape_IsRow
  rw [IsRow_loop hl l 0 (by omega)]
  split
  · rename_i h; rw [if_pos (by simpa using h)]
  · rename_i h; rw [if_neg (by simpa using h)]
theorem area2_loop {l : List TPoint} (hl : l.length ≤ 2000) : ∀ (suf pre : List TPoint) (m : Nat), l = pre ++ suf → suf.length < m → F_etchhouseref3_checkArea_L2 l m (pre.length : Int) = some (if rowL l suf pre.length then 0 else 3)
  | [], pre, m, he, hm => by
    obtain ⟨m, rfl⟩ : ∃ k, m = k + 1 := ⟨m - 1, by omega⟩
    rw [F_etchhouseref3_checkArea_L2]
    rw [show decide ((pre.length : Int) < (l.length : Int)) = false from decide_eq_false (by rw [he]; simp)]
    rfl
  | x :: r, pre, m, he, hm => by
    obtain ⟨m, rfl⟩ : ∃ k, m = k + 1 := ⟨m - 1, by simp at hm; omega⟩
    simp at hm
    have hlen : l.length = pre.length + (r.length + 1) := by rw [he]; simp
    rw [F_etchhouseref3_checkArea_L2]
    rw [show decide ((pre.length : Int) < (l.length : Int)) = true from decide_eq_true (by omega), if_pos rfl]
    rw [show idx l (pre.length : Int) = some x by rw [he]; exact idx_mid _ _ _, Option.bind_some, next_ok2 (by omega) (by omega), rowL]
    split
    · simp
    · have hx := up_mid2 pre x (by omega)
      rw [hx, area2_loop hl r (pre ++ [x]) m (by rw [he]; simp) (by omega)]
      simp
def areaT (l : List TPoint) : Int := if 2000 < (l.length : Int) then 2 else if (l.length : Int) < 4 then 3 else if rowL l l 0 then 0 else 3
theorem area1_loop {N : Nat} (hN : 3000 ≤ N) {l : List TPoint} {u : Int} (hu : 1 ≤ u ∧ u ≤ 1000) (hl : l.length ≤ 9223372036854775807) : ∀ (suf pre : List TPoint) (m : Nat), l = pre ++ suf → suf.length < m →
    F_etchhouseref3_checkArea_L1 N l u m (pre.length : Int) = some (if suf.any (fun q => !fitPt q u) then 1 else areaT l)
  | [], pre, m, he, hm => by
    obtain ⟨m, rfl⟩ : ∃ k, m = k + 1 := ⟨m - 1, by omega⟩
    rw [F_etchhouseref3_checkArea_L1]
    rw [show decide ((pre.length : Int) < (l.length : Int)) = false from decide_eq_false (by rw [he]; simp)]
    simp only [Bool.false_eq_true, if_false, List.any_nil, areaT]
    by_cases h1 : 2000 < (l.length : Int)
    · rw [if_pos (decide_eq_true h1), if_pos h1]
    · rw [if_neg (by simpa using h1), if_neg h1]
      by_cases h2 : (l.length : Int) < 4
      · rw [if_pos (decide_eq_true h2), if_pos h2]
      · rw [if_neg (by simpa using h2), if_neg h2]
        exact area2_loop (by omega) l [] N rfl (by omega)
  | x :: r, pre, m, he, hm => by
    obtain ⟨m, rfl⟩ : ∃ k, m = k + 1 := ⟨m - 1, by simp at hm; omega⟩
    simp at hm
    have hlen : l.length = pre.length + (r.length + 1) := by rw [he]; simp
    rw [F_etchhouseref3_checkArea_L1]
    rw [show decide ((pre.length : Int) < (l.length : Int)) = true from decide_eq_true (by omega), if_pos rfl]
    rw [show idx l (pre.length : Int) = some x by rw [he]; exact idx_mid _ _ _, Option.bind_some, pointFits_ok hu, Option.bind_some]
    cases hf : fitPt x u
    · simp [hf]
    · rw [if_neg (by simp), up_mid2 pre x (by omega), area1_loop hN hu hl r (pre ++ [x]) m (by rw [he]; simp) (by omega)]
      simp [hf]
theorem area_ok {N : Nat} {l : List TPoint} {u : Int} (hu : 1 ≤ u ∧ u ≤ 1000) (hl : l.length ≤ 9223372036854775807) (hN : 3000 ≤ N) (hN2 : l.length < N) : F_etchhouseref3_checkArea N l u = some (if l.any (fun q => !fitPt q u) then 1 else areaT l) :=
  area1_loop hN hu hl l [] N rfl hN2
theorem contains_ok {p : TPlot} {l : List TPoint} (hu : 1 ≤ p.Unit ∧ p.Unit ≤ 1000) : F_slices_ContainsFunc_Point l (fun z0 => F_plot_checkStep_1 z0 p) = some (l.any (fun q => !fitPt q p.Unit)) := by
  have key : ∀ (l : List TPoint) (i : Nat), F_slices_IndexFunc_Point_L1 (fun z0 => F_plot_checkStep_1 z0 p) l i = some (ixOf (fun q => !fitPt q p.Unit) l (i : Int)) := by
    intro l
    induction l with
    | nil => intro i; rfl
    | cons x r ih =>
      intro i
      rw [F_slices_IndexFunc_Point_L1, ixOf, ih]
      have e : F_plot_checkStep_1 x p = some (!fitPt x p.Unit) := by
        unfold F_plot_checkStep_1
        rw [isPoint_ok hu]; rfl
      rw [e, Option.bind_some]
      split <;> rfl
  unfold F_slices_ContainsFunc_Point F_slices_IndexFunc_Point
  rw [key, Option.bind_some]
  exact congrArg some (ixOf_any _ l 0 (by omega))
/-! The error of a step. -/
def fieldsB (s : TPlotStep) : Bool :=
  (((s.Kind == 3 || sEq s.Name ByteArray.empty) && ((s.Kind == 4 || s.Kind == 5 || s.Kind == 6 || s.Kind == 8) || eqTPoint s.At ⟨0, 0⟩)) && (s.Kind == 7 || (s.Points.length : Int) == 0)) && (s.Kind == 8 || ((s.NX == 0 && s.NY == 0) && (s.Steps.length : Int) == 0))
theorem fieldsOf_ok (k : Int) : F_plot_fieldsOf k = some ⟨k == 3, k == 4 || k == 5 || k == 6 || k == 8, k == 7, k == 8⟩ := by
  unfold F_plot_fieldsOf F_plot_fieldsOf_J1
  by_cases h3 : k = 3
  · subst h3; rfl
  by_cases h4 : k = 4
  · subst h4; rfl
  by_cases h5 : k = 5
  · subst h5; rfl
  by_cases h6 : k = 6
  · subst h6; rfl
  by_cases h7 : k = 7
  · subst h7; rfl
  by_cases h8 : k = 8
  · subst h8; rfl
  simp [h3, h4, h5, h6, h7, h8]
theorem fields_ok (s : TPlotStep) : F_etchhouseref3_fields s = some (fieldsB s) := by
  unfold F_etchhouseref3_fields F_etchhouseref3_fields_J3 F_etchhouseref3_fields_J2 fieldsB
  generalize s.Kind = k
  by_cases h3 : k = 3
  · subst h3; rfl
  by_cases h4 : k = 4
  · subst h4; rfl
  by_cases h5 : k = 5
  · subst h5; rfl
  by_cases h6 : k = 6
  · subst h6; rfl
  by_cases h7 : k = 7
  · subst h7; rfl
  by_cases h8 : k = 8
  · subst h8; rfl
  have b3 : (k == 3) = false := by simpa using h3
  have b4 : (k == 4) = false := by simpa using h4
  have b5 : (k == 5) = false := by simpa using h5
  have b6 : (k == 6) = false := by simpa using h6
  have b7 : (k == 7) = false := by simpa using h7
  have b8 : (k == 8) = false := by simpa using h8
  simp only [b3, b4, b5, b6, b7, b8, Bool.false_or, Bool.false_eq_true, if_false]
def repE (s : TPlotStep) (d : Int) : Int :=
  if (!(decide (1 ≤ s.NX) && decide (s.NX ≤ 100))) || (!(decide (1 ≤ s.NY) && decide (s.NY ≤ 100))) then 1 else if (s.Steps.length : Int) = 0 then 9 else if 5 ≤ d then 2 else 0
def stepE (p : TPlot) (s : TPlotStep) (d : Int) : Int :=
  if !(decide (1 ≤ s.Kind) && decide (s.Kind ≤ 8)) then 4 else if !fieldsB s then 3 else if s.Kind == 3 && decide (toolN s.Name p.Tools < 0) then 5 else if !fitPt s.At p.Unit then 1
  else if s.Kind == 7 then (if s.Points.any (fun q => !fitPt q p.Unit) then 1 else areaT s.Points) else if s.Kind == 8 then repE s d else 0
theorem checkStepR_ok {N : Nat} {p : TPlot} {s : TPlotStep} {d : Int} (hu : 1 ≤ p.Unit ∧ p.Unit ≤ 1000) (ht : p.Tools.length ≤ 2000) (hl : s.Points.length ≤ 9223372036854775807) (hN : 3000 ≤ N) (hN2 : s.Points.length < N) : F_etchhouseref3_checkStep N p s d = some (stepE p s d) := by
  unfold F_etchhouseref3_checkStep stepE
  have hw : ∀ a b c : Int, F_etchhouseref3_within a b c = some (decide (b ≤ a) && decide (a ≤ c)) := fun _ _ _ => rfl
  simp only [hw, Option.bind_some, fields_ok, tool_ok _ hN ht, pointFits_ok hu, area_ok hu hl hN hN2, F_etchhouseref3_checkStep_J1]
  by_cases hk : (decide (1 ≤ s.Kind) && decide (s.Kind ≤ 8)) = true
  · simp only [hk, Bool.not_true, Bool.false_eq_true, if_false]
    cases hf : fieldsB s
    · simp
    · simp only [Bool.not_true, Bool.false_eq_true, if_false]
      by_cases h3 : s.Kind = 3
      · simp only [h3]
        cases hd : decide (toolN s.Name p.Tools < 0) <;> simp [hd]
        cases fitPt s.At p.Unit <;> simp
      · have h3' : (s.Kind == 3) = false := by simpa using h3
        simp only [h3', Bool.false_eq_true, if_false, Option.bind_some, Bool.false_and]
        cases fitPt s.At p.Unit
        · simp
        · simp only [Bool.not_true, Bool.false_eq_true, if_false]
          by_cases h7 : s.Kind = 7
          · simp [h7]
          · have h7' : (s.Kind == 7) = false := by simpa using h7
            simp only [h7', Bool.false_eq_true, if_false]
            by_cases h8 : s.Kind = 8
            · simp only [h8, beq_self_eq_true, if_true, repE]
              cases (decide (1 ≤ s.NX) && decide (s.NX ≤ 100))
              · simp
              · simp only [Bool.not_true, Bool.false_eq_true, if_false, Option.bind_some, Bool.false_or]
                cases (decide (1 ≤ s.NY) && decide (s.NY ≤ 100))
                · simp
                · simp only [Bool.not_true, Bool.false_eq_true, if_false]
                  by_cases h0 : (s.Steps.length : Int) = 0
                  · rw [if_pos (beq_iff_eq.2 h0), if_pos h0]
                  · rw [if_neg (fun h => h0 (beq_iff_eq.1 h)), if_neg h0]
                    by_cases h5 : 5 ≤ d
                    · rw [if_pos (decide_eq_true h5), if_pos h5]
                    · rw [if_neg (by simpa using h5), if_neg h5]
            · have h8' : (s.Kind == 8) = false := by simpa using h8
              simp only [h8', Bool.false_eq_true, if_false]
  · have hk' : (decide (1 ≤ s.Kind) && decide (s.Kind ≤ 8)) = false := by simpa using hk
    simp [hk']
theorem J1_join (p0 : TPlot) (p1 : TPlotStep) (p2 : Int) (y : TFields) (a b c d : Bool) : (if a = true then F_plot_checkStep_J1 p0 p1 p2 y a else if b = true then F_plot_checkStep_J1 p0 p1 p2 y b else if c = true then F_plot_checkStep_J1 p0 p1 p2 y c else F_plot_checkStep_J1 p0 p1 p2 y d) = F_plot_checkStep_J1 p0 p1 p2 y (a || b || c || d) := by
  cases a <;> cases b <;> cases c <;> cases d <;> rfl
theorem checkStep_ok {p : TPlot} {s : TPlotStep} {d : Int} (hu : 1 ≤ p.Unit ∧ p.Unit ≤ 1000) (hl : s.Points.length ≤ 9223372036854775807) : F_plot_checkStep p s d = some (stepE p s d) := by
  unfold F_plot_checkStep stepE
  have hw : ∀ a b c : Int, F_plot_within a b c = some (decide (b ≤ a) && decide (a ≤ c)) := fun _ _ _ => rfl
  rw [hw, Option.bind_some, fieldsOf_ok]
  by_cases hk : (decide (1 ≤ s.Kind) && decide (s.Kind ≤ 8)) = true
  · simp only [hk, Bool.not_true, Bool.false_eq_true, if_false, Option.bind_some]
    rw [J1_join]
    have hf : (!(s.Kind == 3) && !sEq s.Name ByteArray.empty || !(s.Kind == 4 || s.Kind == 5 || s.Kind == 6 || s.Kind == 8) && !eqTPoint s.At ⟨0, 0⟩ || !(s.Kind == 7) && decide (0 < (s.Points.length : Int)) || !(s.Kind == 8) && (s.NX != 0 || s.NY != 0 || decide (0 < (s.Steps.length : Int)))) = !fieldsB s := by
      unfold fieldsB
      have e1 : decide (0 < (s.Points.length : Int)) = !((s.Points.length : Int) == 0) := by rw [Bool.eq_iff_iff]; simp only [decide_eq_true_eq, Bool.not_eq_true', beq_eq_false_iff_ne, ne_eq]; omega
      have e2 : decide (0 < (s.Steps.length : Int)) = !((s.Steps.length : Int) == 0) := by rw [Bool.eq_iff_iff]; simp only [decide_eq_true_eq, Bool.not_eq_true', beq_eq_false_iff_ne, ne_eq]; omega
      rw [e1, e2]
      simp only [bne, Bool.not_and, Bool.not_or]
    rw [hf]
    unfold F_plot_checkStep_J1
    simp only [toolAt_ok, isPoint_ok hu, contains_ok hu, IsRow_ok hl, Option.bind_some, hw]
    cases hfb : fieldsB s
    · simp
    · simp only [Bool.not_true, Bool.false_eq_true, if_false]
      have hpt : s.Kind ≠ 7 → s.Points = [] := by
        intro h7
        unfold fieldsB at hfb
        simp only [Bool.and_eq_true, Bool.or_eq_true, beq_iff_eq] at hfb
        have := hfb.1.2.resolve_left h7
        exact List.eq_nil_of_length_eq_zero (by omega)
      by_cases h3 : s.Kind = 3
      · have hp := hpt (by omega)
        simp only [h3, hp, beq_self_eq_true, if_true, Option.bind_some]
        cases hd : decide (toolN s.Name p.Tools < 0) <;> simp [hd]
        cases fitPt s.At p.Unit <;> simp
      · have h3' : (s.Kind == 3) = false := by simpa using h3
        simp only [h3', Bool.false_eq_true, if_false, Option.bind_some, Bool.false_and]
        cases fitPt s.At p.Unit
        · simp
        · simp only [Bool.not_true, Bool.false_eq_true, if_false, Option.bind_some]
          by_cases h7 : s.Kind = 7
          · simp only [h7, beq_self_eq_true, if_true]
            cases s.Points.any (fun q => !fitPt q p.Unit)
            · simp only [Bool.false_eq_true, if_false, areaT]
              by_cases h1 : 2000 < (s.Points.length : Int)
              · rw [if_pos (decide_eq_true h1), if_pos h1]
              · rw [if_neg (by simpa using h1), if_neg h1]
                by_cases h2 : (s.Points.length : Int) < 4
                · simp [h2]
                · simp only [h2, if_false]
                  cases rowL s.Points s.Points 0 <;> simp
            · simp
          · have h7' : (s.Kind == 7) = false := by simpa using h7
            have hp := hpt h7
            simp only [h7', hp, Bool.false_eq_true, if_false, List.any_nil, List.length_nil, Option.bind_some]
            by_cases h8 : s.Kind = 8
            · simp only [h8, beq_self_eq_true, if_true, repE]
              cases (decide (1 ≤ s.NX) && decide (s.NX ≤ 100))
              · simp
              · simp only [Bool.not_true, Bool.false_eq_true, if_false, Option.bind_some, Bool.false_or]
                cases (decide (1 ≤ s.NY) && decide (s.NY ≤ 100))
                · simp
                · simp only [Bool.not_true, Bool.false_eq_true, if_false]
                  rw [if_neg (by simp)]
                  by_cases h0 : (s.Steps.length : Int) = 0
                  · rw [if_pos (beq_iff_eq.2 h0), if_pos h0]
                  · rw [if_neg (fun h => h0 (beq_iff_eq.1 h)), if_neg h0]
                    by_cases h5 : 5 ≤ d
                    · rw [if_pos (decide_eq_true h5), if_pos h5]
                    · rw [if_neg (by simpa using h5), if_neg h5]
            · have h8' : (s.Kind == 8) = false := by simpa using h8
              simp [h8']
  · have hk' : (decide (1 ≤ s.Kind) && decide (s.Kind ≤ 8)) = false := by simpa using hk
    simp [hk']
end Go.Proofs.YtocjndhpgjccoaaDoor
namespace Go.Proofs.YtocjndhpgjccoaaDoor
mutual
/-- How large a step is. -/
def szStep : TPlotStep → Nat
  | ⟨_, n, _, ps, _, _, l⟩ => 1 + n.size + ps.length + szSteps l
def szSteps : List TPlotStep → Nat
  | [] => 0
  | x :: l => szStep x + szSteps l
end
mutual
/-- How many steps there are. -/
def ndStep : TPlotStep → Nat
  | ⟨_, _, _, _, _, _, l⟩ => 1 + ndSteps l
def ndSteps : List TPlotStep → Nat
  | [] => 0
  | x :: l => ndStep x + ndSteps l
end
theorem szStep_eq (x : TPlotStep) : szStep x = 1 + x.Name.size + x.Points.length + szSteps x.Steps := by cases x; rw [szStep]
theorem ndStep_eq (x : TPlotStep) : ndStep x = 1 + ndSteps x.Steps := by cases x; rw [ndStep]
theorem szSteps_nil : szSteps [] = 0 := by rw [szSteps]
theorem szSteps_cons (x : TPlotStep) (l : List TPlotStep) : szSteps (x :: l) = szStep x + szSteps l := by rw [szSteps]
theorem ndSteps_nil : ndSteps [] = 0 := by rw [ndSteps]
theorem ndSteps_cons (x : TPlotStep) (l : List TPlotStep) : ndSteps (x :: l) = ndStep x + ndSteps l := by rw [ndSteps]
theorem szSteps_mem {x : TPlotStep} : ∀ {l : List TPlotStep}, x ∈ l → szStep x ≤ szSteps l
  | y :: l, h => by
    rw [szSteps_cons]
    rcases List.mem_cons.1 h with h | h
    · subst h; omega
    · have := szSteps_mem h; omega
theorem ndSteps_mem {x : TPlotStep} : ∀ {l : List TPlotStep}, x ∈ l → ndStep x ≤ ndSteps l
  | y :: l, h => by
    rw [ndSteps_cons]
    rcases List.mem_cons.1 h with h | h
    · subst h; omega
    · have := ndSteps_mem h; omega
theorem szSteps_len : ∀ (l : List TPlotStep), l.length ≤ szSteps l
  | [] => by simp
  | x :: l => by
    have := szSteps_len l
    have := szStep_eq x
    rw [szSteps_cons, List.length_cons]; omega
/-- Numbers of 64 bits. -/
def J64 (n : Int) : Prop := -9223372036854775808 ≤ n ∧ n ≤ 9223372036854775807
mutual
/-- Lengths and numbers are those of the machine. -/
def lenS : TPlotStep → Prop
  | ⟨_, n, a, ps, nx, ny, l⟩ => n.size ≤ 9223372036854775807 ∧ (J64 a.X ∧ J64 a.Y) ∧ (ps.length ≤ 9223372036854775807 ∧ ∀ q ∈ ps, J64 q.X ∧ J64 q.Y) ∧ (J64 nx ∧ J64 ny) ∧ l.length ≤ 9223372036854775807 ∧ lenL l
def lenL : List TPlotStep → Prop
  | [] => True
  | x :: l => lenS x ∧ lenL l
end
theorem lenS_eq (x : TPlotStep) : lenS x ↔ x.Name.size ≤ 9223372036854775807 ∧ (J64 x.At.X ∧ J64 x.At.Y) ∧ (x.Points.length ≤ 9223372036854775807 ∧ ∀ q ∈ x.Points, J64 q.X ∧ J64 q.Y) ∧ (J64 x.NX ∧ J64 x.NY) ∧ x.Steps.length ≤ 9223372036854775807 ∧ lenL x.Steps := by cases x; rw [lenS]
theorem lenL_cons (x : TPlotStep) (l : List TPlotStep) : lenL (x :: l) ↔ lenS x ∧ lenL l := by rw [lenL]
theorem lenL_mem {x : TPlotStep} : ∀ {l : List TPlotStep}, lenL l → x ∈ l → lenS x
  | y :: l, h, hm => by
    rw [lenL_cons] at h
    rcases List.mem_cons.1 hm with e | e
    · subst e; exact h.1
    · exact lenL_mem h.2 e
theorem lenL_of {l : List TPlotStep} (h : ∀ x ∈ l, lenS x) : lenL l := by
  induction l with
  | nil => rw [lenL]; trivial
  | cons x l ih => rw [lenL_cons]; exact ⟨h x List.mem_cons_self, ih (fun y hy => h y (List.mem_cons_of_mem _ hy))⟩
/-! How many steps are done. -/
def tm (n : Int) : Int := if 1 ≤ n ∧ n ≤ 100 then n else 1
theorem tm_bd (n : Int) : 1 ≤ tm n ∧ tm n ≤ 100 := by unfold tm; split <;> omega
theorem times1_ok (n : Int) : F_plot_times_1 n = some (tm n) := by
  unfold F_plot_times_1 tm
  have hw : F_plot_within n 1 100 = some (decide (1 ≤ n) && decide (n ≤ 100)) := rfl
  rw [hw, Option.bind_some]
  by_cases h : 1 ≤ n ∧ n ≤ 100
  · rw [if_pos h, if_pos (by simpa using h)]
  · rw [if_neg h, if_neg (by simpa using h)]
theorem tm_mul (a b : Int) : 1 ≤ tm a * tm b ∧ tm a * tm b ≤ 10000 := by
  have h1 := tm_bd a
  have h2 := tm_bd b
  generalize tm a = x at *
  generalize tm b = y at *
  constructor
  · have := Int.mul_le_mul h1.1 h2.1 (by omega) (by omega); omega
  · have := Int.mul_le_mul h1.2 h2.2 (by omega) (by omega); omega
theorem times_ok (s : TPlotStep) : F_plot_times s = some (tm s.NX * tm s.NY) := by
  have := tm_mul s.NX s.NY
  unfold F_plot_times
  rw [times1_ok, times1_ok, Option.bind_some, Option.bind_some, w64_id (by omega) (by omega)]
/-- What a list of steps counts, in both. -/
def CountAs (recp recr : List TPlotStep → Option Int) (l : List TPlotStep) : Prop := ∃ c, recp l = some c ∧ recr l = some c ∧ 0 ≤ c ∧ c ≤ 3001 ∧ (l = [] → c = 0) ∧ (c ≤ 3000 → (ndSteps l : Int) ≤ c)
theorem count_loop {recp recr : List TPlotStep → Option Int} : ∀ (suf pre : List TPlotStep) (i m : Nat) (x : Int), 0 ≤ x → x ≤ 3000 → (∀ s ∈ suf, CountAs recp recr s.Steps) → suf.length < m → (pre ++ suf).length ≤ 9223372036854775807 →
    ∃ r, F_plot_count_L3 recp suf i x = some r ∧ F_etchhouseref3_count_L5 (pre ++ suf) recr m x (pre.length : Int) = some r ∧ 0 ≤ r ∧ r ≤ 3001 ∧ (suf = [] → r = x) ∧ (r ≤ 3000 → x + (ndSteps suf : Int) ≤ r)
  | [], pre, i, m, x, h0, h1, _, hm, hl => by
    obtain ⟨m, rfl⟩ : ∃ k, m = k + 1 := ⟨m - 1, by omega⟩
    refine ⟨x, rfl, ?_, h0, by omega, fun _ => rfl, fun _ => by rw [ndSteps_nil]; simp⟩
    rw [F_etchhouseref3_count_L5, lt_end, Bool.false_and, if_neg (by simp)]
    congr 1
    omega
  | s :: l, pre, i, m, x, h0, h1, hc, hm, hl => by
    obtain ⟨m, rfl⟩ : ∃ k, m = k + 1 := ⟨m - 1, by simp at hm; omega⟩
    obtain ⟨c, c1, c2, c3, c4, c5, c6⟩ := hc s List.mem_cons_self
    simp at hm hl
    have ht := tm_mul s.NX s.NY
    have hx := tm_bd s.NX
    have hy := tm_bd s.NY
    have hpc : 0 ≤ tm s.NX * tm s.NY * c ∧ tm s.NX * tm s.NY * c ≤ 30010000 ∧ c ≤ tm s.NX * tm s.NY * c := by
      generalize tm s.NX * tm s.NY = t at *
      refine ⟨Int.mul_nonneg (by omega) c3, ?_, ?_⟩
      · have := Int.mul_le_mul ht.2 c4 c3 (by omega); omega
      · have := Int.mul_le_mul_of_nonneg_right ht.1 c3; omega
    have hR : F_etchhouseref3_count_L5 (pre ++ s :: l) recr (m + 1) x (pre.length : Int) = F_etchhouseref3_count_L5 (pre ++ s :: l) recr m (x + 1 + tm s.NX * tm s.NY * c) ((pre ++ [s]).length : Int) := by
      have hw : ∀ n : Int, F_etchhouseref3_within n 1 100 = some (decide (1 ≤ n) && decide (n ≤ 100)) := fun _ => rfl
      rw [F_etchhouseref3_count_L5, lt_mid, Bool.true_and, if_pos (by simpa using h1), idx_mid, Option.bind_some, hw, Option.bind_some]
      have key6 : ∀ a b : Int, a = tm s.NX → b = tm s.NY → F_etchhouseref3_count_J6 (pre ++ s :: l) recr x (pre.length : Int) (F_etchhouseref3_count_L5 (pre ++ s :: l) recr m) a b = F_etchhouseref3_count_L5 (pre ++ s :: l) recr m (x + 1 + tm s.NX * tm s.NY * c) ((pre ++ [s]).length : Int) := by
        intro a b ha hb
        subst ha; subst hb
        unfold F_etchhouseref3_count_J6
        rw [idx_mid, Option.bind_some, c2, Option.bind_some, up_mid2 _ s (by omega), w64_id (x := tm s.NX * tm s.NY) (by omega) (by omega), w64_id (x := tm s.NX * tm s.NY * c) (by omega) (by omega), w64_id (x := x + 1) (by omega) (by omega), w64_id (by omega) (by omega)]
      have key7 : ∀ a : Int, a = tm s.NX → F_etchhouseref3_count_J7 (pre ++ s :: l) recr x (pre.length : Int) (F_etchhouseref3_count_L5 (pre ++ s :: l) recr m) a = F_etchhouseref3_count_L5 (pre ++ s :: l) recr m (x + 1 + tm s.NX * tm s.NY * c) ((pre ++ [s]).length : Int) := by
        intro a ha
        unfold F_etchhouseref3_count_J7
        rw [idx_mid, Option.bind_some, hw, Option.bind_some]
        by_cases h : 1 ≤ s.NY ∧ s.NY ≤ 100
        · rw [if_pos (by simpa using h)]; exact key6 _ _ ha (by unfold tm; rw [if_pos h])
        · rw [if_neg (by simpa using h)]; exact key6 _ _ ha (by unfold tm; rw [if_neg h])
      by_cases h : 1 ≤ s.NX ∧ s.NX ≤ 100
      · rw [if_pos (by simpa using h)]; exact key7 _ (by unfold tm; rw [if_pos h])
      · rw [if_neg (by simpa using h)]; exact key7 _ (by unfold tm; rw [if_neg h])
    have hP : F_plot_count_L3 recp (s :: l) i x = F_plot_count_J4 (F_plot_count_L3 recp l (i + 1)) (x + 1 + tm s.NX * tm s.NY * c) := by
      rw [F_plot_count_L3]
      by_cases he : s.Steps = []
      · rw [if_neg (by rw [he]; simp), c5 he, w64_id (by omega) (by omega)]; simp
      · have : 0 < (s.Steps.length : Int) := by
          have := List.length_pos_iff.2 he; omega
        rw [if_pos (decide_eq_true this), times_ok, Option.bind_some, c1, Option.bind_some, w64_id (x := tm s.NX * tm s.NY * c) (by omega) (by omega), w64_id (x := x + 1) (by omega) (by omega), w64_id (by omega) (by omega)]
    rw [hP, hR]
    unfold F_plot_count_J4
    by_cases hb : 3000 < x + 1 + tm s.NX * tm s.NY * c
    · rw [if_pos (decide_eq_true hb)]
      refine ⟨3001, rfl, ?_, by omega, by omega, fun h => (by cases h), fun h => by omega⟩
      obtain ⟨m, rfl⟩ : ∃ k, m = k + 1 := ⟨m - 1, by omega⟩
      rw [F_etchhouseref3_count_L5, if_neg (by simp; omega)]
      congr 1; omega
    · rw [if_neg (by simpa using hb), snoc_mid]
      obtain ⟨r, r1, r2, r3, r4, r5, r6⟩ := count_loop l (pre ++ [s]) (i + 1) m (x + 1 + tm s.NX * tm s.NY * c) (by omega) (by omega) (fun t ht => hc t (List.mem_cons_of_mem _ ht)) (by omega) (by simp; omega)
      refine ⟨r, r1, r2, r3, r4, fun h => (by cases h), fun h => ?_⟩
      have := r6 h
      have := c6 (by omega)
      rw [ndSteps_cons, ndStep_eq]
      omega
theorem count_ok : ∀ (k : Nat) (l : List TPlotStep) (N : Nat), szSteps l ≤ k → k + 5 ≤ N → l.length ≤ 9223372036854775807 → lenL l → CountAs (F_plot_count N) (F_etchhouseref3_count N) l
  | k, l, N, hk, hN, hl, hA => by
    obtain ⟨N, rfl⟩ : ∃ n, N = n + 1 := ⟨N - 1, by omega⟩
    have hlen := szSteps_len l
    have hrec : ∀ s ∈ l, CountAs (F_plot_count N) (F_etchhouseref3_count N) s.Steps := by
      intro s hs
      have h1 := szSteps_mem hs
      have h2 := szStep_eq s
      have h3 := (lenS_eq s).1 (lenL_mem hA hs)
      cases k with
      | zero => omega
      | succ k => exact count_ok k s.Steps N (by omega) (by omega) h3.2.2.2.2.1 h3.2.2.2.2.2
    obtain ⟨r, r1, r2, r3, r4, r5, r6⟩ := count_loop l [] 0 N 0 (by omega) (by omega) hrec (by omega) (by simpa using hl)
    exact ⟨r, r1, r2, r3, r4, r5, fun h => by have := r6 h; omega⟩
/-! The error of all steps. -/
/-- What is known of steps that have no error. -/
def goodS (nm : Nat) (s : TPlotStep) : Prop := s.Points.length ≤ 2000 ∧ s.Name.size ≤ nm
mutual
def goodT (nm : Nat) : TPlotStep → Prop
  | ⟨k, n, a, ps, nx, ny, l⟩ => goodS nm ⟨k, n, a, ps, nx, ny, l⟩ ∧ goodL nm l
def goodL (nm : Nat) : List TPlotStep → Prop
  | [] => True
  | x :: l => goodT nm x ∧ goodL nm l
end
theorem goodT_eq (nm : Nat) (x : TPlotStep) : goodT nm x ↔ goodS nm x ∧ goodL nm x.Steps := by cases x; rw [goodT]
theorem goodL_nil (nm : Nat) : goodL nm [] := by rw [goodL]; trivial
theorem goodL_cons (nm : Nat) (x : TPlotStep) (l : List TPlotStep) : goodL nm (x :: l) ↔ goodT nm x ∧ goodL nm l := by rw [goodL]
theorem goodL_mem {nm : Nat} {x : TPlotStep} : ∀ {l : List TPlotStep}, goodL nm l → x ∈ l → goodT nm x
  | y :: l, h, hm => by
    rw [goodL_cons] at h
    rcases List.mem_cons.1 hm with e | e
    · subst e; exact h.1
    · exact goodL_mem h.2 e
/-- The tools' names are not long. -/
def namesOk (nm : Nat) (p : TPlot) : Prop := ∀ t ∈ p.Tools, t.Name.size ≤ nm
theorem toolN_mem {nm : ByteArray} {l : List TPlotTool} (h : ¬ toolN nm l < 0) : ∃ t ∈ l, t.Name = nm := by
  have : ∀ (l : List TPlotTool) (i : Int), 0 ≤ i → ¬ ixOf (fun t => sEq t.Name nm) l i < 0 → ∃ t ∈ l, t.Name = nm := by
    intro l
    induction l with
    | nil => intro i _ h; simp [ixOf] at h
    | cons t l ih =>
      intro i hi h
      unfold ixOf at h
      by_cases ht : sEq t.Name nm = true
      · exact ⟨t, List.mem_cons_self, sEq_iff.1 ht⟩
      · rw [if_neg ht] at h
        obtain ⟨x, hx, he⟩ := ih (i + 1) (by omega) h
        exact ⟨x, List.mem_cons_of_mem _ hx, he⟩
  exact this l 0 (by omega) h
theorem stepE_good {nm : Nat} {p : TPlot} {s : TPlotStep} {d : Int} (hp : namesOk nm p) (h : stepE p s d = 0) : goodS nm s := by
  unfold stepE at h
  split at h
  · cases h
  split at h
  · cases h
  rename_i hk hf
  have hf : fieldsB s = true := by simpa using hf
  unfold fieldsB at hf
  simp only [Bool.and_eq_true, Bool.or_eq_true, beq_iff_eq] at hf
  split at h
  · cases h
  rename_i ht
  have hname : s.Name.size ≤ nm := by
    rcases hf.1.1.1 with h3 | h3
    · simp only [h3, beq_self_eq_true, Bool.true_and, decide_eq_true_eq] at ht
      obtain ⟨t, h1, h2⟩ := toolN_mem ht
      rw [← h2]; exact hp t h1
    · rw [sEq_iff.1 h3]; exact Nat.zero_le _
  split at h
  · cases h
  refine ⟨?_, hname⟩
  rcases hf.1.2 with h7 | h7
  · simp only [h7, beq_self_eq_true, if_true] at h
    split at h
    · cases h
    · unfold areaT at h
      split at h
      · cases h
      · omega
  · omega
def ErrAs (p : TPlot) (nm : Nat) (recp recr : TPlot → List TPlotStep → Int → Option Int) (l : List TPlotStep) (d : Int) : Prop := ∃ e, recp p l d = some e ∧ recr p l d = some e ∧ (e = 0 → goodL nm l)
theorem checkSteps_loop {nm N : Nat} {p : TPlot} {d : Int} (hN : 3000 ≤ N) (hu : 1 ≤ p.Unit ∧ p.Unit ≤ 1000) (ht : p.Tools.length ≤ 2000) (hp : namesOk nm p) {recp recr : TPlot → List TPlotStep → Int → Option Int} : ∀ (suf pre : List TPlotStep) (i m : Nat),
    (∀ s ∈ suf, ErrAs p nm recp recr s.Steps (w64 (d + 1))) → (∀ s ∈ suf, s.Points.length ≤ 9223372036854775807 ∧ s.Points.length < N) → suf.length < m → (pre ++ suf).length ≤ 9223372036854775807 →
    ∃ e, F_plot_checkSteps_L1 p d recp suf i = some e ∧ F_etchhouseref3_checkSteps_L1 N p (pre ++ suf) d recr m (pre.length : Int) = some e ∧ (e = 0 → goodL nm suf)
  | [], pre, i, m, _, _, hm, hl => by
    obtain ⟨m, rfl⟩ : ∃ k, m = k + 1 := ⟨m - 1, by omega⟩
    refine ⟨0, rfl, ?_, fun _ => goodL_nil nm⟩
    rw [F_etchhouseref3_checkSteps_L1, lt_end, if_neg (by simp)]
  | s :: l, pre, i, m, hr, hs, hm, hl => by
    obtain ⟨m, rfl⟩ : ∃ k, m = k + 1 := ⟨m - 1, by simp at hm; omega⟩
    obtain ⟨e, e1, e2, e3⟩ := hr s List.mem_cons_self
    obtain ⟨s1, s2⟩ := hs s List.mem_cons_self
    simp at hm hl
    rw [F_plot_checkSteps_L1, F_etchhouseref3_checkSteps_L1, lt_mid, if_pos rfl, idx_mid, Option.bind_some, checkStep_ok hu s1, checkStepR_ok hu ht s1 hN s2, Option.bind_some, Option.bind_some]
    by_cases h0 : stepE p s d = 0
    · rw [if_neg (by simp [h0]), if_neg (by simp [h0]), Option.bind_some, e1, e2, Option.bind_some, Option.bind_some]
      by_cases h1 : e = 0
      · subst h1
        rw [if_neg (by simp), if_neg (by simp), up_mid2 _ s (by omega), snoc_mid]
        obtain ⟨r, r1, r2, r3⟩ := checkSteps_loop hN hu ht hp l (pre ++ [s]) (i + 1) m (fun x hx => hr x (List.mem_cons_of_mem _ hx)) (fun x hx => hs x (List.mem_cons_of_mem _ hx)) (by omega) (by simp; omega)
        exact ⟨r, r1, r2, fun h => (goodL_cons _ _ _).2 ⟨(goodT_eq _ _).2 ⟨stepE_good hp h0, e3 rfl⟩, r3 h⟩⟩
      · rw [if_pos (by simpa using h1), if_pos (by simpa using h1)]
        exact ⟨e, rfl, rfl, fun h => absurd h h1⟩
    · rw [if_pos (by simpa using h0), if_pos (by simpa using h0)]
      exact ⟨_, rfl, rfl, fun h => absurd h h0⟩
set_option maxRecDepth 100000 in
theorem checkSteps_ok {nm : Nat} {p : TPlot} (hu : 1 ≤ p.Unit ∧ p.Unit ≤ 1000) (ht : p.Tools.length ≤ 2000) (hp : namesOk nm p) : ∀ (k : Nat) (l : List TPlotStep) (N : Nat) (d : Int), szSteps l ≤ k → k + 3001 ≤ N → l.length ≤ 9223372036854775807 → lenL l →
    ErrAs p nm (F_plot_checkSteps N) (F_etchhouseref3_checkSteps N) l d
  | k, l, N, d, hk, hN, hl, hA => by
    obtain ⟨N, rfl⟩ : ∃ n, N = n + 1 := ⟨N - 1, by omega⟩
    have hlen := szSteps_len l
    have hrec : ∀ s ∈ l, ErrAs p nm (F_plot_checkSteps N) (F_etchhouseref3_checkSteps N) s.Steps (w64 (d + 1)) := by
      intro s hs
      have h1 := szSteps_mem hs
      have h2 := szStep_eq s
      have h3 := (lenS_eq s).1 (lenL_mem hA hs)
      cases k with
      | zero => omega
      | succ k => exact checkSteps_ok hu ht hp k s.Steps N _ (by omega) (by omega) h3.2.2.2.2.1 h3.2.2.2.2.2
    exact checkSteps_loop (by omega) hu ht hp l [] 0 N hrec (fun s hs => by
      have h1 := szSteps_mem hs
      have h2 := szStep_eq s
      have h3 := (lenS_eq s).1 (lenL_mem hA hs)
      exact ⟨h3.2.2.1.1, by omega⟩) (by omega) (by simpa using hl)
end Go.Proofs.YtocjndhpgjccoaaDoor
namespace Go.Proofs.YtocjndhpgjccoaaDoor
/-- What is known of a plot that has no error. -/
structure GoodP (p : TPlot) : Prop where
  unit : 1 ≤ p.Unit ∧ p.Unit ≤ 1000
  few : p.Tools.length ≤ 200
  tools : ∀ t ∈ p.Tools, t.Name.size ≤ 40 ∧ t.Rects.length ≤ 2000
  steps : goodL 40 p.Steps
  nd : ndSteps p.Steps ≤ 3000
/-- Lengths and numbers of a plot are those of the machine. -/
structure LenP (p : TPlot) : Prop where
  unit : J64 p.Unit
  tools : ∀ t ∈ p.Tools, t.Name.size ≤ 9223372036854775807 ∧ ∀ r ∈ t.Rects, (J64 r.X0 ∧ J64 r.Y0) ∧ J64 r.X1 ∧ J64 r.Y1
  sl : p.Steps.length ≤ 9223372036854775807
  steps : lenL p.Steps
def szTools : List TPlotTool → Nat
  | [] => 0
  | t :: l => 1 + t.Name.size + szTools l
theorem szTools_mem {t : TPlotTool} : ∀ {l : List TPlotTool}, t ∈ l → t.Name.size < szTools l
  | x :: l, h => by
    rw [szTools]
    rcases List.mem_cons.1 h with e | e
    · subst e; omega
    · have := szTools_mem e; omega
/-- Fuel enough. -/
def Fu (p : TPlot) (N : Nat) : Prop := szSteps p.Steps + szTools p.Tools + 10000 ≤ N
theorem toolE_good {t : TPlotTool} {u : Int} (h : toolE t u = 0) : t.Rects.length ≤ 2000 := by
  unfold toolE at h
  split at h
  · cases h
  split at h
  · cases h
  · omega
theorem check_end {N : Nat} {p : TPlot} (hN : Fu p N) (hL : LenP p) (hu : 1 ≤ p.Unit ∧ p.Unit ≤ 1000) (ht : p.Tools.length ≤ 200) (hp : ∀ t ∈ p.Tools, t.Name.size ≤ 40 ∧ t.Rects.length ≤ 2000) :
    ∃ e, ((F_plot_count N p.Steps).bind fun y112 => if (decide (3000 < y112)) then some 2 else (F_plot_checkSteps N p p.Steps 0).bind fun y113 => some y113) = some e ∧
      ((F_etchhouseref3_count N p.Steps).bind fun y112 => if (decide (3000 < y112)) then some 2 else (F_etchhouseref3_checkSteps N p p.Steps 0).bind fun y113 => some y113) = some e ∧ (e = 0 → GoodP p) := by
  unfold Fu at hN
  obtain ⟨c, c1, c2, c3, c4, c5, c6⟩ := count_ok (szSteps p.Steps) p.Steps N (Nat.le_refl _) (by omega) hL.sl hL.steps
  rw [c1, c2, Option.bind_some, Option.bind_some]
  by_cases hc : 3000 < c
  · rw [if_pos (decide_eq_true hc), if_pos (decide_eq_true hc)]
    exact ⟨2, rfl, rfl, fun h => by cases h⟩
  · rw [if_neg (by simpa using hc), if_neg (by simpa using hc)]
    obtain ⟨e, e1, e2, e3⟩ := checkSteps_ok (nm := 40) (p := p) hu (by omega) (fun t h => (hp t h).1) (szSteps p.Steps) p.Steps N 0 (Nat.le_refl _) (by omega) hL.sl hL.steps
    rw [e1, e2]
    exact ⟨e, rfl, rfl, fun h => ⟨hu, ht, hp, e3 h, by have := c6 (by omega); omega⟩⟩
theorem check_loop {N : Nat} {p : TPlot} (hN : Fu p N) (hL : LenP p) (hu : 1 ≤ p.Unit ∧ p.Unit ≤ 1000) (ht : p.Tools.length ≤ 200) : ∀ (suf pre : List TPlotTool) (m : Nat), p.Tools = pre ++ suf → (∀ t ∈ pre, t.Name.size ≤ 40 ∧ t.Rects.length ≤ 2000) → suf.length < m →
    ∃ e, F_plot_CheckPlot_L1 N p suf pre.length = some e ∧ F_etchhouseref3_CheckPlot_L1 N p m (pre.length : Int) = some e ∧ (e = 0 → GoodP p)
  | [], pre, m, he, hp, hm => by
    obtain ⟨m, rfl⟩ : ∃ k, m = k + 1 := ⟨m - 1, by omega⟩
    rw [F_plot_CheckPlot_L1, F_etchhouseref3_CheckPlot_L1, show decide ((pre.length : Int) < (p.Tools.length : Int)) = false from decide_eq_false (by rw [he]; simp), if_neg (by simp)]
    exact check_end hN hL hu ht (fun t h => hp t (by rw [he] at h; simpa using h))
  | t :: l, pre, m, he, hp, hm => by
    obtain ⟨m, rfl⟩ : ∃ k, m = k + 1 := ⟨m - 1, by simp at hm; omega⟩
    simp at hm
    have hlen : p.Tools.length = pre.length + (l.length + 1) := by rw [he]; simp
    have hmem : t ∈ p.Tools := by rw [he]; simp
    have hsz := szTools_mem hmem
    have hN' := hN
    unfold Fu at hN'
    obtain ⟨b, b1, b2, b3⟩ := IsName_ok (N := N) (hL.tools t hmem).1 (by omega)
    rw [F_plot_CheckPlot_L1, F_etchhouseref3_CheckPlot_L1, show decide ((pre.length : Int) < (p.Tools.length : Int)) = true from decide_eq_true (by omega), if_pos rfl, show idx p.Tools (pre.length : Int) = some t by rw [he]; exact idx_mid _ _ _,
      Option.bind_some, checkTool_ok hu b1, Option.bind_some, b2, Option.bind_some]
    cases b
    · exact ⟨5, rfl, rfl, fun h => by cases h⟩
    simp only [if_true, Bool.not_true, Bool.false_eq_true, if_false]
    rw [checkToolRects_ok hu (by omega), Option.bind_some]
    by_cases h0 : toolE t p.Unit = 0
    · have hz0 : (toolE t p.Unit != 0) = false := by simp [h0]
      simp only [hz0, Bool.false_eq_true, if_false]
      have hgo : ∃ e, F_plot_CheckPlot_L1 N p l (pre.length + 1) = some e ∧ F_etchhouseref3_CheckPlot_L1 N p m (w64 ((pre.length : Int) + 1)) = some e ∧ (e = 0 → GoodP p) := by
        have := check_loop hN hL hu ht l (pre ++ [t]) m (by rw [he]; simp) (fun x hx => by
          rcases List.mem_append.1 hx with h | h
          · exact hp x h
          · simp at h; subst h; exact ⟨b3 rfl, toolE_good h0⟩) (by omega)
        rw [up_mid2 _ t (by omega)]
        simpa using this
      by_cases hz : pre = []
      · subst hz
        simpa using hgo
      · have hpos : 0 < (pre.length : Int) := by
          have := List.length_pos_iff.2 hz; omega
        simp only [decide_eq_true hpos, if_true]
        rw [w64_id (x := (pre.length : Int) - 1) (by omega) (by omega)]
        obtain ⟨x, hx, _⟩ := idx_lt (l := p.Tools) (i := (pre.length : Int) - 1) (by omega) (by omega)
        simp only [hx, Option.bind_some]
        split
        · exact ⟨8, rfl, rfl, fun h => by cases h⟩
        · exact hgo
    · have hz0 : (toolE t p.Unit != 0) = true := by simpa using h0
      simp only [hz0, if_true]
      exact ⟨_, rfl, rfl, fun h => absurd h h0⟩
theorem CheckPlot_ok {N : Nat} {p : TPlot} (hN : Fu p N) (hL : LenP p) : ∃ e, F_plot_CheckPlot N p = some e ∧ F_etchhouseref3_CheckPlot N p = some e ∧ (e = 0 → GoodP p) := by
  have hw : F_plot_within p.Unit 1 1000 = some (decide (1 ≤ p.Unit) && decide (p.Unit ≤ 1000)) := rfl
  have hw2 : F_etchhouseref3_within p.Unit 1 1000 = some (decide (1 ≤ p.Unit) && decide (p.Unit ≤ 1000)) := rfl
  unfold F_plot_CheckPlot F_etchhouseref3_CheckPlot
  rw [hw, hw2, Option.bind_some, Option.bind_some]
  by_cases hu : 1 ≤ p.Unit ∧ p.Unit ≤ 1000
  · have e : (decide (1 ≤ p.Unit) && decide (p.Unit ≤ 1000)) = true := by simpa using hu
    simp only [e, Bool.not_true, Bool.false_eq_true, if_false]
    by_cases ht : 200 < (p.Tools.length : Int)
    · rw [if_pos (decide_eq_true ht), if_pos (decide_eq_true ht)]
      exact ⟨2, rfl, rfl, fun h => by cases h⟩
    · rw [if_neg (by simpa using ht), if_neg (by simpa using ht)]
      have hN' := hN
      unfold Fu at hN'
      exact check_loop hN hL hu (by omega) p.Tools [] N rfl (fun t h => by cases h) (by omega)
  · have e : (decide (1 ≤ p.Unit) && decide (p.Unit ≤ 1000)) = false := by
      rw [Bool.eq_false_iff]; simpa using hu
    rw [e]
    exact ⟨1, rfl, rfl, fun h => by cases h⟩
end Go.Proofs.YtocjndhpgjccoaaDoor
namespace Go.Proofs.YtocjndhpgjccoaaDoor
section
variable (U V : Int)
/-- A number in another unit; whether it is whole. -/
def scN (n : Int) : Int := w64 ((w64 (n * U)).tdiv V)
def okN (n : Int) : Bool := (w64 (n * U)).tmod V == 0
def scPt (p : TPoint) : TPoint := ⟨scN U V p.X, scN U V p.Y⟩
def okPt (p : TPoint) : Bool := okN U V p.X && okN U V p.Y
def scRc (r : TRect) : TRect := ⟨scN U V r.X0, scN U V r.Y0, scN U V r.X1, scN U V r.Y1⟩
def okRc (r : TRect) : Bool := (okN U V r.X0 && okN U V r.Y0) && (okN U V r.X1 && okN U V r.Y1)
def scTl (t : TPlotTool) : TPlotTool := ⟨t.Name, t.Rects.map (scRc U V)⟩
def okTl (t : TPlotTool) : Bool := t.Rects.all (okRc U V)
mutual
def scSt : TPlotStep → TPlotStep
  | ⟨k, n, a, ps, nx, ny, l⟩ => ⟨k, n, scPt U V a, ps.map (scPt U V), nx, ny, scSts l⟩
def scSts : List TPlotStep → List TPlotStep
  | [] => []
  | x :: l => scSt x :: scSts l
end
mutual
def okSt : TPlotStep → Bool
  | ⟨_, _, a, ps, _, _, l⟩ => (okPt U V a && okSts l) && ps.all (okPt U V)
def okSts : List TPlotStep → Bool
  | [] => true
  | x :: l => okSt x && okSts l
end
variable {U V}
theorem scSt_eq (x : TPlotStep) : scSt U V x = ⟨x.Kind, x.Name, scPt U V x.At, x.Points.map (scPt U V), x.NX, x.NY, scSts U V x.Steps⟩ := by cases x; rw [scSt]
theorem okSt_eq (x : TPlotStep) : okSt U V x = ((okPt U V x.At && okSts U V x.Steps) && x.Points.all (okPt U V)) := by cases x; rw [okSt]
theorem scSts_cons (x : TPlotStep) (l : List TPlotStep) : scSts U V (x :: l) = scSt U V x :: scSts U V l := by rw [scSts]
theorem okSts_cons (x : TPlotStep) (l : List TPlotStep) : okSts U V (x :: l) = (okSt U V x && okSts U V l) := by rw [okSts]
theorem scSts_nil : scSts U V [] = [] := by rw [scSts]
theorem okSts_nil : okSts U V [] = true := by rw [okSts]
theorem scSts_len : ∀ (l : List TPlotStep), (scSts U V l).length = l.length
  | [] => by rw [scSts_nil]
  | x :: l => by rw [scSts_cons, List.length_cons, List.length_cons, scSts_len l]
/-! The program's numbers. -/
theorem scaled1_ok {p : TPlot} (hp : p.Unit = U) (hV : V ≠ 0) (n : Int) (b : Bool) : F_plot_scaled_1 n b p V = some (scN U V n, b && okN U V n) := by
  unfold F_plot_scaled_1 md dv
  rw [if_neg hV, if_neg hV, hp]
  cases b
  · rfl
  · rfl
theorem changed1_ok {p : TPlot} (hp : p.Unit = U) (hV : V ≠ 0) (q : TPoint) (b : Bool) : F_plot_changed_1__scaled_1 q b p V = some (scPt U V q, b && okPt U V q) := by
  unfold F_plot_changed_1__scaled_1
  rw [scaled1_ok hp hV, Option.bind_some, scaled1_ok hp hV, Option.bind_some]
  simp only [okPt, Bool.and_assoc]; rfl
theorem changed2_ok {p : TPlot} (hp : p.Unit = U) (hV : V ≠ 0) (r : TRect) (b : Bool) : F_plot_changed_2__scaled_1 r b p V = some (scRc U V r, b && okRc U V r) := by
  unfold F_plot_changed_2__scaled_1
  rw [scaled1_ok hp hV, Option.bind_some, scaled1_ok hp hV, Option.bind_some, scaled1_ok hp hV, Option.bind_some, scaled1_ok hp hV, Option.bind_some]
  simp only [okRc, Bool.and_assoc]; rfl
/-- A store in place. -/
theorem sets_mid {α : Type} (pre suf : List α) (x y : α) : sets (pre ++ x :: suf) (pre.length : Int) y = some (pre ++ y :: suf) := by
  unfold sets
  rw [if_pos (by simp)]
  simp
theorem set_mid {α : Type} (pre suf : List α) (x y : α) : (pre ++ x :: suf).set ((pre.length : Int).toNat) y = pre ++ y :: suf := by simp
theorem pts_loop {p : TPlot} (hp : p.Unit = U) (hV : V ≠ 0) {y : TPoint × Bool} : ∀ (suf pre : List TPoint) (b : Bool), F_plot_changed_3__changed_1__scaled_1_L1 p V y suf pre.length b (pre ++ suf) = some (y.1.X, y.1.Y, pre ++ suf.map (scPt U V), b && suf.all (okPt U V))
  | [], pre, b => by rw [F_plot_changed_3__changed_1__scaled_1_L1]; simp
  | q :: l, pre, b => by
    rw [F_plot_changed_3__changed_1__scaled_1_L1, idx_mid, Option.bind_some, changed1_ok hp hV, Option.bind_some, Option.bind_some, sets_mid, Option.bind_some]
    have := pts_loop hp hV l (pre ++ [scPt U V q]) (b && okPt U V q) (y := y)
    rw [show (pre ++ [scPt U V q]).length = pre.length + 1 by simp] at this
    rw [show pre ++ scPt U V q :: l = (pre ++ [scPt U V q]) ++ l by simp, this]
    simp [Bool.and_assoc]
theorem changed3_ok {p : TPlot} (hp : p.Unit = U) (hV : V ≠ 0) (x : TPlotStep) (b : Bool) : F_plot_changed_3__changed_1__scaled_1 x b p V = some (scN U V x.At.X, scN U V x.At.Y, x.Points.map (scPt U V), (b && okPt U V x.At) && x.Points.all (okPt U V)) := by
  unfold F_plot_changed_3__changed_1__scaled_1
  rw [changed1_ok hp hV, Option.bind_some]
  exact pts_loop hp hV x.Points [] _
theorem apdC {α : Type} {l : List α} (h : l.length ≤ 4294967296) : apd ([] : List α) l = some l := by
  rw [apd_ok (by simpa using h)]; rfl
theorem rects_loop {p : TPlot} (hp : p.Unit = U) (hV : V ≠ 0) {l0 : List TPlotTool} {j : Int} {t0 : TPlotTool} (hj : ∃ t, idx l0 j = some t) {k : Bool → List TPlotTool → Int → Option (List TPlotTool × Bool)} : ∀ (suf pre : List TRect) (b : Bool),
    F_plot_ownTools__changed_2__scaled_1_L4 p V l0 j k t0 suf pre.length b (pre ++ suf) = k (b && suf.all (okRc U V)) (l0.set j.toNat ⟨t0.Name, pre ++ suf.map (scRc U V)⟩) (w64 (j + 1))
  | [], pre, b => by rw [F_plot_ownTools__changed_2__scaled_1_L4]; simp
  | r :: l, pre, b => by
    obtain ⟨t, ht⟩ := hj
    rw [F_plot_ownTools__changed_2__scaled_1_L4, idx_mid, Option.bind_some, ht, Option.bind_some, changed2_ok hp hV, Option.bind_some, Option.bind_some, sets_mid, Option.bind_some]
    have := rects_loop hp hV ⟨t, ht⟩ l (pre ++ [scRc U V r]) (b && okRc U V r) (t0 := t0) (k := k)
    rw [show (pre ++ [scRc U V r]).length = pre.length + 1 by simp] at this
    rw [show pre ++ scRc U V r :: l = (pre ++ [scRc U V r]) ++ l by simp, this]
    simp [Bool.and_assoc]
theorem tools_loop {p : TPlot} (hp : p.Unit = U) (hV : V ≠ 0) {l0 : List TPlotTool} : ∀ (suf pre : List TPlotTool) (m : Nat) (b : Bool), (pre ++ suf).length = l0.length → l0.length ≤ 2000 → (∀ t ∈ suf, t.Rects.length ≤ 2000) → suf.length < m →
    F_plot_ownTools__changed_2__scaled_1_L3 p V l0 m b (pre ++ suf) (pre.length : Int) = some (pre ++ suf.map (scTl U V), b && suf.all (okTl U V))
  | [], pre, m, b, hl, h2, h, hm => by
    obtain ⟨m, rfl⟩ : ∃ k, m = k + 1 := ⟨m - 1, by omega⟩
    simp at hl
    rw [F_plot_ownTools__changed_2__scaled_1_L3, if_neg (by simp; omega)]
    simp
  | t :: l, pre, m, b, hl, h2, h, hm => by
    obtain ⟨m, rfl⟩ : ∃ k, m = k + 1 := ⟨m - 1, by simp at hm; omega⟩
    simp at hm
    have hl' := hl
    simp at hl'
    have hcl : F_slices_Clone_Rect t.Rects = some t.Rects := by
      unfold F_slices_Clone_Rect
      rw [apdC (by have := h t List.mem_cons_self; omega)]; rfl
    rw [F_plot_ownTools__changed_2__scaled_1_L3, if_pos (by simp; omega), idx_mid, Option.bind_some, hcl, Option.bind_some, Option.bind_some, Option.bind_some]
    have hr := rects_loop hp hV (l0 := pre ++ t :: l) (j := (pre.length : Int)) (t0 := t) ⟨t, idx_mid _ _ _⟩ (k := F_plot_ownTools__changed_2__scaled_1_L3 p V l0 m) t.Rects [] b
    simp only [List.nil_append, List.length_nil] at hr
    rw [hr, set_mid, up_mid2 _ t (by omega), show (pre ++ [t]).length = (pre ++ [scTl U V t]).length by simp, show pre ++ (⟨t.Name, t.Rects.map (scRc U V)⟩ : TPlotTool) :: l = (pre ++ [scTl U V t]) ++ l by simp [scTl],
      tools_loop hp hV l (pre ++ [scTl U V t]) m _ (by simpa using hl) h2 (fun x hx => h x (List.mem_cons_of_mem _ hx)) (by omega)]
    simp [Bool.and_assoc, okTl]
theorem own_loop {p : TPlot} (hp : p.Unit = U) (hV : V ≠ 0) {rec : List TPlotStep → Bool → TPlot → Int → Option (List TPlotStep × Bool)} {l0 : List TPlotStep} : ∀ (suf pre : List TPlotStep) (m : Nat) (b : Bool), (pre ++ suf).length = l0.length → l0.length ≤ 4000 →
    (∀ x ∈ suf, x.Points.length ≤ 2000 ∧ ∀ b, rec x.Steps b p V = some (scSts U V x.Steps, b && okSts U V x.Steps)) → suf.length < m →
    F_plot_own__changed_3__changed_1__scaled_1_L1 p V rec l0 m b (pre ++ suf) (pre.length : Int) = some (pre ++ scSts U V suf, b && okSts U V suf)
  | [], pre, m, b, hl, h2, h, hm => by
    obtain ⟨m, rfl⟩ : ∃ k, m = k + 1 := ⟨m - 1, by omega⟩
    simp at hl
    rw [F_plot_own__changed_3__changed_1__scaled_1_L1, if_neg (by simp; omega), scSts_nil, okSts_nil]
    simp
  | x :: l, pre, m, b, hl, h2, h, hm => by
    obtain ⟨m, rfl⟩ : ∃ k, m = k + 1 := ⟨m - 1, by simp at hm; omega⟩
    simp at hm
    have hl' := hl
    simp at hl'
    obtain ⟨hx1, hx2⟩ := h x List.mem_cons_self
    have hcl : F_slices_Clone_Point x.Points = some x.Points := by
      unfold F_slices_Clone_Point
      rw [apdC (by omega)]; rfl
    rw [F_plot_own__changed_3__changed_1__scaled_1_L1, if_pos (by simp; omega), idx_mid, Option.bind_some, hcl, Option.bind_some, Option.bind_some, Option.bind_some, hx2, Option.bind_some, Option.bind_some, Option.bind_some, changed3_ok hp hV, Option.bind_some,
      set_mid, up_mid2 _ x (by omega), show (pre ++ [x]).length = (pre ++ [scSt U V x]).length by simp]
    rw [show pre ++ (TPlotStep.mk x.Kind x.Name (TPoint.mk (scN U V x.At.X) (scN U V x.At.Y)) (x.Points.map (scPt U V)) x.NX x.NY (scSts U V x.Steps)) :: l = (pre ++ [scSt U V x]) ++ l by simp [scSt_eq, scPt],
      own_loop hp hV l (pre ++ [scSt U V x]) m _ (by simpa using hl) h2 (fun y hy => h y (List.mem_cons_of_mem _ hy)) (by omega), scSts_cons, okSts_cons, okSt_eq]
    simp [Bool.and_assoc, Bool.and_comm, Bool.and_left_comm]
theorem ndSteps_len : ∀ (l : List TPlotStep), l.length ≤ ndSteps l
  | [] => by simp
  | x :: l => by
    have := ndSteps_len l
    have := ndStep_eq x
    rw [ndSteps_cons, List.length_cons]; omega
theorem own_ok {p : TPlot} (hp : p.Unit = U) (hV : V ≠ 0) : ∀ (k : Nat) (l : List TPlotStep) (N : Nat) (b : Bool), szSteps l ≤ k → k + 5 ≤ N → goodL 40 l → ndSteps l ≤ 3000 → F_plot_own__changed_3__changed_1__scaled_1 N l b p V = some (scSts U V l, b && okSts U V l)
  | k, l, N, b, hk, hN, hg, hn => by
    obtain ⟨N, rfl⟩ : ∃ n, N = n + 1 := ⟨N - 1, by omega⟩
    have hlen := szSteps_len l
    have hnl := ndSteps_len l
    have hcl : F_slices_Clone_PlotStep l = some l := by
      unfold F_slices_Clone_PlotStep
      rw [apdC (by omega)]; rfl
    show F_plot_own__changed_3__changed_1__scaled_1_b N _ l b p V = _
    unfold F_plot_own__changed_3__changed_1__scaled_1_b
    rw [hcl, Option.bind_some]
    exact own_loop hp hV l [] N b rfl (by omega) (fun x hx => by
      have h1 := szSteps_mem hx
      have h2 := szStep_eq x
      have h3 := ndSteps_mem hx
      have h4 := ndStep_eq x
      have h5 := (goodT_eq 40 x).1 (goodL_mem hg hx)
      cases k with
      | zero => omega
      | succ k => exact ⟨h5.1.1, fun b => own_ok hp hV k x.Steps N b (by omega) (by omega) h5.2 (by omega)⟩) (by omega)
theorem ownTools_ok {p : TPlot} (hp : p.Unit = U) (hV : V ≠ 0) {l : List TPlotTool} {N : Nat} (b : Bool) (hl : l.length ≤ 2000) (h : ∀ t ∈ l, t.Rects.length ≤ 2000) (hN : 3000 ≤ N) : F_plot_ownTools__changed_2__scaled_1 N l b p V = some (l.map (scTl U V), b && l.all (okTl U V)) := by
  unfold F_plot_ownTools__changed_2__scaled_1
  have hcl : F_slices_Clone_PlotTool l = some l := by
    unfold F_slices_Clone_PlotTool
    rw [apdC (by omega)]; rfl
  rw [hcl, Option.bind_some]
  exact tools_loop hp hV l [] N b rfl hl h (by omega)
/-- The plot in another unit. -/
def scP (p : TPlot) (V : Int) : TPlot := ⟨V, p.Tools.map (scTl p.Unit V), scSts p.Unit V p.Steps⟩
def okP (p : TPlot) (V : Int) : Bool := p.Tools.all (okTl p.Unit V) && okSts p.Unit V p.Steps
theorem scaledP_ok {N : Nat} {p : TPlot} {V : Int} (hN : Fu p N) (hG : GoodP p) (hV : V ≠ 0) : F_plot_scaled N p V = some (scP p V, okP p V) := by
  have hf := hG.few
  unfold Fu at hN
  unfold F_plot_scaled F_plot_changed__scaled_1
  rw [ownTools_ok rfl hV true (by omega) (fun t ht => (hG.tools t ht).2) (by omega), Option.bind_some, own_ok rfl hV (szSteps p.Steps) p.Steps N _ (Nat.le_refl _) (by omega) hG.steps hG.nd]
  simp [scP, okP]
end
end Go.Proofs.YtocjndhpgjccoaaDoor
namespace Go.Proofs.YtocjndhpgjccoaaDoor
section
variable {U V : Int}
theorem scaleR_ok (hV : V ≠ 0) (n : Int) : F_etchhouseref3_scale n U V = some (scN U V n, okN U V n) := by
  unfold F_etchhouseref3_scale md dv
  rw [if_neg hV, if_neg hV]; rfl
theorem scalePt_ok (hV : V ≠ 0) (q : TPoint) : F_etchhouseref3_scalePoint q U V = some (scPt U V q, okPt U V q) := by
  unfold F_etchhouseref3_scalePoint
  rw [scaleR_ok hV, Option.bind_some, scaleR_ok hV, Option.bind_some]; rfl
theorem rpts_loop (hV : V ≠ 0) {p0 l0 : List TPlotStep} {j : Int} {x x0 : TPlotStep} (hj : idx p0 j = some x) {y : TPoint × Bool} {z : List TPlotStep × Bool} {k : List TPlotStep → Bool → Int → Option (List TPlotStep × Bool)} (h0 : l0.length ≤ 4000) : ∀ (suf pre acc : List TPoint) (m : Nat) (b : Bool), x.Points = pre ++ suf → x.Points.length ≤ 2000 → acc.length = pre.length → suf.length < m →
    F_etchhouseref3_scaleSteps_L4 p0 U V l0 j k x0 y z m acc b (pre.length : Int) = k (l0 ++ [⟨x0.Kind, x0.Name, y.1, acc ++ suf.map (scPt U V), x0.NX, x0.NY, z.1⟩]) (b && suf.all (okPt U V)) (w64 (j + 1))
  | [], pre, acc, m, b, he, hl, ha, hm => by
    obtain ⟨m, rfl⟩ : ∃ k, m = k + 1 := ⟨m - 1, by omega⟩
    rw [F_etchhouseref3_scaleSteps_L4, hj, Option.bind_some, if_neg (by rw [he]; simp), apd_ok (by simp; omega), Option.bind_some]
    simp
  | q :: l, pre, acc, m, b, he, hl, ha, hm => by
    obtain ⟨m, rfl⟩ : ∃ k, m = k + 1 := ⟨m - 1, by simp at hm; omega⟩
    simp at hm
    have hlen : x.Points.length = pre.length + (l.length + 1) := by rw [he]; simp
    rw [F_etchhouseref3_scaleSteps_L4, hj, Option.bind_some, if_pos (by simp; omega), Option.bind_some, show idx x.Points (pre.length : Int) = some q by rw [he]; exact idx_mid _ _ _, Option.bind_some, scalePt_ok hV, Option.bind_some, apd_ok (by simp; omega), Option.bind_some, up_mid2 _ q (by omega),
      rpts_loop hV hj h0 l (pre ++ [q]) _ m _ (by rw [he]; simp) hl (by simp; omega) (by omega)]
    simp [Bool.and_assoc]
theorem rsteps_loop {N : Nat} (hN : 4000 ≤ N) (hV : V ≠ 0) {rec : List TPlotStep → Int → Int → Option (List TPlotStep × Bool)} : ∀ (suf pre : List TPlotStep) (m : Nat) (b : Bool) (acc : List TPlotStep), (pre ++ suf).length ≤ 3500 → acc.length = pre.length →
    (∀ x ∈ suf, x.Points.length ≤ 2000 ∧ rec x.Steps U V = some (scSts U V x.Steps, okSts U V x.Steps)) → suf.length < m →
    F_etchhouseref3_scaleSteps_L3 N (pre ++ suf) U V rec m acc b (pre.length : Int) = some (acc ++ scSts U V suf, b && okSts U V suf)
  | [], pre, m, b, acc, hl, ha, h, hm => by
    obtain ⟨m, rfl⟩ : ∃ k, m = k + 1 := ⟨m - 1, by omega⟩
    rw [F_etchhouseref3_scaleSteps_L3, lt_end, if_neg (by simp), scSts_nil, okSts_nil]
    simp
  | x :: l, pre, m, b, acc, hl, ha, h, hm => by
    obtain ⟨m, rfl⟩ : ∃ k, m = k + 1 := ⟨m - 1, by simp at hm; omega⟩
    simp at hm
    have hl' := hl
    simp at hl'
    obtain ⟨hx1, hx2⟩ := h x List.mem_cons_self
    rw [F_etchhouseref3_scaleSteps_L3, lt_mid, if_pos rfl, idx_mid, Option.bind_some, scalePt_ok hV, Option.bind_some, hx2, Option.bind_some]
    have hr := rpts_loop (U := U) hV (p0 := pre ++ x :: l) (l0 := acc) (j := (pre.length : Int)) (x := x) (x0 := x) (idx_mid _ _ _) (y := (scPt U V x.At, okPt U V x.At)) (z := (scSts U V x.Steps, okSts U V x.Steps)) (k := F_etchhouseref3_scaleSteps_L3 N (pre ++ x :: l) U V rec m) (by omega) x.Points [] [] N ((b && okPt U V x.At) && okSts U V x.Steps) rfl hx1 rfl (by omega)
    simp only [List.nil_append, List.length_nil] at hr
    rw [show ((0 : Nat) : Int) = 0 from rfl] at hr
    rw [hr, up_mid2 _ x (by omega), snoc_mid, rsteps_loop hN hV l (pre ++ [x]) m _ _ (by simpa using hl) (by simp; omega) (fun y hy => h y (List.mem_cons_of_mem _ hy)) (by omega), scSts_cons, okSts_cons, okSt_eq, scSt_eq]
    simp [Bool.and_assoc]
set_option maxRecDepth 100000 in
theorem scaleSteps_ok (hV : V ≠ 0) : ∀ (k : Nat) (l : List TPlotStep) (N : Nat), szSteps l ≤ k → k + 5000 ≤ N → goodL 40 l → ndSteps l ≤ 3000 → F_etchhouseref3_scaleSteps N l U V = some (scSts U V l, okSts U V l)
  | k, l, N, hk, hN, hg, hn => by
    obtain ⟨N, rfl⟩ : ∃ n, N = n + 1 := ⟨N - 1, by omega⟩
    have hlen := szSteps_len l
    have hnl := ndSteps_len l
    show F_etchhouseref3_scaleSteps_b N _ l U V = _
    unfold F_etchhouseref3_scaleSteps_b
    have := rsteps_loop (N := N) (by omega) hV l [] N true [] (by simp; omega) rfl (fun x hx => by
      have h1 := szSteps_mem hx
      have h2 := szStep_eq x
      have h3 := ndSteps_mem hx
      have h4 := ndStep_eq x
      have h5 := (goodT_eq 40 x).1 (goodL_mem hg hx)
      cases k with
      | zero => omega
      | succ k => exact ⟨h5.1.1, scaleSteps_ok hV k x.Steps N (by omega) (by omega) h5.2 (by omega)⟩) (by omega)
    simpa using this
end
end Go.Proofs.YtocjndhpgjccoaaDoor
namespace Go.Proofs.YtocjndhpgjccoaaDoor
theorem rrc_loop {p : TPlot} {V : Int} (hV : V ≠ 0) {l0 : List TPlotTool} {j : Int} {t t0 : TPlotTool} (hj : idx p.Tools j = some t) {k : List TPlotTool → Bool → Int → Option (TPlot × Bool)} (h0 : l0.length ≤ 4000) : ∀ (suf pre acc : List TRect) (m : Nat) (b : Bool), t.Rects = pre ++ suf → t.Rects.length ≤ 2000 → acc.length = pre.length → suf.length < m →
    F_etchhouseref3_scaled_L4 p V l0 j k t0 m acc b (pre.length : Int) = k (l0 ++ [⟨t0.Name, acc ++ suf.map (scRc p.Unit V)⟩]) (b && suf.all (okRc p.Unit V)) (w64 (j + 1))
  | [], pre, acc, m, b, he, hl, ha, hm => by
    obtain ⟨m, rfl⟩ : ∃ k, m = k + 1 := ⟨m - 1, by omega⟩
    rw [F_etchhouseref3_scaled_L4, hj, Option.bind_some, if_neg (by rw [he]; simp), apd_ok (by simp; omega), Option.bind_some]
    simp
  | r :: l, pre, acc, m, b, he, hl, ha, hm => by
    obtain ⟨m, rfl⟩ : ∃ k, m = k + 1 := ⟨m - 1, by simp at hm; omega⟩
    simp at hm
    have hlen : t.Rects.length = pre.length + (l.length + 1) := by rw [he]; simp
    rw [F_etchhouseref3_scaled_L4, hj, Option.bind_some, if_pos (by simp; omega), Option.bind_some, show idx t.Rects (pre.length : Int) = some r by rw [he]; exact idx_mid _ _ _, Option.bind_some, scalePt_ok hV, Option.bind_some, scalePt_ok hV, Option.bind_some, apd_ok (by simp; omega), Option.bind_some, up_mid2 _ r (by omega),
      rrc_loop hV hj h0 l (pre ++ [r]) _ m _ (by rw [he]; simp) hl (by simp; omega) (by omega)]
    simp [Bool.and_assoc, okRc, okPt, scRc, scPt]
theorem rtl_loop {N : Nat} {p : TPlot} {V : Int} (hN : Fu p N) (hG : GoodP p) (hV : V ≠ 0) : ∀ (suf pre acc : List TPlotTool) (m : Nat) (b : Bool), p.Tools = pre ++ suf → acc.length = pre.length → suf.length < m →
    F_etchhouseref3_scaled_L3 N p V m acc b (pre.length : Int) = some (⟨V, acc ++ suf.map (scTl p.Unit V), scSts p.Unit V p.Steps⟩, b && (suf.all (okTl p.Unit V) && okSts p.Unit V p.Steps))
  | [], pre, acc, m, b, he, ha, hm => by
    obtain ⟨m, rfl⟩ : ∃ k, m = k + 1 := ⟨m - 1, by omega⟩
    unfold Fu at hN
    rw [F_etchhouseref3_scaled_L3, if_neg (by rw [he]; simp), scaleSteps_ok hV (szSteps p.Steps) p.Steps N (Nat.le_refl _) (by omega) hG.steps hG.nd, Option.bind_some]
    simp
  | t :: l, pre, acc, m, b, he, ha, hm => by
    obtain ⟨m, rfl⟩ : ∃ k, m = k + 1 := ⟨m - 1, by simp at hm; omega⟩
    simp at hm
    have hlen : p.Tools.length = pre.length + (l.length + 1) := by rw [he]; simp
    have hf := hG.few
    have hN' := hN
    unfold Fu at hN'
    have hj : idx p.Tools (pre.length : Int) = some t := by rw [he]; exact idx_mid _ _ _
    have hr := rrc_loop hV (l0 := acc) (t0 := t) hj (k := F_etchhouseref3_scaled_L3 N p V m) (by omega) t.Rects [] [] N b rfl (hG.tools t (by rw [he]; simp)).2 rfl (by have := (hG.tools t (by rw [he]; simp)).2; omega)
    simp only [List.nil_append, List.length_nil] at hr
    rw [show ((0 : Nat) : Int) = 0 from rfl] at hr
    rw [F_etchhouseref3_scaled_L3, if_pos (by simp; omega), hj, Option.bind_some, hr, up_mid2 _ t (by omega), rtl_loop hN hG hV l (pre ++ [t]) _ m _ (by rw [he]; simp) (by simp; omega) (by omega)]
    simp [Bool.and_assoc, okTl, scTl]
theorem scaledR_ok {N : Nat} {p : TPlot} {V : Int} (hN : Fu p N) (hG : GoodP p) (hV : V ≠ 0) : F_etchhouseref3_scaled N p V = some (scP p V, okP p V) := by
  have hf := hG.few
  have hN' := hN
  unfold Fu at hN'
  have := rtl_loop hN hG hV p.Tools [] [] N true rfl rfl (by omega)
  unfold F_etchhouseref3_scaled
  simpa [scP, okP] using this
end Go.Proofs.YtocjndhpgjccoaaDoor
namespace Go.Proofs.YtocjndhpgjccoaaDoor
theorem samePts_loop : ∀ (suf pre : List TPoint) (m : Nat), suf.length < m → (pre ++ suf).length ≤ 9223372036854775807 → F_etchhouseref3_samePoints_L1 (pre ++ suf) (pre ++ suf) m (pre.length : Int) = some true
  | [], pre, m, hm, hl => by
    obtain ⟨m, rfl⟩ : ∃ k, m = k + 1 := ⟨m - 1, by omega⟩
    rw [F_etchhouseref3_samePoints_L1, lt_end, if_neg (by simp)]
  | q :: l, pre, m, hm, hl => by
    obtain ⟨m, rfl⟩ : ∃ k, m = k + 1 := ⟨m - 1, by simp at hm; omega⟩
    simp at hm hl
    rw [F_etchhouseref3_samePoints_L1, lt_mid, if_pos rfl, idx_mid, Option.bind_some, Option.bind_some, show eqTPoint q q = true from eqTPoint_iff.2 rfl, if_neg (by simp), up_mid2 _ q (by omega), snoc_mid, samePts_loop l (pre ++ [q]) m (by omega) (by simp; omega)]
theorem samePts_ok {N : Nat} {l : List TPoint} (hN : l.length < N) (hl : l.length ≤ 9223372036854775807) : F_etchhouseref3_samePoints N l l = some true := by
  unfold F_etchhouseref3_samePoints
  rw [if_neg (by simp)]
  exact samePts_loop l [] N hN hl
theorem sameRcs_loop : ∀ (suf pre : List TRect) (m : Nat), suf.length < m → (pre ++ suf).length ≤ 9223372036854775807 → F_etchhouseref1_SameRects_L1 (pre ++ suf) (pre ++ suf) m (pre.length : Int) = some true
  | [], pre, m, hm, hl => by
    obtain ⟨m, rfl⟩ : ∃ k, m = k + 1 := ⟨m - 1, by omega⟩
    rw [F_etchhouseref1_SameRects_L1, lt_end, if_neg (by simp)]
  | q :: l, pre, m, hm, hl => by
    obtain ⟨m, rfl⟩ : ∃ k, m = k + 1 := ⟨m - 1, by simp at hm; omega⟩
    simp at hm hl
    rw [F_etchhouseref1_SameRects_L1, lt_mid, if_pos rfl, idx_mid, Option.bind_some, Option.bind_some, show eqTRect q q = true from eqTRect_iff.2 rfl, if_neg (by simp), up_mid2 _ q (by omega), snoc_mid, sameRcs_loop l (pre ++ [q]) m (by omega) (by simp; omega)]
theorem sameRcs_ok {N : Nat} {l : List TRect} (hN : l.length < N) (hl : l.length ≤ 9223372036854775807) : F_etchhouseref1_SameRects N l l = some true := by
  unfold F_etchhouseref1_SameRects
  rw [if_neg (by simp)]
  exact sameRcs_loop l [] N hN hl
theorem sameSts_loop {N : Nat} {rec : List TPlotStep → List TPlotStep → Option Bool} : ∀ (suf pre : List TPlotStep) (m : Nat), suf.length < m → (pre ++ suf).length ≤ 9223372036854775807 → (∀ x ∈ suf, x.Points.length < N ∧ x.Points.length ≤ 9223372036854775807 ∧ rec x.Steps x.Steps = some true) → F_etchhouseref3_sameSteps_L1 N (pre ++ suf) (pre ++ suf) rec m (pre.length : Int) = some true
  | [], pre, m, hm, hl, h => by
    obtain ⟨m, rfl⟩ : ∃ k, m = k + 1 := ⟨m - 1, by omega⟩
    rw [F_etchhouseref3_sameSteps_L1, lt_end, if_neg (by simp)]
  | x :: l, pre, m, hm, hl, h => by
    obtain ⟨m, rfl⟩ : ∃ k, m = k + 1 := ⟨m - 1, by simp at hm; omega⟩
    simp at hm hl
    obtain ⟨h1, h2, h3⟩ := h x List.mem_cons_self
    rw [F_etchhouseref3_sameSteps_L1, lt_mid, if_pos rfl, idx_mid, Option.bind_some, Option.bind_some]
    simp only [bne_self_eq_false, sEq_iff.2 rfl, eqTPoint_iff.2 rfl, Bool.not_true, Bool.or_self, Bool.false_eq_true, if_false, samePts_ok h1 h2, h3, Option.bind_some]
    rw [up_mid2 _ x (by omega), snoc_mid, sameSts_loop l (pre ++ [x]) m (by omega) (by simp; omega) (fun y hy => h y (List.mem_cons_of_mem _ hy))]
theorem sameSts_ok : ∀ (k : Nat) (l : List TPlotStep) (N : Nat), szSteps l ≤ k → k + 5 ≤ N → l.length ≤ 9223372036854775807 → lenL l → F_etchhouseref3_sameSteps N l l = some true
  | k, l, N, hk, hN, hl, hA => by
    obtain ⟨N, rfl⟩ : ∃ n, N = n + 1 := ⟨N - 1, by omega⟩
    have hlen := szSteps_len l
    show F_etchhouseref3_sameSteps_b N _ l l = _
    unfold F_etchhouseref3_sameSteps_b
    rw [if_neg (by simp)]
    exact sameSts_loop l [] N (by omega) (by simpa using hl) (fun s hs => by
      have h1 := szSteps_mem hs
      have h2 := szStep_eq s
      have h3 := (lenS_eq s).1 (lenL_mem hA hs)
      cases k with
      | zero => omega
      | succ k => exact ⟨by omega, h3.2.2.1.1, sameSts_ok k s.Steps N (by omega) (by omega) h3.2.2.2.2.1 h3.2.2.2.2.2⟩)
theorem samePl_loop {N : Nat} {p : TPlot} : ∀ (suf pre : List TPlotTool) (m : Nat), p.Tools = pre ++ suf → suf.length < m → p.Tools.length ≤ 9223372036854775807 → (∀ t ∈ suf, t.Rects.length < N ∧ t.Rects.length ≤ 9223372036854775807) → F_etchhouseref3_SamePlot_L1 N p p m (pre.length : Int) = some true
  | [], pre, m, he, hm, hl, h => by
    obtain ⟨m, rfl⟩ : ∃ k, m = k + 1 := ⟨m - 1, by omega⟩
    rw [F_etchhouseref3_SamePlot_L1, if_neg (by rw [he]; simp)]
  | t :: l, pre, m, he, hm, hl, h => by
    obtain ⟨m, rfl⟩ : ∃ k, m = k + 1 := ⟨m - 1, by simp at hm; omega⟩
    simp at hm
    have hlen : p.Tools.length = pre.length + (l.length + 1) := by rw [he]; simp
    obtain ⟨h1, h2⟩ := h t List.mem_cons_self
    have hj : idx p.Tools (pre.length : Int) = some t := by rw [he]; exact idx_mid _ _ _
    rw [F_etchhouseref3_SamePlot_L1, if_pos (by simp; omega), hj]
    simp only [Option.bind_some, sEq_iff.2 rfl, Bool.not_true, Bool.false_eq_true, if_false, sameRcs_ok h1 h2]
    rw [up_mid2 _ t (by omega), samePl_loop l (pre ++ [t]) m (by rw [he]; simp) (by omega) hl (fun y hy => h y (List.mem_cons_of_mem _ hy))]
theorem samePl_ok {N : Nat} {p : TPlot} (hN : szSteps p.Steps + 5 ≤ N) (hs : p.Steps.length ≤ 9223372036854775807) (hL : lenL p.Steps) (ht : p.Tools.length < N) (ht2 : p.Tools.length ≤ 9223372036854775807) (hr : ∀ t ∈ p.Tools, t.Rects.length < N ∧ t.Rects.length ≤ 9223372036854775807) : F_etchhouseref3_SamePlot N p p = some true := by
  unfold F_etchhouseref3_SamePlot
  simp only [bne_self_eq_false, Bool.or_self, Bool.false_eq_true, if_false, sameSts_ok (szSteps p.Steps) p.Steps N (Nat.le_refl _) hN hs hL, Option.bind_some, Bool.not_true]
  exact samePl_loop p.Tools [] N rfl ht ht2 hr
end Go.Proofs.YtocjndhpgjccoaaDoor
namespace Go.Proofs.YtocjndhpgjccoaaDoor
section
variable {U V : Int}
theorem sz_sc : ∀ (k : Nat) (l : List TPlotStep), szSteps l ≤ k → szSteps (scSts U V l) = szSteps l
  | k, [], _ => by rw [scSts_nil]
  | k, x :: l, hk => by
    rw [szSteps_cons, szStep_eq] at hk
    rw [scSts_cons, szSteps_cons, szSteps_cons, szStep_eq, szStep_eq, scSt_eq]
    cases k with
    | zero => omega
    | succ k =>
      simp only [List.length_map]
      rw [sz_sc k x.Steps (by omega), sz_sc k l (by omega)]
theorem szt_sc (l : List TPlotTool) : szTools (l.map (scTl U V)) = szTools l := by
  induction l with
  | nil => rfl
  | cons t l ih => simp [szTools, scTl, ih]
theorem len_sc (hw : ∀ n, J64 (scN U V n)) : ∀ (k : Nat) (l : List TPlotStep), szSteps l ≤ k → lenL l → lenL (scSts U V l)
  | k, [], _, _ => by rw [scSts_nil, lenL]; trivial
  | k, x :: l, hk, h => by
    rw [szSteps_cons, szStep_eq] at hk
    rw [lenL_cons, lenS_eq] at h
    rw [scSts_cons, lenL_cons, lenS_eq, scSt_eq]
    cases k with
    | zero => omega
    | succ k =>
      obtain ⟨⟨h1, h2, h3, h4, h5, h6⟩, h7⟩ := h
      refine ⟨⟨h1, ⟨hw _, hw _⟩, ⟨by simpa using h3.1, fun q hq => ?_⟩, h4, by rw [scSts_len]; exact h5, len_sc hw k x.Steps (by omega) h6⟩, len_sc hw k l (by omega) h7⟩
      obtain ⟨q0, _, rfl⟩ := List.mem_map.1 hq
      exact ⟨hw _, hw _⟩
end
end Go.Proofs.YtocjndhpgjccoaaDoor
