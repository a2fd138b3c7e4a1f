/- Plots: names, places, numbers written: the program's and the reference's answer alike. Plain. Conditions: none beyond each theorem's own. Plots: the error of a step by itself: the program's and the reference's alike. Plain. Conditions: none beyond each theorem's own. Plots: how many steps are done, and the error of all steps: the program's and the reference's alike. Plain. Conditions: none beyond each theorem's own. Plots: CheckPlot: the program's and the reference's alike. Plain. Conditions: none beyond each theorem's own. Plots: how much a plot counts, and all that is known of one without error. Plain. Conditions: none beyond each theorem's own. Plots without repeats: what the program and the reference write out. Plain. Conditions: none beyond each theorem's own. Plots without repeats: what the reference writes out. Plain. Conditions: none beyond each theorem's own. Plots: a plot is the same as itself. Plain. Conditions: none beyond each theorem's own. Plots without repeats: Flat of the program and of the reference. Plain. Conditions: none beyond each theorem's own. Plots moved: what the program and the reference move. Plain. Conditions: none beyond each theorem's own. Plots moved and turned: the law Moved; turns of steps. Plain. Conditions: none beyond each theorem's own. Plots turned: what the program and the reference turn. Plain. Conditions: none beyond each theorem's own. -/
import Derived.Test.YtneghcpnehiffaaDoorJ2
import Derived.Test.YtneghcpnehiffaaDoorXF
import Derived.Lib.ItoaLen
namespace Go.Proofs.YtneghcpnehiffaaDoor
theorem up_mid2 {α : Type} (pre : List α) (x : α) (h : pre.length < 9223372036854775807) : w64 ((pre.length : Int) + 1) = ((pre ++ [x]).length : Int) := by
  rw [w64_eq (by omega) (by omega)]; simp
/-! Names. -/
theorem IsName_same (s : ByteArray) : ∀ (m : Nat) (x : Int), F_plot_IsName_L1 s m x = F_etchhouseref3_IsName_L1 s m x
  | 0, _ => rfl
  | m + 1, x => by
    rw [F_plot_IsName_L1, F_etchhouseref3_IsName_L1]
    split
    · congr 1
      funext c
      rw [IsName_same s m]
      have e : ((!(((decide (97 ≤ c)) && (decide (c ≤ 122))) || ((decide (65 ≤ c)) && (decide (c ≤ 90))))) && ((x == 0) || ((((decide (c < 48)) || (decide (57 < c))) && (c != 95)) && (c != 45)))) = ((!(((decide (97 ≤ c)) && (decide (c ≤ 122))) || ((decide (65 ≤ c)) && (decide (c ≤ 90))))) && ((x == 0) || (((c != 95) && (c != 45)) && (!((decide (48 ≤ c)) && (decide (c ≤ 57))))))) := by
        have e2 : (decide (c < 48) || decide (57 < c)) = !(decide (48 ≤ c) && decide (c ≤ 57)) := by
          rw [Bool.eq_iff_iff]; simp <;> omega
        rw [e2]
        cases (!(decide (48 ≤ c) && decide (c ≤ 57))) <;> cases (c != 95) <;> cases (c != 45) <;> simp
      rw [e]
    · rfl
theorem IsName_loop {s : ByteArray} (hs : s.size ≤ 9223372036854775807) : ∀ (m i : Nat), s.size < m + i → i ≤ s.size → ∃ b, F_plot_IsName_L1 s m (i : Int) = some b ∧ (b = true → s.size ≤ 40)
  | 0, i, h, h2 => by omega
  | m + 1, i, h, h2 => by
    rw [F_plot_IsName_L1]
    by_cases hi : i < s.size
    · rw [if_pos (decide_eq_true (by omega))]
      have hc : ∃ c, strAt s (i : Int) = some c := by
        unfold strAt
        rw [if_pos (by omega)]
        exact ⟨(s[i].toNat : Int), by simp [hi]⟩
      obtain ⟨c, hc⟩ := hc
      rw [hc, Option.bind_some]
      split
      · exact ⟨false, rfl, fun h => by cases h⟩
      · rw [w64_eq (by omega) (by omega)]
        exact IsName_loop hs m (i + 1) (by omega) (by omega)
    · rw [if_neg (by simpa using hi)]
      exact ⟨_, rfl, fun h => by simp at h; omega⟩
theorem IsName_ok {N : Nat} {s : ByteArray} (hs : s.size ≤ 9223372036854775807) (hN : s.size < N) : ∃ b, F_plot_IsName N s = some b ∧ F_etchhouseref3_IsName N s = some b ∧ (b = true → s.size ≤ 40) := by
  obtain ⟨b, h1, h2⟩ := IsName_loop hs N 0 (by omega) (by omega)
  exact ⟨b, h1, (IsName_same s N 0).symm.trans h1, h2⟩
/-! Places. -/
def fitP (n u : Int) : Bool := decide (-(1000000 / u) ≤ n) && decide (n ≤ 1000000 / u)
theorem isAt_ok {n u : Int} (hu : 1 ≤ u ∧ u ≤ 1000) : F_plot_isAt n u = some (fitP n u) := by
  have h0 : 0 ≤ 1000000 / u := Int.ediv_nonneg (by omega) (by omega)
  have h1 : 1000000 / u ≤ 1000000 := Int.ediv_le_self _ (by omega)
  have e1 : (1000000 : Int).tdiv u = 1000000 / u := Int.tdiv_eq_ediv_of_nonneg (by omega)
  have e2 : (-1000000 : Int).tdiv u = -(1000000 / u) := by rw [show (-1000000 : Int) = -(1000000) from rfl, Int.neg_tdiv, e1]
  unfold F_plot_isAt dv
  rw [if_neg (by omega), if_neg (by omega), Option.bind_some, Option.bind_some, e1, e2, w64_id (by omega) (by omega), w64_id (by omega) (by omega)]
  rfl
theorem fits_ok {n u : Int} (hu : 1 ≤ u ∧ u ≤ 1000) : F_etchhouseref3_fits n u = some (fitP n u) := by
  have hA : ∀ k : Int, F_etchhouseref1_At k = some (decide (-1000000 ≤ k) && decide (k ≤ 1000000)) := fun _ => rfl
  unfold F_etchhouseref3_fits
  rw [hA, Option.bind_some]
  have h0 : 0 ≤ 1000000 / u := Int.ediv_nonneg (by omega) (by omega)
  have h1 : 1000000 / u ≤ 1000000 := Int.ediv_le_self _ (by omega)
  by_cases hn : -1000000 ≤ n ∧ n ≤ 1000000
  · have e : (decide (-1000000 ≤ n) && decide (n ≤ 1000000)) = true := by simp [hn]
    rw [e, if_pos rfl]
    have hb : -1000000000 ≤ n * u ∧ n * u ≤ 1000000000 := by
      constructor
      · have := Int.mul_le_mul_of_nonneg_right hn.1 (show (0 : Int) ≤ u by omega)
        omega
      · have := Int.mul_le_mul_of_nonneg_right hn.2 (show (0 : Int) ≤ u by omega)
        omega
    rw [w64_id (by omega) (by omega), hA]
    simp only [Option.bind_some]
    congr 1
    unfold fitP
    rw [Bool.eq_iff_iff]
    simp only [Bool.and_eq_true, decide_eq_true_eq]
    have k1 : n ≤ 1000000 / u ↔ n * u ≤ 1000000 := Int.le_ediv_iff_mul_le (by omega)
    have k2 : -n ≤ 1000000 / u ↔ -n * u ≤ 1000000 := Int.le_ediv_iff_mul_le (by omega)
    rw [Int.neg_mul] at k2
    omega
  · have e : (decide (-1000000 ≤ n) && decide (n ≤ 1000000)) = false := by
      rw [Bool.eq_false_iff]; simpa using hn
    rw [e]
    simp only [Bool.false_eq_true, if_false, Option.bind_some]
    congr 1
    unfold fitP
    symm
    rw [Bool.eq_false_iff]
    simp only [ne_eq, Bool.and_eq_true, decide_eq_true_eq]
    omega
def fitPt (p : TPoint) (u : Int) : Bool := fitP p.X u && fitP p.Y u
theorem isPoint_ok {p : TPoint} {u : Int} (hu : 1 ≤ u ∧ u ≤ 1000) : F_plot_isPoint p u = some (fitPt p u) := by
  unfold F_plot_isPoint fitPt
  rw [isAt_ok hu, Option.bind_some]
  cases fitP p.X u
  · rfl
  · rw [if_pos rfl, isAt_ok hu]; simp
theorem pointFits_ok {p : TPoint} {u : Int} (hu : 1 ≤ u ∧ u ≤ 1000) : F_etchhouseref3_pointFits p u = some (fitPt p u) := by
  unfold F_etchhouseref3_pointFits fitPt
  rw [fits_ok hu, Option.bind_some]
  cases fitP p.X u
  · rfl
  · rw [if_pos rfl, fits_ok hu]; simp
/-! The rectangles of a tool. -/
def rectE (r : TRect) (u : Int) : Int := if (fitP r.X0 u && fitP r.Y0 u && fitP r.X1 u && fitP r.Y1 u) then (if (decide (r.X1 ≤ r.X0) || decide (r.Y1 ≤ r.Y0)) then 13 else 0) else 1
def rectsE (u : Int) : List TRect → Int
  | [] => 0
  | r :: l => if rectE r u = 0 then rectsE u l else rectE r u
theorem checkTool_loop {u : Int} (hu : 1 ≤ u ∧ u ≤ 1000) : ∀ (l : List TRect) (i : Nat), F_plot_checkTool_L1 u l i = some (rectsE u l)
  | [], _ => rfl
  | r :: l, i => by
    rw [F_plot_checkTool_L1, rectsE, checkTool_loop hu l]
    simp only [isAt_ok hu, Option.bind_some]
    unfold rectE
    generalize (decide (r.X1 ≤ r.X0) || decide (r.Y1 ≤ r.Y0)) = g
    cases fitP r.X0 u <;> cases fitP r.Y0 u <;> cases fitP r.X1 u <;> cases fitP r.Y1 u <;> cases g <;> simp
theorem checkToolR_loop {u : Int} (hu : 1 ≤ u ∧ u ≤ 1000) : ∀ (suf pre : List TRect) (m : Nat), suf.length < m → (pre ++ suf).length ≤ 2000 → F_etchhouseref3_checkToolRects_L1 (pre ++ suf) u m (pre.length : Int) = some (rectsE u suf)
  | [], pre, m, hm, hl => by
    obtain ⟨m, rfl⟩ : ∃ k, m = k + 1 := ⟨m - 1, by omega⟩
    rw [F_etchhouseref3_checkToolRects_L1, lt_end]; rfl
  | r :: l, pre, m, hm, hl => by
    obtain ⟨m, rfl⟩ : ∃ k, m = k + 1 := ⟨m - 1, by simp at hm; omega⟩
    simp at hm hl
    rw [F_etchhouseref3_checkToolRects_L1, lt_mid, if_pos rfl, idx_mid, Option.bind_some, rectsE, up_mid _ r (by omega), snoc_mid, checkToolR_loop hu l (pre ++ [r]) m (by omega) (by simp; omega)]
    simp only [fits_ok hu, Option.bind_some]
    unfold rectE
    generalize (decide (r.X1 ≤ r.X0) || decide (r.Y1 ≤ r.Y0)) = g
    cases fitP r.X0 u <;> cases fitP r.Y0 u <;> cases fitP r.X1 u <;> cases fitP r.Y1 u <;> cases g <;> simp
/-- The error of a tool, without that of its name. -/
def toolE (t : TPlotTool) (u : Int) : Int := if (t.Rects.length : Int) = 0 then 9 else if 2000 < (t.Rects.length : Int) then 2 else rectsE u t.Rects
theorem checkTool_ok {N : Nat} {t : TPlotTool} {u : Int} (hu : 1 ≤ u ∧ u ≤ 1000) {b : Bool} (hb : F_plot_IsName N t.Name = some b) : F_plot_checkTool N t u = some (if b then toolE t u else 5) := by
  unfold F_plot_checkTool
  rw [hb, Option.bind_some]
  cases b
  · rfl
  · simp only [Bool.not_true, Bool.false_eq_true, if_false, if_true, checkTool_loop hu, toolE]
    by_cases h0 : (t.Rects.length : Int) = 0
    · rw [if_pos (beq_iff_eq.2 h0), if_pos h0]
    · rw [if_neg (fun h => h0 (beq_iff_eq.1 h)), if_neg h0]
      by_cases h1 : 2000 < (t.Rects.length : Int)
      · rw [if_pos (decide_eq_true h1), if_pos h1]
      · rw [if_neg (by simpa using h1), if_neg h1]
theorem checkToolRects_ok {N : Nat} {t : TPlotTool} {u : Int} (hu : 1 ≤ u ∧ u ≤ 1000) (hN : 3000 ≤ N) : F_etchhouseref3_checkToolRects N t.Rects u = some (toolE t u) := by
  unfold F_etchhouseref3_checkToolRects toolE
  by_cases h0 : (t.Rects.length : Int) = 0
  · rw [if_pos (beq_iff_eq.2 h0), if_pos h0]
  · rw [if_neg (fun h => h0 (beq_iff_eq.1 h)), if_neg h0]
    by_cases h1 : 2000 < (t.Rects.length : Int)
    · rw [if_pos (decide_eq_true h1), if_pos h1]
    · rw [if_neg (by simpa using h1), if_neg h1]
      exact checkToolR_loop hu t.Rects [] N (by omega) (by simp; omega)
/-! The number of a tool. -/
def toolN (nm : ByteArray) (l : List TPlotTool) : Int := ixOf (fun t => sEq t.Name nm) l 0
theorem toolAt_loop (nm : ByteArray) : ∀ (l : List TPlotTool) (i : Nat), F_slices_IndexFunc_PlotTool__toolAt_1_L1 nm l i = some (ixOf (fun t => sEq t.Name nm) l (i : Int))
  | [], _ => rfl
  | t :: l, i => by
    rw [F_slices_IndexFunc_PlotTool__toolAt_1_L1, ixOf, toolAt_loop nm l (i + 1)]
    unfold F_plot_toolAt_1
    rw [Option.bind_some]
    split <;> rfl
theorem toolAt_ok (p : TPlot) (nm : ByteArray) : F_plot_toolAt p nm = some (toolN nm p.Tools) := by
  unfold F_plot_toolAt F_slices_IndexFunc_PlotTool__toolAt_1
  rw [toolAt_loop]; rfl
theorem tool_loop {p : TPlot} (nm : ByteArray) : ∀ (suf pre : List TPlotTool) (m : Nat), p.Tools = pre ++ suf → suf.length < m → (pre ++ suf).length ≤ 2000 → F_etchhouseref3_tool_L1 p nm m (pre.length : Int) = some (ixOf (fun t => sEq t.Name nm) suf (pre.length : Int))
  | [], pre, m, he, hm, hl => by
    obtain ⟨m, rfl⟩ : ∃ k, m = k + 1 := ⟨m - 1, by omega⟩
    rw [F_etchhouseref3_tool_L1, he, lt_end]; rfl
  | r :: l, pre, m, he, hm, hl => by
    obtain ⟨m, rfl⟩ : ∃ k, m = k + 1 := ⟨m - 1, by simp at hm; omega⟩
    simp at hm hl
    rw [F_etchhouseref3_tool_L1, he, lt_mid, if_pos rfl, idx_mid, Option.bind_some, ixOf, up_mid _ r (by omega), tool_loop nm l (pre ++ [r]) m (by rw [he]; simp) (by omega) (by simp; omega)]
    split
    · rfl
    · simp
theorem tool_ok {N : Nat} {p : TPlot} (nm : ByteArray) (hN : 3000 ≤ N) (hl : p.Tools.length ≤ 2000) : F_etchhouseref3_tool N p nm = some (toolN nm p.Tools) :=
  tool_loop nm p.Tools [] N rfl (by omega) hl
end Go.Proofs.YtneghcpnehiffaaDoor
namespace Go.Proofs.YtneghcpnehiffaaDoor
/-! Rows of corners. -/
def rowL (l : List TPoint) : List TPoint → Nat → Bool
  | [], _ => true
  | x :: r, i => if ((x.X == (l.getD ((i + 1) % l.length) ⟨0, 0⟩).X) == (x.Y == (l.getD ((i + 1) % l.length) ⟨0, 0⟩).Y)) then false else rowL l r (i + 1)
theorem next_ok {l : List TPoint} {i : Nat} (h : i < l.length) (hl : l.length ≤ 9223372036854775807) : ((md (w64 ((i : Int) + 1)) (l.length : Int)).bind fun q => idx l q) = some (l.getD ((i + 1) % l.length) ⟨0, 0⟩) := by
  have hm : (i + 1) % l.length < l.length := Nat.mod_lt _ (by omega)
  unfold md
  rw [w64_eq (by omega) (by omega), if_neg (by omega), Option.bind_some, Int.tmod_eq_emod_of_nonneg (by omega)]
  rw [show ((i : Int) + 1) % (l.length : Int) = (((i + 1) % l.length : Nat) : Int) by simp]
  rw [idx_nat hm]
  simp [List.getD, hm]
theorem next_ok2 {β : Type} {l : List TPoint} {i : Nat} (h : i < l.length) (hl : l.length ≤ 9223372036854775807) (k : TPoint → Option β) :
    ((md (w64 ((i : Int) + 1)) (l.length : Int)).bind fun q => (idx l q).bind k) = k (l.getD ((i + 1) % l.length) ⟨0, 0⟩) := by
  have := next_ok h hl
  cases hq : md (w64 ((i : Int) + 1)) (l.length : Int) with
  | none => rw [hq] at this; simp at this
  | some q =>
    rw [hq] at this
    simp only [Option.bind_some] at this ⊢
    rw [this, Option.bind_some]
theorem IsRow_loop {l : List TPoint} (hl : l.length ≤ 9223372036854775807) : ∀ (suf : List TPoint) (i : Nat), i + suf.length = l.length → F_shape_IsRow_L1 l suf i = some (rowL l suf i)
  | [], _, _ => rfl
  | x :: r, i, h => by
    simp at h
    rw [F_shape_IsRow_L1, rowL, next_ok2 (by omega) hl, IsRow_loop hl r (i + 1) (by omega)]
    split <;> rfl
theorem IsRow_ok {l : List TPoint} (hl : l.length ≤ 9223372036854775807) : F_shape_IsRow l = some (if (l.length : Int) < 4 then false else rowL l l 0) := by
  unfold F_shape_IsRow
  rw [IsRow_loop hl l 0 (by omega)]
  split
  · rename_i h; rw [if_pos (by simpa using h)]
  · rename_i h; rw [if_neg (by simpa using h)]
theorem area2_loop {l : List TPoint} (hl : l.length ≤ 2000) : ∀ (suf pre : List TPoint) (m : Nat), l = pre ++ suf → suf.length < m → F_etchhouseref3_checkArea_L2 l m (pre.length : Int) = some (if rowL l suf pre.length then 0 else 3)
  | [], pre, m, he, hm => by
    obtain ⟨m, rfl⟩ : ∃ k, m = k + 1 := ⟨m - 1, by omega⟩
    rw [F_etchhouseref3_checkArea_L2]
    rw [show decide ((pre.length : Int) < (l.length : Int)) = false from decide_eq_false (by rw [he]; simp)]
    rfl
  | x :: r, pre, m, he, hm => by
    obtain ⟨m, rfl⟩ : ∃ k, m = k + 1 := ⟨m - 1, by simp at hm; omega⟩
    simp at hm
    have hlen : l.length = pre.length + (r.length + 1) := by rw [he]; simp
    rw [F_etchhouseref3_checkArea_L2]
    rw [show decide ((pre.length : Int) < (l.length : Int)) = true from decide_eq_true (by omega), if_pos rfl]
    rw [show idx l (pre.length : Int) = some x by rw [he]; exact idx_mid _ _ _, Option.bind_some, next_ok2 (by omega) (by omega), rowL]
    split
    · simp
    · have hx := up_mid2 pre x (by omega)
      rw [hx, area2_loop hl r (pre ++ [x]) m (by rw [he]; simp) (by omega)]
      simp
def areaT (l : List TPoint) : Int := if 2000 < (l.length : Int) then 2 else if (l.length : Int) < 4 then 3 else if rowL l l 0 then 0 else 3
theorem area1_loop {N : Nat} (hN : 3000 ≤ N) {l : List TPoint} {u : Int} (hu : 1 ≤ u ∧ u ≤ 1000) (hl : l.length ≤ 9223372036854775807) : ∀ (suf pre : List TPoint) (m : Nat), l = pre ++ suf → suf.length < m →
    F_etchhouseref3_checkArea_L1 N l u m (pre.length : Int) = some (if suf.any (fun q => !fitPt q u) then 1 else areaT l)
  | [], pre, m, he, hm => by
    obtain ⟨m, rfl⟩ : ∃ k, m = k + 1 := ⟨m - 1, by omega⟩
    rw [F_etchhouseref3_checkArea_L1]
    rw [show decide ((pre.length : Int) < (l.length : Int)) = false from decide_eq_false (by rw [he]; simp)]
    simp only [Bool.false_eq_true, if_false, List.any_nil, areaT]
    by_cases h1 : 2000 < (l.length : Int)
    · rw [if_pos (decide_eq_true h1), if_pos h1]
    · rw [if_neg (by simpa using h1), if_neg h1]
      by_cases h2 : (l.length : Int) < 4
      · rw [if_pos (decide_eq_true h2), if_pos h2]
      · rw [if_neg (by simpa using h2), if_neg h2]
        exact area2_loop (by omega) l [] N rfl (by omega)
  | x :: r, pre, m, he, hm => by
    obtain ⟨m, rfl⟩ : ∃ k, m = k + 1 := ⟨m - 1, by simp at hm; omega⟩
    simp at hm
    have hlen : l.length = pre.length + (r.length + 1) := by rw [he]; simp
    rw [F_etchhouseref3_checkArea_L1]
    rw [show decide ((pre.length : Int) < (l.length : Int)) = true from decide_eq_true (by omega), if_pos rfl]
    rw [show idx l (pre.length : Int) = some x by rw [he]; exact idx_mid _ _ _, Option.bind_some, pointFits_ok hu, Option.bind_some]
    cases hf : fitPt x u
    · simp [hf]
    · rw [if_neg (by simp), up_mid2 pre x (by omega), area1_loop hN hu hl r (pre ++ [x]) m (by rw [he]; simp) (by omega)]
      simp [hf]
theorem area_ok {N : Nat} {l : List TPoint} {u : Int} (hu : 1 ≤ u ∧ u ≤ 1000) (hl : l.length ≤ 9223372036854775807) (hN : 3000 ≤ N) (hN2 : l.length < N) : F_etchhouseref3_checkArea N l u = some (if l.any (fun q => !fitPt q u) then 1 else areaT l) :=
  area1_loop hN hu hl l [] N rfl hN2
theorem contains_ok {p : TPlot} {l : List TPoint} (hu : 1 ≤ p.Unit ∧ p.Unit ≤ 1000) : F_slices_ContainsFunc_Point l (fun z0 => F_plot_checkStep_1 z0 p) = some (l.any (fun q => !fitPt q p.Unit)) := by
  have key : ∀ (l : List TPoint) (i : Nat), F_slices_IndexFunc_Point_L1 (fun z0 => F_plot_checkStep_1 z0 p) l i = some (ixOf (fun q => !fitPt q p.Unit) l (i : Int)) := by
    intro l
    induction l with
    | nil => intro i; rfl
    | cons x r ih =>
      intro i
      rw [F_slices_IndexFunc_Point_L1, ixOf, ih]
      have e : F_plot_checkStep_1 x p = some (!fitPt x p.Unit) := by
        unfold F_plot_checkStep_1
        rw [isPoint_ok hu]; rfl
      rw [e, Option.bind_some]
      split <;> rfl
  unfold F_slices_ContainsFunc_Point F_slices_IndexFunc_Point
  rw [key, Option.bind_some]
  exact congrArg some (ixOf_any _ l 0 (by omega))
/-! The error of a step. -/
def fieldsB (s : TPlotStep) : Bool :=
  (((s.Kind == 3 || sEq s.Name ByteArray.empty) && ((s.Kind == 4 || s.Kind == 5 || s.Kind == 6 || s.Kind == 8) || eqTPoint s.At ⟨0, 0⟩)) && (s.Kind == 7 || (s.Points.length : Int) == 0)) && (s.Kind == 8 || ((s.NX == 0 && s.NY == 0) && (s.Steps.length : Int) == 0))
theorem fieldsOf_ok (k : Int) : F_plot_fieldsOf k = some ⟨k == 3, k == 4 || k == 5 || k == 6 || k == 8, k == 7, k == 8⟩ := by
  unfold F_plot_fieldsOf F_plot_fieldsOf_J1
  by_cases h3 : k = 3
  · subst h3; rfl
  by_cases h4 : k = 4
  · subst h4; rfl
  by_cases h5 : k = 5
  · subst h5; rfl
  by_cases h6 : k = 6
  · subst h6; rfl
  by_cases h7 : k = 7
  · subst h7; rfl
  by_cases h8 : k = 8
  · subst h8; rfl
  simp [h3, h4, h5, h6, h7, h8]
theorem fields_ok (s : TPlotStep) : F_etchhouseref3_fields s = some (fieldsB s) := by
  unfold F_etchhouseref3_fields F_etchhouseref3_fields_J3 F_etchhouseref3_fields_J2 fieldsB
  generalize s.Kind = k
  by_cases h3 : k = 3
  · subst h3; rfl
  by_cases h4 : k = 4
  · subst h4; rfl
  by_cases h5 : k = 5
  · subst h5; rfl
  by_cases h6 : k = 6
  · subst h6; rfl
  by_cases h7 : k = 7
  · subst h7; rfl
  by_cases h8 : k = 8
  · subst h8; rfl
  have b3 : (k == 3) = false := by simpa using h3
  have b4 : (k == 4) = false := by simpa using h4
  have b5 : (k == 5) = false := by simpa using h5
  have b6 : (k == 6) = false := by simpa using h6
  have b7 : (k == 7) = false := by simpa using h7
  have b8 : (k == 8) = false := by simpa using h8
  simp only [b3, b4, b5, b6, b7, b8, Bool.false_or, Bool.false_eq_true, if_false]
def repE (s : TPlotStep) (d : Int) : Int :=
  if (!(decide (1 ≤ s.NX) && decide (s.NX ≤ 100))) || (!(decide (1 ≤ s.NY) && decide (s.NY ≤ 100))) then 1 else if (s.Steps.length : Int) = 0 then 9 else if 5 ≤ d then 2 else 0
def stepE (p : TPlot) (s : TPlotStep) (d : Int) : Int :=
  if !(decide (1 ≤ s.Kind) && decide (s.Kind ≤ 8)) then 4 else if !fieldsB s then 3 else if s.Kind == 3 && decide (toolN s.Name p.Tools < 0) then 5 else if !fitPt s.At p.Unit then 1
  else if s.Kind == 7 then (if s.Points.any (fun q => !fitPt q p.Unit) then 1 else areaT s.Points) else if s.Kind == 8 then repE s d else 0
theorem checkStepR_ok {N : Nat} {p : TPlot} {s : TPlotStep} {d : Int} (hu : 1 ≤ p.Unit ∧ p.Unit ≤ 1000) (ht : p.Tools.length ≤ 2000) (hl : s.Points.length ≤ 9223372036854775807) (hN : 3000 ≤ N) (hN2 : s.Points.length < N) : F_etchhouseref3_checkStep N p s d = some (stepE p s d) := by
  unfold F_etchhouseref3_checkStep stepE
  have hw : ∀ a b c : Int, F_etchhouseref3_within a b c = some (decide (b ≤ a) && decide (a ≤ c)) := fun _ _ _ => rfl
  simp only [hw, Option.bind_some, fields_ok, tool_ok _ hN ht, pointFits_ok hu, area_ok hu hl hN hN2, F_etchhouseref3_checkStep_J1]
  by_cases hk : (decide (1 ≤ s.Kind) && decide (s.Kind ≤ 8)) = true
  · simp only [hk, Bool.not_true, Bool.false_eq_true, if_false]
    cases hf : fieldsB s
    · simp
    · simp only [Bool.not_true, Bool.false_eq_true, if_false]
      by_cases h3 : s.Kind = 3
      · simp only [h3]
        cases hd : decide (toolN s.Name p.Tools < 0) <;> simp [hd]
        cases fitPt s.At p.Unit <;> simp
      · have h3' : (s.Kind == 3) = false := by simpa using h3
        simp only [h3', Bool.false_eq_true, if_false, Option.bind_some, Bool.false_and]
        cases fitPt s.At p.Unit
        · simp
        · simp only [Bool.not_true, Bool.false_eq_true, if_false]
          by_cases h7 : s.Kind = 7
          · simp [h7]
          · have h7' : (s.Kind == 7) = false := by simpa using h7
            simp only [h7', Bool.false_eq_true, if_false]
            by_cases h8 : s.Kind = 8
            · simp only [h8, beq_self_eq_true, if_true, repE]
              cases (decide (1 ≤ s.NX) && decide (s.NX ≤ 100))
              · simp
              · simp only [Bool.not_true, Bool.false_eq_true, if_false, Option.bind_some, Bool.false_or]
                cases (decide (1 ≤ s.NY) && decide (s.NY ≤ 100))
                · simp
                · simp only [Bool.not_true, Bool.false_eq_true, if_false]
                  by_cases h0 : (s.Steps.length : Int) = 0
                  · rw [if_pos (beq_iff_eq.2 h0), if_pos h0]
                  · rw [if_neg (fun h => h0 (beq_iff_eq.1 h)), if_neg h0]
                    by_cases h5 : 5 ≤ d
                    · rw [if_pos (decide_eq_true h5), if_pos h5]
                    · rw [if_neg (by simpa using h5), if_neg h5]
            · have h8' : (s.Kind == 8) = false := by simpa using h8
              simp only [h8', Bool.false_eq_true, if_false]
  · have hk' : (decide (1 ≤ s.Kind) && decide (s.Kind ≤ 8)) = false := by simpa using hk
    simp [hk']
theorem J1_join (p0 : TPlot) (p1 : TPlotStep) (p2 : Int) (y : TFields) (a b c d : Bool) : (if a = true then F_plot_checkStep_J1 p0 p1 p2 y a else if b = true then F_plot_checkStep_J1 p0 p1 p2 y b else if c = true then F_plot_checkStep_J1 p0 p1 p2 y c else F_plot_checkStep_J1 p0 p1 p2 y d) = F_plot_checkStep_J1 p0 p1 p2 y (a || b || c || d) := by
  cases a <;> cases b <;> cases c <;> cases d <;> rfl
theorem checkStep_ok {p : TPlot} {s : TPlotStep} {d : Int} (hu : 1 ≤ p.Unit ∧ p.Unit ≤ 1000) (hl : s.Points.length ≤ 9223372036854775807) : F_plot_checkStep p s d = some (stepE p s d) := by
  unfold F_plot_checkStep stepE
  have hw : ∀ a b c : Int, F_plot_within a b c = some (decide (b ≤ a) && decide (a ≤ c)) := fun _ _ _ => rfl
  rw [hw, Option.bind_some, fieldsOf_ok]
  by_cases hk : (decide (1 ≤ s.Kind) && decide (s.Kind ≤ 8)) = true
  · simp only [hk, Bool.not_true, Bool.false_eq_true, if_false, Option.bind_some]
    rw [J1_join]
    have hf : (!(s.Kind == 3) && !sEq s.Name ByteArray.empty || !(s.Kind == 4 || s.Kind == 5 || s.Kind == 6 || s.Kind == 8) && !eqTPoint s.At ⟨0, 0⟩ || !(s.Kind == 7) && decide (0 < (s.Points.length : Int)) || !(s.Kind == 8) && (s.NX != 0 || s.NY != 0 || decide (0 < (s.Steps.length : Int)))) = !fieldsB s := by
      unfold fieldsB
      have e1 : decide (0 < (s.Points.length : Int)) = !((s.Points.length : Int) == 0) := by rw [Bool.eq_iff_iff]; simp only [decide_eq_true_eq, Bool.not_eq_true', beq_eq_false_iff_ne, ne_eq]; omega
      have e2 : decide (0 < (s.Steps.length : Int)) = !((s.Steps.length : Int) == 0) := by rw [Bool.eq_iff_iff]; simp only [decide_eq_true_eq, Bool.not_eq_true', beq_eq_false_iff_ne, ne_eq]; omega
      rw [e1, e2]
      simp only [bne, Bool.not_and, Bool.not_or]
    rw [hf]
    unfold F_plot_checkStep_J1
    simp only [toolAt_ok, isPoint_ok hu, contains_ok hu, IsRow_ok hl, Option.bind_some, hw]
    cases hfb : fieldsB s
    · simp
    · simp only [Bool.not_true, Bool.false_eq_true, if_false]
      have hpt : s.Kind ≠ 7 → s.Points = [] := by
        intro h7
        unfold fieldsB at hfb
        simp only [Bool.and_eq_true, Bool.or_eq_true, beq_iff_eq] at hfb
        have := hfb.1.2.resolve_left h7
        exact List.eq_nil_of_length_eq_zero (by omega)
      by_cases h3 : s.Kind = 3
      · have hp := hpt (by omega)
        simp only [h3, hp, beq_self_eq_true, if_true, Option.bind_some]
        cases hd : decide (toolN s.Name p.Tools < 0) <;> simp [hd]
        cases fitPt s.At p.Unit <;> simp
      · have h3' : (s.Kind == 3) = false := by simpa using h3
        simp only [h3', Bool.false_eq_true, if_false, Option.bind_some, Bool.false_and]
        cases fitPt s.At p.Unit
        · simp
        · simp only [Bool.not_true, Bool.false_eq_true, if_false, Option.bind_some]
          by_cases h7 : s.Kind = 7
          · simp only [h7, beq_self_eq_true, if_true]
            cases s.Points.any (fun q => !fitPt q p.Unit)
            · simp only [Bool.false_eq_true, if_false, areaT]
              by_cases h1 : 2000 < (s.Points.length : Int)
              · rw [if_pos (decide_eq_true h1), if_pos h1]
              · rw [if_neg (by simpa using h1), if_neg h1]
                by_cases h2 : (s.Points.length : Int) < 4
                · simp [h2]
                · simp only [h2, if_false]
                  cases rowL s.Points s.Points 0 <;> simp
            · simp
          · have h7' : (s.Kind == 7) = false := by simpa using h7
            have hp := hpt h7
            simp only [h7', hp, Bool.false_eq_true, if_false, List.any_nil, List.length_nil, Option.bind_some]
            by_cases h8 : s.Kind = 8
            · simp only [h8, beq_self_eq_true, if_true, repE]
              cases (decide (1 ≤ s.NX) && decide (s.NX ≤ 100))
              · simp
              · simp only [Bool.not_true, Bool.false_eq_true, if_false, Option.bind_some, Bool.false_or]
                cases (decide (1 ≤ s.NY) && decide (s.NY ≤ 100))
                · simp
                · simp only [Bool.not_true, Bool.false_eq_true, if_false]
                  rw [if_neg (by simp)]
                  by_cases h0 : (s.Steps.length : Int) = 0
                  · rw [if_pos (beq_iff_eq.2 h0), if_pos h0]
                  · rw [if_neg (fun h => h0 (beq_iff_eq.1 h)), if_neg h0]
                    by_cases h5 : 5 ≤ d
                    · rw [if_pos (decide_eq_true h5), if_pos h5]
                    · rw [if_neg (by simpa using h5), if_neg h5]
            · have h8' : (s.Kind == 8) = false := by simpa using h8
              simp [h8']
  · have hk' : (decide (1 ≤ s.Kind) && decide (s.Kind ≤ 8)) = false := by simpa using hk
    simp [hk']
end Go.Proofs.YtneghcpnehiffaaDoor
namespace Go.Proofs.YtneghcpnehiffaaDoor
mutual
/-- How large a step is. -/
def szStep : TPlotStep → Nat
  | ⟨_, n, _, ps, _, _, l⟩ => 1 + n.size + ps.length + szSteps l
def szSteps : List TPlotStep → Nat
  | [] => 0
  | x :: l => szStep x + szSteps l
end
mutual
/-- How many steps there are. -/
def ndStep : TPlotStep → Nat
  | ⟨_, _, _, _, _, _, l⟩ => 1 + ndSteps l
def ndSteps : List TPlotStep → Nat
  | [] => 0
  | x :: l => ndStep x + ndSteps l
end
theorem szStep_eq (x : TPlotStep) : szStep x = 1 + x.Name.size + x.Points.length + szSteps x.Steps := by cases x; rw [szStep]
theorem ndStep_eq (x : TPlotStep) : ndStep x = 1 + ndSteps x.Steps := by cases x; rw [ndStep]
theorem szSteps_nil : szSteps [] = 0 := by rw [szSteps]
theorem szSteps_cons (x : TPlotStep) (l : List TPlotStep) : szSteps (x :: l) = szStep x + szSteps l := by rw [szSteps]
theorem ndSteps_nil : ndSteps [] = 0 := by rw [ndSteps]
theorem ndSteps_cons (x : TPlotStep) (l : List TPlotStep) : ndSteps (x :: l) = ndStep x + ndSteps l := by rw [ndSteps]
theorem szSteps_mem {x : TPlotStep} : ∀ {l : List TPlotStep}, x ∈ l → szStep x ≤ szSteps l
  | y :: l, h => by
    rw [szSteps_cons]
    rcases List.mem_cons.1 h with h | h
    · subst h; omega
    · have := szSteps_mem h; omega
theorem ndSteps_mem {x : TPlotStep} : ∀ {l : List TPlotStep}, x ∈ l → ndStep x ≤ ndSteps l
  | y :: l, h => by
    rw [ndSteps_cons]
    rcases List.mem_cons.1 h with h | h
    · subst h; omega
    · have := ndSteps_mem h; omega
theorem szSteps_len : ∀ (l : List TPlotStep), l.length ≤ szSteps l
  | [] => by simp
  | x :: l => by
    have := szSteps_len l
    have := szStep_eq x
    rw [szSteps_cons, List.length_cons]; omega
/-- Numbers of 64 bits. -/
def J64 (n : Int) : Prop := -9223372036854775808 ≤ n ∧ n ≤ 9223372036854775807
mutual
/-- Lengths and numbers are those of the machine. -/
def lenS : TPlotStep → Prop
  | ⟨_, n, a, ps, nx, ny, l⟩ => n.size ≤ 9223372036854775807 ∧ (J64 a.X ∧ J64 a.Y) ∧ (ps.length ≤ 9223372036854775807 ∧ ∀ q ∈ ps, J64 q.X ∧ J64 q.Y) ∧ (J64 nx ∧ J64 ny) ∧ l.length ≤ 9223372036854775807 ∧ lenL l
def lenL : List TPlotStep → Prop
  | [] => True
  | x :: l => lenS x ∧ lenL l
end
theorem lenS_eq (x : TPlotStep) : lenS x ↔ x.Name.size ≤ 9223372036854775807 ∧ (J64 x.At.X ∧ J64 x.At.Y) ∧ (x.Points.length ≤ 9223372036854775807 ∧ ∀ q ∈ x.Points, J64 q.X ∧ J64 q.Y) ∧ (J64 x.NX ∧ J64 x.NY) ∧ x.Steps.length ≤ 9223372036854775807 ∧ lenL x.Steps := by cases x; rw [lenS]
theorem lenL_cons (x : TPlotStep) (l : List TPlotStep) : lenL (x :: l) ↔ lenS x ∧ lenL l := by rw [lenL]
theorem lenL_mem {x : TPlotStep} : ∀ {l : List TPlotStep}, lenL l → x ∈ l → lenS x
  | y :: l, h, hm => by
    rw [lenL_cons] at h
    rcases List.mem_cons.1 hm with e | e
    · subst e; exact h.1
    · exact lenL_mem h.2 e
theorem lenL_of {l : List TPlotStep} (h : ∀ x ∈ l, lenS x) : lenL l := by
  induction l with
  | nil => rw [lenL]; trivial
  | cons x l ih => rw [lenL_cons]; exact ⟨h x List.mem_cons_self, ih (fun y hy => h y (List.mem_cons_of_mem _ hy))⟩
/-! How many steps are done. -/
def tm (n : Int) : Int := if 1 ≤ n ∧ n ≤ 100 then n else 1
theorem tm_bd (n : Int) : 1 ≤ tm n ∧ tm n ≤ 100 := by unfold tm; split <;> omega
theorem times1_ok (n : Int) : F_plot_times_1 n = some (tm n) := by
  unfold F_plot_times_1 tm
  have hw : F_plot_within n 1 100 = some (decide (1 ≤ n) && decide (n ≤ 100)) := rfl
  rw [hw, Option.bind_some]
  by_cases h : 1 ≤ n ∧ n ≤ 100
  · rw [if_pos h, if_pos (by simpa using h)]
  · rw [if_neg h, if_neg (by simpa using h)]
theorem tm_mul (a b : Int) : 1 ≤ tm a * tm b ∧ tm a * tm b ≤ 10000 := by
  have h1 := tm_bd a
  have h2 := tm_bd b
  generalize tm a = x at *
  generalize tm b = y at *
  constructor
  · have := Int.mul_le_mul h1.1 h2.1 (by omega) (by omega); omega
  · have := Int.mul_le_mul h1.2 h2.2 (by omega) (by omega); omega
theorem times_ok (s : TPlotStep) : F_plot_times s = some (tm s.NX * tm s.NY) := by
  have := tm_mul s.NX s.NY
  unfold F_plot_times
  rw [times1_ok, times1_ok, Option.bind_some, Option.bind_some, w64_id (by omega) (by omega)]
/-- What a list of steps counts, in both. -/
def CountAs (recp recr : List TPlotStep → Option Int) (l : List TPlotStep) : Prop := ∃ c, recp l = some c ∧ recr l = some c ∧ 0 ≤ c ∧ c ≤ 3001 ∧ (l = [] → c = 0) ∧ (c ≤ 3000 → (ndSteps l : Int) ≤ c)
theorem count_loop {recp recr : List TPlotStep → Option Int} : ∀ (suf pre : List TPlotStep) (i m : Nat) (x : Int), 0 ≤ x → x ≤ 3000 → (∀ s ∈ suf, CountAs recp recr s.Steps) → suf.length < m → (pre ++ suf).length ≤ 9223372036854775807 →
    ∃ r, F_plot_count_L3 recp suf i x = some r ∧ F_etchhouseref3_count_L5 (pre ++ suf) recr m x (pre.length : Int) = some r ∧ 0 ≤ r ∧ r ≤ 3001 ∧ (suf = [] → r = x) ∧ (r ≤ 3000 → x + (ndSteps suf : Int) ≤ r)
  | [], pre, i, m, x, h0, h1, _, hm, hl => by
    obtain ⟨m, rfl⟩ : ∃ k, m = k + 1 := ⟨m - 1, by omega⟩
    refine ⟨x, rfl, ?_, h0, by omega, fun _ => rfl, fun _ => by rw [ndSteps_nil]; simp⟩
    rw [F_etchhouseref3_count_L5, lt_end, Bool.false_and, if_neg (by simp)]
    congr 1
    omega
  | s :: l, pre, i, m, x, h0, h1, hc, hm, hl => by
    obtain ⟨m, rfl⟩ : ∃ k, m = k + 1 := ⟨m - 1, by simp at hm; omega⟩
    obtain ⟨c, c1, c2, c3, c4, c5, c6⟩ := hc s List.mem_cons_self
    simp at hm hl
    have ht := tm_mul s.NX s.NY
    have hx := tm_bd s.NX
    have hy := tm_bd s.NY
    have hpc : 0 ≤ tm s.NX * tm s.NY * c ∧ tm s.NX * tm s.NY * c ≤ 30010000 ∧ c ≤ tm s.NX * tm s.NY * c := by
      generalize tm s.NX * tm s.NY = t at *
      refine ⟨Int.mul_nonneg (by omega) c3, ?_, ?_⟩
      · have := Int.mul_le_mul ht.2 c4 c3 (by omega); omega
      · have := Int.mul_le_mul_of_nonneg_right ht.1 c3; omega
    have hR : F_etchhouseref3_count_L5 (pre ++ s :: l) recr (m + 1) x (pre.length : Int) = F_etchhouseref3_count_L5 (pre ++ s :: l) recr m (x + 1 + tm s.NX * tm s.NY * c) ((pre ++ [s]).length : Int) := by
      have hw : ∀ n : Int, F_etchhouseref3_within n 1 100 = some (decide (1 ≤ n) && decide (n ≤ 100)) := fun _ => rfl
      rw [F_etchhouseref3_count_L5, lt_mid, Bool.true_and, if_pos (by simpa using h1), idx_mid, Option.bind_some, hw, Option.bind_some]
      have key6 : ∀ a b : Int, a = tm s.NX → b = tm s.NY → F_etchhouseref3_count_J6 (pre ++ s :: l) recr x (pre.length : Int) (F_etchhouseref3_count_L5 (pre ++ s :: l) recr m) a b = F_etchhouseref3_count_L5 (pre ++ s :: l) recr m (x + 1 + tm s.NX * tm s.NY * c) ((pre ++ [s]).length : Int) := by
        intro a b ha hb
        subst ha; subst hb
        unfold F_etchhouseref3_count_J6
        rw [idx_mid, Option.bind_some, c2, Option.bind_some, up_mid2 _ s (by omega), w64_id (x := tm s.NX * tm s.NY) (by omega) (by omega), w64_id (x := tm s.NX * tm s.NY * c) (by omega) (by omega), w64_id (x := x + 1) (by omega) (by omega), w64_id (by omega) (by omega)]
      have key7 : ∀ a : Int, a = tm s.NX → F_etchhouseref3_count_J7 (pre ++ s :: l) recr x (pre.length : Int) (F_etchhouseref3_count_L5 (pre ++ s :: l) recr m) a = F_etchhouseref3_count_L5 (pre ++ s :: l) recr m (x + 1 + tm s.NX * tm s.NY * c) ((pre ++ [s]).length : Int) := by
        intro a ha
        unfold F_etchhouseref3_count_J7
        rw [idx_mid, Option.bind_some, hw, Option.bind_some]
        by_cases h : 1 ≤ s.NY ∧ s.NY ≤ 100
        · rw [if_pos (by simpa using h)]; exact key6 _ _ ha (by unfold tm; rw [if_pos h])
        · rw [if_neg (by simpa using h)]; exact key6 _ _ ha (by unfold tm; rw [if_neg h])
      by_cases h : 1 ≤ s.NX ∧ s.NX ≤ 100
      · rw [if_pos (by simpa using h)]; exact key7 _ (by unfold tm; rw [if_pos h])
      · rw [if_neg (by simpa using h)]; exact key7 _ (by unfold tm; rw [if_neg h])
    have hP : F_plot_count_L3 recp (s :: l) i x = F_plot_count_J4 (F_plot_count_L3 recp l (i + 1)) (x + 1 + tm s.NX * tm s.NY * c) := by
      rw [F_plot_count_L3]
      by_cases he : s.Steps = []
      · rw [if_neg (by rw [he]; simp), c5 he, w64_id (by omega) (by omega)]; simp
      · have : 0 < (s.Steps.length : Int) := by
          have := List.length_pos_iff.2 he; omega
        rw [if_pos (decide_eq_true this), times_ok, Option.bind_some, c1, Option.bind_some, w64_id (x := tm s.NX * tm s.NY * c) (by omega) (by omega), w64_id (x := x + 1) (by omega) (by omega), w64_id (by omega) (by omega)]
    rw [hP, hR]
    unfold F_plot_count_J4
    by_cases hb : 3000 < x + 1 + tm s.NX * tm s.NY * c
    · rw [if_pos (decide_eq_true hb)]
      refine ⟨3001, rfl, ?_, by omega, by omega, fun h => (by cases h), fun h => by omega⟩
      obtain ⟨m, rfl⟩ : ∃ k, m = k + 1 := ⟨m - 1, by omega⟩
      rw [F_etchhouseref3_count_L5, if_neg (by simp; omega)]
      congr 1; omega
    · rw [if_neg (by simpa using hb), snoc_mid]
      obtain ⟨r, r1, r2, r3, r4, r5, r6⟩ := count_loop l (pre ++ [s]) (i + 1) m (x + 1 + tm s.NX * tm s.NY * c) (by omega) (by omega) (fun t ht => hc t (List.mem_cons_of_mem _ ht)) (by omega) (by simp; omega)
      refine ⟨r, r1, r2, r3, r4, fun h => (by cases h), fun h => ?_⟩
      have := r6 h
      have := c6 (by omega)
      rw [ndSteps_cons, ndStep_eq]
      omega
theorem count_ok : ∀ (k : Nat) (l : List TPlotStep) (N : Nat), szSteps l ≤ k → k + 5 ≤ N → l.length ≤ 9223372036854775807 → lenL l → CountAs (F_plot_count N) (F_etchhouseref3_count N) l
  | k, l, N, hk, hN, hl, hA => by
    obtain ⟨N, rfl⟩ : ∃ n, N = n + 1 := ⟨N - 1, by omega⟩
    have hlen := szSteps_len l
    have hrec : ∀ s ∈ l, CountAs (F_plot_count N) (F_etchhouseref3_count N) s.Steps := by
      intro s hs
      have h1 := szSteps_mem hs
      have h2 := szStep_eq s
      have h3 := (lenS_eq s).1 (lenL_mem hA hs)
      cases k with
      | zero => omega
      | succ k => exact count_ok k s.Steps N (by omega) (by omega) h3.2.2.2.2.1 h3.2.2.2.2.2
    obtain ⟨r, r1, r2, r3, r4, r5, r6⟩ := count_loop l [] 0 N 0 (by omega) (by omega) hrec (by omega) (by simpa using hl)
    exact ⟨r, r1, r2, r3, r4, r5, fun h => by have := r6 h; omega⟩
/-! The error of all steps. -/
/-- What is known of steps that have no error. -/
def goodS (nm : Nat) (s : TPlotStep) : Prop := s.Points.length ≤ 2000 ∧ s.Name.size ≤ nm
mutual
def goodT (nm : Nat) : TPlotStep → Prop
  | ⟨k, n, a, ps, nx, ny, l⟩ => goodS nm ⟨k, n, a, ps, nx, ny, l⟩ ∧ goodL nm l
def goodL (nm : Nat) : List TPlotStep → Prop
  | [] => True
  | x :: l => goodT nm x ∧ goodL nm l
end
theorem goodT_eq (nm : Nat) (x : TPlotStep) : goodT nm x ↔ goodS nm x ∧ goodL nm x.Steps := by cases x; rw [goodT]
theorem goodL_nil (nm : Nat) : goodL nm [] := by rw [goodL]; trivial
theorem goodL_cons (nm : Nat) (x : TPlotStep) (l : List TPlotStep) : goodL nm (x :: l) ↔ goodT nm x ∧ goodL nm l := by rw [goodL]
theorem goodL_mem {nm : Nat} {x : TPlotStep} : ∀ {l : List TPlotStep}, goodL nm l → x ∈ l → goodT nm x
  | y :: l, h, hm => by
    rw [goodL_cons] at h
    rcases List.mem_cons.1 hm with e | e
    · subst e; exact h.1
    · exact goodL_mem h.2 e
/-- The tools' names are not long. -/
def namesOk (nm : Nat) (p : TPlot) : Prop := ∀ t ∈ p.Tools, t.Name.size ≤ nm
theorem toolN_mem {nm : ByteArray} {l : List TPlotTool} (h : ¬ toolN nm l < 0) : ∃ t ∈ l, t.Name = nm := by
  have : ∀ (l : List TPlotTool) (i : Int), 0 ≤ i → ¬ ixOf (fun t => sEq t.Name nm) l i < 0 → ∃ t ∈ l, t.Name = nm := by
    intro l
    induction l with
    | nil => intro i _ h; simp [ixOf] at h
    | cons t l ih =>
      intro i hi h
      unfold ixOf at h
      by_cases ht : sEq t.Name nm = true
      · exact ⟨t, List.mem_cons_self, sEq_iff.1 ht⟩
      · rw [if_neg ht] at h
        obtain ⟨x, hx, he⟩ := ih (i + 1) (by omega) h
        exact ⟨x, List.mem_cons_of_mem _ hx, he⟩
  exact this l 0 (by omega) h
theorem stepE_good {nm : Nat} {p : TPlot} {s : TPlotStep} {d : Int} (hp : namesOk nm p) (h : stepE p s d = 0) : goodS nm s := by
  unfold stepE at h
  split at h
  · cases h
  split at h
  · cases h
  rename_i hk hf
  have hf : fieldsB s = true := by simpa using hf
  unfold fieldsB at hf
  simp only [Bool.and_eq_true, Bool.or_eq_true, beq_iff_eq] at hf
  split at h
  · cases h
  rename_i ht
  have hname : s.Name.size ≤ nm := by
    rcases hf.1.1.1 with h3 | h3
    · simp only [h3, beq_self_eq_true, Bool.true_and, decide_eq_true_eq] at ht
      obtain ⟨t, h1, h2⟩ := toolN_mem ht
      rw [← h2]; exact hp t h1
    · rw [sEq_iff.1 h3]; exact Nat.zero_le _
  split at h
  · cases h
  refine ⟨?_, hname⟩
  rcases hf.1.2 with h7 | h7
  · simp only [h7, beq_self_eq_true, if_true] at h
    split at h
    · cases h
    · unfold areaT at h
      split at h
      · cases h
      · omega
  · omega
def ErrAs (p : TPlot) (nm : Nat) (recp recr : TPlot → List TPlotStep → Int → Option Int) (l : List TPlotStep) (d : Int) : Prop := ∃ e, recp p l d = some e ∧ recr p l d = some e ∧ (e = 0 → goodL nm l)
theorem checkSteps_loop {nm N : Nat} {p : TPlot} {d : Int} (hN : 3000 ≤ N) (hu : 1 ≤ p.Unit ∧ p.Unit ≤ 1000) (ht : p.Tools.length ≤ 2000) (hp : namesOk nm p) {recp recr : TPlot → List TPlotStep → Int → Option Int} : ∀ (suf pre : List TPlotStep) (i m : Nat),
    (∀ s ∈ suf, ErrAs p nm recp recr s.Steps (w64 (d + 1))) → (∀ s ∈ suf, s.Points.length ≤ 9223372036854775807 ∧ s.Points.length < N) → suf.length < m → (pre ++ suf).length ≤ 9223372036854775807 →
    ∃ e, F_plot_checkSteps_L1 p d recp suf i = some e ∧ F_etchhouseref3_checkSteps_L1 N p (pre ++ suf) d recr m (pre.length : Int) = some e ∧ (e = 0 → goodL nm suf)
  | [], pre, i, m, _, _, hm, hl => by
    obtain ⟨m, rfl⟩ : ∃ k, m = k + 1 := ⟨m - 1, by omega⟩
    refine ⟨0, rfl, ?_, fun _ => goodL_nil nm⟩
    rw [F_etchhouseref3_checkSteps_L1, lt_end, if_neg (by simp)]
  | s :: l, pre, i, m, hr, hs, hm, hl => by
    obtain ⟨m, rfl⟩ : ∃ k, m = k + 1 := ⟨m - 1, by simp at hm; omega⟩
    obtain ⟨e, e1, e2, e3⟩ := hr s List.mem_cons_self
    obtain ⟨s1, s2⟩ := hs s List.mem_cons_self
    simp at hm hl
    rw [F_plot_checkSteps_L1, F_etchhouseref3_checkSteps_L1, lt_mid, if_pos rfl, idx_mid, Option.bind_some, checkStep_ok hu s1, checkStepR_ok hu ht s1 hN s2, Option.bind_some, Option.bind_some]
    by_cases h0 : stepE p s d = 0
    · rw [if_neg (by simp [h0]), if_neg (by simp [h0]), Option.bind_some, e1, e2, Option.bind_some, Option.bind_some]
      by_cases h1 : e = 0
      · subst h1
        rw [if_neg (by simp), if_neg (by simp), up_mid2 _ s (by omega), snoc_mid]
        obtain ⟨r, r1, r2, r3⟩ := checkSteps_loop hN hu ht hp l (pre ++ [s]) (i + 1) m (fun x hx => hr x (List.mem_cons_of_mem _ hx)) (fun x hx => hs x (List.mem_cons_of_mem _ hx)) (by omega) (by simp; omega)
        exact ⟨r, r1, r2, fun h => (goodL_cons _ _ _).2 ⟨(goodT_eq _ _).2 ⟨stepE_good hp h0, e3 rfl⟩, r3 h⟩⟩
      · rw [if_pos (by simpa using h1), if_pos (by simpa using h1)]
        exact ⟨e, rfl, rfl, fun h => absurd h h1⟩
    · rw [if_pos (by simpa using h0), if_pos (by simpa using h0)]
      exact ⟨_, rfl, rfl, fun h => absurd h h0⟩
set_option maxRecDepth 100000 in
theorem checkSteps_ok {nm : Nat} {p : TPlot} (hu : 1 ≤ p.Unit ∧ p.Unit ≤ 1000) (ht : p.Tools.length ≤ 2000) (hp : namesOk nm p) : ∀ (k : Nat) (l : List TPlotStep) (N : Nat) (d : Int), szSteps l ≤ k → k + 3001 ≤ N → l.length ≤ 9223372036854775807 → lenL l →
    ErrAs p nm (F_plot_checkSteps N) (F_etchhouseref3_checkSteps N) l d
  | k, l, N, d, hk, hN, hl, hA => by
    obtain ⟨N, rfl⟩ : ∃ n, N = n + 1 := ⟨N - 1, by omega⟩
    have hlen := szSteps_len l
    have hrec : ∀ s ∈ l, ErrAs p nm (F_plot_checkSteps N) (F_etchhouseref3_checkSteps N) s.Steps (w64 (d + 1)) := by
      intro s hs
      have h1 := szSteps_mem hs
      have h2 := szStep_eq s
      have h3 := (lenS_eq s).1 (lenL_mem hA hs)
      cases k with
      | zero => omega
      | succ k => exact checkSteps_ok hu ht hp k s.Steps N _ (by omega) (by omega) h3.2.2.2.2.1 h3.2.2.2.2.2
    exact checkSteps_loop (by omega) hu ht hp l [] 0 N hrec (fun s hs => by
      have h1 := szSteps_mem hs
      have h2 := szStep_eq s
      have h3 := (lenS_eq s).1 (lenL_mem hA hs)
      exact ⟨h3.2.2.1.1, by omega⟩) (by omega) (by simpa using hl)
end Go.Proofs.YtneghcpnehiffaaDoor
namespace Go.Proofs.YtneghcpnehiffaaDoor
/-- What is known of a plot that has no error. -/
structure GoodP (p : TPlot) : Prop where
  unit : 1 ≤ p.Unit ∧ p.Unit ≤ 1000
  few : p.Tools.length ≤ 200
  tools : ∀ t ∈ p.Tools, t.Name.size ≤ 40 ∧ t.Rects.length ≤ 2000
  steps : goodL 40 p.Steps
  nd : ndSteps p.Steps ≤ 3000
/-- Lengths and numbers of a plot are those of the machine. -/
structure LenP (p : TPlot) : Prop where
  unit : J64 p.Unit
  tools : ∀ t ∈ p.Tools, t.Name.size ≤ 9223372036854775807 ∧ ∀ r ∈ t.Rects, (J64 r.X0 ∧ J64 r.Y0) ∧ J64 r.X1 ∧ J64 r.Y1
  sl : p.Steps.length ≤ 9223372036854775807
  steps : lenL p.Steps
def szTools : List TPlotTool → Nat
  | [] => 0
  | t :: l => 1 + t.Name.size + szTools l
theorem szTools_mem {t : TPlotTool} : ∀ {l : List TPlotTool}, t ∈ l → t.Name.size < szTools l
  | x :: l, h => by
    rw [szTools]
    rcases List.mem_cons.1 h with e | e
    · subst e; omega
    · have := szTools_mem e; omega
/-- Fuel enough. -/
def Fu (p : TPlot) (N : Nat) : Prop := szSteps p.Steps + szTools p.Tools + 10000 ≤ N
theorem toolE_good {t : TPlotTool} {u : Int} (h : toolE t u = 0) : t.Rects.length ≤ 2000 := by
  unfold toolE at h
  split at h
  · cases h
  split at h
  · cases h
  · omega
theorem check_end {N : Nat} {p : TPlot} (hN : Fu p N) (hL : LenP p) (hu : 1 ≤ p.Unit ∧ p.Unit ≤ 1000) (ht : p.Tools.length ≤ 200) (hp : ∀ t ∈ p.Tools, t.Name.size ≤ 40 ∧ t.Rects.length ≤ 2000) :
    ∃ e, ((F_plot_count N p.Steps).bind fun y112 => if (decide (3000 < y112)) then some 2 else (F_plot_checkSteps N p p.Steps 0).bind fun y113 => some y113) = some e ∧
      ((F_etchhouseref3_count N p.Steps).bind fun y112 => if (decide (3000 < y112)) then some 2 else (F_etchhouseref3_checkSteps N p p.Steps 0).bind fun y113 => some y113) = some e ∧ (e = 0 → GoodP p) := by
  unfold Fu at hN
  obtain ⟨c, c1, c2, c3, c4, c5, c6⟩ := count_ok (szSteps p.Steps) p.Steps N (Nat.le_refl _) (by omega) hL.sl hL.steps
  rw [c1, c2, Option.bind_some, Option.bind_some]
  by_cases hc : 3000 < c
  · rw [if_pos (decide_eq_true hc), if_pos (decide_eq_true hc)]
    exact ⟨2, rfl, rfl, fun h => by cases h⟩
  · rw [if_neg (by simpa using hc), if_neg (by simpa using hc)]
    obtain ⟨e, e1, e2, e3⟩ := checkSteps_ok (nm := 40) (p := p) hu (by omega) (fun t h => (hp t h).1) (szSteps p.Steps) p.Steps N 0 (Nat.le_refl _) (by omega) hL.sl hL.steps
    rw [e1, e2]
    exact ⟨e, rfl, rfl, fun h => ⟨hu, ht, hp, e3 h, by have := c6 (by omega); omega⟩⟩
theorem check_loop {N : Nat} {p : TPlot} (hN : Fu p N) (hL : LenP p) (hu : 1 ≤ p.Unit ∧ p.Unit ≤ 1000) (ht : p.Tools.length ≤ 200) : ∀ (suf pre : List TPlotTool) (m : Nat), p.Tools = pre ++ suf → (∀ t ∈ pre, t.Name.size ≤ 40 ∧ t.Rects.length ≤ 2000) → suf.length < m →
    ∃ e, F_plot_CheckPlot_L1 N p suf pre.length = some e ∧ F_etchhouseref3_CheckPlot_L1 N p m (pre.length : Int) = some e ∧ (e = 0 → GoodP p)
  | [], pre, m, he, hp, hm => by
    obtain ⟨m, rfl⟩ : ∃ k, m = k + 1 := ⟨m - 1, by omega⟩
    rw [F_plot_CheckPlot_L1, F_etchhouseref3_CheckPlot_L1, show decide ((pre.length : Int) < (p.Tools.length : Int)) = false from decide_eq_false (by rw [he]; simp), if_neg (by simp)]
    exact check_end hN hL hu ht (fun t h => hp t (by rw [he] at h; simpa using h))
  | t :: l, pre, m, he, hp, hm => by
    obtain ⟨m, rfl⟩ : ∃ k, m = k + 1 := ⟨m - 1, by simp at hm; omega⟩
    simp at hm
    have hlen : p.Tools.length = pre.length + (l.length + 1) := by rw [he]; simp
    have hmem : t ∈ p.Tools := by rw [he]; simp
    have hsz := szTools_mem hmem
    have hN' := hN
    unfold Fu at hN'
    obtain ⟨b, b1, b2, b3⟩ := IsName_ok (N := N) (hL.tools t hmem).1 (by omega)
    rw [F_plot_CheckPlot_L1, F_etchhouseref3_CheckPlot_L1, show decide ((pre.length : Int) < (p.Tools.length : Int)) = true from decide_eq_true (by omega), if_pos rfl, show idx p.Tools (pre.length : Int) = some t by rw [he]; exact idx_mid _ _ _,
      Option.bind_some, checkTool_ok hu b1, Option.bind_some, b2, Option.bind_some]
    cases b
    · exact ⟨5, rfl, rfl, fun h => by cases h⟩
    simp only [if_true, Bool.not_true, Bool.false_eq_true, if_false]
    rw [checkToolRects_ok hu (by omega), Option.bind_some]
    by_cases h0 : toolE t p.Unit = 0
    · have hz0 : (toolE t p.Unit != 0) = false := by simp [h0]
      simp only [hz0, Bool.false_eq_true, if_false]
      have hgo : ∃ e, F_plot_CheckPlot_L1 N p l (pre.length + 1) = some e ∧ F_etchhouseref3_CheckPlot_L1 N p m (w64 ((pre.length : Int) + 1)) = some e ∧ (e = 0 → GoodP p) := by
        have := check_loop hN hL hu ht l (pre ++ [t]) m (by rw [he]; simp) (fun x hx => by
          rcases List.mem_append.1 hx with h | h
          · exact hp x h
          · simp at h; subst h; exact ⟨b3 rfl, toolE_good h0⟩) (by omega)
        rw [up_mid2 _ t (by omega)]
        simpa using this
      by_cases hz : pre = []
      · subst hz
        simpa using hgo
      · have hpos : 0 < (pre.length : Int) := by
          have := List.length_pos_iff.2 hz; omega
        simp only [decide_eq_true hpos, if_true]
        rw [w64_id (x := (pre.length : Int) - 1) (by omega) (by omega)]
        obtain ⟨x, hx, _⟩ := idx_lt (l := p.Tools) (i := (pre.length : Int) - 1) (by omega) (by omega)
        simp only [hx, Option.bind_some]
        split
        · exact ⟨8, rfl, rfl, fun h => by cases h⟩
        · exact hgo
    · have hz0 : (toolE t p.Unit != 0) = true := by simpa using h0
      simp only [hz0, if_true]
      exact ⟨_, rfl, rfl, fun h => absurd h h0⟩
theorem CheckPlot_ok {N : Nat} {p : TPlot} (hN : Fu p N) (hL : LenP p) : ∃ e, F_plot_CheckPlot N p = some e ∧ F_etchhouseref3_CheckPlot N p = some e ∧ (e = 0 → GoodP p) := by
  have hw : F_plot_within p.Unit 1 1000 = some (decide (1 ≤ p.Unit) && decide (p.Unit ≤ 1000)) := rfl
  have hw2 : F_etchhouseref3_within p.Unit 1 1000 = some (decide (1 ≤ p.Unit) && decide (p.Unit ≤ 1000)) := rfl
  unfold F_plot_CheckPlot F_etchhouseref3_CheckPlot
  rw [hw, hw2, Option.bind_some, Option.bind_some]
  by_cases hu : 1 ≤ p.Unit ∧ p.Unit ≤ 1000
  · have e : (decide (1 ≤ p.Unit) && decide (p.Unit ≤ 1000)) = true := by simpa using hu
    simp only [e, Bool.not_true, Bool.false_eq_true, if_false]
    by_cases ht : 200 < (p.Tools.length : Int)
    · rw [if_pos (decide_eq_true ht), if_pos (decide_eq_true ht)]
      exact ⟨2, rfl, rfl, fun h => by cases h⟩
    · rw [if_neg (by simpa using ht), if_neg (by simpa using ht)]
      have hN' := hN
      unfold Fu at hN'
      exact check_loop hN hL hu (by omega) p.Tools [] N rfl (fun t h => by cases h) (by omega)
  · have e : (decide (1 ≤ p.Unit) && decide (p.Unit ≤ 1000)) = false := by
      rw [Bool.eq_false_iff]; simpa using hu
    rw [e]
    exact ⟨1, rfl, rfl, fun h => by cases h⟩
end Go.Proofs.YtneghcpnehiffaaDoor
namespace Go.Proofs.YtneghcpnehiffaaDoor
mutual
/-- How often steps are done. -/
def cntS : TPlotStep → Int
  | ⟨_, _, _, _, nx, ny, l⟩ => 1 + tm nx * tm ny * cntL l
def cntL : List TPlotStep → Int
  | [] => 0
  | x :: l => cntS x + cntL l
end
theorem cntS_eq (x : TPlotStep) : cntS x = 1 + tm x.NX * tm x.NY * cntL x.Steps := by cases x; rw [cntS]
theorem cntL_nil : cntL [] = 0 := by rw [cntL]
theorem cntL_cons (x : TPlotStep) (l : List TPlotStep) : cntL (x :: l) = cntS x + cntL l := by rw [cntL]
theorem cntL_nonneg : ∀ (k : Nat) (l : List TPlotStep), szSteps l ≤ k → 0 ≤ cntL l
  | _, [], _ => by rw [cntL_nil]; omega
  | k, x :: l, hk => by
    rw [szSteps_cons, szStep_eq] at hk
    rw [cntL_cons, cntS_eq]
    cases k with
    | zero => omega
    | succ k =>
      have h1 := cntL_nonneg k x.Steps (by omega)
      have h2 := cntL_nonneg k l (by omega)
      have h3 := tm_mul x.NX x.NY
      have := Int.mul_nonneg (show 0 ≤ tm x.NX * tm x.NY by omega) h1
      omega
theorem cntL_pos (l : List TPlotStep) : 0 ≤ cntL l := cntL_nonneg _ l (Nat.le_refl _)
theorem cntS_pos (x : TPlotStep) : 1 ≤ cntS x := by
  have h1 := cntL_pos x.Steps
  have h3 := tm_mul x.NX x.NY
  have := Int.mul_nonneg (show 0 ≤ tm x.NX * tm x.NY by omega) h1
  rw [cntS_eq]; omega
theorem cntL_append (l m : List TPlotStep) : cntL (l ++ m) = cntL l + cntL m := by
  induction l with
  | nil => rw [List.nil_append, cntL_nil]; omega
  | cons x l ih => rw [List.cons_append, cntL_cons, cntL_cons, ih]; omega
theorem cntL_mem {x : TPlotStep} : ∀ {l : List TPlotStep}, x ∈ l → cntS x ≤ cntL l
  | y :: l, h => by
    have := cntL_pos l
    have := cntS_pos y
    rw [cntL_cons]
    rcases List.mem_cons.1 h with e | e
    · subst e; omega
    · have := cntL_mem e; omega
theorem cntL_steps (x : TPlotStep) : cntL x.Steps < cntS x := by
  have h1 := cntL_pos x.Steps
  have h3 := tm_mul x.NX x.NY
  have := Int.mul_le_mul_of_nonneg_right h3.1 h1
  rw [cntS_eq]; omega
theorem count3_loop {rec : List TPlotStep → Option Int} : ∀ (l : List TPlotStep) (i : Nat) (x : Int), 0 ≤ x → x ≤ 3000 → (∀ s ∈ l, rec s.Steps = some (min (cntL s.Steps) 3001)) → F_plot_count_L3 rec l i x = some (min (x + cntL l) 3001)
  | [], i, x, h0, h1, _ => by
    rw [F_plot_count_L3, cntL_nil]
    congr 1
    omega
  | s :: l, i, x, h0, h1, hc => by
    have c1 := hc s List.mem_cons_self
    have hn := cntL_pos s.Steps
    have hl := cntL_pos l
    have ht := tm_mul s.NX s.NY
    have key : F_plot_count_L3 rec (s :: l) i x = F_plot_count_J4 (F_plot_count_L3 rec l (i + 1)) (x + 1 + tm s.NX * tm s.NY * min (cntL s.Steps) 3001) := by
      have hpc : 0 ≤ tm s.NX * tm s.NY * min (cntL s.Steps) 3001 ∧ tm s.NX * tm s.NY * min (cntL s.Steps) 3001 ≤ 30010000 := by
        generalize tm s.NX * tm s.NY = t at *
        refine ⟨Int.mul_nonneg (by omega) (by omega), ?_⟩
        have := Int.mul_le_mul ht.2 (show min (cntL s.Steps) 3001 ≤ 3001 by omega) (by omega) (by omega); omega
      rw [F_plot_count_L3]
      by_cases he : s.Steps = []
      · rw [if_neg (by rw [he]; simp), he, cntL_nil, w64_id (by omega) (by omega), show min (0 : Int) 3001 = 0 from rfl, Int.mul_zero, Int.add_zero]
      · have : 0 < (s.Steps.length : Int) := by
          have := List.length_pos_iff.2 he; omega
        rw [if_pos (decide_eq_true this), times_ok, Option.bind_some, c1, Option.bind_some, w64_id (x := tm s.NX * tm s.NY * min (cntL s.Steps) 3001) (by omega) (by omega), w64_id (x := x + 1) (by omega) (by omega), w64_id (by omega) (by omega)]
    rw [key, cntL_cons, cntS_eq]
    unfold F_plot_count_J4
    by_cases hs : cntL s.Steps ≤ 3001
    · rw [Int.min_eq_left hs]
      have hp := Int.mul_nonneg (show 0 ≤ tm s.NX * tm s.NY by omega) hn
      generalize tm s.NX * tm s.NY * cntL s.Steps = v at *
      by_cases hb : 3000 < x + 1 + v
      · rw [if_pos (decide_eq_true hb)]; congr 1; omega
      · rw [if_neg (by simpa using hb), count3_loop l (i + 1) _ (by omega) (by omega) (fun y hy => hc y (List.mem_cons_of_mem _ hy))]
        congr 2; omega
    · rw [Int.min_eq_right (by omega)]
      have h1 := Int.mul_le_mul_of_nonneg_right ht.1 (show (0 : Int) ≤ 3001 by omega)
      have h2 := Int.mul_le_mul_of_nonneg_right ht.1 hn
      generalize tm s.NX * tm s.NY * 3001 = u at *
      generalize tm s.NX * tm s.NY * cntL s.Steps = v at *
      rw [if_pos (decide_eq_true (by omega))]; congr 1; omega
theorem count3_ok : ∀ (k : Nat) (l : List TPlotStep) (N : Nat), szSteps l ≤ k → k + 5 ≤ N → F_plot_count N l = some (min (cntL l) 3001)
  | k, l, N, hk, hN => by
    obtain ⟨N, rfl⟩ : ∃ n, N = n + 1 := ⟨N - 1, by omega⟩
    have := count3_loop (rec := F_plot_count N) l 0 0 (by omega) (by omega) (fun s hs => by
      have h1 := szSteps_mem hs
      have h2 := szStep_eq s
      cases k with
      | zero => omega
      | succ k => exact count3_ok k s.Steps N (by omega) (by omega))
    rw [Int.zero_add] at this
    exact this
/-! Steps without error. -/
mutual
def VldS (p : TPlot) : Int → TPlotStep → Prop
  | d, ⟨k, n, a, ps, nx, ny, l⟩ => stepE p ⟨k, n, a, ps, nx, ny, l⟩ d = 0 ∧ VldL p (d + 1) l
def VldL (p : TPlot) : Int → List TPlotStep → Prop
  | _, [] => True
  | d, x :: l => VldS p d x ∧ VldL p d l
end
theorem VldS_eq (p : TPlot) (d : Int) (x : TPlotStep) : VldS p d x ↔ stepE p x d = 0 ∧ VldL p (d + 1) x.Steps := by cases x; rw [VldS]
theorem VldL_nil (p : TPlot) (d : Int) : VldL p d [] := by rw [VldL]; trivial
theorem VldL_cons (p : TPlot) (d : Int) (x : TPlotStep) (l : List TPlotStep) : VldL p d (x :: l) ↔ VldS p d x ∧ VldL p d l := by rw [VldL]
theorem VldL_iff (p : TPlot) (d : Int) (l : List TPlotStep) : VldL p d l ↔ ∀ x ∈ l, VldS p d x := by
  induction l with
  | nil => exact ⟨fun _ _ h => (by cases h), fun _ => VldL_nil p d⟩
  | cons x l ih => rw [VldL_cons, ih, List.forall_mem_cons]
/-- What a step without error is like. -/
structure StepOk (p : TPlot) (s : TPlotStep) (d : Int) : Prop where
  kind : 1 ≤ s.Kind ∧ s.Kind ≤ 8
  name : s.Kind ≠ 3 → s.Name = ByteArray.empty
  at_ : s.Kind ≠ 4 → s.Kind ≠ 5 → s.Kind ≠ 6 → s.Kind ≠ 8 → s.At = ⟨0, 0⟩
  points : s.Kind ≠ 7 → s.Points = []
  rep : s.Kind ≠ 8 → s.NX = 0 ∧ s.NY = 0 ∧ s.Steps = []
  tool : s.Kind = 3 → 0 ≤ toolN s.Name p.Tools
  place : fitPt s.At p.Unit = true
  area : s.Kind = 7 → s.Points.all (fun q => fitPt q p.Unit) = true ∧ 4 ≤ s.Points.length ∧ s.Points.length ≤ 2000 ∧ rowL s.Points s.Points 0 = true
  times : s.Kind = 8 → (1 ≤ s.NX ∧ s.NX ≤ 100) ∧ (1 ≤ s.NY ∧ s.NY ≤ 100) ∧ s.Steps ≠ [] ∧ d < 5
theorem fieldsB_iff (s : TPlotStep) : fieldsB s = true ↔ (s.Kind ≠ 3 → s.Name = ByteArray.empty) ∧ (s.Kind ≠ 4 → s.Kind ≠ 5 → s.Kind ≠ 6 → s.Kind ≠ 8 → s.At = ⟨0, 0⟩) ∧ (s.Kind ≠ 7 → s.Points = []) ∧ (s.Kind ≠ 8 → s.NX = 0 ∧ s.NY = 0 ∧ s.Steps = []) := by
  unfold fieldsB
  have e1 : ((s.Points.length : Int) == 0) = true ↔ s.Points = [] := by rw [beq_iff_eq]; exact ⟨fun h => List.eq_nil_of_length_eq_zero (by omega), fun h => by rw [h]; rfl⟩
  have e2 : ((s.Steps.length : Int) == 0) = true ↔ s.Steps = [] := by rw [beq_iff_eq]; exact ⟨fun h => List.eq_nil_of_length_eq_zero (by omega), fun h => by rw [h]; rfl⟩
  simp only [Bool.and_eq_true, Bool.or_eq_true, e1, e2, sEq_iff, eqTPoint_iff, beq_iff_eq]
  constructor
  · rintro ⟨⟨⟨a, b⟩, c⟩, d⟩
    refine ⟨fun h => a.resolve_left h, fun h4 h5 h6 h8 => b.resolve_left (by rintro (((h | h) | h) | h) <;> contradiction), fun h => c.resolve_left h, fun h => ?_⟩
    have := d.resolve_left h
    exact ⟨this.1.1, this.1.2, this.2⟩
  · rintro ⟨a, b, c, d⟩
    refine ⟨⟨⟨Classical.or_iff_not_imp_left.2 a, Classical.or_iff_not_imp_left.2 fun h => b (fun e => h (.inl (.inl (.inl e)))) (fun e => h (.inl (.inl (.inr e)))) (fun e => h (.inl (.inr e))) (fun e => h (.inr e))⟩, Classical.or_iff_not_imp_left.2 c⟩, Classical.or_iff_not_imp_left.2 fun h => ⟨⟨(d h).1, (d h).2.1⟩, (d h).2.2⟩⟩
theorem stepE_iff {p : TPlot} {s : TPlotStep} {d : Int} : stepE p s d = 0 ↔ StepOk p s d := by
  unfold stepE
  by_cases hk : 1 ≤ s.Kind ∧ s.Kind ≤ 8
  · rw [if_neg (by simpa using hk)]
    cases hf : fieldsB s
    · rw [if_pos (by rfl)]
      refine ⟨fun h => (by cases h), fun h => ?_⟩
      have := (fieldsB_iff s).2 ⟨h.name, h.at_, h.points, h.rep⟩
      rw [hf] at this; cases this
    · obtain ⟨f1, f2, f3, f4⟩ := (fieldsB_iff s).1 hf
      rw [if_neg (by simp)]
      by_cases h3 : s.Kind = 3 ∧ toolN s.Name p.Tools < 0
      · rw [if_pos (by simpa using h3)]
        exact ⟨fun h => (by cases h), fun h => by have := h.tool h3.1; omega⟩
      · rw [if_neg (by simpa using h3)]
        cases hp : fitPt s.At p.Unit
        · rw [if_pos (by rfl)]
          exact ⟨fun h => (by cases h), fun h => by have := h.place; rw [hp] at this; cases this⟩
        · rw [if_neg (by simp)]
          have ht : s.Kind = 3 → 0 ≤ toolN s.Name p.Tools := fun h => by
            by_cases h' : toolN s.Name p.Tools < 0
            · exact absurd ⟨h, h'⟩ h3
            · omega
          by_cases h7 : s.Kind = 7
          · rw [if_pos (by simpa using h7)]
            have hall : (s.Points.any (fun q => !fitPt q p.Unit)) = !s.Points.all (fun q => fitPt q p.Unit) := by
              rw [List.all_eq_not_any_not, Bool.not_not]
            rw [hall]
            cases ha : s.Points.all (fun q => fitPt q p.Unit)
            · rw [if_pos (by rfl)]
              exact ⟨fun h => (by cases h), fun h => by have := (h.area h7).1; rw [ha] at this; cases this⟩
            · rw [if_neg (by simp)]
              unfold areaT
              by_cases h1 : 2000 < (s.Points.length : Int)
              · rw [if_pos h1]; exact ⟨fun h => (by cases h), fun h => by have := (h.area h7).2.2.1; omega⟩
              · rw [if_neg h1]
                by_cases h2 : (s.Points.length : Int) < 4
                · rw [if_pos h2]; exact ⟨fun h => (by cases h), fun h => by have := (h.area h7).2.1; omega⟩
                · rw [if_neg h2]
                  cases hr : rowL s.Points s.Points 0
                  · simp only [Bool.false_eq_true, if_false]
                    exact ⟨fun h => (by cases h), fun h => by have := (h.area h7).2.2.2; rw [hr] at this; cases this⟩
                  · simp only [if_true]
                    exact ⟨fun _ => ⟨hk, f1, f2, f3, f4, ht, hp, fun _ => ⟨ha, by omega, by omega, hr⟩, fun h8 => by omega⟩, fun _ => trivial⟩
          · rw [if_neg (by simpa using h7)]
            by_cases h8 : s.Kind = 8
            · rw [if_pos (by simpa using h8)]
              unfold repE
              by_cases hx : (1 ≤ s.NX ∧ s.NX ≤ 100) ∧ (1 ≤ s.NY ∧ s.NY ≤ 100)
              · rw [if_neg (by simp; omega)]
                by_cases h0 : (s.Steps.length : Int) = 0
                · rw [if_pos h0]
                  exact ⟨fun h => (by cases h), fun h => absurd (List.eq_nil_of_length_eq_zero (by omega)) (h.times h8).2.2.1⟩
                · rw [if_neg h0]
                  by_cases h5 : 5 ≤ d
                  · rw [if_pos h5]; exact ⟨fun h => (by cases h), fun h => by have := (h.times h8).2.2.2; omega⟩
                  · rw [if_neg h5]
                    exact ⟨fun _ => ⟨hk, f1, f2, f3, f4, ht, hp, fun h => absurd h h7, fun _ => ⟨hx.1, hx.2, fun e => h0 (by rw [e]; rfl), by omega⟩⟩, fun _ => rfl⟩
              · rw [if_pos (by simp; omega)]
                exact ⟨fun h => (by cases h), fun h => absurd ⟨(h.times h8).1, (h.times h8).2.1⟩ hx⟩
            · rw [if_neg (by simpa using h8)]
              exact ⟨fun _ => ⟨hk, f1, f2, f3, f4, ht, hp, fun h => absurd h h7, fun h => absurd h h8⟩, fun _ => rfl⟩
  · rw [if_pos (by simp; omega)]
    exact ⟨fun h => (by cases h), fun h => absurd h.kind hk⟩
theorem vld_loop {p : TPlot} {d : Int} (hu : 1 ≤ p.Unit ∧ p.Unit ≤ 1000) {rec : TPlot → List TPlotStep → Int → Option Int} : ∀ (l : List TPlotStep) (i : Nat), (∀ s ∈ l, s.Points.length ≤ 9223372036854775807) → (∀ s ∈ l, StepOk p s d → ∃ e, rec p s.Steps (w64 (d + 1)) = some e ∧ (e = 0 ↔ VldL p (d + 1) s.Steps)) →
    ∃ e, F_plot_checkSteps_L1 p d rec l i = some e ∧ (e = 0 ↔ VldL p d l)
  | [], i, _, _ => ⟨0, rfl, fun _ => VldL_nil p d, fun _ => rfl⟩
  | s :: l, i, hp, hr => by
    rw [F_plot_checkSteps_L1, checkStep_ok hu (hp s List.mem_cons_self), Option.bind_some]
    by_cases h0 : stepE p s d = 0
    · rw [if_neg (by simp [h0])]
      obtain ⟨e, e1, e2⟩ := hr s List.mem_cons_self (stepE_iff.1 h0)
      rw [e1, Option.bind_some]
      by_cases h1 : e = 0
      · rw [if_neg (by simp [h1])]
        obtain ⟨f, f1, f2⟩ := vld_loop hu l (i + 1) (fun x hx => hp x (List.mem_cons_of_mem _ hx)) (fun x hx => hr x (List.mem_cons_of_mem _ hx))
        exact ⟨f, f1, f2.trans (by rw [VldL_cons, VldS_eq]; exact ⟨fun h => ⟨⟨h0, e2.1 h1⟩, h⟩, fun h => h.2⟩)⟩
      · rw [if_pos (by simpa using h1)]
        exact ⟨e, rfl, fun h => absurd h h1, fun h => absurd (e2.2 ((VldS_eq _ _ _).1 ((VldL_cons _ _ _ _).1 h).1).2) h1⟩
    · rw [if_pos (by simpa using h0)]
      exact ⟨_, rfl, fun h => absurd h h0, fun h => absurd ((VldS_eq _ _ _).1 ((VldL_cons _ _ _ _).1 h).1).1 h0⟩
theorem vld_ok {p : TPlot} (hu : 1 ≤ p.Unit ∧ p.Unit ≤ 1000) : ∀ (k : Nat) (l : List TPlotStep) (N : Nat) (d : Int), szSteps l ≤ k → k + 5 ≤ N → lenL l → 0 ≤ d → d ≤ 5 → ∃ e, F_plot_checkSteps N p l d = some e ∧ (e = 0 ↔ VldL p d l)
  | k, l, N, d, hk, hN, hA, h0, h1 => by
    obtain ⟨N, rfl⟩ : ∃ n, N = n + 1 := ⟨N - 1, by omega⟩
    refine vld_loop hu l 0 (fun s hs => ((lenS_eq s).1 (lenL_mem hA hs)).2.2.1.1) fun s hs ho => ?_
    have a1 := szSteps_mem hs
    have a2 := szStep_eq s
    have a3 := (lenS_eq s).1 (lenL_mem hA hs)
    by_cases h8 : s.Kind = 8
    · have := (ho.times h8).2.2.2
      rw [w64_id (by omega) (by omega)]
      cases k with
      | zero => omega
      | succ k => exact vld_ok hu k s.Steps N (d + 1) (by omega) (by omega) a3.2.2.2.2.2 (by omega) (by omega)
    · obtain ⟨N, rfl⟩ : ∃ n, N = n + 1 := ⟨N - 1, by omega⟩
      rw [(ho.rep h8).2.2]
      exact ⟨0, rfl, fun _ => VldL_nil _ _, fun _ => rfl⟩
/-! Plots without error. -/
def ordT : List TPlotTool → Prop
  | a :: b :: l => (sLt b.Name a.Name || sEq b.Name a.Name) = false ∧ ordT (b :: l)
  | _ => True
structure PlotOk (N : Nat) (p : TPlot) : Prop where
  unit : 1 ≤ p.Unit ∧ p.Unit ≤ 1000
  few : p.Tools.length ≤ 200
  tools : ∀ t ∈ p.Tools, F_plot_IsName N t.Name = some true ∧ toolE t p.Unit = 0
  ord : ordT p.Tools
  cnt : cntL p.Steps ≤ 3000
  steps : VldL p 0 p.Steps
theorem ordT_snoc (a : List TPlotTool) (x y : TPlotTool) : ordT (a ++ [x] ++ [y]) ↔ ordT (a ++ [x]) ∧ (sLt y.Name x.Name || sEq y.Name x.Name) = false := by
  induction a with
  | nil => simp [ordT]
  | cons z a ih =>
    cases a with
    | nil => simp [ordT]
    | cons w a =>
      simp only [List.cons_append, ordT] at ih ⊢
      rw [ih, and_assoc]
theorem plot_loop {N : Nat} {p : TPlot} (hN : Fu p N) (hL : LenP p) (hu : 1 ≤ p.Unit ∧ p.Unit ≤ 1000) : ∀ (suf pre : List TPlotTool), p.Tools = pre ++ suf → p.Tools.length ≤ 200 → 
    ∃ e, F_plot_CheckPlot_L1 N p suf pre.length = some e ∧ ((∀ t ∈ pre, F_plot_IsName N t.Name = some true ∧ toolE t p.Unit = 0) → ordT pre → (e = 0 ↔ PlotOk N p))
  | [], pre, he, hl => by
    have hN' := hN
    unfold Fu at hN'
    obtain ⟨e, e1, e2⟩ := vld_ok hu (szSteps p.Steps) p.Steps N 0 (Nat.le_refl _) (by omega) hL.steps (by omega) (by omega)
    rw [F_plot_CheckPlot_L1, count3_ok (szSteps p.Steps) p.Steps N (Nat.le_refl _) (by omega), Option.bind_some]
    by_cases hc : 3000 < min (cntL p.Steps) 3001
    · rw [if_pos (decide_eq_true hc)]
      exact ⟨2, rfl, fun _ _ => ⟨fun h => (by cases h), fun h => by have := h.cnt; omega⟩⟩
    · rw [if_neg (by simpa using hc), e1]
      refine ⟨e, rfl, fun h ho => ⟨fun h0 => ⟨hu, hl, ?_, ?_, by omega, e2.1 h0⟩, fun h => e2.2 h.steps⟩⟩
      · rw [he, List.append_nil]; exact h
      · rw [he, List.append_nil]; exact ho
  | t :: l, pre, he, hl => by
    have hlen : p.Tools.length = pre.length + (l.length + 1) := by rw [he]; simp
    have hmem : t ∈ p.Tools := by rw [he]; simp
    have hsz := szTools_mem hmem
    have hN' := hN
    unfold Fu at hN'
    obtain ⟨b, b1, _⟩ := IsName_ok (N := N) (hL.tools t hmem).1 (by omega)
    rw [F_plot_CheckPlot_L1, checkTool_ok hu b1, Option.bind_some]
    cases b
    · exact ⟨5, rfl, fun _ _ => ⟨fun h => (by cases h), fun h => by have := (h.tools t hmem).1; rw [b1] at this; cases this⟩⟩
    simp only [if_true]
    by_cases h0 : toolE t p.Unit = 0
    · have hz0 : (toolE t p.Unit != 0) = false := by simp [h0]
      simp only [hz0, Bool.false_eq_true, if_false]
      obtain ⟨e, e1, e2⟩ := plot_loop hN hL hu l (pre ++ [t]) (by rw [he]; simp) hl
      rw [show (pre ++ [t]).length = pre.length + 1 by simp] at e1
      have hall : (∀ x ∈ pre, F_plot_IsName N x.Name = some true ∧ toolE x p.Unit = 0) → ∀ x ∈ pre ++ [t], F_plot_IsName N x.Name = some true ∧ toolE x p.Unit = 0 := fun h x hx => by
        rcases List.mem_append.1 hx with hx | hx
        · exact h x hx
        · simp at hx; subst hx; exact ⟨b1, h0⟩
      rcases List.eq_nil_or_concat pre with hz | ⟨pre0, u, hz⟩
      · subst hz
        rw [if_neg (by simp), Option.bind_some, if_neg (by simp), e1]
        exact ⟨e, rfl, fun h _ => e2 (hall h) trivial⟩
      · rw [List.concat_eq_append] at hz
        subst hz
        have hpl : ((pre0 ++ [u]).length : Int) - 1 = (pre0.length : Int) := by simp
        rw [if_pos (by simp), hpl, w64_id (by omega) (by simp at hlen; omega), show idx p.Tools (pre0.length : Int) = some u by rw [he, List.append_assoc]; exact idx_mid _ _ _, Option.bind_some, Option.bind_some]
        cases ho : (sLt t.Name u.Name || sEq t.Name u.Name)
        · rw [if_neg (by simp), e1]
          exact ⟨e, rfl, fun h h' => e2 (hall h) ((ordT_snoc _ _ _).2 ⟨h', ho⟩)⟩
        · rw [if_pos rfl]
          refine ⟨8, rfl, fun _ _ => ⟨fun h => (by cases h), fun h => ?_⟩⟩
          have := h.ord
          rw [he] at this
          have key : ∀ (a : List TPlotTool), ordT (a ++ u :: t :: l) → (sLt t.Name u.Name || sEq t.Name u.Name) = false := fun a => by
            induction a with
            | nil => exact fun h => h.1
            | cons z a ih =>
              cases a with
              | nil => exact fun h => h.2.1
              | cons w a => exact fun h => ih h.2
          rw [List.append_assoc] at this
          have := key pre0 this
          rw [ho] at this; cases this
    · have hz0 : (toolE t p.Unit != 0) = true := by simpa using h0
      simp only [hz0, if_true]
      exact ⟨_, rfl, fun _ _ => ⟨fun h => absurd h h0, fun h => absurd (h.tools t hmem).2 h0⟩⟩
theorem PlotOk_iff {N : Nat} {p : TPlot} (hN : Fu p N) (hL : LenP p) : F_plot_CheckPlot N p = some 0 ↔ PlotOk N p := by
  have hw : F_plot_within p.Unit 1 1000 = some (decide (1 ≤ p.Unit) && decide (p.Unit ≤ 1000)) := rfl
  unfold F_plot_CheckPlot
  rw [hw, Option.bind_some]
  by_cases hu : 1 ≤ p.Unit ∧ p.Unit ≤ 1000
  · rw [if_neg (by simpa using hu)]
    by_cases ht : 200 < (p.Tools.length : Int)
    · rw [if_pos (decide_eq_true ht)]
      exact ⟨fun h => (by cases h), fun h => by have := h.few; omega⟩
    · rw [if_neg (by simpa using ht)]
      obtain ⟨e, e1, e2⟩ := plot_loop hN hL hu p.Tools [] rfl (by omega)
      have := e2 (fun _ h => by cases h) trivial
      rw [show ([] : List TPlotTool).length = 0 from rfl] at e1
      rw [e1]
      exact ⟨fun h => this.1 (Option.some.inj h), fun h => congrArg some (this.2 h)⟩
  · rw [if_pos (by simp; omega)]
    exact ⟨fun h => (by cases h), fun h => absurd h.unit hu⟩
end Go.Proofs.YtneghcpnehiffaaDoor
namespace Go.Proofs.YtneghcpnehiffaaDoor
def mvP (b q : TPoint) : TPoint := ⟨w64 (q.X + b.X), w64 (q.Y + b.Y)⟩
def plc (k : Int) : Bool := k == 4 || k == 5 || k == 6
def mvSt (b : TPoint) (x : TPlotStep) : TPlotStep := ⟨x.Kind, x.Name, if plc x.Kind then mvP b x.At else x.At, x.Points.map (mvP b), x.NX, x.NY, x.Steps⟩
def byIJ (b a : TPoint) (j i : Nat) : TPoint := ⟨w64 (b.X + w64 ((i : Int) * a.X)), w64 (b.Y + w64 ((j : Int) * a.Y))⟩
mutual
/-- A step written out, moved. -/
def flT : TPlotStep → TPoint → List TPlotStep
  | ⟨k, n, a, ps, nx, ny, l⟩, b => if k = 8 then (List.range' 0 ny.toNat).flatMap fun j => (List.range' 0 nx.toNat).flatMap fun i => flL l (byIJ b a j i) else [mvSt b ⟨k, n, a, ps, nx, ny, l⟩]
def flL : List TPlotStep → TPoint → List TPlotStep
  | [], _ => []
  | x :: l, b => flT x b ++ flL l b
end
theorem flT_eq (x : TPlotStep) (b : TPoint) : flT x b = if x.Kind = 8 then (List.range' 0 x.NY.toNat).flatMap fun j => (List.range' 0 x.NX.toNat).flatMap fun i => flL x.Steps (byIJ b x.At j i) else [mvSt b x] := by cases x; rw [flT]
theorem flL_nil (b : TPoint) : flL [] b = [] := by rw [flL]
theorem flL_cons (x : TPlotStep) (l : List TPlotStep) (b : TPoint) : flL (x :: l) b = flT x b ++ flL l b := by rw [flL]
theorem flatMap_len {α β : Type} {f : α → List β} {c : Nat} : ∀ {l : List α}, (∀ x ∈ l, (f x).length ≤ c) → (l.flatMap f).length ≤ l.length * c
  | [], _ => by simp
  | x :: l, h => by
    have h1 := h x List.mem_cons_self
    have h2 := flatMap_len (f := f) (c := c) (l := l) (fun y hy => h y (List.mem_cons_of_mem _ hy))
    rw [List.flatMap_cons, List.length_append, List.length_cons, Nat.succ_mul]; omega
theorem flL_len {p : TPlot} : ∀ (k : Nat) (l : List TPlotStep) (d : Int) (b : TPoint), szSteps l ≤ k → VldL p d l → ((flL l b).length : Int) ≤ cntL l
  | _, [], _, _, _, _ => by rw [flL_nil, cntL_nil]; simp
  | k, x :: l, d, b, hk, hv => by
    rw [szSteps_cons, szStep_eq] at hk
    obtain ⟨hx, hl⟩ := (VldL_cons _ _ _ _).1 hv
    obtain ⟨h0, hs⟩ := (VldS_eq _ _ _).1 hx
    have ho := stepE_iff.1 h0
    cases k with
    | zero => omega
    | succ k =>
      have ih := flL_len k l d b (by omega) hl
      rw [flL_cons, cntL_cons, List.length_append, cntS_eq, flT_eq]
      have hp := cntL_pos x.Steps
      have ht := tm_mul x.NX x.NY
      by_cases h8 : x.Kind = 8
      · rw [if_pos h8]
        obtain ⟨t1, t2, _, _⟩ := ho.times h8
        have e1 : tm x.NX = x.NX := if_pos t1
        have e2 : tm x.NY = x.NY := if_pos t2
        obtain ⟨c, hc⟩ : ∃ c : Nat, cntL x.Steps = (c : Int) := ⟨(cntL x.Steps).toNat, by omega⟩
        have hin : ∀ j ∈ List.range' 0 x.NY.toNat, ((List.range' 0 x.NX.toNat).flatMap fun i => flL x.Steps (byIJ b x.At j i)).length ≤ x.NX.toNat * c := fun j _ => by
          have := flatMap_len (l := List.range' 0 x.NX.toNat) (f := fun i => flL x.Steps (byIJ b x.At j i)) (c := c) (fun i _ => by
            have := flL_len k x.Steps (d + 1) (byIJ b x.At j i) (by omega) hs
            omega)
          rwa [List.length_range'] at this
        have := flatMap_len hin
        rw [List.length_range'] at this
        rw [e1, e2, hc]
        have e3 : ((x.NY.toNat * (x.NX.toNat * c) : Nat) : Int) = x.NX * x.NY * (c : Int) := by
          push_cast
          rw [Int.toNat_of_nonneg (by omega), Int.toNat_of_nonneg (by omega), ← Int.mul_assoc, Int.mul_comm x.NY x.NX]
        omega
      · rw [if_neg h8]
        have := Int.mul_nonneg (show 0 ≤ tm x.NX * tm x.NY by omega) hp
        simp only [List.length_singleton]
        omega
theorem sets_mid {α : Type} (pre suf : List α) (x y : α) : sets (pre ++ x :: suf) (pre.length : Int) y = some (pre ++ y :: suf) := by
  unfold sets
  rw [if_pos (by simp)]
  simp
theorem set_mid {α : Type} (pre suf : List α) (x y : α) : (pre ++ x :: suf).set ((pre.length : Int).toNat) y = pre ++ y :: suf := by simp
theorem apdC {α : Type} {l : List α} (h : l.length ≤ 4294967296) : apd ([] : List α) l = some l := by
  rw [apd_ok (by simpa using h)]; rfl
/-! The program. -/
theorem fpts_loop {b : TPoint} {acc : List TPlotStep} {k : List TPlotStep → Option (List TPlotStep)} {x : TPlotStep} {ax ay : Int} {y : List TPoint} : ∀ (suf pre : List TPoint) (m : Nat), y.length = (pre ++ suf).length → y.length ≤ 2000 → suf.length < m →
    F_plot_flat_L26 b acc k x ax ay y m (pre ++ suf) (pre.length : Int) = (apd acc [⟨x.Kind, x.Name, ⟨ax, ay⟩, pre ++ suf.map (mvP b), x.NX, x.NY, x.Steps⟩]).bind k
  | [], pre, m, he, hl, hm => by
    obtain ⟨m, rfl⟩ : ∃ k, m = k + 1 := ⟨m - 1, by omega⟩
    rw [F_plot_flat_L26, if_neg (by rw [he]; simp)]
    simp
  | q :: l, pre, m, he, hl, hm => by
    obtain ⟨m, rfl⟩ : ∃ k, m = k + 1 := ⟨m - 1, by simp at hm; omega⟩
    simp at hm
    have he' := he
    simp at he'
    rw [F_plot_flat_L26, if_pos (by simp; omega), idx_mid, Option.bind_some, Option.bind_some, sets_mid, Option.bind_some, idx_mid, Option.bind_some, Option.bind_some, sets_mid, Option.bind_some, up_mid2 _ q (by omega)]
    have := fpts_loop (b := b) (acc := acc) (k := k) (x := x) (ax := ax) (ay := ay) (y := y) l (pre ++ [mvP b q]) m (by rw [he]; simp) hl (by omega)
    rw [show (pre ++ [mvP b q]).length = (pre ++ [q]).length by simp] at this
    rw [show pre ++ (⟨w64 (q.X + b.X), w64 (q.Y + b.Y)⟩ : TPoint) :: l = (pre ++ [mvP b q]) ++ l by simp [mvP], this]
    simp
theorem fone_ok {N : Nat} (hN : 3000 ≤ N) {b : TPoint} {acc : List TPlotStep} {k : List TPlotStep → Option (List TPlotStep)} {x : TPlotStep} {ax ay : Int} (hp : x.Points.length ≤ 2000) (ha : acc.length ≤ 4000000000) : F_plot_flat_J27 N b acc k x ax ay = k (acc ++ [⟨x.Kind, x.Name, ⟨ax, ay⟩, x.Points.map (mvP b), x.NX, x.NY, x.Steps⟩]) := by
  unfold F_plot_flat_J27
  have hcl : F_slices_Clone_Point x.Points = some x.Points := by
    unfold F_slices_Clone_Point
    rw [apdC (by omega)]; rfl
  rw [hcl, Option.bind_some]
  have := fpts_loop (b := b) (acc := acc) (k := k) (x := x) (ax := ax) (ay := ay) (y := x.Points) x.Points [] N rfl hp (by omega)
  simp only [List.nil_append, List.length_nil] at this
  rw [show ((0 : Nat) : Int) = 0 from rfl] at this
  rw [this, apd_ok (by simp; omega), Option.bind_some]
theorem fin_loop {b : TPoint} {rec : List TPlotStep → TPoint → Option (List TPlotStep)} {x : TPlotStep} {j : Nat} {k : List TPlotStep → Int → Option (List TPlotStep)} {c : Nat} (hr : ∀ b', rec x.Steps b' = some (flL x.Steps b') ∧ (flL x.Steps b').length ≤ c) (hnx : x.NX ≤ 100) : ∀ (n i m : Nat) (acc : List TPlotStep), ((i + n : Nat) : Int) = x.NX → acc.length + n * c ≤ 4000000000 → n < m →
    F_plot_flat_L31 b rec x (j : Int) k m acc (i : Int) = k (acc ++ (List.range' i n).flatMap fun i => flL x.Steps (byIJ b x.At j i)) (w64 ((j : Int) + 1))
  | 0, i, m, acc, he, ha, hm => by
    obtain ⟨m, rfl⟩ : ∃ k, m = k + 1 := ⟨m - 1, by omega⟩
    rw [F_plot_flat_L31, if_neg (by simp; omega)]
    simp
  | n + 1, i, m, acc, he, ha, hm => by
    obtain ⟨m, rfl⟩ : ∃ k, m = k + 1 := ⟨m - 1, by omega⟩
    obtain ⟨r1, r2⟩ := hr (byIJ b x.At j i)
    rw [Nat.succ_mul] at ha
    rw [F_plot_flat_L31, if_pos (by simp; omega), show rec x.Steps ⟨w64 (b.X + w64 ((i : Int) * x.At.X)), w64 (b.Y + w64 ((j : Int) * x.At.Y))⟩ = some (flL x.Steps (byIJ b x.At j i)) from r1, Option.bind_some, apd_ok (by omega), Option.bind_some, w64_id (by omega) (by omega),
      show (i : Int) + 1 = ((i + 1 : Nat) : Int) by omega, fin_loop hr hnx n (i + 1) m _ (by omega) (by rw [List.length_append]; omega) (by omega)]
    rw [List.range'_succ, List.flatMap_cons, List.append_assoc]
theorem fout_loop {N : Nat} (hN : 3000 ≤ N) {b : TPoint} {rec : List TPlotStep → TPoint → Option (List TPlotStep)} {x : TPlotStep} {k : List TPlotStep → Option (List TPlotStep)} {c : Nat} (hr : ∀ b', rec x.Steps b' = some (flL x.Steps b') ∧ (flL x.Steps b').length ≤ c) (hnx : 1 ≤ x.NX ∧ x.NX ≤ 100) (hny : x.NY ≤ 100) : ∀ (n j m : Nat) (acc : List TPlotStep), ((j + n : Nat) : Int) = x.NY → acc.length + n * (x.NX.toNat * c) ≤ 4000000000 → n < m →
    F_plot_flat_L30 N b rec k x m acc (j : Int) = k (acc ++ (List.range' j n).flatMap fun j => (List.range' 0 x.NX.toNat).flatMap fun i => flL x.Steps (byIJ b x.At j i))
  | 0, j, m, acc, he, ha, hm => by
    obtain ⟨m, rfl⟩ : ∃ k, m = k + 1 := ⟨m - 1, by omega⟩
    rw [F_plot_flat_L30, if_neg (by simp; omega)]
    simp
  | n + 1, j, m, acc, he, ha, hm => by
    obtain ⟨m, rfl⟩ : ∃ k, m = k + 1 := ⟨m - 1, by omega⟩
    rw [Nat.succ_mul] at ha
    have hin := flatMap_len (l := List.range' 0 x.NX.toNat) (f := fun i => flL x.Steps (byIJ b x.At j i)) (c := c) (fun i _ => (hr _).2)
    rw [List.length_range'] at hin
    have h1 := fin_loop (b := b) (j := j) (k := F_plot_flat_L30 N b rec k x m) hr hnx.2 x.NX.toNat 0 N acc (by omega) (by omega) (by omega)
    rw [show ((0 : Nat) : Int) = 0 from rfl] at h1
    rw [F_plot_flat_L30, if_pos (by simp; omega), h1, w64_id (by omega) (by omega), show (j : Int) + 1 = ((j + 1 : Nat) : Int) by omega,
      fout_loop hN hr hnx hny n (j + 1) m _ (by omega) (by rw [List.length_append]; omega) (by omega)]
    rw [List.range'_succ, List.flatMap_cons, List.append_assoc]
/-- What a step's inner steps are written out to. -/
def FlAs (rec : List TPlotStep → TPoint → Option (List TPlotStep)) (l : List TPlotStep) : Prop := ∀ b, rec l b = some (flL l b)
theorem fl_loop {N : Nat} (hN : 3000 ≤ N) {p : TPlot} {d : Int} {b : TPoint} {rec : List TPlotStep → TPoint → Option (List TPlotStep)} : ∀ (l : List TPlotStep) (i : Nat) (acc : List TPlotStep), VldL p d l → (∀ x ∈ l, x.Kind = 8 → FlAs rec x.Steps) → cntL l ≤ 3000 → acc.length + 3000 ≤ 1000000 + (3000 - cntL l).toNat →
    F_plot_flat_L21 N b rec l i acc = some (acc ++ flL l b)
  | [], i, acc, _, _, _, _ => by rw [F_plot_flat_L21, flL_nil, List.append_nil]
  | x :: l, i, acc, hv, hr, hc, ha => by
    obtain ⟨hx, hl⟩ := (VldL_cons _ _ _ _).1 hv
    obtain ⟨h0, hs⟩ := (VldS_eq _ _ _).1 hx
    have ho := stepE_iff.1 h0
    rw [cntL_cons] at hc ha
    have hcl := cntL_pos l
    have hcx := cntS_pos x
    have hlen : ((flT x b).length : Int) ≤ cntS x := by
      have h1 : VldL p d [x] := (VldL_cons _ _ _ _).2 ⟨hx, VldL_nil _ _⟩
      have := flL_len _ [x] d b (Nat.le_refl _) h1
      rw [flL_cons, flL_nil, List.append_nil, cntL_cons, cntL_nil] at this
      omega
    have ih := fl_loop hN (b := b) (rec := rec) l (i + 1) (acc ++ flT x b) hl (fun y hy => hr y (List.mem_cons_of_mem _ hy)) (by omega) (by rw [List.length_append]; omega)
    rw [flL_cons, ← List.append_assoc, ← ih]
    have hf := flT_eq x b
    by_cases h8 : x.Kind = 8
    · rw [if_pos h8] at hf
      obtain ⟨t1, t2, _, _⟩ := ho.times h8
      have e1 : tm x.NX = x.NX := if_pos t1
      have e2 : tm x.NY = x.NY := if_pos t2
      have hp := cntL_pos x.Steps
      have hcs := cntS_eq x
      rw [e1, e2] at hcs
      have hle : x.NX * x.NY * cntL x.Steps ≤ 3000 := by omega
      obtain ⟨c, hcc⟩ : ∃ c : Nat, cntL x.Steps = (c : Int) := ⟨(cntL x.Steps).toNat, by omega⟩
      have hR : ∀ b', rec x.Steps b' = some (flL x.Steps b') ∧ (flL x.Steps b').length ≤ c := fun b' => ⟨hr x List.mem_cons_self h8 b', by
        have := flL_len _ x.Steps (d + 1) b' (Nat.le_refl _) hs
        omega⟩
      have e3 : ((x.NY.toNat * (x.NX.toNat * c) : Nat) : Int) = x.NX * x.NY * (c : Int) := by
        push_cast
        rw [Int.toNat_of_nonneg (by omega), Int.toNat_of_nonneg (by omega), ← Int.mul_assoc, Int.mul_comm x.NY x.NX]
      have h1 := fout_loop hN (b := b) (k := F_plot_flat_L21 N b rec l (i + 1)) hR t1 t2.2 x.NY.toNat 0 N acc (by omega) (by rw [hcc] at hle; omega) (by omega)
      rw [show ((0 : Nat) : Int) = 0 from rfl] at h1
      rw [F_plot_flat_L21, if_pos (by simpa using h8), h1, ← hf]
    · rw [if_neg h8] at hf
      have hpl : x.Points.length ≤ 2000 := by
        by_cases h7 : x.Kind = 7
        · exact (ho.area h7).2.2.1
        · rw [ho.points h7]; simp
      have h8' : (x.Kind == 8) = false := by simpa using h8
      rw [F_plot_flat_L21, if_neg (by simpa using h8), fieldsOf_ok, Option.bind_some, hf]
      simp only [h8', Bool.or_false]
      cases hpp : plc x.Kind
      · have : (x.Kind == 4 || x.Kind == 5 || x.Kind == 6) = false := hpp
        rw [this, if_neg (by simp), fone_ok hN hpl (by omega)]
        unfold mvSt; rw [hpp]; rfl
      · have : (x.Kind == 4 || x.Kind == 5 || x.Kind == 6) = true := hpp
        rw [this, if_pos rfl, fone_ok hN hpl (by omega)]
        unfold mvSt; rw [hpp]; rfl
set_option maxRecDepth 100000 in
theorem flat_ok {p : TPlot} : ∀ (k : Nat) (l : List TPlotStep) (N : Nat) (d : Int) (b : TPoint), szSteps l ≤ k → k + 4000 ≤ N → VldL p d l → cntL l ≤ 3000 → F_plot_flat N l b = some (flL l b)
  | k, l, N, d, b, hk, hN, hv, hc => by
    obtain ⟨N, rfl⟩ : ∃ n, N = n + 1 := ⟨N - 1, by omega⟩
    show F_plot_flat_b N _ l b = _
    unfold F_plot_flat_b
    have := fl_loop (N := N) (by omega) (b := b) (rec := F_plot_flat N) l 0 [] hv (fun x hx h8 b' => by
      have a1 := szSteps_mem hx
      have a2 := szStep_eq x
      have a3 := (VldS_eq _ _ _).1 ((VldL_iff _ _ _).1 hv x hx)
      have a4 := cntL_mem hx
      have a5 := cntL_steps x
      cases k with
      | zero => omega
      | succ k => exact flat_ok k x.Steps N (d + 1) b' (by omega) (by omega) a3.2 (by omega)) hc (by simp; omega)
    simpa using this
end Go.Proofs.YtneghcpnehiffaaDoor
namespace Go.Proofs.YtneghcpnehiffaaDoor
theorem rmv_loop {x : TPlotStep} {b : TPoint} {ax ay : Int} : ∀ (suf pre acc : List TPoint) (m : Nat), x.Points = pre ++ suf → x.Points.length ≤ 2000 → acc.length = pre.length → suf.length < m →
    F_etchhouseref3_moved_L1 x b ax ay m acc (pre.length : Int) = some ⟨x.Kind, x.Name, ⟨ax, ay⟩, acc ++ suf.map (mvP b), x.NX, x.NY, x.Steps⟩
  | [], pre, acc, m, he, hl, ha, hm => by
    obtain ⟨m, rfl⟩ : ∃ k, m = k + 1 := ⟨m - 1, by omega⟩
    rw [F_etchhouseref3_moved_L1, if_neg (by rw [he]; simp)]
    simp
  | q :: l, pre, acc, m, he, hl, ha, hm => by
    obtain ⟨m, rfl⟩ : ∃ k, m = k + 1 := ⟨m - 1, by simp at hm; omega⟩
    simp at hm
    have hlen : x.Points.length = pre.length + (l.length + 1) := by rw [he]; simp
    rw [F_etchhouseref3_moved_L1, if_pos (by simp; omega), show idx x.Points (pre.length : Int) = some q by rw [he]; exact idx_mid _ _ _, Option.bind_some, Option.bind_some, apd_ok (by simp; omega), Option.bind_some, up_mid2 _ q (by omega),
      rmv_loop l (pre ++ [q]) _ m (by rw [he]; simp) hl (by simp; omega) (by omega)]
    simp [mvP]
theorem rmv_ok {N : Nat} (hN : 3000 ≤ N) {x : TPlotStep} {b : TPoint} (hl : x.Points.length ≤ 2000) : F_etchhouseref3_moved N x b = some (mvSt b x) := by
  have key : ∀ ax ay, F_etchhouseref3_moved_J2 N x b ax ay = some ⟨x.Kind, x.Name, ⟨ax, ay⟩, x.Points.map (mvP b), x.NX, x.NY, x.Steps⟩ := fun ax ay => by
    unfold F_etchhouseref3_moved_J2
    have := rmv_loop (x := x) (b := b) (ax := ax) (ay := ay) x.Points [] [] N rfl hl rfl (by omega)
    simpa using this
  unfold F_etchhouseref3_moved F_etchhouseref3_places
  rw [Option.bind_some, key, key]
  unfold mvSt plc
  cases (x.Kind == 4 || x.Kind == 5 || x.Kind == 6) <;> rfl
theorem rin_loop {b : TPoint} {rec : List TPlotStep → TPoint → Option (List TPlotStep)} {x : TPlotStep} {j : Nat} {k : List TPlotStep → Int → Option (List TPlotStep)} {c : Nat} (hr : ∀ b', rec x.Steps b' = some (flL x.Steps b') ∧ (flL x.Steps b').length ≤ c) (hnx : x.NX ≤ 100) : ∀ (n i m : Nat) (acc : List TPlotStep), ((i + n : Nat) : Int) = x.NX → acc.length + n * c ≤ 4000000000 → n < m →
    F_etchhouseref3_flat_L13 b rec x (j : Int) k m acc (i : Int) = k (acc ++ (List.range' i n).flatMap fun i => flL x.Steps (byIJ b x.At j i)) (w64 ((j : Int) + 1))
  | 0, i, m, acc, he, ha, hm => by
    obtain ⟨m, rfl⟩ : ∃ k, m = k + 1 := ⟨m - 1, by omega⟩
    rw [F_etchhouseref3_flat_L13, if_neg (by simp; omega)]
    simp
  | n + 1, i, m, acc, he, ha, hm => by
    obtain ⟨m, rfl⟩ : ∃ k, m = k + 1 := ⟨m - 1, by omega⟩
    obtain ⟨r1, r2⟩ := hr (byIJ b x.At j i)
    rw [Nat.succ_mul] at ha
    rw [F_etchhouseref3_flat_L13, if_pos (by simp; omega), show rec x.Steps ⟨w64 (b.X + w64 ((i : Int) * x.At.X)), w64 (b.Y + w64 ((j : Int) * x.At.Y))⟩ = some (flL x.Steps (byIJ b x.At j i)) from r1, Option.bind_some, apd_ok (by omega), Option.bind_some, w64_id (by omega) (by omega),
      show (i : Int) + 1 = ((i + 1 : Nat) : Int) by omega, rin_loop hr hnx n (i + 1) m _ (by omega) (by rw [List.length_append]; omega) (by omega)]
    rw [List.range'_succ, List.flatMap_cons, List.append_assoc]
theorem rout_loop {N : Nat} (hN : 3000 ≤ N) {b : TPoint} {rec : List TPlotStep → TPoint → Option (List TPlotStep)} {x : TPlotStep} {h : Int} {k : List TPlotStep → Int → Option (List TPlotStep)} {c : Nat} (hr : ∀ b', rec x.Steps b' = some (flL x.Steps b') ∧ (flL x.Steps b').length ≤ c) (hnx : 1 ≤ x.NX ∧ x.NX ≤ 100) (hny : x.NY ≤ 100) : ∀ (n j m : Nat) (acc : List TPlotStep), ((j + n : Nat) : Int) = x.NY → acc.length + n * (x.NX.toNat * c) ≤ 4000000000 → n < m →
    F_etchhouseref3_flat_L12 N b rec h k x m acc (j : Int) = k (acc ++ (List.range' j n).flatMap fun j => (List.range' 0 x.NX.toNat).flatMap fun i => flL x.Steps (byIJ b x.At j i)) (w64 (h + 1))
  | 0, j, m, acc, he, ha, hm => by
    obtain ⟨m, rfl⟩ : ∃ k, m = k + 1 := ⟨m - 1, by omega⟩
    rw [F_etchhouseref3_flat_L12, if_neg (by simp; omega)]
    simp
  | n + 1, j, m, acc, he, ha, hm => by
    obtain ⟨m, rfl⟩ : ∃ k, m = k + 1 := ⟨m - 1, by omega⟩
    rw [Nat.succ_mul] at ha
    have hin := flatMap_len (l := List.range' 0 x.NX.toNat) (f := fun i => flL x.Steps (byIJ b x.At j i)) (c := c) (fun i _ => (hr _).2)
    rw [List.length_range'] at hin
    have h1 := rin_loop (b := b) (j := j) (k := F_etchhouseref3_flat_L12 N b rec h k x m) hr hnx.2 x.NX.toNat 0 N acc (by omega) (by omega) (by omega)
    rw [show ((0 : Nat) : Int) = 0 from rfl] at h1
    rw [F_etchhouseref3_flat_L12, if_pos (by simp; omega), h1, w64_id (by omega) (by omega), show (j : Int) + 1 = ((j + 1 : Nat) : Int) by omega,
      rout_loop hN hr hnx hny n (j + 1) m _ (by omega) (by rw [List.length_append]; omega) (by omega)]
    rw [List.range'_succ, List.flatMap_cons, List.append_assoc]
theorem rfl_loop {N : Nat} (hN : 4000 ≤ N) {p : TPlot} {d : Int} {b : TPoint} {rec : List TPlotStep → TPoint → Option (List TPlotStep)} : ∀ (suf pre : List TPlotStep) (m : Nat) (acc : List TPlotStep), (pre ++ suf).length ≤ 1000000 → VldL p d suf → (∀ x ∈ suf, x.Kind = 8 → FlAs rec x.Steps) → cntL suf ≤ 3000 → acc.length + 3000 ≤ 1000000 + (3000 - cntL suf).toNat → suf.length < m →
    F_etchhouseref3_flat_L9 N (pre ++ suf) b rec m acc (pre.length : Int) = some (acc ++ flL suf b)
  | [], pre, m, acc, hl, _, _, _, _, hm => by
    obtain ⟨m, rfl⟩ : ∃ k, m = k + 1 := ⟨m - 1, by omega⟩
    rw [F_etchhouseref3_flat_L9, lt_end, if_neg (by simp), flL_nil, List.append_nil]
  | x :: l, pre, m, acc, hl', hv, hr, hc, ha, hm => by
    obtain ⟨m, rfl⟩ : ∃ k, m = k + 1 := ⟨m - 1, by simp at hm; omega⟩
    simp at hm hl'
    obtain ⟨hx, hl⟩ := (VldL_cons _ _ _ _).1 hv
    obtain ⟨h0, hs⟩ := (VldS_eq _ _ _).1 hx
    have ho := stepE_iff.1 h0
    rw [cntL_cons] at hc ha
    have hcl := cntL_pos l
    have hcx := cntS_pos x
    have hlen : ((flT x b).length : Int) ≤ cntS x := by
      have h1 : VldL p d [x] := (VldL_cons _ _ _ _).2 ⟨hx, VldL_nil _ _⟩
      have := flL_len _ [x] d b (Nat.le_refl _) h1
      rw [flL_cons, flL_nil, List.append_nil, cntL_cons, cntL_nil] at this
      omega
    have ih := rfl_loop hN (b := b) (rec := rec) l (pre ++ [x]) m (acc ++ flT x b) (by simp; omega) hl (fun y hy => hr y (List.mem_cons_of_mem _ hy)) (by omega) (by rw [List.length_append]; omega) (by omega)
    rw [← snoc_mid, ← up_mid2 _ x (by omega)] at ih
    rw [flL_cons, ← List.append_assoc, ← ih]
    have hf := flT_eq x b
    by_cases h8 : x.Kind = 8
    · rw [if_pos h8] at hf
      obtain ⟨t1, t2, _, _⟩ := ho.times h8
      have e1 : tm x.NX = x.NX := if_pos t1
      have e2 : tm x.NY = x.NY := if_pos t2
      have hp := cntL_pos x.Steps
      have hcs := cntS_eq x
      rw [e1, e2] at hcs
      have hle : x.NX * x.NY * cntL x.Steps ≤ 3000 := by omega
      obtain ⟨c, hcc⟩ : ∃ c : Nat, cntL x.Steps = (c : Int) := ⟨(cntL x.Steps).toNat, by omega⟩
      have hR : ∀ b', rec x.Steps b' = some (flL x.Steps b') ∧ (flL x.Steps b').length ≤ c := fun b' => ⟨hr x List.mem_cons_self h8 b', by
        have := flL_len _ x.Steps (d + 1) b' (Nat.le_refl _) hs
        omega⟩
      have e3 : ((x.NY.toNat * (x.NX.toNat * c) : Nat) : Int) = x.NX * x.NY * (c : Int) := by
        push_cast
        rw [Int.toNat_of_nonneg (by omega), Int.toNat_of_nonneg (by omega), ← Int.mul_assoc, Int.mul_comm x.NY x.NX]
      have h1 := rout_loop (N := N) (by omega) (b := b) (h := (pre.length : Int)) (k := F_etchhouseref3_flat_L9 N (pre ++ x :: l) b rec m) hR t1 t2.2 x.NY.toNat 0 N acc (by omega) (by rw [hcc] at hle; omega) (by omega)
      rw [show ((0 : Nat) : Int) = 0 from rfl] at h1
      rw [F_etchhouseref3_flat_L9, lt_mid, if_pos rfl, idx_mid, Option.bind_some, if_pos (by simpa using h8), h1, ← hf]
    · rw [if_neg h8] at hf
      have hpl : x.Points.length ≤ 2000 := by
        by_cases h7 : x.Kind = 7
        · exact (ho.area h7).2.2.1
        · rw [ho.points h7]; simp
      rw [F_etchhouseref3_flat_L9, lt_mid, if_pos rfl, idx_mid, Option.bind_some, if_neg (by simpa using h8), rmv_ok (by omega) hpl, Option.bind_some, apd_ok (by simp; omega), Option.bind_some, hf]
set_option maxRecDepth 100000 in
theorem flatR_ok {p : TPlot} : ∀ (k : Nat) (l : List TPlotStep) (N : Nat) (d : Int) (b : TPoint), szSteps l ≤ k → k + 5000 ≤ N → VldL p d l → cntL l ≤ 3000 → F_etchhouseref3_flat N l b = some (flL l b)
  | k, l, N, d, b, hk, hN, hv, hc => by
    obtain ⟨N, rfl⟩ : ∃ n, N = n + 1 := ⟨N - 1, by omega⟩
    show F_etchhouseref3_flat_b N _ l b = _
    unfold F_etchhouseref3_flat_b
    have hnd : (l.length : Int) ≤ cntL l := by
      clear hv hc hk
      induction l with
      | nil => rw [cntL_nil]; simp
      | cons x l ih => have := cntS_pos x; rw [cntL_cons, List.length_cons]; omega
    have := rfl_loop (N := N) (by omega) (b := b) (rec := F_etchhouseref3_flat N) l [] N [] (by simp; omega) hv (fun x hx h8 b' => by
      have a1 := szSteps_mem hx
      have a2 := szStep_eq x
      have a3 := (VldS_eq _ _ _).1 ((VldL_iff _ _ _).1 hv x hx)
      have a4 := cntL_mem hx
      have a5 := cntL_steps x
      cases k with
      | zero => omega
      | succ k => exact flatR_ok k x.Steps N (d + 1) b' (by omega) (by omega) a3.2 (by omega)) hc (by simp; omega) (by have := szSteps_len l; omega)
    simpa using this
end Go.Proofs.YtneghcpnehiffaaDoor
namespace Go.Proofs.YtneghcpnehiffaaDoor
theorem samePts_loop : ∀ (suf pre : List TPoint) (m : Nat), suf.length < m → (pre ++ suf).length ≤ 9223372036854775807 → F_etchhouseref3_samePoints_L1 (pre ++ suf) (pre ++ suf) m (pre.length : Int) = some true
  | [], pre, m, hm, hl => by
    obtain ⟨m, rfl⟩ : ∃ k, m = k + 1 := ⟨m - 1, by omega⟩
    rw [F_etchhouseref3_samePoints_L1, lt_end, if_neg (by simp)]
  | q :: l, pre, m, hm, hl => by
    obtain ⟨m, rfl⟩ : ∃ k, m = k + 1 := ⟨m - 1, by simp at hm; omega⟩
    simp at hm hl
    rw [F_etchhouseref3_samePoints_L1, lt_mid, if_pos rfl, idx_mid, Option.bind_some, Option.bind_some, show eqTPoint q q = true from eqTPoint_iff.2 rfl, if_neg (by simp), up_mid2 _ q (by omega), snoc_mid, samePts_loop l (pre ++ [q]) m (by omega) (by simp; omega)]
theorem samePts_ok {N : Nat} {l : List TPoint} (hN : l.length < N) (hl : l.length ≤ 9223372036854775807) : F_etchhouseref3_samePoints N l l = some true := by
  unfold F_etchhouseref3_samePoints
  rw [if_neg (by simp)]
  exact samePts_loop l [] N hN hl
theorem sameRcs_loop : ∀ (suf pre : List TRect) (m : Nat), suf.length < m → (pre ++ suf).length ≤ 9223372036854775807 → F_etchhouseref1_SameRects_L1 (pre ++ suf) (pre ++ suf) m (pre.length : Int) = some true
  | [], pre, m, hm, hl => by
    obtain ⟨m, rfl⟩ : ∃ k, m = k + 1 := ⟨m - 1, by omega⟩
    rw [F_etchhouseref1_SameRects_L1, lt_end, if_neg (by simp)]
  | q :: l, pre, m, hm, hl => by
    obtain ⟨m, rfl⟩ : ∃ k, m = k + 1 := ⟨m - 1, by simp at hm; omega⟩
    simp at hm hl
    rw [F_etchhouseref1_SameRects_L1, lt_mid, if_pos rfl, idx_mid, Option.bind_some, Option.bind_some, show eqTRect q q = true from eqTRect_iff.2 rfl, if_neg (by simp), up_mid2 _ q (by omega), snoc_mid, sameRcs_loop l (pre ++ [q]) m (by omega) (by simp; omega)]
theorem sameRcs_ok {N : Nat} {l : List TRect} (hN : l.length < N) (hl : l.length ≤ 9223372036854775807) : F_etchhouseref1_SameRects N l l = some true := by
  unfold F_etchhouseref1_SameRects
  rw [if_neg (by simp)]
  exact sameRcs_loop l [] N hN hl
theorem sameSts_loop {N : Nat} {rec : List TPlotStep → List TPlotStep → Option Bool} : ∀ (suf pre : List TPlotStep) (m : Nat), suf.length < m → (pre ++ suf).length ≤ 9223372036854775807 → (∀ x ∈ suf, x.Points.length < N ∧ x.Points.length ≤ 9223372036854775807 ∧ rec x.Steps x.Steps = some true) → F_etchhouseref3_sameSteps_L1 N (pre ++ suf) (pre ++ suf) rec m (pre.length : Int) = some true
  | [], pre, m, hm, hl, h => by
    obtain ⟨m, rfl⟩ : ∃ k, m = k + 1 := ⟨m - 1, by omega⟩
    rw [F_etchhouseref3_sameSteps_L1, lt_end, if_neg (by simp)]
  | x :: l, pre, m, hm, hl, h => by
    obtain ⟨m, rfl⟩ : ∃ k, m = k + 1 := ⟨m - 1, by simp at hm; omega⟩
    simp at hm hl
    obtain ⟨h1, h2, h3⟩ := h x List.mem_cons_self
    rw [F_etchhouseref3_sameSteps_L1, lt_mid, if_pos rfl, idx_mid, Option.bind_some, Option.bind_some]
    simp only [bne_self_eq_false, sEq_iff.2 rfl, eqTPoint_iff.2 rfl, Bool.not_true, Bool.or_self, Bool.false_eq_true, if_false, samePts_ok h1 h2, h3, Option.bind_some]
    rw [up_mid2 _ x (by omega), snoc_mid, sameSts_loop l (pre ++ [x]) m (by omega) (by simp; omega) (fun y hy => h y (List.mem_cons_of_mem _ hy))]
theorem sameSts_ok : ∀ (k : Nat) (l : List TPlotStep) (N : Nat), szSteps l ≤ k → k + 5 ≤ N → l.length ≤ 9223372036854775807 → lenL l → F_etchhouseref3_sameSteps N l l = some true
  | k, l, N, hk, hN, hl, hA => by
    obtain ⟨N, rfl⟩ : ∃ n, N = n + 1 := ⟨N - 1, by omega⟩
    have hlen := szSteps_len l
    show F_etchhouseref3_sameSteps_b N _ l l = _
    unfold F_etchhouseref3_sameSteps_b
    rw [if_neg (by simp)]
    exact sameSts_loop l [] N (by omega) (by simpa using hl) (fun s hs => by
      have h1 := szSteps_mem hs
      have h2 := szStep_eq s
      have h3 := (lenS_eq s).1 (lenL_mem hA hs)
      cases k with
      | zero => omega
      | succ k => exact ⟨by omega, h3.2.2.1.1, sameSts_ok k s.Steps N (by omega) (by omega) h3.2.2.2.2.1 h3.2.2.2.2.2⟩)
theorem samePl_loop {N : Nat} {p : TPlot} : ∀ (suf pre : List TPlotTool) (m : Nat), p.Tools = pre ++ suf → suf.length < m → p.Tools.length ≤ 9223372036854775807 → (∀ t ∈ suf, t.Rects.length < N ∧ t.Rects.length ≤ 9223372036854775807) → F_etchhouseref3_SamePlot_L1 N p p m (pre.length : Int) = some true
  | [], pre, m, he, hm, hl, h => by
    obtain ⟨m, rfl⟩ : ∃ k, m = k + 1 := ⟨m - 1, by omega⟩
    rw [F_etchhouseref3_SamePlot_L1, if_neg (by rw [he]; simp)]
  | t :: l, pre, m, he, hm, hl, h => by
    obtain ⟨m, rfl⟩ : ∃ k, m = k + 1 := ⟨m - 1, by simp at hm; omega⟩
    simp at hm
    have hlen : p.Tools.length = pre.length + (l.length + 1) := by rw [he]; simp
    obtain ⟨h1, h2⟩ := h t List.mem_cons_self
    have hj : idx p.Tools (pre.length : Int) = some t := by rw [he]; exact idx_mid _ _ _
    rw [F_etchhouseref3_SamePlot_L1, if_pos (by simp; omega), hj]
    simp only [Option.bind_some, sEq_iff.2 rfl, Bool.not_true, Bool.false_eq_true, if_false, sameRcs_ok h1 h2]
    rw [up_mid2 _ t (by omega), samePl_loop l (pre ++ [t]) m (by rw [he]; simp) (by omega) hl (fun y hy => h y (List.mem_cons_of_mem _ hy))]
theorem samePl_ok {N : Nat} {p : TPlot} (hN : szSteps p.Steps + 5 ≤ N) (hs : p.Steps.length ≤ 9223372036854775807) (hL : lenL p.Steps) (ht : p.Tools.length < N) (ht2 : p.Tools.length ≤ 9223372036854775807) (hr : ∀ t ∈ p.Tools, t.Rects.length < N ∧ t.Rects.length ≤ 9223372036854775807) : F_etchhouseref3_SamePlot N p p = some true := by
  unfold F_etchhouseref3_SamePlot
  simp only [bne_self_eq_false, Bool.or_self, Bool.false_eq_true, if_false, sameSts_ok (szSteps p.Steps) p.Steps N (Nat.le_refl _) hN hs hL, Option.bind_some, Bool.not_true]
  exact samePl_loop p.Tools [] N rfl ht ht2 hr
end Go.Proofs.YtneghcpnehiffaaDoor
namespace Go.Proofs.YtneghcpnehiffaaDoor
theorem w64_rng (x : Int) : J64 (w64 x) := by
  unfold J64 w64
  simp [IntKind.wrap, IntKind.bits, IntKind.signed]
  omega
theorem flL_mem {p : TPlot} : ∀ (k : Nat) (l : List TPlotStep) (d : Int) (b : TPoint) (y : TPlotStep), szSteps l ≤ k → VldL p d l → lenL l → y ∈ flL l b → ∃ x b' d', StepOk p x d' ∧ x.Kind ≠ 8 ∧ lenS x ∧ y = mvSt b' x
  | _, [], _, _, _, _, _, _, hy => by rw [flL_nil] at hy; cases hy
  | k, x :: l, d, b, y, hk, hv, hA, hy => by
    rw [szSteps_cons, szStep_eq] at hk
    obtain ⟨hx, hl⟩ := (VldL_cons _ _ _ _).1 hv
    obtain ⟨h0, hs⟩ := (VldS_eq _ _ _).1 hx
    obtain ⟨a1, a2⟩ := (lenL_cons _ _).1 hA
    cases k with
    | zero => omega
    | succ k =>
      rw [flL_cons, List.mem_append] at hy
      rcases hy with hy | hy
      · rw [flT_eq] at hy
        by_cases h8 : x.Kind = 8
        · rw [if_pos h8, List.mem_flatMap] at hy
          obtain ⟨j, _, hy⟩ := hy
          rw [List.mem_flatMap] at hy
          obtain ⟨i, _, hy⟩ := hy
          exact flL_mem k x.Steps (d + 1) _ y (by omega) hs ((lenS_eq x).1 a1).2.2.2.2.2 hy
        · rw [if_neg h8, List.mem_singleton] at hy
          exact ⟨x, b, d, stepE_iff.1 h0, h8, a1, hy⟩
      · exact flL_mem k l d b y (by omega) hl a2 hy
theorem toolN_size {nm : ByteArray} {l : List TPlotTool} (h : 0 ≤ toolN nm l) (hl : ∀ t ∈ l, t.Name.size ≤ 40) : nm.size ≤ 40 := by
  obtain ⟨t, ht, rfl⟩ := toolN_mem (by omega : ¬ toolN nm l < 0)
  exact hl t ht
theorem StepOk.sz {p : TPlot} {x : TPlotStep} {d : Int} (h : StepOk p x d) (h8 : x.Kind ≠ 8) (ht : ∀ t ∈ p.Tools, t.Name.size ≤ 40) : szStep x ≤ 2041 := by
  have h1 : x.Points.length ≤ 2000 := by
    by_cases h7 : x.Kind = 7
    · exact (h.area h7).2.2.1
    · rw [h.points h7]; simp
  have h2 : x.Name.size ≤ 40 := by
    by_cases h3 : x.Kind = 3
    · exact toolN_size (h.tool h3) ht
    · rw [h.name h3]; simp
  rw [szStep_eq, (h.rep h8).2.2, szSteps_nil]; omega
theorem szSteps_le {c : Nat} : ∀ {l : List TPlotStep}, (∀ x ∈ l, szStep x ≤ c) → szSteps l ≤ l.length * c
  | [], _ => by rw [szSteps_nil]; simp
  | x :: l, h => by
    have h1 := h x List.mem_cons_self
    have h2 := szSteps_le (c := c) (l := l) (fun y hy => h y (List.mem_cons_of_mem _ hy))
    rw [szSteps_cons, List.length_cons, Nat.succ_mul]; omega
theorem mvSt_sz (b : TPoint) (x : TPlotStep) : szStep (mvSt b x) = szStep x := by
  rw [szStep_eq, szStep_eq]; simp [mvSt]
theorem mvSt_len {b : TPoint} {x : TPlotStep} (h : lenS x) : lenS (mvSt b x) := by
  rw [lenS_eq] at h ⊢
  obtain ⟨h1, h2, h3, h4⟩ := h
  refine ⟨h1, ?_, ⟨by simpa [mvSt] using h3.1, fun q hq => ?_⟩, h4⟩
  · unfold mvSt
    cases plc x.Kind
    · exact h2
    · exact ⟨w64_rng _, w64_rng _⟩
  · obtain ⟨q0, _, rfl⟩ := List.mem_map.1 hq
    exact ⟨w64_rng _, w64_rng _⟩
/-- Fuel enough for what is written out. -/
def FuG (p : TPlot) (N : Nat) : Prop := szSteps p.Steps + szTools p.Tools + 20000000 ≤ N
theorem FuG.fu {p : TPlot} {N : Nat} (h : FuG p N) : Fu p N := by unfold FuG at h; unfold Fu; omega
def tlG (g : TRect → TRect) (t : TPlotTool) : TPlotTool := ⟨t.Name, t.Rects.map g⟩
theorem toolsI_loop {g : TRect → TRect} {f : TRect → Option TRect} (hf : ∀ r, f r = some (g r)) {l0 : List TPlotTool} {j : Int} {t0 : TPlotTool} (hj : ∃ t, idx l0 j = some t) {k : List TPlotTool → Int → Option (List TPlotTool)} : ∀ (suf pre : List TRect),
    F_plot_ownTools_L4 f l0 j k t0 suf pre.length (pre ++ suf) = k (l0.set j.toNat ⟨t0.Name, pre ++ suf.map g⟩) (w64 (j + 1))
  | [], pre => by rw [F_plot_ownTools_L4]; simp
  | r :: l, pre => by
    obtain ⟨t, ht⟩ := hj
    rw [F_plot_ownTools_L4, idx_mid, Option.bind_some, ht, Option.bind_some, hf, Option.bind_some, Option.bind_some, sets_mid, Option.bind_some]
    have := toolsI_loop hf ⟨t, ht⟩ l (pre ++ [g r]) (t0 := t0) (k := k)
    rw [show (pre ++ [g r]).length = pre.length + 1 by simp] at this
    rw [show pre ++ g r :: l = (pre ++ [g r]) ++ l by simp, this]
    simp
theorem ownT_loop {g : TRect → TRect} {f : TRect → Option TRect} (hf : ∀ r, f r = some (g r)) {l0 : List TPlotTool} : ∀ (suf pre : List TPlotTool) (m : Nat), (pre ++ suf).length = l0.length → l0.length ≤ 2000 → (∀ t ∈ suf, t.Rects.length ≤ 2000) → suf.length < m →
    F_plot_ownTools_L3 f l0 m (pre ++ suf) (pre.length : Int) = some (pre ++ suf.map (tlG g))
  | [], pre, m, hl, h2, h, hm => by
    obtain ⟨m, rfl⟩ : ∃ k, m = k + 1 := ⟨m - 1, by omega⟩
    simp at hl
    rw [F_plot_ownTools_L3, if_neg (by simp; omega)]
    simp
  | t :: l, pre, m, hl, h2, h, hm => by
    obtain ⟨m, rfl⟩ : ∃ k, m = k + 1 := ⟨m - 1, by simp at hm; omega⟩
    simp at hm
    have hl' := hl
    simp at hl'
    have hcl : F_slices_Clone_Rect t.Rects = some t.Rects := by
      unfold F_slices_Clone_Rect
      rw [apdC (by have := h t List.mem_cons_self; omega)]; rfl
    rw [F_plot_ownTools_L3, if_pos (by simp; omega), idx_mid, Option.bind_some, hcl, Option.bind_some, Option.bind_some, Option.bind_some]
    have hr := toolsI_loop hf (l0 := pre ++ t :: l) (j := (pre.length : Int)) (t0 := t) ⟨t, idx_mid _ _ _⟩ (k := F_plot_ownTools_L3 f l0 m) t.Rects []
    simp only [List.nil_append, List.length_nil] at hr
    rw [hr, set_mid, up_mid2 _ t (by omega), show (pre ++ [t]).length = (pre ++ [tlG g t]).length by simp, show pre ++ (⟨t.Name, t.Rects.map g⟩ : TPlotTool) :: l = (pre ++ [tlG g t]) ++ l by simp [tlG],
      ownT_loop hf l (pre ++ [tlG g t]) m (by simpa using hl) h2 (fun x hx => h x (List.mem_cons_of_mem _ hx)) (by omega)]
    simp
theorem ownT_ok {g : TRect → TRect} {f : TRect → Option TRect} (hf : ∀ r, f r = some (g r)) {l : List TPlotTool} {N : Nat} (hl : l.length ≤ 2000) (h : ∀ t ∈ l, t.Rects.length ≤ 2000) (hN : 3000 ≤ N) : F_plot_ownTools N l f = some (l.map (tlG g)) := by
  unfold F_plot_ownTools
  have hcl : F_slices_Clone_PlotTool l = some l := by
    unfold F_slices_Clone_PlotTool
    rw [apdC (by omega)]; rfl
  rw [hcl, Option.bind_some]
  exact ownT_loop hf l [] N rfl hl h (by omega)
theorem tools_id (l : List TPlotTool) : l.map (tlG fun r => r) = l := by
  induction l with
  | nil => rfl
  | cons t l ih => rw [List.map_cons, ih]; simp [tlG]
theorem same_zero {N : Nat} (hN : 10 ≤ N) : F_etchhouseref3_SamePlot N ⟨0, [], []⟩ ⟨0, [], []⟩ = some true :=
  samePl_ok (by show szSteps [] + 5 ≤ N; rw [szSteps_nil]; omega) (by simp) (by show lenL []; rw [lenL]; trivial) (by simp; omega) (by simp) (fun t h => by cases h)
/-- A plot with other steps. -/
theorem same_st {N : Nat} {p : TPlot} (hG : GoodP p) {l : List TPlotStep} (hN : szSteps l + 5000 ≤ N) (hl : l.length ≤ 1000000) (hA : lenL l) : F_etchhouseref3_SamePlot N ⟨p.Unit, p.Tools, l⟩ ⟨p.Unit, p.Tools, l⟩ = some true := by
  have hf := hG.few
  refine samePl_ok (by show szSteps l + 5 ≤ N; omega) (by show l.length ≤ _; omega) hA (by show p.Tools.length < N; omega) (by show p.Tools.length ≤ _; omega) (fun t ht => ?_)
  have := (hG.tools t ht).2
  omega
theorem fl_small {N : Nat} {p : TPlot} (hG : GoodP p) (hL : LenP p) (hO : PlotOk N p) (b : TPoint) : (flL p.Steps b).length ≤ 3000 ∧ szSteps (flL p.Steps b) ≤ 3000 * 2041 ∧ lenL (flL p.Steps b) := by
  have h1 := flL_len _ p.Steps 0 b (Nat.le_refl _) hO.steps
  have hc := hO.cnt
  have hm := fun y hy => flL_mem _ p.Steps 0 b y (Nat.le_refl _) hO.steps hL.steps hy
  have h2 := szSteps_le (c := 2041) (l := flL p.Steps b) (fun y hy => by
    obtain ⟨x, b', d', x1, x2, _, rfl⟩ := hm y hy
    rw [mvSt_sz]; exact x1.sz x2 (fun t ht => (hG.tools t ht).1))
  refine ⟨by omega, Nat.le_trans h2 (Nat.mul_le_mul_right _ (by omega)), lenL_of fun y hy => ?_⟩
  obtain ⟨x, b', d', x1, x2, x3, rfl⟩ := hm y hy
  exact mvSt_len x3
theorem told_ok {N : Nat} {q : TPlot} (hN : Fu q N) (hL : LenP q) (hs : F_etchhouseref3_SamePlot N q q = some true) (h0 : 10 ≤ N) : ∃ r, F_plot_told N q = some r ∧ F_etchhouseref3_right N q = some r ∧ F_etchhouseref3_SamePlot N r.1 r.1 = some true := by
  obtain ⟨e, e1, e2, _⟩ := CheckPlot_ok hN hL
  unfold F_plot_told F_etchhouseref3_right
  rw [e1, e2]
  simp only [Option.bind_some]
  by_cases h : e = 0
  · have hz : (e != 0) = false := by simp [h]
    simp only [hz, Bool.false_eq_true, if_false]
    exact ⟨_, rfl, rfl, hs⟩
  · have hz : (e != 0) = true := by simpa using h
    simp only [hz, if_true]
    exact ⟨_, rfl, rfl, same_zero h0⟩
end Go.Proofs.YtneghcpnehiffaaDoor
namespace Go.Proofs.YtneghcpnehiffaaDoor
mutual
/-- A step moved, and all within. -/
def mvT (b : TPoint) : TPlotStep → TPlotStep
  | ⟨k, n, a, ps, nx, ny, l⟩ => ⟨k, n, if plc k then mvP b a else a, ps.map (mvP b), nx, ny, mvTs b l⟩
def mvTs (b : TPoint) : List TPlotStep → List TPlotStep
  | [] => []
  | x :: l => mvT b x :: mvTs b l
end
section
variable {b : TPoint}
theorem mvT_eq (x : TPlotStep) : mvT b x = ⟨x.Kind, x.Name, if plc x.Kind then mvP b x.At else x.At, x.Points.map (mvP b), x.NX, x.NY, mvTs b x.Steps⟩ := by cases x; rw [mvT]
theorem mvTs_nil : mvTs b [] = [] := by rw [mvTs]
theorem mvTs_cons (x : TPlotStep) (l : List TPlotStep) : mvTs b (x :: l) = mvT b x :: mvTs b l := by rw [mvTs]
theorem mvTs_len : ∀ (l : List TPlotStep), (mvTs b l).length = l.length
  | [] => by rw [mvTs_nil]
  | x :: l => by rw [mvTs_cons, List.length_cons, List.length_cons, mvTs_len l]
theorem mpts_loop {ax ay : Int} : ∀ (suf pre : List TPoint), F_plot_Moved_1_L1 b.X b.Y ax ay suf pre.length (pre ++ suf) = some (ax, ay, pre ++ suf.map (mvP b))
  | [], pre => by rw [F_plot_Moved_1_L1]; simp
  | q :: l, pre => by
    rw [F_plot_Moved_1_L1, idx_mid, Option.bind_some, Option.bind_some, sets_mid, Option.bind_some, idx_mid, Option.bind_some, Option.bind_some, sets_mid, Option.bind_some]
    have := mpts_loop (ax := ax) (ay := ay) l (pre ++ [mvP b q])
    rw [show (pre ++ [mvP b q]).length = pre.length + 1 by simp] at this
    rw [show pre ++ (⟨w64 (q.X + b.X), w64 (q.Y + b.Y)⟩ : TPoint) :: l = (pre ++ [mvP b q]) ++ l by simp [mvP], this]
    simp
theorem moved1_ok (x : TPlotStep) : F_plot_Moved_1 x b.X b.Y = some ((if plc x.Kind then mvP b x.At else x.At).X, (if plc x.Kind then mvP b x.At else x.At).Y, x.Points.map (mvP b)) := by
  have key : ∀ ax ay, F_plot_Moved_1_J2 x b.X b.Y ax ay = some (ax, ay, x.Points.map (mvP b)) := fun ax ay => by
    unfold F_plot_Moved_1_J2
    have := mpts_loop (b := b) (ax := ax) (ay := ay) x.Points []
    simpa using this
  unfold F_plot_Moved_1
  rw [fieldsOf_ok, Option.bind_some, key, key]
  have e : ((x.Kind == 4 || x.Kind == 5 || x.Kind == 6 || x.Kind == 8) && (x.Kind != 8)) = plc x.Kind := by
    unfold plc
    by_cases h8 : x.Kind = 8
    · rw [h8]; rfl
    · have h8' : (x.Kind == 8) = false := by simpa using h8
      simp [bne, h8']
  rw [e]
  cases plc x.Kind <;> rfl
theorem mown_loop {rec : List TPlotStep → Int → Int → Option (List TPlotStep)} {l0 : List TPlotStep} : ∀ (suf pre : List TPlotStep) (m : Nat), (pre ++ suf).length = l0.length → l0.length ≤ 4000 →
    (∀ x ∈ suf, x.Points.length ≤ 2000 ∧ rec x.Steps b.X b.Y = some (mvTs b x.Steps)) → suf.length < m →
    F_plot_own__Moved_1_L1 b.X b.Y rec l0 m (pre ++ suf) (pre.length : Int) = some (pre ++ mvTs b suf)
  | [], pre, m, hl, h2, h, hm => by
    obtain ⟨m, rfl⟩ : ∃ k, m = k + 1 := ⟨m - 1, by omega⟩
    simp at hl
    rw [F_plot_own__Moved_1_L1, if_neg (by simp; omega), mvTs_nil]
  | x :: l, pre, m, hl, h2, h, hm => by
    obtain ⟨m, rfl⟩ : ∃ k, m = k + 1 := ⟨m - 1, by simp at hm; omega⟩
    simp at hm
    have hl' := hl
    simp at hl'
    obtain ⟨hx1, hx2⟩ := h x List.mem_cons_self
    have hcl : F_slices_Clone_Point x.Points = some x.Points := by
      unfold F_slices_Clone_Point
      rw [apdC (by omega)]; rfl
    rw [F_plot_own__Moved_1_L1, if_pos (by simp; omega), idx_mid, Option.bind_some, hcl, Option.bind_some, Option.bind_some, Option.bind_some, hx2, Option.bind_some, Option.bind_some, Option.bind_some, moved1_ok, Option.bind_some,
      set_mid, up_mid2 _ x (by omega), show (pre ++ [x]).length = (pre ++ [mvT b x]).length by simp]
    rw [show ∀ y : TPlotStep, y = mvT b x → pre ++ y :: l = (pre ++ [mvT b x]) ++ l from fun y e => by rw [e]; simp]
    · rw [mown_loop l (pre ++ [mvT b x]) m (by simpa using hl) h2 (fun y hy => h y (List.mem_cons_of_mem _ hy)) (by omega), mvTs_cons]
      simp
    · rw [mvT_eq]
theorem ndSteps_len : ∀ (l : List TPlotStep), l.length ≤ ndSteps l
  | [] => by simp
  | x :: l => by
    have := ndSteps_len l
    have := ndStep_eq x
    rw [ndSteps_cons, List.length_cons]; omega
theorem mown_ok : ∀ (k : Nat) (l : List TPlotStep) (N : Nat), szSteps l ≤ k → k + 5 ≤ N → goodL 40 l → ndSteps l ≤ 3000 → F_plot_own__Moved_1 N l b.X b.Y = some (mvTs b l)
  | k, l, N, hk, hN, hg, hn => by
    obtain ⟨N, rfl⟩ : ∃ n, N = n + 1 := ⟨N - 1, by omega⟩
    have hlen := szSteps_len l
    have hnl := ndSteps_len l
    have hcl : F_slices_Clone_PlotStep l = some l := by
      unfold F_slices_Clone_PlotStep
      rw [apdC (by omega)]; rfl
    show F_plot_own__Moved_1_b N _ l b.X b.Y = _
    unfold F_plot_own__Moved_1_b
    rw [hcl, Option.bind_some]
    exact mown_loop l [] N rfl (by omega) (fun x hx => by
      have h1 := szSteps_mem hx
      have h2 := szStep_eq x
      have h3 := ndSteps_mem hx
      have h4 := ndStep_eq x
      have h5 := (goodT_eq 40 x).1 (goodL_mem hg hx)
      cases k with
      | zero => omega
      | succ k => exact ⟨h5.1.1, mown_ok k x.Steps N (by omega) (by omega) h5.2 (by omega)⟩) (by omega)
/-! The reference. -/
theorem rmvs_loop {N : Nat} (hN : 4000 ≤ N) {rec : List TPlotStep → TPoint → Option (List TPlotStep)} : ∀ (suf pre : List TPlotStep) (m : Nat) (acc : List TPlotStep), (pre ++ suf).length ≤ 3500 → acc.length = pre.length →
    (∀ x ∈ suf, x.Points.length ≤ 2000 ∧ rec x.Steps b = some (mvTs b x.Steps)) → suf.length < m →
    F_etchhouseref3_movedSteps_L1 N (pre ++ suf) b rec m acc (pre.length : Int) = some (acc ++ mvTs b suf)
  | [], pre, m, acc, hl, ha, h, hm => by
    obtain ⟨m, rfl⟩ : ∃ k, m = k + 1 := ⟨m - 1, by omega⟩
    rw [F_etchhouseref3_movedSteps_L1, lt_end, if_neg (by simp), mvTs_nil]
    simp
  | x :: l, pre, m, acc, hl, ha, h, hm => by
    obtain ⟨m, rfl⟩ : ∃ k, m = k + 1 := ⟨m - 1, by simp at hm; omega⟩
    simp at hm
    have hl' := hl
    simp at hl'
    obtain ⟨hx1, hx2⟩ := h x List.mem_cons_self
    rw [F_etchhouseref3_movedSteps_L1, lt_mid, if_pos rfl, idx_mid, Option.bind_some, rmv_ok (by omega) hx1, Option.bind_some, Option.bind_some, hx2, Option.bind_some, apd_ok (by simp; omega), Option.bind_some, up_mid2 _ x (by omega), snoc_mid,
      rmvs_loop hN l (pre ++ [x]) m _ (by simpa using hl) (by simp; omega) (fun y hy => h y (List.mem_cons_of_mem _ hy)) (by omega), mvTs_cons, mvT_eq]
    simp [mvSt]
set_option maxRecDepth 100000 in
theorem movedSteps_ok : ∀ (k : Nat) (l : List TPlotStep) (N : Nat), szSteps l ≤ k → k + 5000 ≤ N → goodL 40 l → ndSteps l ≤ 3000 → F_etchhouseref3_movedSteps N l b = some (mvTs b l)
  | k, l, N, hk, hN, hg, hn => by
    obtain ⟨N, rfl⟩ : ∃ n, N = n + 1 := ⟨N - 1, by omega⟩
    have hlen := szSteps_len l
    have hnl := ndSteps_len l
    show F_etchhouseref3_movedSteps_b N _ l b = _
    unfold F_etchhouseref3_movedSteps_b
    have := rmvs_loop (b := b) (N := N) (by omega) l [] N [] (by simp; omega) rfl (fun x hx => by
      have h1 := szSteps_mem hx
      have h2 := szStep_eq x
      have h3 := ndSteps_mem hx
      have h4 := ndStep_eq x
      have h5 := (goodT_eq 40 x).1 (goodL_mem hg hx)
      cases k with
      | zero => omega
      | succ k => exact ⟨h5.1.1, movedSteps_ok k x.Steps N (by omega) (by omega) h5.2 (by omega)⟩) (by omega)
    simpa using this
/-! Sizes. -/
theorem sz_mv : ∀ (k : Nat) (l : List TPlotStep), szSteps l ≤ k → szSteps (mvTs b l) = szSteps l
  | k, [], _ => by rw [mvTs_nil]
  | k, x :: l, hk => by
    rw [szSteps_cons, szStep_eq] at hk
    rw [mvTs_cons, szSteps_cons, szSteps_cons, szStep_eq, szStep_eq, mvT_eq]
    cases k with
    | zero => omega
    | succ k =>
      simp only [List.length_map]
      rw [sz_mv k x.Steps (by omega), sz_mv k l (by omega)]
theorem len_mv : ∀ (k : Nat) (l : List TPlotStep), szSteps l ≤ k → lenL l → lenL (mvTs b l)
  | k, [], _, _ => by rw [mvTs_nil, lenL]; trivial
  | k, x :: l, hk, h => by
    rw [szSteps_cons, szStep_eq] at hk
    rw [lenL_cons, lenS_eq] at h
    rw [mvTs_cons, lenL_cons, lenS_eq, mvT_eq]
    cases k with
    | zero => omega
    | succ k =>
      obtain ⟨⟨h1, h2, h3, h4, h5, h6⟩, h7⟩ := h
      refine ⟨⟨h1, ?_, ⟨by simpa using h3.1, fun q hq => ?_⟩, h4, by rw [mvTs_len]; exact h5, len_mv k x.Steps (by omega) h6⟩, len_mv k l (by omega) h7⟩
      · cases plc x.Kind
        · exact h2
        · exact ⟨w64_rng _, w64_rng _⟩
      · obtain ⟨q0, _, rfl⟩ := List.mem_map.1 hq
        exact ⟨w64_rng _, w64_rng _⟩
end
end Go.Proofs.YtneghcpnehiffaaDoor
namespace Go.Proofs.YtneghcpnehiffaaDoor
def near6 (q : TPoint) : Bool := (decide (-1000000 ≤ q.X) && decide (q.X ≤ 1000000)) && (decide (-1000000 ≤ q.Y) && decide (q.Y ≤ 1000000))
theorem near6_iff {q : TPoint} : near6 q = true ↔ (-1000000 ≤ q.X ∧ q.X ≤ 1000000) ∧ (-1000000 ≤ q.Y ∧ q.Y ≤ 1000000) := by
  simp [near6]
theorem IsPt_ok (q : TPoint) : F_shape_IsPoint q = some (near6 q) := by
  unfold F_shape_IsPoint F_shape_IsAt F_shape_within near6
  simp only [Option.bind_some]
  cases decide (-1000000 ≤ q.X) && decide (q.X ≤ 1000000) <;> rfl
theorem IsPtR_ok (q : TPoint) : F_etchhouseref1_IsPoint q = some (near6 q) := IsPt_ok q
/-- A number in the plot's unit, and whether it is whole. -/
def unN (U n : Int) : Int := w64 (n.tdiv U)
def unB (U : Int) (q : TPoint) : Bool := (q.X.tmod U == 0) && (q.Y.tmod U == 0)
theorem inUnits_ok {U : Int} (hU : U ≠ 0) {q : TPoint} (hq : near6 q = true) : F_etchhouseref3_inUnits q U = some (⟨unN U q.X, unN U q.Y⟩, unB U q) := by
  obtain ⟨h1, h2⟩ := near6_iff.1 hq
  unfold F_etchhouseref3_inUnits F_etchhouseref3_scalePoint F_etchhouseref3_scale md dv
  simp only [if_neg hU, Option.bind_some]
  have e1 : w64 q.X = q.X := w64_id (by omega) (by omega)
  have e2 : w64 q.Y = q.Y := w64_id (by omega) (by omega)
  rw [Int.mul_one, Int.mul_one, e1, e2]; rfl
theorem whole_ok {U : Int} (hU : U ≠ 0) (q : TPoint) : ((md q.X U).bind fun q105 => (if (q105 != 0) then some true else (md q.Y U).bind fun q108 => some (q108 != 0))) = some (!unB U q) := by
  unfold md unB
  simp only [if_neg hU, Option.bind_some]
  cases h : (q.X.tmod U == 0)
  · simp [bne, h]
  · simp [bne, h]
theorem whole2_ok {α : Type} {U : Int} (hU : U ≠ 0) (q : TPoint) (k : Bool → Option α) : ((md q.X U).bind fun q105 => (if (q105 != 0) then some true else (md q.Y U).bind fun q108 => some (q108 != 0)).bind k) = k (!unB U q) := by
  have := whole_ok hU q
  unfold md at this ⊢
  simp only [if_neg hU, Option.bind_some] at this ⊢
  rw [this]; rfl
theorem dvU {U : Int} (hU : U ≠ 0) (n : Int) : dv n U = some (unN U n) := by unfold dv; rw [if_neg hU]; rfl
theorem Moved_ok {N : Nat} {p : TPlot} {q : TPoint} (hN : FuG p N) (hL : LenP p) : ∃ r, F_plot_Moved N p q = some r ∧ F_etchhouseref3_Moved N p q = some r ∧ F_etchhouseref3_SamePlot N r.1 r.1 = some true := by
  have hN' := hN
  unfold FuG at hN'
  obtain ⟨e, e1, e2, e3⟩ := CheckPlot_ok hN.fu hL
  unfold F_plot_Moved F_etchhouseref3_Moved
  rw [e1, e2, Option.bind_some, Option.bind_some, IsPt_ok, IsPtR_ok, Option.bind_some, Option.bind_some]
  by_cases h : e = 0
  · have hz : (e != 0) = false := by simp [h]
    simp only [hz, Bool.false_eq_true, if_false]
    have hG := e3 h
    have hf := hG.few
    have hU : p.Unit ≠ 0 := by have := hG.unit; omega
    cases hp : near6 q
    · exact ⟨_, rfl, rfl, same_zero (by omega)⟩
    · simp only [Bool.not_true, Bool.false_eq_true, if_false]
      rw [whole2_ok hU, inUnits_ok hU hp, Option.bind_some]
      cases hw : unB p.Unit q
      · exact ⟨_, rfl, rfl, same_zero (by omega)⟩
      · simp only [Bool.not_true, Bool.false_eq_true, if_false]
        rw [dvU hU, dvU hU, Option.bind_some, Option.bind_some, mown_ok (b := ⟨unN p.Unit q.X, unN p.Unit q.Y⟩) _ p.Steps N (Nat.le_refl _) (by omega) hG.steps hG.nd, Option.bind_some, ownT_ok (g := fun r => r) (f := fun z0 => F_plot_asItIs z0) (fun r => rfl) (by omega) (fun t ht => (hG.tools t ht).2) (by omega), tools_id, Option.bind_some,
          movedSteps_ok (b := ⟨unN p.Unit q.X, unN p.Unit q.Y⟩) _ p.Steps N (Nat.le_refl _) (by omega) hG.steps hG.nd, Option.bind_some]
        have hsz := sz_mv (b := ⟨unN p.Unit q.X, unN p.Unit q.Y⟩) _ p.Steps (Nat.le_refl _)
        have hln := mvTs_len (b := ⟨unN p.Unit q.X, unN p.Unit q.Y⟩) p.Steps
        have hnl := ndSteps_len p.Steps
        have hnd := hG.nd
        have hlm := len_mv (b := ⟨unN p.Unit q.X, unN p.Unit q.Y⟩) _ p.Steps (Nat.le_refl _) hL.steps
        obtain ⟨r, r1, r2, r3⟩ := told_ok (N := N) (q := ⟨p.Unit, p.Tools, mvTs ⟨unN p.Unit q.X, unN p.Unit q.Y⟩ p.Steps⟩) (by unfold Fu; show szSteps (mvTs _ p.Steps) + szTools p.Tools + 10000 ≤ N; omega) ⟨hL.unit, hL.tools, by show (mvTs _ p.Steps).length ≤ _; omega, hlm⟩ (same_st hG (by omega) (by omega) hlm) (by omega)
        rw [r1, r2]
        exact ⟨r, rfl, rfl, r3⟩
  · have hz : (e != 0) = true := by simpa using h
    simp only [hz, if_true]
    exact ⟨_, rfl, rfl, same_zero (by omega)⟩
/-! Turns. -/
def chk6 (t : TTurn) : Bool := (decide (0 ≤ t.Quarters) && decide (t.Quarters ≤ 3)) && near6 t.At
theorem ChkT_ok (t : TTurn) : F_shape_CheckTurn t = some (if chk6 t then 0 else 1) := by
  unfold F_shape_CheckTurn
  rw [IsPt_ok]
  unfold F_shape_within chk6
  simp only [Option.bind_some]
  cases decide (0 ≤ t.Quarters) && decide (t.Quarters ≤ 3) <;> cases near6 t.At <;> rfl
theorem ChkTR_ok (t : TTurn) : F_etchhouseref1_CheckTurn t = some (if chk6 t then 0 else 1) := ChkT_ok t
/-- Where quarters take a point, in machine numbers. -/
def qtP (q x y : Int) : TPoint := if q = 0 then ⟨x, y⟩ else if q = 1 then ⟨w64 (0 - y), x⟩ else if q = 2 then ⟨w64 (0 - x), w64 (0 - y)⟩ else ⟨w64 (0 - w64 (0 - y)), w64 (0 - x)⟩
def arP (f : Bool) (q : Int) (p : TPoint) : TPoint := qtP q (if f then w64 (0 - p.X) else p.X) p.Y
def twP (t : TTurn) (p : TPoint) : TPoint := ⟨w64 ((arP t.Flip t.Quarters p).X + t.At.X), w64 ((arP t.Flip t.Quarters p).Y + t.At.Y)⟩
theorem q4 {q : Int} (h : 0 ≤ q ∧ q ≤ 3) : q = 0 ∨ q = 1 ∨ q = 2 ∨ q = 3 := by omega
theorem twP_ok {N : Nat} (hN : 5 ≤ N) {t : TTurn} (p : TPoint) (hq : 0 ≤ t.Quarters ∧ t.Quarters ≤ 3) : F_shape_TurnPoint N p t = some (twP t p) := by
  obtain ⟨m, rfl⟩ : ∃ m, N = m + 5 := ⟨N - 5, by omega⟩
  obtain ⟨fl, q, ⟨ax, ay⟩⟩ := t
  simp only at hq
  unfold F_shape_TurnPoint F_shape_TurnPoint_J2 twP arP qtP
  rcases q4 hq with rfl | rfl | rfl | rfl <;> cases fl <;> simp (disch := omega) [F_shape_TurnPoint_L1, w64_id]
theorem twR_ok {N : Nat} (hN : 5 ≤ N) {t : TTurn} (p : TPoint) (hq : 0 ≤ t.Quarters ∧ t.Quarters ≤ 3) : F_etchhouseref1_TurnPoint N p t = some (twP t p) := by
  obtain ⟨m, rfl⟩ : ∃ m, N = m + 5 := ⟨N - 5, by omega⟩
  obtain ⟨fl, q, ⟨ax, ay⟩⟩ := t
  simp only at hq
  unfold F_etchhouseref1_TurnPoint F_etchhouseref1_around F_etchhouseref1_around_J2 twP arP qtP
  rcases q4 hq with rfl | rfl | rfl | rfl <;> cases fl <;> simp (disch := omega) [F_etchhouseref1_around_L1, w64_id]
def twRc (t : TTurn) (r : TRect) : TRect := ⟨min (twP t ⟨r.X0, r.Y0⟩).X (twP t ⟨r.X1, r.Y1⟩).X, min (twP t ⟨r.X0, r.Y0⟩).Y (twP t ⟨r.X1, r.Y1⟩).Y, max (twP t ⟨r.X0, r.Y0⟩).X (twP t ⟨r.X1, r.Y1⟩).X, max (twP t ⟨r.X0, r.Y0⟩).Y (twP t ⟨r.X1, r.Y1⟩).Y⟩
theorem twRc_ok {N : Nat} (hN : 5 ≤ N) {t : TTurn} (hq : 0 ≤ t.Quarters ∧ t.Quarters ≤ 3) (r : TRect) : F_shape_TurnRect N r t = some (twRc t r) := by
  unfold F_shape_TurnRect
  rw [twP_ok hN _ hq, Option.bind_some, twP_ok hN _ hq]; rfl
theorem twRcR_ok {N : Nat} (hN : 5 ≤ N) {t : TTurn} (hq : 0 ≤ t.Quarters ∧ t.Quarters ≤ 3) (r : TRect) : F_etchhouseref1_TurnRect N r t = some (twRc t r) := by
  unfold F_etchhouseref1_TurnRect
  rw [twR_ok hN _ hq, Option.bind_some, twR_ok hN _ hq]; rfl
/-- A step (not a repeat) turned. -/
def twS (t : TTurn) (x : TPlotStep) : TPlotStep := ⟨x.Kind, x.Name, if plc x.Kind then twP t x.At else x.At, x.Points.map (twP t), x.NX, x.NY, x.Steps⟩
end Go.Proofs.YtneghcpnehiffaaDoor
namespace Go.Proofs.YtneghcpnehiffaaDoor
theorem bind_eta {α β : Type} (o : Option (α × β)) : (o.bind fun y => some (y.1, y.2)) = o := by cases o <;> rfl
section
variable {N : Nat} {t : TTurn} {ax ay : Int}
theorem tpts_loop (hN : 5 ≤ N) (hq : 0 ≤ t.Quarters ∧ t.Quarters ≤ 3) {m : List TPlotStep} {k : List TPlotStep → Option (TPlot × Int)} {i : Nat} {x : TPlotStep} {bx byy : Int} : ∀ (suf pre : List TPoint),
    F_plot_TurnedPlot_L6 N t ax ay m k i x bx byy suf pre.length (pre ++ suf) = k (m.set i ⟨x.Kind, x.Name, ⟨bx, byy⟩, pre ++ suf.map (twP ⟨t.Flip, t.Quarters, ⟨ax, ay⟩⟩), x.NX, x.NY, x.Steps⟩)
  | [], pre => by rw [F_plot_TurnedPlot_L6]; simp
  | q :: l, pre => by
    rw [F_plot_TurnedPlot_L6, idx_mid, Option.bind_some, twP_ok (t := ⟨t.Flip, t.Quarters, ⟨ax, ay⟩⟩) hN _ hq, Option.bind_some, Option.bind_some, sets_mid, Option.bind_some]
    have := tpts_loop hN hq (m := m) (k := k) (i := i) (x := x) (bx := bx) (byy := byy) l (pre ++ [twP ⟨t.Flip, t.Quarters, ⟨ax, ay⟩⟩ q])
    rw [show (pre ++ [twP ⟨t.Flip, t.Quarters, ⟨ax, ay⟩⟩ q]).length = pre.length + 1 by simp] at this
    rw [show pre ++ twP ⟨t.Flip, t.Quarters, ⟨ax, ay⟩⟩ q :: l = (pre ++ [twP ⟨t.Flip, t.Quarters, ⟨ax, ay⟩⟩ q]) ++ l by simp, this]
    simp
theorem tst_loop (hN : 5 ≤ N) (hq : 0 ≤ t.Quarters ∧ t.Quarters ≤ 3) {p : TPlot} {tl : List TPlotTool} : ∀ (suf pre : List TPlotStep), (∀ x ∈ suf, x.Kind ≠ 8) →
    F_plot_TurnedPlot_L5 N t p tl ax ay suf pre.length (pre ++ suf) = F_plot_told N ⟨p.Unit, tl, pre ++ suf.map (twS ⟨t.Flip, t.Quarters, ⟨ax, ay⟩⟩)⟩
  | [], pre, _ => by
    rw [F_plot_TurnedPlot_L5, bind_eta]
    simp
  | x :: l, pre, h => by
    have h8 := h x List.mem_cons_self
    have h8' : (x.Kind == 8) = false := by simpa using h8
    have ih := tst_loop hN hq (p := p) (tl := tl) l (pre ++ [twS ⟨t.Flip, t.Quarters, ⟨ax, ay⟩⟩ x]) (fun y hy => h y (List.mem_cons_of_mem _ hy))
    rw [show (pre ++ [twS ⟨t.Flip, t.Quarters, ⟨ax, ay⟩⟩ x]).length = pre.length + 1 by simp] at ih
    have key : ∀ bx byy, F_plot_TurnedPlot_J7 N t ax ay (pre ++ x :: l) (F_plot_TurnedPlot_L5 N t p tl ax ay l (pre.length + 1)) pre.length x bx byy = F_plot_TurnedPlot_L5 N t p tl ax ay l (pre.length + 1) ((pre ++ x :: l).set pre.length ⟨x.Kind, x.Name, ⟨bx, byy⟩, x.Points.map (twP ⟨t.Flip, t.Quarters, ⟨ax, ay⟩⟩), x.NX, x.NY, x.Steps⟩) := fun bx byy => by
      unfold F_plot_TurnedPlot_J7
      have := tpts_loop hN hq (ax := ax) (ay := ay) (m := pre ++ x :: l) (k := F_plot_TurnedPlot_L5 N t p tl ax ay l (pre.length + 1)) (i := pre.length) (x := x) (bx := bx) (byy := byy) x.Points []
      simpa using this
    have fin : ∀ y : TPlotStep, y = twS ⟨t.Flip, t.Quarters, ⟨ax, ay⟩⟩ x → F_plot_TurnedPlot_L5 N t p tl ax ay l (pre.length + 1) ((pre ++ x :: l).set pre.length y) = F_plot_told N ⟨p.Unit, tl, pre ++ (x :: l).map (twS ⟨t.Flip, t.Quarters, ⟨ax, ay⟩⟩)⟩ := fun y e => by
      subst e
      have e2 : (pre ++ x :: l).set pre.length (twS ⟨t.Flip, t.Quarters, ⟨ax, ay⟩⟩ x) = (pre ++ [twS ⟨t.Flip, t.Quarters, ⟨ax, ay⟩⟩ x]) ++ l := by simp
      rw [e2, ih]
      simp
    rw [F_plot_TurnedPlot_L5, idx_mid, Option.bind_some, fieldsOf_ok, Option.bind_some, key]
    simp only [h8', Bool.or_false]
    cases hp : plc x.Kind
    · have : (x.Kind == 4 || x.Kind == 5 || x.Kind == 6) = false := hp
      rw [this, if_neg (by simp)]
      exact fin _ (by unfold twS; rw [hp]; rfl)
    · have : (x.Kind == 4 || x.Kind == 5 || x.Kind == 6) = true := hp
      rw [this, if_pos rfl, twP_ok (t := ⟨t.Flip, t.Quarters, ⟨ax, ay⟩⟩) hN _ hq, Option.bind_some, key]
      exact fin _ (by unfold twS; rw [hp]; rfl)
/-! The reference. -/
variable {b : Bool}
theorem rtp_loop (hN : 5 ≤ N) (hq : 0 ≤ t.Quarters ∧ t.Quarters ≤ 3) {k : List TPlotStep → Int → Option (TPlot × Int)} {A B : List TPlotStep} {K : Int} {nm : ByteArray} {at' : TPoint} {nx ny : Int} {st : List TPlotStep} : ∀ (suf pre : List TPoint) (m : Nat), pre.length + suf.length ≤ 2000 → suf.length < m →
    F_etchhouseref3_TurnedPlot_L10 N t (⟨ax, ay⟩, b) (A.length : Int) k m (A ++ ⟨K, nm, at', pre ++ suf, nx, ny, st⟩ :: B) (pre.length : Int) = k (A ++ ⟨K, nm, at', pre ++ suf.map (twP ⟨t.Flip, t.Quarters, ⟨ax, ay⟩⟩), nx, ny, st⟩ :: B) (w64 ((A.length : Int) + 1))
  | [], pre, m, hl, hm => by
    obtain ⟨m, rfl⟩ : ∃ k, m = k + 1 := ⟨m - 1, by omega⟩
    rw [F_etchhouseref3_TurnedPlot_L10, idx_mid, Option.bind_some, if_neg (by simp), set_mid]
    simp
  | q :: l, pre, m, hl, hm => by
    obtain ⟨m, rfl⟩ : ∃ k, m = k + 1 := ⟨m - 1, by simp at hm; omega⟩
    simp at hm hl
    rw [F_etchhouseref3_TurnedPlot_L10, idx_mid, Option.bind_some, if_pos (by simp; omega)]
    show ((idx (pre ++ q :: l) (pre.length : Int)).bind fun x376 => _) = _
    rw [idx_mid, Option.bind_some, twR_ok (t := ⟨t.Flip, t.Quarters, ⟨ax, ay⟩⟩) hN _ hq, Option.bind_some]
    rw [Option.bind_some]
    show ((sets (pre ++ q :: l) (pre.length : Int) _).bind fun l379 => _) = _
    rw [sets_mid, Option.bind_some, set_mid, up_mid2 _ q (by omega)]
    have := rtp_loop hN hq (k := k) (A := A) (B := B) (K := K) (nm := nm) (at' := at') (nx := nx) (ny := ny) (st := st) l (pre ++ [twP ⟨t.Flip, t.Quarters, ⟨ax, ay⟩⟩ q]) m (by simp; omega) (by omega)
    rw [show (pre ++ [twP ⟨t.Flip, t.Quarters, ⟨ax, ay⟩⟩ q]).length = (pre ++ [q]).length by simp] at this
    rw [show pre ++ twP ⟨t.Flip, t.Quarters, ⟨ax, ay⟩⟩ q :: l = (pre ++ [twP ⟨t.Flip, t.Quarters, ⟨ax, ay⟩⟩ q]) ++ l by simp, this]
    simp
theorem rts_loop (hN : 3000 ≤ N) (hq : 0 ≤ t.Quarters ∧ t.Quarters ≤ 3) {p : TPlot} {tl : List TPlotTool} : ∀ (suf pre : List TPlotStep) (m : Nat), (∀ x ∈ suf, x.Points.length ≤ 2000) → pre.length + suf.length ≤ 1000000 → suf.length < m →
    F_etchhouseref3_TurnedPlot_L9 N p t (⟨ax, ay⟩, b) tl m (pre ++ suf) (pre.length : Int) = F_etchhouseref3_right N ⟨p.Unit, tl, pre ++ suf.map (twS ⟨t.Flip, t.Quarters, ⟨ax, ay⟩⟩)⟩
  | [], pre, m, _, hl, hm => by
    obtain ⟨m, rfl⟩ : ∃ k, m = k + 1 := ⟨m - 1, by omega⟩
    rw [F_etchhouseref3_TurnedPlot_L9, if_neg (by simp), bind_eta]
    simp
  | x :: l, pre, m, h, hl, hm => by
    obtain ⟨m, rfl⟩ : ∃ k, m = k + 1 := ⟨m - 1, by simp at hm; omega⟩
    simp at hm hl
    have hx := h x List.mem_cons_self
    have ih := rts_loop hN hq (p := p) (tl := tl) l (pre ++ [twS ⟨t.Flip, t.Quarters, ⟨ax, ay⟩⟩ x]) m (fun y hy => h y (List.mem_cons_of_mem _ hy)) (by simp; omega) (by omega)
    rw [show (pre ++ [twS ⟨t.Flip, t.Quarters, ⟨ax, ay⟩⟩ x]).length = (pre ++ [x]).length by simp] at ih
    have fin : ∀ at' : TPoint, at' = (if plc x.Kind then twP ⟨t.Flip, t.Quarters, ⟨ax, ay⟩⟩ x.At else x.At) → F_etchhouseref3_TurnedPlot_J11 N t (⟨ax, ay⟩, b) (pre.length : Int) (F_etchhouseref3_TurnedPlot_L9 N p t (⟨ax, ay⟩, b) tl m) (pre ++ ⟨x.Kind, x.Name, at', x.Points, x.NX, x.NY, x.Steps⟩ :: l) = F_etchhouseref3_right N ⟨p.Unit, tl, pre ++ (x :: l).map (twS ⟨t.Flip, t.Quarters, ⟨ax, ay⟩⟩)⟩ := fun at' e => by
      unfold F_etchhouseref3_TurnedPlot_J11
      have := rtp_loop (N := N) (by omega) hq (b := b) (ax := ax) (ay := ay) (k := F_etchhouseref3_TurnedPlot_L9 N p t (⟨ax, ay⟩, b) tl m) (A := pre) (B := l) (K := x.Kind) (nm := x.Name) (at' := at') (nx := x.NX) (ny := x.NY) (st := x.Steps) x.Points [] N (by simpa using hx) (by omega)
      simp only [List.nil_append, List.length_nil] at this
      rw [show ((0 : Nat) : Int) = 0 from rfl] at this
      rw [this, up_mid2 _ x (by omega), e]
      rw [show pre ++ (⟨x.Kind, x.Name, (if plc x.Kind then twP ⟨t.Flip, t.Quarters, ⟨ax, ay⟩⟩ x.At else x.At), x.Points.map (twP ⟨t.Flip, t.Quarters, ⟨ax, ay⟩⟩), x.NX, x.NY, x.Steps⟩ : TPlotStep) :: l = (pre ++ [twS ⟨t.Flip, t.Quarters, ⟨ax, ay⟩⟩ x]) ++ l by simp [twS], ih]
      simp
    rw [F_etchhouseref3_TurnedPlot_L9, if_pos (by simp; omega), idx_mid, Option.bind_some]
    show ((some (plc x.Kind)).bind fun y384 => _) = _
    rw [Option.bind_some, set_mid]
    cases hp : plc x.Kind
    · rw [if_neg (by simp)]
      have e0 : pre ++ x :: l = pre ++ ⟨x.Kind, x.Name, x.At, x.Points, x.NX, x.NY, x.Steps⟩ :: l := by cases x; rfl
      rw [e0]
      exact fin x.At (by rw [hp]; rfl)
    · rw [if_pos rfl, twR_ok (t := ⟨t.Flip, t.Quarters, ⟨ax, ay⟩⟩) (by omega) _ hq, Option.bind_some, set_mid]
      exact fin _ (by rw [hp]; rfl)
theorem rtr_loop (hN : 5 ≤ N) (hq : 0 ≤ t.Quarters ∧ t.Quarters ≤ 3) {p : TPlot} {l0 : List TPlotTool} {j : Int} {x x0 : TPlotTool} (hj : idx p.Tools j = some x) {k : List TPlotTool → Int → Option (TPlot × Int)} (h0 : l0.length ≤ 4000) : ∀ (suf pre acc : List TRect) (m : Nat), x.Rects = pre ++ suf → x.Rects.length ≤ 2000 → acc.length = pre.length → suf.length < m →
    F_etchhouseref3_TurnedPlot_L4 N p t l0 j k x0 m acc (pre.length : Int) = k (l0 ++ [⟨x0.Name, acc ++ suf.map (twRc ⟨t.Flip, t.Quarters, ⟨0, 0⟩⟩)⟩]) (w64 (j + 1))
  | [], pre, acc, m, he, hl, ha, hm => by
    obtain ⟨m, rfl⟩ : ∃ k, m = k + 1 := ⟨m - 1, by omega⟩
    rw [F_etchhouseref3_TurnedPlot_L4, hj, Option.bind_some, if_neg (by rw [he]; simp), apd_ok (by simp; omega), Option.bind_some]
    simp
  | r :: l, pre, acc, m, he, hl, ha, hm => by
    obtain ⟨m, rfl⟩ : ∃ k, m = k + 1 := ⟨m - 1, by simp at hm; omega⟩
    simp at hm
    have hlen : x.Rects.length = pre.length + (l.length + 1) := by rw [he]; simp
    rw [F_etchhouseref3_TurnedPlot_L4, hj, Option.bind_some, if_pos (by simp; omega), Option.bind_some, show idx x.Rects (pre.length : Int) = some r by rw [he]; exact idx_mid _ _ _, Option.bind_some, twRcR_ok (t := ⟨t.Flip, t.Quarters, ⟨0, 0⟩⟩) hN hq, Option.bind_some, apd_ok (by simp; omega), Option.bind_some, up_mid2 _ r (by omega),
      rtr_loop hN hq hj h0 l (pre ++ [r]) _ m (by rw [he]; simp) hl (by simp; omega) (by omega)]
    simp
theorem rtl_loop (hN : 3000 ≤ N) (hq : 0 ≤ t.Quarters ∧ t.Quarters ≤ 3) {p : TPlot} {fl : List TPlotStep} (hfl : F_etchhouseref3_flat N p.Steps ⟨0, 0⟩ = some fl) (hp : p.Tools.length ≤ 200) (ht : ∀ x ∈ p.Tools, x.Rects.length ≤ 2000) : ∀ (suf pre acc : List TPlotTool) (m : Nat), p.Tools = pre ++ suf → acc.length = pre.length → suf.length < m →
    F_etchhouseref3_TurnedPlot_L3 N p t (⟨ax, ay⟩, b) m acc (pre.length : Int) = F_etchhouseref3_TurnedPlot_L9 N p t (⟨ax, ay⟩, b) (acc ++ suf.map (tlG (twRc ⟨t.Flip, t.Quarters, ⟨0, 0⟩⟩))) N fl 0
  | [], pre, acc, m, he, ha, hm => by
    obtain ⟨m, rfl⟩ : ∃ k, m = k + 1 := ⟨m - 1, by omega⟩
    rw [F_etchhouseref3_TurnedPlot_L3, if_neg (by rw [he]; simp), hfl, Option.bind_some]
    simp
  | x :: l, pre, acc, m, he, ha, hm => by
    obtain ⟨m, rfl⟩ : ∃ k, m = k + 1 := ⟨m - 1, by simp at hm; omega⟩
    simp at hm
    have hlen : p.Tools.length = pre.length + (l.length + 1) := by rw [he]; simp
    have hj : idx p.Tools (pre.length : Int) = some x := by rw [he]; exact idx_mid _ _ _
    have hx := ht x (by rw [he]; simp)
    have hr := rtr_loop (N := N) (by omega) hq (l0 := acc) (x0 := x) hj (k := F_etchhouseref3_TurnedPlot_L3 N p t (⟨ax, ay⟩, b) m) (by omega) x.Rects [] [] N rfl hx rfl (by omega)
    simp only [List.nil_append, List.length_nil] at hr
    rw [show ((0 : Nat) : Int) = 0 from rfl] at hr
    rw [F_etchhouseref3_TurnedPlot_L3, if_pos (by simp; omega), hj, Option.bind_some, hr, up_mid2 _ x (by omega), rtl_loop hN hq hfl hp ht l (pre ++ [x]) _ m (by rw [he]; simp) (by simp; omega) (by omega)]
    simp [tlG]
end
end Go.Proofs.YtneghcpnehiffaaDoor
