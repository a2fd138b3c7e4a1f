/- PlotsShortMatchSpec: a plot without the steps that do nothing. Plain. Conditions: none beyond each theorem's own. -/
import Derived.Test.YtocjndhpgjccoaaGreatDoorJ3
import Derived.Test.YtocjndhpgjccoaaGreatDoorQPSMSR
namespace Go.Proofs.YtocjndhpgjccoaaGreatDoor
/-! The copy of a plot. -/
theorem c1_ok (q : TPoint) : F_plot_changed_1__Short_1 q = some q := rfl
theorem cpts_loop {y : TPoint} : ∀ (suf pre : List TPoint), F_plot_changed_3__changed_1__Short_1_L1 y suf pre.length (pre ++ suf) = some (y.X, y.Y, pre ++ suf)
  | [], pre => by rw [F_plot_changed_3__changed_1__Short_1_L1]
  | q :: l, pre => by
    rw [F_plot_changed_3__changed_1__Short_1_L1, idx_mid, Option.bind_some, c1_ok, Option.bind_some, Option.bind_some, sets_mid, Option.bind_some]
    have := cpts_loop (y := y) l (pre ++ [q])
    rw [show (pre ++ [q]).length = pre.length + 1 by simp, ← snoc_mid] at this
    exact this
theorem c3_ok (x : TPlotStep) : F_plot_changed_3__changed_1__Short_1 x = some (x.At.X, x.At.Y, x.Points) := by
  unfold F_plot_changed_3__changed_1__Short_1
  rw [c1_ok, Option.bind_some]
  exact cpts_loop x.Points []
theorem cown_loop {rec : List TPlotStep → Option (List TPlotStep)} {l0 : List TPlotStep} : ∀ (suf pre : List TPlotStep) (m : Nat), (pre ++ suf).length = l0.length → l0.length ≤ 4000 →
    (∀ x ∈ suf, x.Points.length ≤ 2000 ∧ rec x.Steps = some x.Steps) → suf.length < m →
    F_plot_own__changed_3__changed_1__Short_1_L1 rec l0 m (pre ++ suf) (pre.length : Int) = some (pre ++ suf)
  | [], pre, m, hl, h2, h, hm => by
    obtain ⟨m, rfl⟩ : ∃ k, m = k + 1 := ⟨m - 1, by omega⟩
    simp at hl
    rw [F_plot_own__changed_3__changed_1__Short_1_L1, if_neg (by simp; omega)]
  | x :: l, pre, m, hl, h2, h, hm => by
    obtain ⟨m, rfl⟩ : ∃ k, m = k + 1 := ⟨m - 1, by simp at hm; omega⟩
    simp at hm
    have hl' := hl
    simp at hl'
    obtain ⟨hx1, hx2⟩ := h x List.mem_cons_self
    have hcl : F_slices_Clone_Point x.Points = some x.Points := by
      unfold F_slices_Clone_Point
      rw [apdC (by omega)]; rfl
    have hx : (⟨x.Kind, x.Name, x.At, x.Points, x.NX, x.NY, x.Steps⟩ : TPlotStep) = x := by cases x; rfl
    rw [F_plot_own__changed_3__changed_1__Short_1_L1, if_pos (by simp; omega), idx_mid, Option.bind_some, hcl, Option.bind_some, Option.bind_some, Option.bind_some, hx2, Option.bind_some, Option.bind_some, Option.bind_some, c3_ok, Option.bind_some, set_mid]
    have ih := cown_loop (rec := rec) l (pre ++ [x]) m (by simpa using hl) h2 (fun y hy => h y (List.mem_cons_of_mem _ hy)) (by omega)
    rw [← snoc_mid, ← up_mid2 _ x (by omega)] at ih
    rw [show (TPlotStep.mk x.Kind x.Name (TPoint.mk x.At.X x.At.Y) x.Points x.NX x.NY x.Steps) = x from hx]
    exact ih
theorem cown_ok : ∀ (k : Nat) (l : List TPlotStep) (N : Nat), szSteps l ≤ k → k + 5 ≤ N → goodL 40 l → ndSteps l ≤ 3000 → F_plot_own__changed_3__changed_1__Short_1 N l = some l
  | k, l, N, hk, hN, hg, hn => by
    obtain ⟨N, rfl⟩ : ∃ n, N = n + 1 := ⟨N - 1, by omega⟩
    have hlen := szSteps_len l
    have hnl : l.length ≤ ndSteps l := by
      clear hk hg hn hlen
      induction l with
      | nil => simp
      | cons x l ih => have := ndStep_eq x; rw [ndSteps_cons, List.length_cons]; omega
    have hcl : F_slices_Clone_PlotStep l = some l := by
      unfold F_slices_Clone_PlotStep
      rw [apdC (by omega)]; rfl
    show F_plot_own__changed_3__changed_1__Short_1_b N _ l = _
    unfold F_plot_own__changed_3__changed_1__Short_1_b
    rw [hcl, Option.bind_some]
    exact cown_loop l [] N rfl (by omega) (fun x hx => by
      have h1 := szSteps_mem hx
      have h2 := szStep_eq x
      have h3 := ndSteps_mem hx
      have h4 := ndStep_eq x
      have h5 := (goodT_eq 40 x).1 (goodL_mem hg hx)
      cases k with
      | zero => omega
      | succ k => exact ⟨h5.1.1, cown_ok k x.Steps N (by omega) (by omega) h5.2 (by omega)⟩) (by omega)
theorem ctl_loop {l0 : List TPlotTool} {j : Int} {t0 : TPlotTool} (hj : ∃ t, idx l0 j = some t) {k : List TPlotTool → Int → Option (List TPlotTool)} : ∀ (suf pre : List TRect),
    F_plot_ownTools__changed_2__Short_1_L4 l0 j k t0 suf pre.length (pre ++ suf) = k (l0.set j.toNat ⟨t0.Name, pre ++ suf⟩) (w64 (j + 1))
  | [], pre => by rw [F_plot_ownTools__changed_2__Short_1_L4]
  | r :: l, pre => by
    obtain ⟨t, ht⟩ := hj
    have hr : F_plot_changed_2__Short_1 r = some r := rfl
    rw [F_plot_ownTools__changed_2__Short_1_L4, idx_mid, Option.bind_some, ht, Option.bind_some, hr, Option.bind_some, Option.bind_some, sets_mid, Option.bind_some]
    have := ctl_loop ⟨t, ht⟩ l (pre ++ [r]) (t0 := t0) (k := k)
    rw [show (pre ++ [r]).length = pre.length + 1 by simp, ← snoc_mid] at this
    exact this
theorem ctools_loop {l0 : List TPlotTool} : ∀ (suf pre : List TPlotTool) (m : Nat), (pre ++ suf).length = l0.length → l0.length ≤ 2000 → (∀ t ∈ suf, t.Rects.length ≤ 2000) → suf.length < m →
    F_plot_ownTools__changed_2__Short_1_L3 l0 m (pre ++ suf) (pre.length : Int) = some (pre ++ suf)
  | [], pre, m, hl, h2, h, hm => by
    obtain ⟨m, rfl⟩ : ∃ k, m = k + 1 := ⟨m - 1, by omega⟩
    simp at hl
    rw [F_plot_ownTools__changed_2__Short_1_L3, if_neg (by simp; omega)]
  | t :: l, pre, m, hl, h2, h, hm => by
    obtain ⟨m, rfl⟩ : ∃ k, m = k + 1 := ⟨m - 1, by simp at hm; omega⟩
    simp at hm
    have hl' := hl
    simp at hl'
    have hcl : F_slices_Clone_Rect t.Rects = some t.Rects := by
      unfold F_slices_Clone_Rect
      rw [apdC (by have := h t List.mem_cons_self; omega)]; rfl
    rw [F_plot_ownTools__changed_2__Short_1_L3, if_pos (by simp; omega), idx_mid, Option.bind_some, hcl, Option.bind_some, Option.bind_some, Option.bind_some]
    have hr := ctl_loop (l0 := pre ++ t :: l) (j := (pre.length : Int)) (t0 := t) ⟨t, idx_mid _ _ _⟩ (k := F_plot_ownTools__changed_2__Short_1_L3 l0 m) t.Rects []
    simp only [List.nil_append, List.length_nil] at hr
    have ih := ctools_loop l (pre ++ [t]) m (by simpa using hl) h2 (fun x hx => h x (List.mem_cons_of_mem _ hx)) (by omega)
    rw [← snoc_mid, ← up_mid2 _ t (by omega)] at ih
    rw [hr, set_mid]
    exact ih
theorem ctools_ok {l : List TPlotTool} {N : Nat} (hl : l.length ≤ 2000) (h : ∀ t ∈ l, t.Rects.length ≤ 2000) (hN : 3000 ≤ N) : F_plot_ownTools__changed_2__Short_1 N l = some l := by
  unfold F_plot_ownTools__changed_2__Short_1
  have hcl : F_slices_Clone_PlotTool l = some l := by
    unfold F_slices_Clone_PlotTool
    rw [apdC (by omega)]; rfl
  rw [hcl, Option.bind_some]
  exact ctools_loop l [] N rfl hl h (by omega)
/-! Steps struck. -/
theorem delete_ok {l : List TPlotStep} {i : Int} (h0 : 0 ≤ i) (h1 : i < (l.length : Int)) (hl : l.length ≤ 1000000) : F_slices_Delete_PlotStep l i (w64 (i + 1)) = some (l.take i.toNat ++ l.drop (i.toNat + 1)) := by
  rw [w64_id (by omega) (by omega)]
  unfold F_slices_Delete_PlotStep
  have c1 : cut l i (i + 1) = some ((l.take (i + 1).toNat).drop i.toNat) := if_pos ⟨h0, by omega, by omega⟩
  have c2 : pre l i = some (l.take i.toNat) := if_pos ⟨h0, by omega⟩
  have c3 : cut l (i + 1) (l.length : Int) = some (l.drop (i.toNat + 1)) := by
    unfold cut
    rw [if_pos ⟨by omega, by omega, by omega⟩, Int.toNat_natCast, List.take_length, show (i + 1).toNat = i.toNat + 1 by omega]
  have c4 : leO i (i + 1) = some () := if_pos (by omega)
  rw [c1, Option.bind_some, if_neg (by simp; omega), c2, Option.bind_some, c3, Option.bind_some, c4, Option.bind_some]
  have hs := shf_len c2 c3 (by omega)
  have c5 : cut (shf (l.take i.toNat) (l.drop (i.toNat + 1)) l) ((l.take i.toNat ++ l.drop (i.toNat + 1)).length : Int) (l.length : Int) = some (((shf (l.take i.toNat) (l.drop (i.toNat + 1)) l).take (l.length : Int).toNat).drop ((l.take i.toNat ++ l.drop (i.toNat + 1)).length : Int).toNat) := if_pos ⟨by omega, by simp; omega, by rw [hs]; omega⟩
  rw [c5]; rfl
theorem withoutR_ok {l : List TPlotStep} {i : Int} (h0 : 0 ≤ i) (h1 : i < (l.length : Int)) (hl : l.length ≤ 1000000) : F_etchhouseref3_without l i = some (l.take i.toNat ++ l.drop (i.toNat + 1)) := by
  unfold F_etchhouseref3_without
  have c2 : pre l i = some (l.take i.toNat) := if_pos ⟨h0, by omega⟩
  have c3 : cut l (w64 (i + 1)) (l.length : Int) = some (l.drop (i.toNat + 1)) := by
    rw [w64_id (by omega) (by omega)]
    unfold cut
    rw [if_pos ⟨by omega, by omega, by omega⟩, Int.toNat_natCast, List.take_length, show (i + 1).toNat = i.toNat + 1 by omega]
  rw [c2, Option.bind_some, apdC (by simp; omega), Option.bind_some, c3, Option.bind_some, apd_ok (by simp; omega), Option.bind_some]
theorem struck_len {l : List TPlotStep} {i : Int} (h0 : 0 ≤ i) (h1 : i < (l.length : Int)) : (l.take i.toNat ++ l.drop (i.toNat + 1)).length + 1 = l.length := by
  rw [List.length_append, List.length_take, List.length_drop]; omega
theorem szSteps_append (l m : List TPlotStep) : szSteps (l ++ m) = szSteps l + szSteps m := by
  induction l with
  | nil => rw [List.nil_append, szSteps_nil]; omega
  | cons x l ih => rw [List.cons_append, szSteps_cons, szSteps_cons, ih]; omega
theorem struck_sz (l : List TPlotStep) (i : Nat) : szSteps (l.take i ++ l.drop (i + 1)) ≤ szSteps l := by
  have h1 := szSteps_append (l.take i) (l.drop i)
  rw [List.take_append_drop] at h1
  have h2 : szSteps (l.drop (i + 1)) ≤ szSteps (l.drop i) := by
    cases hd : l.drop i with
    | nil => rw [← List.drop_drop, hd]; simp
    | cons y m => rw [← List.drop_drop, hd, List.drop_one, List.tail_cons, szSteps_cons]; omega
  rw [szSteps_append]; omega
theorem struck_mem {l : List TPlotStep} {i : Nat} {x : TPlotStep} (h : x ∈ l.take i ++ l.drop (i + 1)) : x ∈ l := by
  rcases List.mem_append.1 h with h | h
  · exact List.mem_of_mem_take h
  · exact List.mem_of_mem_drop h
theorem short_loop {N : Nat} (hN : 1000001 ≤ N) {p : TPlot} : ∀ (k : Nat) (l : List TPlotStep) (m m' : Nat) (r : Int), l.length ≤ k → l.length ≤ 1000000 → l.length < m → l.length < m' → lenL l → F_etchhouseref3_firstIdle N l = some r →
    ∃ l', F_plot_Short_L1 p m l = some (⟨p.Unit, p.Tools, l'⟩, 0) ∧ F_etchhouseref3_Short_L1 N p m' l r = some (⟨p.Unit, p.Tools, l'⟩, 0) ∧ l'.length ≤ l.length ∧ szSteps l' ≤ szSteps l ∧ lenL l'
  | k, l, m, m', r, hk, hl, hm, hm', hA, hr => by
    obtain ⟨m, rfl⟩ : ∃ k, m = k + 1 := ⟨m - 1, by omega⟩
    obtain ⟨m', rfl⟩ : ∃ k, m' = k + 1 := ⟨m' - 1, by omega⟩
    obtain ⟨r', r1, r2, r3⟩ := first_same hN hl
    rw [hr] at r2
    cases Option.some.inj r2
    rw [F_plot_Short_L1, F_etchhouseref3_Short_L1, r1, Option.bind_some]
    rcases r3 with r3 | ⟨r3, r4⟩
    · subst r3
      refine ⟨l, by rw [if_pos (by decide)], by rw [if_neg (by decide)], Nat.le_refl _, Nat.le_refl _, hA⟩
    · have hlen := struck_len r3 r4
      obtain ⟨r5, _, s2, _⟩ := first_same hN (l := l.take r.toNat ++ l.drop (r.toNat + 1)) (by omega)
      rw [if_neg (by simpa using r3), if_pos (by simpa using r3), delete_ok r3 r4 hl, withoutR_ok r3 r4 hl, Option.bind_some, Option.bind_some, s2, Option.bind_some]
      cases k with
      | zero => omega
      | succ k =>
        obtain ⟨l', a1, a2, a3, a4, a5⟩ := short_loop hN (p := p) k (l.take r.toNat ++ l.drop (r.toNat + 1)) m m' r5 (by omega) (by omega) (by omega) (by omega) (lenL_of fun x hx => lenL_mem hA (struck_mem hx)) s2
        exact ⟨l', a1, a2, by omega, Nat.le_trans a4 (struck_sz _ _), a5⟩
theorem Short_ok {N : Nat} {p : TPlot} (hN : FuG p N) (hL : LenP p) : ∃ r, F_plot_Short N p = some r ∧ F_etchhouseref3_Short N p = some r ∧ F_etchhouseref3_SamePlot N r.1 r.1 = some true := by
  have hN' := hN
  unfold FuG at hN'
  obtain ⟨e, e1, e2, e3⟩ := CheckPlot_ok hN.fu hL
  unfold F_plot_Short F_etchhouseref3_Short
  rw [e1, e2, Option.bind_some, Option.bind_some]
  by_cases h : e = 0
  · have hz : (e != 0) = false := by simp [h]
    simp only [hz, Bool.false_eq_true, if_false]
    have hG := e3 h
    have hf := hG.few
    have hnl : p.Steps.length ≤ ndSteps p.Steps := by
      generalize p.Steps = l
      induction l with
      | nil => simp
      | cons x l ih => have := ndStep_eq x; rw [ndSteps_cons, List.length_cons]; omega
    have hnd := hG.nd
    unfold F_plot_changed__Short_1
    rw [ctools_ok (by omega) (fun t ht => (hG.tools t ht).2) (by omega), Option.bind_some, cown_ok _ p.Steps N (Nat.le_refl _) (by omega) hG.steps hG.nd, Option.bind_some, Option.bind_some]
    obtain ⟨r, r1, r2, r3⟩ := first_same (N := N) (by omega) (l := p.Steps) (by omega)
    rw [r2, Option.bind_some]
    obtain ⟨l', a1, a2, a3, a4, a5⟩ := short_loop (N := N) (by omega) (p := p) _ p.Steps N N r (Nat.le_refl _) (by omega) (by omega) (by omega) hL.steps r2
    exact ⟨_, a1, a2, same_st hG (by omega) (by omega) a5⟩
  · have hz : (e != 0) = true := by simpa using h
    simp only [hz, if_true]
    exact ⟨_, rfl, rfl, same_zero (by omega)⟩
theorem lenS_wf {x : TPlotStep} (h : x.Wf) : lenS x := by
  induction h with
  | mk f1 f2 f3 l1 f4 f5 f6 l2 f7 ih =>
    rw [lenS_eq]
    exact ⟨f2, ⟨f3.fX, f3.fY⟩, ⟨l1, fun q hq => ⟨(f4 q hq).fX, (f4 q hq).fY⟩⟩, ⟨f5, f6⟩, l2, lenL_of ih⟩
theorem lenP_wf {p : TPlot} (h : p.Wf) : LenP p :=
  ⟨h.fUnit, fun t ht => ⟨(h.fTools.2 t ht).fName, fun r hr => ⟨⟨((h.fTools.2 t ht).fRects.2 r hr).fX0, ((h.fTools.2 t ht).fRects.2 r hr).fY0⟩, ((h.fTools.2 t ht).fRects.2 r hr).fX1, ((h.fTools.2 t ht).fRects.2 r hr).fY1⟩⟩, h.fSteps.1, lenL_of (fun x hx => lenS_wf (h.fSteps.2 x hx))⟩
theorem itoaS7 : itoaS 7 = some ⟨#[55]⟩ := by
  unfold itoaS
  rw [if_pos (by decide)]
  have : Lib.decDigits (7 : Int).toNat = [55] := by
    unfold Lib.decDigits
    rw [dif_pos (by decide)]
    rfl
  rw [this]
theorem awakeS_ok {N : Nat} (hN : 10 ≤ N) : F_etchhouselaw3_awake N = some true := by
  obtain ⟨N, rfl⟩ : ∃ n, N = n + 1 := ⟨N - 1, by omega⟩
  have h1 : F_plot_CheckPlot (N + 1) ⟨7, [], []⟩ = some 0 := rfl
  have h2 : F_plot_Text (N + 1) ⟨7, [], []⟩ = some (⟨#[117, 110, 105, 116, 32, 55, 10]⟩, 0) := by
    unfold F_plot_Text
    rw [h1, Option.bind_some, if_neg (by decide)]
    show (itoaS 7).bind _ = _
    rw [itoaS7]
    rfl
  unfold F_etchhouselaw3_awake
  rw [h2, Option.bind_some]
  simp [sEq_refl]
theorem PlotsShort_plain (p : TPlot) (h : p.Wf) : ∃ N, F_etchhouselaw3_PlotsShortMatchSpec N p = some true := by
  obtain ⟨N, hN⟩ : ∃ N, N = szSteps p.Steps + szTools p.Tools + 30000000 := ⟨_, rfl⟩
  refine ⟨N, ?_⟩
  obtain ⟨r, r1, r2, r3⟩ := Flat_ok (N := N) (p := p) (by unfold FuG; omega) (lenP_wf h)
  obtain ⟨s, s1, s2, s3⟩ := Short_ok (N := N) (p := p) (by unfold FuG; omega) (lenP_wf h)
  unfold F_etchhouselaw3_PlotsShortMatchSpec
  rw [r1, r2, s1, s2]
  simp only [Option.bind_some, r3, s3, beq_self_eq_true, Bool.and_self, if_true]
  rw [awakeS_ok (by omega)]; rfl
end Go.Proofs.YtocjndhpgjccoaaGreatDoor
