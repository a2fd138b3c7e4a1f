/- Plots: Text: the program's and the reference's alike; PlotsMatchSpec. Plain. Conditions: none beyond each theorem's own. -/
import Derived.Test.YtocjndhpgjccoaaDoorJ3
import Derived.Test.YtocjndhpgjccoaaDoorQPMSR
namespace Go.Proofs.YtocjndhpgjccoaaDoor
/-- The text of a plot. -/
def plT (p : TPlot) : ByteArray := (((⟨#[117, 110, 105, 116, 32]⟩ ++ it p.Unit) ++ ⟨#[10]⟩) ++ toolsT p.Tools) ++ stT p.Steps
def plR (p : TPlot) : ByteArray × Int := if 200000 < ((plT p).size : Int) then (ByteArray.empty, 2) else (plT p, 0)
theorem rc4 (r : TRect) : ptsT [TPoint.mk r.X0 r.Y0, TPoint.mk r.X1 r.Y1] = ((nt r.X0 ++ nt r.Y0) ++ nt r.X1) ++ nt r.Y1 := by rw [pts2]; simp only [ByteArray.append_assoc]
theorem prects_loop {k : ByteArray → Option (ByteArray × Int)} : ∀ (l : List TRect) (i : Nat) (m : ByteArray), (∀ r ∈ l, RW r) → m.size + 88 * l.length + 1 ≤ 1000000000000 → F_plot_Text_L4 k l i m = k ((m ++ rcT l) ++ ⟨#[10]⟩)
  | [], i, m, _, hs => by
    have h10 : (⟨#[10]⟩ : ByteArray).size = 1 := rfl
    rw [F_plot_Text_L4, sbW_ok (by omega), Option.bind_some, rcT, ByteArray.append_empty]
  | r :: l, i, m, h, hs => by
    have h1 := h r List.mem_cons_self
    have a := nt_size h1.1.1
    have b := nt_size h1.1.2
    have c := nt_size h1.2.1
    have d := nt_size h1.2.2
    rw [List.length_cons] at hs
    rw [F_plot_Text_L4, points_ok (by simpa using ⟨h1.1, h1.2⟩) (by simp), Option.bind_some, rc4, sbW_ok (by simp only [ByteArray.size_append]; omega), Option.bind_some, prects_loop l (i + 1) _ (fun x hx => h x (List.mem_cons_of_mem _ hx)) (by simp only [ByteArray.size_append]; omega), rcT]
    simp only [ByteArray.append_assoc]
set_option maxRecDepth 100000 in
theorem ptools_loop {N : Nat} {p : TPlot} (hN : Fu p N) (hL : LenP p) (hG : GoodP p) : ∀ (l : List TPlotTool) (i : Nat) (m : ByteArray), (∀ t ∈ l, TW t) → 1 ≤ m.size → m.size + 200000 * l.length ≤ 100000000000 → F_plot_Text_L3 N p l i m = some (if 200000 < (((m ++ toolsT l) ++ stT p.Steps).size : Int) then (ByteArray.empty, 2) else ((m ++ toolsT l) ++ stT p.Steps, 0))
  | [], i, m, _, h1, hs => by
    have hnd := hG.nd
    unfold Fu at hN
    rw [F_plot_Text_L3, writeSteps_ok (szSteps p.Steps) p.Steps N (Nat.le_refl _) (by omega) hG.steps hL.steps m (by omega), Option.bind_some, toolsT, ByteArray.append_empty]
    unfold sbL
    rw [Option.bind_some]
    by_cases hb : 200000 < ((m ++ stT p.Steps).size : Int)
    · rw [if_pos (decide_eq_true hb), if_pos hb]
    · rw [if_neg (by simpa using hb), if_neg hb]
      unfold sbS
      rw [if_pos (by rw [ByteArray.size_append]; omega)]; rfl
  | t :: l, i, m, h, h1, hs => by
    have ht := h t List.mem_cons_self
    have hz := toolT_size ht
    have h5 : (⟨#[116, 111, 111, 108, 32]⟩ : ByteArray).size = 5 := rfl
    have hn := ht.nm
    have hr := ht.nr
    rw [List.length_cons] at hs
    rw [F_plot_Text_L3, catS_ok (by omega), Option.bind_some, sbW_ok (by simp only [ByteArray.size_append]; omega), Option.bind_some, prects_loop t.Rects 0 _ ht.rs (by simp only [ByteArray.size_append]; omega)]
    have e : ((m ++ ((⟨#[116, 111, 111, 108, 32]⟩ : ByteArray) ++ t.Name)) ++ rcT t.Rects) ++ ⟨#[10]⟩ = m ++ toolT t := by unfold toolT; simp only [ByteArray.append_assoc]
    rw [e, ptools_loop hN hL hG l (i + 1) _ (fun x hx => h x (List.mem_cons_of_mem _ hx)) (by rw [ByteArray.size_append]; omega) (by rw [ByteArray.size_append]; omega), toolsT]
    simp only [ByteArray.append_assoc]
theorem rrects_loop {N : Nat} (hN : 3000 ≤ N) {p : TPlot} {t : TPlotTool} {j : Int} (hj : idx p.Tools j = some t) {k : ByteArray → Int → Option (ByteArray × Int)} : ∀ (suf pre : List TRect) (m : Nat) (x : ByteArray), t.Rects = pre ++ suf → (∀ r ∈ suf, RW r) → x.size + 88 * suf.length + 1 ≤ 1000000000000 → suf.length < m → t.Rects.length ≤ 2000 →
    F_etchhouseref3_Text_L4 N p j k m x (pre.length : Int) = k ((x ++ rcT suf) ++ ⟨#[10]⟩) (w64 (j + 1))
  | [], pre, m, x, he, _, hs, hm, hl => by
    have h10 : (⟨#[10]⟩ : ByteArray).size = 1 := rfl
    obtain ⟨m, rfl⟩ : ∃ k, m = k + 1 := ⟨m - 1, by omega⟩
    rw [F_etchhouseref3_Text_L4, hj, Option.bind_some, show decide ((pre.length : Int) < (t.Rects.length : Int)) = false from decide_eq_false (by rw [he]; simp), if_neg (by simp), rcT, ByteArray.append_empty, catS_ok (by omega), Option.bind_some]
  | r :: l, pre, m, x, he, h, hs, hm, hl => by
    obtain ⟨m, rfl⟩ : ∃ k, m = k + 1 := ⟨m - 1, by simp at hm; omega⟩
    simp at hm
    have hlen : t.Rects.length = pre.length + (l.length + 1) := by rw [he]; simp
    have h1 := h r List.mem_cons_self
    have a := nt_size h1.1.1
    have b := nt_size h1.1.2
    have c := nt_size h1.2.1
    have d := nt_size h1.2.2
    rw [List.length_cons] at hs
    rw [F_etchhouseref3_Text_L4, hj, Option.bind_some, show decide ((pre.length : Int) < (t.Rects.length : Int)) = true from decide_eq_true (by omega), if_pos rfl, Option.bind_some, show idx t.Rects (pre.length : Int) = some r by rw [he]; exact idx_mid _ _ _, Option.bind_some,
      numbers_ok (l := [r.X0, r.Y0, r.X1, r.Y1]) (by simp; exact ⟨h1.1.1, h1.1.2, h1.2.1, h1.2.2⟩) (by simp) (by omega), Option.bind_some, nums4, catS_ok (by simp only [ByteArray.size_append]; omega), Option.bind_some, up_mid2 _ r (by omega),
      rrects_loop hN hj l (pre ++ [r]) m _ (by rw [he]; simp) (fun y hy => h y (List.mem_cons_of_mem _ hy)) (by simp only [ByteArray.size_append]; omega) (by omega) hl, rcT]
    simp only [ByteArray.append_assoc]
set_option maxRecDepth 100000 in
theorem rtools_loop {N : Nat} {p : TPlot} (hN : Fu p N) (hL : LenP p) (hG : GoodP p) : ∀ (suf pre : List TPlotTool) (n : Nat) (m : ByteArray), p.Tools = pre ++ suf → (∀ t ∈ suf, TW t) → m.size + 200000 * suf.length ≤ 100000000000 → suf.length < n →
    F_etchhouseref3_Text_L3 N p n m (pre.length : Int) = some (if 200000 < (((m ++ toolsT suf) ++ stT p.Steps).size : Int) then (ByteArray.empty, 2) else ((m ++ toolsT suf) ++ stT p.Steps, 0))
  | [], pre, n, m, he, _, hs, hn => by
    obtain ⟨n, rfl⟩ : ∃ k, n = k + 1 := ⟨n - 1, by omega⟩
    have hnd := hG.nd
    have hsz := stT_size (szSteps p.Steps) p.Steps (Nat.le_refl _) hG.steps hL.steps
    unfold Fu at hN
    rw [F_etchhouseref3_Text_L3, show decide ((pre.length : Int) < (p.Tools.length : Int)) = false from decide_eq_false (by rw [he]; simp), if_neg (by simp), stepText_ok (szSteps p.Steps) p.Steps N (Nat.le_refl _) (by omega) hG.steps hL.steps hL.sl (by omega), Option.bind_some, toolsT, ByteArray.append_empty,
      catS_ok (by omega), Option.bind_some]
    by_cases hb : 200000 < ((m ++ stT p.Steps).size : Int)
    · rw [if_pos (decide_eq_true hb), if_pos hb]
    · rw [if_neg (by simpa using hb), if_neg hb]
  | t :: l, pre, n, m, he, h, hs, hn => by
    obtain ⟨n, rfl⟩ : ∃ k, n = k + 1 := ⟨n - 1, by simp at hn; omega⟩
    simp at hn
    have hlen : p.Tools.length = pre.length + (l.length + 1) := by rw [he]; simp
    have hfew := hG.few
    have ht := h t List.mem_cons_self
    have hz := toolT_size ht
    have h5 : (⟨#[116, 111, 111, 108, 32]⟩ : ByteArray).size = 5 := rfl
    have hnm := ht.nm
    have hr := ht.nr
    have hN' := hN
    unfold Fu at hN'
    have hj : idx p.Tools (pre.length : Int) = some t := by rw [he]; exact idx_mid _ _ _
    rw [List.length_cons] at hs
    have hrr := rrects_loop (N := N) (by omega) hj (k := F_etchhouseref3_Text_L3 N p n) t.Rects [] N (m ++ ((⟨#[116, 111, 111, 108, 32]⟩ : ByteArray) ++ t.Name)) rfl ht.rs (by simp only [ByteArray.size_append]; omega) (by omega) ht.nr
    simp only [List.length_nil] at hrr
    rw [show ((0 : Nat) : Int) = 0 from rfl] at hrr
    rw [F_etchhouseref3_Text_L3, show decide ((pre.length : Int) < (p.Tools.length : Int)) = true from decide_eq_true (by omega), if_pos rfl, hj, Option.bind_some, catS_ok (by omega), Option.bind_some, catS_ok (by simp only [ByteArray.size_append]; omega), Option.bind_some, hrr]
    have e : ((m ++ ((⟨#[116, 111, 111, 108, 32]⟩ : ByteArray) ++ t.Name)) ++ rcT t.Rects) ++ ⟨#[10]⟩ = m ++ toolT t := by unfold toolT; simp only [ByteArray.append_assoc]
    rw [e, up_mid2 _ t (by omega), rtools_loop hN hL hG l (pre ++ [t]) n _ (by rw [he]; simp) (fun x hx => h x (List.mem_cons_of_mem _ hx)) (by rw [ByteArray.size_append]; omega) (by omega), toolsT]
    simp only [ByteArray.append_assoc]
theorem tw_of {p : TPlot} (hL : LenP p) (hG : GoodP p) : ∀ t ∈ p.Tools, TW t := fun t ht => ⟨(hG.tools t ht).1, (hG.tools t ht).2, fun r hr => (hL.tools t ht).2 r hr⟩
theorem Text_ok {N : Nat} {p : TPlot} (hN : Fu p N) (hL : LenP p) : ∃ r, F_plot_Text N p = some r ∧ F_etchhouseref3_Text N p = some r ∧ ∃ e, F_plot_CheckPlot N p = some e ∧ F_etchhouseref3_CheckPlot N p = some e ∧ r = (if e = 0 then plR p else (ByteArray.empty, e)) ∧ (e = 0 → GoodP p) := by
  obtain ⟨e, e1, e2, e3⟩ := CheckPlot_ok hN hL
  unfold F_plot_Text F_etchhouseref3_Text
  rw [e1, e2, Option.bind_some, Option.bind_some]
  by_cases h0 : e = 0
  · have hG := e3 h0
    have hz0 : (e != 0) = false := by simp [h0]
    have hu := it_size hL.unit
    have h5 : (⟨#[117, 110, 105, 116, 32]⟩ : ByteArray).size = 5 := rfl
    have h10 : (⟨#[10]⟩ : ByteArray).size = 1 := rfl
    have hfew := hG.few
    have hN' := hN
    unfold Fu at hN'
    have ha : ByteArray.empty.size = 0 := rfl
    simp only [hz0, Bool.false_eq_true, if_false]
    rw [it_ok hL.unit, Option.bind_some, Option.bind_some, catS_ok (by omega), Option.bind_some, Option.bind_some, catS_ok (by rw [ByteArray.size_append]; omega), Option.bind_some, Option.bind_some, sbW_ok (by simp only [ByteArray.size_append]; omega), Option.bind_some, ByteArray.empty_append,
      ptools_loop hN hL hG p.Tools 0 _ (tw_of hL hG) (by simp only [ByteArray.size_append]; omega) (by simp only [ByteArray.size_append]; omega)]
    have hr := rtools_loop hN hL hG p.Tools [] N ((⟨#[117, 110, 105, 116, 32]⟩ ++ it p.Unit) ++ ⟨#[10]⟩) rfl (tw_of hL hG) (by simp only [ByteArray.size_append]; omega) (by omega)
    simp only [List.length_nil] at hr
    rw [show ((0 : Nat) : Int) = 0 from rfl] at hr
    exact ⟨_, rfl, hr, e, rfl, rfl, by rw [if_pos h0]; rfl, e3⟩
  · have hz0 : (e != 0) = true := by simpa using h0
    simp only [hz0, if_true]
    exact ⟨_, rfl, rfl, e, rfl, rfl, by rw [if_neg h0], e3⟩
/-! The law. -/
theorem itoa7 : it 7 = ⟨#[55]⟩ := by
  unfold it Lib.itoa
  rw [if_neg (by decide)]
  unfold Lib.decDigits
  rw [dif_pos (by decide)]
  rfl
theorem awake_ok {N : Nat} (hN : 20000 ≤ N) : F_etchhouselaw3_awake N = some true := by
  have hF : Fu ⟨7, [], []⟩ N := by unfold Fu; rw [szSteps_nil]; show 0 + 0 + 10000 ≤ N; omega
  have hL : LenP ⟨7, [], []⟩ := ⟨⟨by decide, by decide⟩, fun t h => (by cases h), by simp, by rw [lenL]; trivial⟩
  obtain ⟨r, h1, _, e, h2, _, h3, _⟩ := Text_ok hF hL
  have he : e = 0 := by
    obtain ⟨N, rfl⟩ : ∃ n, N = n + 1 := ⟨N - 1, by omega⟩
    have : F_plot_CheckPlot (N + 1) ⟨7, [], []⟩ = some 0 := rfl
    rw [this] at h2; exact (Option.some.inj h2).symm
  unfold F_etchhouselaw3_awake
  rw [h1, Option.bind_some, h3, if_pos he]
  have hp : plT ⟨7, [], []⟩ = ⟨#[117, 110, 105, 116, 32, 55, 10]⟩ := by
    unfold plT
    rw [itoa7, stT_nil]
    show _ ++ ByteArray.empty ++ ByteArray.empty = _
    rw [ByteArray.append_empty, ByteArray.append_empty]
    rfl
  unfold plR
  rw [hp, if_neg (by decide)]
  simp [sEq_refl]
theorem lenS_wf {x : TPlotStep} (h : x.Wf) : lenS x := by
  induction h with
  | mk f1 f2 f3 l1 f4 f5 f6 l2 f7 ih =>
    rw [lenS_eq]
    exact ⟨f2, ⟨f3.fX, f3.fY⟩, ⟨l1, fun q hq => ⟨(f4 q hq).fX, (f4 q hq).fY⟩⟩, ⟨f5, f6⟩, l2, lenL_of ih⟩
theorem lenP_wf {p : TPlot} (h : p.Wf) : LenP p :=
  ⟨h.fUnit, fun t ht => ⟨(h.fTools.2 t ht).fName, fun r hr => ⟨⟨((h.fTools.2 t ht).fRects.2 r hr).fX0, ((h.fTools.2 t ht).fRects.2 r hr).fY0⟩, ((h.fTools.2 t ht).fRects.2 r hr).fX1, ((h.fTools.2 t ht).fRects.2 r hr).fY1⟩⟩, h.fSteps.1, lenL_of (fun x hx => lenS_wf (h.fSteps.2 x hx))⟩
theorem Plots_plain (p : TPlot) (h : p.Wf) : ∃ N, F_etchhouselaw3_PlotsMatchSpec N p = some true := by
  refine ⟨szSteps p.Steps + szTools p.Tools + 20000, ?_⟩
  obtain ⟨r, r1, r2, e, e1, e2, _, _⟩ := Text_ok (N := szSteps p.Steps + szTools p.Tools + 20000) (p := p) (by unfold Fu; omega) (lenP_wf h)
  unfold F_etchhouselaw3_PlotsMatchSpec
  rw [r1, r2, e1, e2]
  simp only [Option.bind_some, beq_self_eq_true, sEq_refl, Bool.and_self, if_true]
  rw [awake_ok (by omega)]; rfl
end Go.Proofs.YtocjndhpgjccoaaDoor
