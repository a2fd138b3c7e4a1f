/- PlotsMovedMatchSpec: the plain law. Conditions: none beyond each theorem's own. -/
import Derived.Test.YtneghcpnehiffaaDoorJ3
import Derived.Test.YtneghcpnehiffaaDoorQPMMSR
namespace Go.Proofs.YtneghcpnehiffaaDoor
theorem minJ {a b : Int} (h : J64 a) (k : J64 b) : J64 (min a b) := by unfold J64 at *; omega
theorem maxJ {a b : Int} (h : J64 a) (k : J64 b) : J64 (max a b) := by unfold J64 at *; omega
theorem twS_sz (t : TTurn) (x : TPlotStep) : szStep (twS t x) = szStep x := by
  rw [szStep_eq, szStep_eq]; simp [twS]
theorem twS_len {t : TTurn} {x : TPlotStep} (h : lenS x) : lenS (twS t x) := by
  rw [lenS_eq] at h ⊢
  obtain ⟨h1, h2, h3, h4⟩ := h
  refine ⟨h1, ?_, ⟨by simpa [twS] using h3.1, fun q hq => ?_⟩, h4⟩
  · unfold twS
    cases plc x.Kind
    · exact h2
    · exact ⟨w64_rng _, w64_rng _⟩
  · obtain ⟨q0, _, rfl⟩ := List.mem_map.1 hq
    exact ⟨w64_rng _, w64_rng _⟩
theorem tw_szs {t : TTurn} : ∀ (l : List TPlotStep), szSteps (l.map (twS t)) = szSteps l
  | [] => rfl
  | x :: l => by rw [List.map_cons, szSteps_cons, szSteps_cons, twS_sz, tw_szs l]
theorem tl_szs {g : TRect → TRect} : ∀ (l : List TPlotTool), szTools (l.map (tlG g)) = szTools l
  | [] => rfl
  | x :: l => by rw [List.map_cons, szTools, szTools, tl_szs l]; rfl
theorem fl_mem {p : TPlot} {N : Nat} (hL : LenP p) (hO : PlotOk N p) {y : TPlotStep} (hy : y ∈ flL p.Steps ⟨0, 0⟩) : y.Kind ≠ 8 ∧ y.Points.length ≤ 2000 ∧ lenS y := by
  obtain ⟨x, b', d', x1, x2, x3, rfl⟩ := flL_mem _ p.Steps 0 _ y (Nat.le_refl _) hO.steps hL.steps hy
  refine ⟨x2, ?_, mvSt_len x3⟩
  show (x.Points.map (mvP b')).length ≤ 2000
  rw [List.length_map]
  by_cases h7 : x.Kind = 7
  · exact (x1.area h7).2.2.1
  · rw [x1.points h7]; simp
theorem Turned_ok {N : Nat} {p : TPlot} {t : TTurn} (hN : FuG p N) (hL : LenP p) : ∃ r, F_plot_TurnedPlot N p t = some r ∧ F_etchhouseref3_TurnedPlot N p t = some r ∧ F_etchhouseref3_SamePlot N r.1 r.1 = some true := by
  have hN' := hN
  unfold FuG at hN'
  obtain ⟨e, e1, e2, e3⟩ := CheckPlot_ok hN.fu hL
  unfold F_plot_TurnedPlot F_etchhouseref3_TurnedPlot
  rw [e1, e2, Option.bind_some, Option.bind_some, ChkT_ok, ChkTR_ok, Option.bind_some, Option.bind_some]
  by_cases h : e = 0
  · have hz : (e != 0) = false := by simp [h]
    simp only [hz, Bool.false_eq_true, if_false]
    have hG := e3 h
    have hf := hG.few
    have hU : p.Unit ≠ 0 := by have := hG.unit; omega
    have hO := (PlotOk_iff hN.fu hL).1 (by rw [e1, h])
    cases hc : chk6 t
    · exact ⟨_, rfl, rfl, same_zero (by omega)⟩
    · have hc' := hc
      unfold chk6 at hc'
      rw [Bool.and_eq_true] at hc'
      obtain ⟨hq, hp⟩ := hc'
      have hq : 0 ≤ t.Quarters ∧ t.Quarters ≤ 3 := by simpa using hq
      simp only [if_true, show ((0 : Int) != 0) = false from rfl, Bool.false_eq_true, if_false]
      rw [whole2_ok hU, inUnits_ok hU hp, Option.bind_some]
      cases hw : unB p.Unit t.At
      · exact ⟨_, rfl, rfl, same_zero (by omega)⟩
      · simp only [Bool.not_true, Bool.false_eq_true, if_false]
        obtain ⟨f1, f2, f3⟩ := fl_small hG hL hO ⟨0, 0⟩
        have hm := fun y hy => fl_mem hL hO (y := y) hy
        unfold F_plot_flatPlot
        rw [ownT_ok (g := fun r => r) (f := fun z0 => F_plot_asItIs z0) (fun r => rfl) (by omega) (fun t ht => (hG.tools t ht).2) (by omega), tools_id, Option.bind_some, flat_ok _ p.Steps N 0 _ (Nat.le_refl _) (by omega) hO.steps hO.cnt, Option.bind_some, Option.bind_some,
          ownT_ok (g := twRc ⟨t.Flip, t.Quarters, ⟨0, 0⟩⟩) (f := fun z0 => F_plot_TurnedPlot_1 N z0 ⟨t.Flip, t.Quarters, ⟨0, 0⟩⟩) (fun r => by unfold F_plot_TurnedPlot_1; rw [twRc_ok (t := ⟨t.Flip, t.Quarters, ⟨0, 0⟩⟩) (by omega) hq]; rfl) (by show p.Tools.length ≤ 2000; omega) (fun t ht => (hG.tools t ht).2) (by omega), Option.bind_some, dvU hU, dvU hU, Option.bind_some, Option.bind_some]
        have h1 := tst_loop (N := N) (t := t) (ax := unN p.Unit t.At.X) (ay := unN p.Unit t.At.Y) (by omega) hq (p := ⟨p.Unit, p.Tools, flL p.Steps ⟨0, 0⟩⟩) (tl := p.Tools.map (tlG (twRc ⟨t.Flip, t.Quarters, ⟨0, 0⟩⟩))) (flL p.Steps ⟨0, 0⟩) [] (fun y hy => (hm y hy).1)
        have h2 := rtl_loop (N := N) (t := t) (ax := unN p.Unit t.At.X) (ay := unN p.Unit t.At.Y) (b := true) (by omega) hq (flatR_ok _ p.Steps N 0 ⟨0, 0⟩ (Nat.le_refl _) (by omega) hO.steps hO.cnt) hf (fun t ht => (hG.tools t ht).2) p.Tools [] [] N rfl rfl (by omega)
        have h3 := rts_loop (N := N) (t := t) (ax := unN p.Unit t.At.X) (ay := unN p.Unit t.At.Y) (b := true) (by omega) hq (p := p) (tl := p.Tools.map (tlG (twRc ⟨t.Flip, t.Quarters, ⟨0, 0⟩⟩))) (flL p.Steps ⟨0, 0⟩) [] N (fun y hy => (hm y hy).2.1) (by simp; omega) (by omega)
        simp only [List.nil_append, List.length_nil] at h1 h2 h3
        rw [show ((0 : Nat) : Int) = 0 from rfl] at h2 h3
        rw [h1, h2, h3]
        have hs1 := tw_szs (t := ⟨t.Flip, t.Quarters, ⟨unN p.Unit t.At.X, unN p.Unit t.At.Y⟩⟩) (flL p.Steps ⟨0, 0⟩)
        have hs2 := tl_szs (g := twRc ⟨t.Flip, t.Quarters, ⟨0, 0⟩⟩) p.Tools
        have hA : lenL ((flL p.Steps ⟨0, 0⟩).map (twS ⟨t.Flip, t.Quarters, ⟨unN p.Unit t.At.X, unN p.Unit t.At.Y⟩⟩)) := lenL_of fun y hy => by
          obtain ⟨y0, k0, rfl⟩ := List.mem_map.1 hy
          exact twS_len (hm y0 k0).2.2
        refine told_ok (N := N) (q := ⟨p.Unit, p.Tools.map (tlG (twRc ⟨t.Flip, t.Quarters, ⟨0, 0⟩⟩)), (flL p.Steps ⟨0, 0⟩).map (twS ⟨t.Flip, t.Quarters, ⟨unN p.Unit t.At.X, unN p.Unit t.At.Y⟩⟩)⟩) ?_ ⟨hL.unit, fun x hx => ?_, ?_, hA⟩ (samePl_ok ?_ ?_ hA ?_ ?_ fun x hx => ?_) (by omega)
        · unfold Fu; show szSteps ((flL p.Steps ⟨0, 0⟩).map _) + szTools (p.Tools.map _) + 10000 ≤ N; rw [hs1, hs2]; omega
        · obtain ⟨x0, k0, rfl⟩ := List.mem_map.1 hx
          refine ⟨(hL.tools x0 k0).1, fun r hr => ?_⟩
          obtain ⟨r0, _, rfl⟩ := List.mem_map.1 hr
          exact ⟨⟨minJ (w64_rng _) (w64_rng _), minJ (w64_rng _) (w64_rng _)⟩, maxJ (w64_rng _) (w64_rng _), maxJ (w64_rng _) (w64_rng _)⟩
        · show ((flL p.Steps ⟨0, 0⟩).map _).length ≤ _; rw [List.length_map]; omega
        · show szSteps ((flL p.Steps ⟨0, 0⟩).map _) + 5 ≤ N; rw [hs1]; omega
        · show ((flL p.Steps ⟨0, 0⟩).map _).length ≤ _; rw [List.length_map]; omega
        · show (p.Tools.map _).length < N; rw [List.length_map]; omega
        · show (p.Tools.map _).length ≤ _; rw [List.length_map]; omega
        · obtain ⟨x0, k0, rfl⟩ := List.mem_map.1 hx
          have := (hG.tools x0 k0).2
          simp [tlG]; omega
  · have hz : (e != 0) = true := by simpa using h
    simp only [hz, if_true]
    exact ⟨_, rfl, rfl, same_zero (by omega)⟩
theorem lenS_wf {x : TPlotStep} (h : x.Wf) : lenS x := by
  induction h with
  | mk f1 f2 f3 l1 f4 f5 f6 l2 f7 ih =>
    rw [lenS_eq]
    exact ⟨f2, ⟨f3.fX, f3.fY⟩, ⟨l1, fun q hq => ⟨(f4 q hq).fX, (f4 q hq).fY⟩⟩, ⟨f5, f6⟩, l2, lenL_of ih⟩
theorem lenP_wf {p : TPlot} (h : p.Wf) : LenP p :=
  ⟨h.fUnit, fun t ht => ⟨(h.fTools.2 t ht).fName, fun r hr => ⟨⟨((h.fTools.2 t ht).fRects.2 r hr).fX0, ((h.fTools.2 t ht).fRects.2 r hr).fY0⟩, ((h.fTools.2 t ht).fRects.2 r hr).fX1, ((h.fTools.2 t ht).fRects.2 r hr).fY1⟩⟩, h.fSteps.1, lenL_of (fun x hx => lenS_wf (h.fSteps.2 x hx))⟩
theorem itoaS7 : itoaS 7 = some ⟨#[55]⟩ := by
  unfold itoaS
  rw [if_pos (by decide)]
  have : Lib.decDigits (7 : Int).toNat = [55] := by
    unfold Lib.decDigits
    rw [dif_pos (by decide)]
    rfl
  rw [this]
theorem awakeS_ok {N : Nat} (hN : 10 ≤ N) : F_etchhouselaw3_awake N = some true := by
  obtain ⟨N, rfl⟩ : ∃ n, N = n + 1 := ⟨N - 1, by omega⟩
  have h1 : F_plot_CheckPlot (N + 1) ⟨7, [], []⟩ = some 0 := rfl
  have h2 : F_plot_Text (N + 1) ⟨7, [], []⟩ = some (⟨#[117, 110, 105, 116, 32, 55, 10]⟩, 0) := by
    unfold F_plot_Text
    rw [h1, Option.bind_some, if_neg (by decide)]
    show (itoaS 7).bind _ = _
    rw [itoaS7]
    rfl
  unfold F_etchhouselaw3_awake
  rw [h2, Option.bind_some]
  simp [sEq_refl]
theorem PlotsMoved_plain (p : TPlot) (q : TPoint) (t : TTurn) (h : p.Wf) (_ : q.Wf) (_ : t.Wf) : ∃ N, F_etchhouselaw3_PlotsMovedMatchSpec N p q t = some true := by
  obtain ⟨N, hN⟩ : ∃ N, FuG p N := ⟨_, Nat.le_refl _⟩
  refine ⟨N, ?_⟩
  have h10 : 10 ≤ N := by unfold FuG at hN; omega
  obtain ⟨r, r1, r2, r3⟩ := Moved_ok (q := q) hN (lenP_wf h)
  obtain ⟨s, s1, s2, s3⟩ := Turned_ok (t := t) hN (lenP_wf h)
  unfold F_etchhouselaw3_PlotsMovedMatchSpec
  rw [r1, r2, s1, s2]
  simp only [Option.bind_some]
  rw [r3, s3]
  simp only [Option.bind_some, beq_self_eq_true, Bool.and_self, if_true]
  rw [awakeS_ok h10]; rfl
end Go.Proofs.YtneghcpnehiffaaDoor
