/- PlotsScaledMatchSpec: the plain law. Conditions: none beyond each theorem's own. -/
import Derived.Test.YtocjndhpgjccoaaDoorJ3
import Derived.Test.YtocjndhpgjccoaaDoorQPSMSR
namespace Go.Proofs.YtocjndhpgjccoaaDoor
theorem w64_rng (x : Int) : J64 (w64 x) := by
  unfold J64 w64
  simp [IntKind.wrap, IntKind.bits, IntKind.signed]
  omega
theorem fu_sc {N : Nat} {p : TPlot} {V : Int} (h : Fu p N) : Fu (scP p V) N := by
  unfold Fu at h ⊢
  show szSteps (scSts p.Unit V p.Steps) + szTools (p.Tools.map (scTl p.Unit V)) + 10000 ≤ N
  rw [sz_sc _ _ (Nat.le_refl _), szt_sc]; exact h
theorem lenP_sc {p : TPlot} {V : Int} (hV : J64 V) (h : LenP p) : LenP (scP p V) := by
  refine ⟨hV, fun t ht => ?_, by show (scSts p.Unit V p.Steps).length ≤ _; rw [scSts_len]; exact h.sl, len_sc (fun n => w64_rng _) _ _ (Nat.le_refl _) h.steps⟩
  obtain ⟨t0, h0, rfl⟩ := List.mem_map.1 ht
  refine ⟨(h.tools t0 h0).1, fun r hr => ?_⟩
  obtain ⟨r0, _, rfl⟩ := List.mem_map.1 hr
  exact ⟨⟨w64_rng _, w64_rng _⟩, w64_rng _, w64_rng _⟩
theorem same_sc {N : Nat} {p : TPlot} {V : Int} (hN : Fu p N) (hL : LenP p) (hG : GoodP p) : F_etchhouseref3_SamePlot N (scP p V) (scP p V) = some true := by
  have hf := hG.few
  have hN2 := hN
  unfold Fu at hN2
  refine samePl_ok ?_ ?_ (len_sc (fun n => w64_rng _) _ _ (Nat.le_refl _) hL.steps) ?_ ?_ ?_
  · show szSteps (scSts p.Unit V p.Steps) + 5 ≤ N; rw [sz_sc _ _ (Nat.le_refl _)]; omega
  · show (scSts p.Unit V p.Steps).length ≤ _; rw [scSts_len]; exact hL.sl
  · show (p.Tools.map _).length < N; rw [List.length_map]; omega
  · show (p.Tools.map _).length ≤ _; rw [List.length_map]; omega
  · intro t ht
    obtain ⟨t0, h0, rfl⟩ := List.mem_map.1 ht
    have := (hG.tools t0 h0).2
    simp [scTl]; omega
theorem same_zero {N : Nat} (hN : 10 ≤ N) : F_etchhouseref3_SamePlot N ⟨0, [], []⟩ ⟨0, [], []⟩ = some true :=
  samePl_ok (by show szSteps [] + 5 ≤ N; rw [szSteps_nil]; omega) (by simp) (by show lenL []; rw [lenL]; trivial) (by simp; omega) (by simp) (fun t h => by cases h)
theorem Scaled_ok {N : Nat} {p : TPlot} {V : Int} (hN : Fu p N) (hL : LenP p) : ∃ r, F_plot_Scaled N p V = some r ∧ F_etchhouseref3_Scaled N p V = some r ∧ F_etchhouseref3_SamePlot N r.1 r.1 = some true := by
  have hN' := hN
  unfold Fu at hN'
  obtain ⟨e, e1, e2, e3⟩ := CheckPlot_ok hN hL
  have hw : F_plot_within V 1 1000 = some (decide (1 ≤ V) && decide (V ≤ 1000)) := rfl
  have hw2 : F_etchhouseref3_within V 1 1000 = some (decide (1 ≤ V) && decide (V ≤ 1000)) := rfl
  unfold F_plot_Scaled F_etchhouseref3_Scaled
  rw [e1, e2, Option.bind_some, Option.bind_some, hw, hw2, Option.bind_some, Option.bind_some]
  by_cases h0 : e = 0
  · have hz : (e != 0) = false := by simp [h0]
    have hG := e3 h0
    simp only [hz, Bool.false_eq_true, if_false]
    by_cases hv : 1 ≤ V ∧ V ≤ 1000
    · have hb : (decide (1 ≤ V) && decide (V ≤ 1000)) = true := by simpa using hv
      simp only [hb, Bool.not_true, Bool.false_eq_true, if_false]
      rw [scaledP_ok hN hG (by omega), scaledR_ok hN hG (by omega), Option.bind_some, Option.bind_some]
      cases okP p V
      · exact ⟨_, rfl, rfl, same_zero (by omega)⟩
      · simp only [Bool.not_true, Bool.false_eq_true, if_false]
        obtain ⟨e', f1, f2, _⟩ := CheckPlot_ok (fu_sc (V := V) hN) (lenP_sc (V := V) ⟨by omega, by omega⟩ hL)
        unfold F_plot_told
        rw [f1, f2]
        simp only [Option.bind_some]
        by_cases h1 : e' = 0
        · subst h1
          exact ⟨_, rfl, rfl, same_sc hN hL hG⟩
        · have hz1 : (e' != 0) = true := by simpa using h1
          simp only [hz1, if_true, Option.bind_some]
          have hb1 : (e' == 0) = false := by simpa using h1
          rw [hb1]
          exact ⟨_, rfl, rfl, same_zero (by omega)⟩
    · have hb : (decide (1 ≤ V) && decide (V ≤ 1000)) = false := by rw [Bool.eq_false_iff]; simpa using hv
      rw [hb]
      exact ⟨_, rfl, rfl, same_zero (by omega)⟩
  · have hz : (e != 0) = true := by simpa using h0
    simp only [hz, if_true]
    exact ⟨_, rfl, rfl, same_zero (by omega)⟩
theorem lenS_wf {x : TPlotStep} (h : x.Wf) : lenS x := by
  induction h with
  | mk f1 f2 f3 l1 f4 f5 f6 l2 f7 ih =>
    rw [lenS_eq]
    exact ⟨f2, ⟨f3.fX, f3.fY⟩, ⟨l1, fun q hq => ⟨(f4 q hq).fX, (f4 q hq).fY⟩⟩, ⟨f5, f6⟩, l2, lenL_of ih⟩
theorem lenP_wf {p : TPlot} (h : p.Wf) : LenP p :=
  ⟨h.fUnit, fun t ht => ⟨(h.fTools.2 t ht).fName, fun r hr => ⟨⟨((h.fTools.2 t ht).fRects.2 r hr).fX0, ((h.fTools.2 t ht).fRects.2 r hr).fY0⟩, ((h.fTools.2 t ht).fRects.2 r hr).fX1, ((h.fTools.2 t ht).fRects.2 r hr).fY1⟩⟩, h.fSteps.1, lenL_of (fun x hx => lenS_wf (h.fSteps.2 x hx))⟩
theorem itoaS7 : itoaS 7 = some ⟨#[55]⟩ := by
  unfold itoaS
  rw [if_pos (by decide)]
  have : Lib.decDigits (7 : Int).toNat = [55] := by
    unfold Lib.decDigits
    rw [dif_pos (by decide)]
    rfl
  rw [this]
theorem awakeS_ok {N : Nat} (hN : 10 ≤ N) : F_etchhouselaw3_awake N = some true := by
  obtain ⟨N, rfl⟩ : ∃ n, N = n + 1 := ⟨N - 1, by omega⟩
  have h1 : F_plot_CheckPlot (N + 1) ⟨7, [], []⟩ = some 0 := rfl
  have h2 : F_plot_Text (N + 1) ⟨7, [], []⟩ = some (⟨#[117, 110, 105, 116, 32, 55, 10]⟩, 0) := by
    unfold F_plot_Text
    rw [h1, Option.bind_some, if_neg (by decide)]
    show (itoaS 7).bind _ = _
    rw [itoaS7]
    rfl
  unfold F_etchhouselaw3_awake
  rw [h2, Option.bind_some]
  simp [sEq_refl]
theorem PlotsScaled_plain (p : TPlot) (n : Int) (h : p.Wf) (_ : I64 n) : ∃ N, F_etchhouselaw3_PlotsScaledMatchSpec N p n = some true := by
  refine ⟨szSteps p.Steps + szTools p.Tools + 20000, ?_⟩
  obtain ⟨r, r1, r2, r3⟩ := Scaled_ok (N := szSteps p.Steps + szTools p.Tools + 20000) (p := p) (V := n) (by unfold Fu; omega) (lenP_wf h)
  unfold F_etchhouselaw3_PlotsScaledMatchSpec
  rw [r1, r2, Option.bind_some, Option.bind_some, r3]
  simp only [Option.bind_some, beq_self_eq_true, Bool.and_self, if_true]
  rw [awakeS_ok (by omega)]; rfl
end Go.Proofs.YtocjndhpgjccoaaDoor
