/- PlotsNeedlessCanGo: without a step that is needless a plot draws the same. Plain. Conditions: none beyond each theorem's own. -/
import Derived.Test.YtoageaoknnnfbaaGreatDoorJ4
import Derived.Test.YtoageaoknnnfbaaGreatDoorQPNCGR
namespace Go.Proofs.YtoageaoknnnfbaaGreatDoor
theorem lenS_wf {x : zD} (h : x.Wf) : lenS x := by
  induction h with
  | mk f1 f2 f3 l1 f4 f5 f6 l2 f7 ih =>
    rw [lenS_eq]
    exact ⟨f2, ⟨f3.fX, f3.fY⟩, ⟨l1, fun q hq => ⟨(f4 q hq).fX, (f4 q hq).fY⟩⟩, ⟨f5, f6⟩, l2, lenL_of ih⟩
theorem lenP_wf {p : TPlot} (h : p.Wf) : LenP p :=
  ⟨h.fUnit, fun t ht => ⟨(h.fTools.2 t ht).fName, fun r hr => ⟨⟨((h.fTools.2 t ht).fRects.2 r hr).fX0, ((h.fTools.2 t ht).fRects.2 r hr).fY0⟩, ((h.fTools.2 t ht).fRects.2 r hr).fX1, ((h.fTools.2 t ht).fRects.2 r hr).fY1⟩⟩, h.fSteps.1, lenL_of (fun x hx => lenS_wf (h.fSteps.2 x hx))⟩
theorem itoaS7 : itoaS 7 = some ⟨#[55]⟩ := by
  unfold itoaS
  rw [if_pos (by decide)]
  have : Lib.decDigits (7 : Int).toNat = [55] := by
    unfold Lib.decDigits
    rw [dif_pos (by decide)]
    rfl
  rw [this]
theorem awakeS_ok {N : Nat} (hN : 10 ≤ N) : F_etchhouselaw3_awake N = some true := by
  obtain ⟨N, rfl⟩ : ∃ n, N = n + 1 := ⟨N - 1, by omega⟩
  have h1 : F_plot_CheckPlot (N + 1) ⟨7, [], []⟩ = some 0 := rfl
  have h2 : F_plot_Text (N + 1) ⟨7, [], []⟩ = some (⟨#[117, 110, 105, 116, 32, 55, 10]⟩, 0) := by
    unfold F_plot_Text
    rw [h1, Option.bind_some, if_neg (by decide)]
    show (itoaS 7).bind _ = _
    rw [itoaS7]
    rfl
  unfold F_etchhouselaw3_awake
  rw [h2, Option.bind_some]
  simp [sEq_refl]
theorem PlotsNeedless_plain (p : TPlot) (n : Int) (h : p.Wf) (_ : I64 n) : ∃ N, F_etchhouselaw3_PlotsNeedlessCanGo N p n = some true := by
  obtain ⟨N, hN⟩ : ∃ N, N = szSteps p.Steps + szTools p.Tools + 30000000000 := ⟨_, rfl⟩
  refine ⟨N, ?_⟩
  have hL := lenP_wf h
  have hF : Fu p N := by unfold Fu; omega
  obtain ⟨out, e, o1, o2, o3⟩ := Needless_ok (N := N) (by omega) hF hL
  unfold F_etchhouselaw3_PlotsNeedlessCanGo
  rw [o1, Option.bind_some, awakeS_ok (by omega)]
  by_cases hc : e ≠ 0 ∨ n < 0 ∨ (out.length : Int) ≤ n
  · rw [if_pos (by simp; omega)]
    have hz : ((e == 0) || ((out.length : Int) == 0)) = true := by
      by_cases he : e = 0
      · simp [he]
      · rw [o2 he]; simp
    show ((if ((e == 0) || ((out.length : Int) == 0)) = true then _ else _) : Option Bool).bind _ = _
    rw [hz]; rfl
  · have he : e = 0 := Classical.byContradiction fun h => hc (.inl h)
    have h0 : 0 ≤ n := Int.not_lt.1 fun h => hc (.inr (.inl h))
    have h1 : n < (out.length : Int) := Int.not_le.1 fun h => hc (.inr (.inr h))
    obtain ⟨p1, p2, p3⟩ := o3 he
    have hg := (p1.good hF hL).2
    rw [if_neg (by simp; omega)]
    obtain ⟨i, hi, hm⟩ : ∃ i, idx out n = some i ∧ i ∈ out := by
      have hlt : n.toNat < out.length := by omega
      exact ⟨out[n.toNat], by unfold idx; rw [if_pos h0, List.getElem?_eq_getElem hlt], List.getElem_mem hlt⟩
    obtain ⟨e1, e2, e3, e4⟩ := p3.each i hm
    have hcl : F_slices_Clone_PlotStep p.Steps = some p.Steps := by
      unfold F_slices_Clone_PlotStep
      rw [apdC (by omega)]; rfl
    have hlt : i.toNat < p.Steps.length := by omega
    obtain ⟨b, f, s1, s2⟩ := Same_ok (N := N) (by omega) hF hL (lessP_fu hF hlt) (lessP_len hL)
    obtain ⟨s3, s4⟩ := s2 p1 (lessP_ok p1 hlt) p2 e3
    have hs : F_plot_Same N p ⟨p.Unit, p.Tools, lessS p.Steps i.toNat⟩ = some (b, f) := s1
    have hb : b = true := s4.2 e4.symm
    simp only
    rw [hi]
    simp only [Option.bind_some]
    rw [if_neg (by simpa using e1), Option.bind_some, if_neg (by simp; omega), hcl, Option.bind_some, delete_ok e1 e2 (by omega), Option.bind_some, hs, Option.bind_some, if_pos (by simp [s3, hb])]
    rfl
end Go.Proofs.YtoageaoknnnfbaaGreatDoor
