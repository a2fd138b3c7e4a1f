/- PanelCopperMatchSpec: whatever the input: the law answers true, and the arguments read as they did. -/
import Derived.Test.YtfdglihcpfpefaaGreatXW
import Derived.Test.YtfdglihcpfpefaaGreatK2
import Derived.Test.YtfdglihcpfpefaaGreatKCR
namespace Go.Proofs.YtfdglihcpfpefaaGreat
open Go.ChangeShapes Go.WideShapes Go.ChangeAt Go.RowKit Go.Deep Go.WideElems
open Go.ChangeMaps (open_string)
set_option maxRecDepth 100000
theorem panelCopperMatchSpec_lifted (os : Os) (started : os.Started) (H : Type) (enc : TypeId × Value → H) :
    ReturnsInHanded {} Tryz.checked os 3 .any (Rows.panelCopperMatchSpecSpec.pre6 enc Tryz.prog Tryz.f3 Rows.panelCopperMatchSpecRow.domain false) (Rows.panelCopperMatchSpecSpec.post enc Tryz.prog Tryz.f3 false true false false) := by
  refine returnsInHanded_of_change (C := Tryz.checked) own_ started (by kernel_rfl) Tryz.func3
    (ChangeSpec.witness6 (enc := enc) (C := Tryz.checked) false ⟨#[], #[.agg #[.int .i64 0, .int .i64 0, .int .i64 0, .int .i64 0, .slice none 0 0, .slice none 0 0, .slice none 0 0], .string ByteArray.empty, .slice none 0 0], []⟩ 8 (by kernel_rfl) (by kernel_rfl) (by kernel_rfl) (by kernel_rfl)) ?_
  intro W base args ds gs before hval0 hW _ _
  have hval : ∀ (j : Nat) t v, Tryz.f3.params[j]? = some t → args[j]? = some v → Value.okWide Tryz.prog W .any base t v := hval0
  have hW' := hW
  obtain ⟨p, q, hA0, hV, rfl, hfz, hnd⟩ := hW
  have hA : DataW.TrodAll enc Tryz.prog W 0 (fun _ => true) true Tryz.f3.params.toList args.toList ds p := hA0
  rw [Tryz.params3] at hA hval
  obtain ⟨v0, v1, v2, d0, d1, d2, p0, p1, p2, rfl, rfl, rfl, h0, h1, h2⟩ := trodAll_three hA
  obtain ⟨rfl, rfl⟩ := trodVars_none hV
  have hh0 := h0
  have hh1 := h1
  have hh2 := h2
  obtain ⟨b0, A0_4, c0_4, A0_5, c0_5, A0_6, c0_6, rfl, s0_4, s0_5, s0_6, hw0⟩ := open_26 (hval 0 26 v0 rfl rfl) h0
  obtain ⟨b1, rfl, rfl, rfl, hs1⟩ := open_string Tryz.underlying9 (hval 1 9 v1 rfl rfl) h1
  obtain ⟨A2, c2, b2, rfl, s2, hw2⟩ : ∃ A c l, v2 = .slice A l.length c ∧ Sl (lo W.heap.size) W fl_TRect A c l ∧ ((l.length ≤ 9223372036854775807) ∧ ∀ x ∈ l, TRect.Wf x) := by
    obtain ⟨_, _, _, rfl⟩ := okWide_slice Tryz.underlying27 (hval 2 27 v2 rfl rfl)
    obtain ⟨fuel, hf⟩ := h2
    obtain ⟨A, c, l, e, s, w⟩ := sl_of_trod fl_TRect Tryz.underlying27 nc_33 (by decide) (decF fl_TRect ef_TRect tr_TRect () dec_33) hf
    exact ⟨A, c, l, e, s, Nat.le_trans s.form.1 s.form.2.1, w⟩
  clear hA0 hval0
  try simp only [List.append_nil, List.nil_append] at hW'
  have hlt : ∀ x ∈ p0 ++ p2, x.block < W.heap.size := fun x hx => by
    have := hW'.lt x (by first | (simp [hx]; done) | (simp at hx; rcases hx with h | h <;> simp [h]; done) | (simp at hx; rcases hx with h | h | h <;> simp [h]; done) | (simp at hx ⊢; exact hx))
    simpa using this
  obtain ⟨N, hN⟩ := Copper_plain b0 b1 b2 hw0 hs1 hw2
  refine (F_etchhouselaw9_PanelCopperMatchSpec_ok N (w := lawBase W) b0 A0_4 c0_4 (by first | exact Sl.baseR s0_4 | exact s0_4) A0_5 c0_5 (by first | exact Sl.baseR s0_5 | exact s0_5) A0_6 c0_6 (by first | exact Sl.baseR s0_6 | exact s0_6) b1 b2 A2 c2 (by first | exact Sl.baseR s2 | exact s2) true hN (HF.start _)).mono fun e W' ⟨he, hnx0⟩ => ?_
  have hnx := (lawBase_below hnx0).kit
  subst he
  refine ⟨_, rfl, _, _, _, [], p0 ++ p2, [], hW', ?_, ?_, rfl, hnx.frame _, fun h => by cases h⟩
  · exact trodAll_mk1 (shut_bool Tryz.underlying4 _)
  · have ht := trodAll_mk3 (Below.trod laidOut_ (by kernel_rfl) (of_decide_eq_true (by kernel_rfl)) hh0 hnx (fun x hx => hlt x (by simp [hx]))) (Below.trod laidOut_ (by kernel_rfl) (of_decide_eq_true (by kernel_rfl)) hh1 hnx (fun x hx => by simp at hx)) (Below.trod laidOut_ (by kernel_rfl) (of_decide_eq_true (by kernel_rfl)) hh2 hnx (fun x hx => hlt x (by simp [hx])))
    try simp only [List.append_nil, List.nil_append] at ht
    try rw [← List.append_assoc] at ht
    exact ht
theorem panelCopperMatchSpec_holds : Rows.PanelCopperMatchSpecSaid :=
  OpenClaim.holds_of_wide 3 Tryz.f3 rfl rfl rfl rfl rfl rfl rfl ⟨rfl, rfl, rfl, rfl, rfl⟩ rfl rfl rfl rfl rfl (by kernel_rfl) Tryz.func3 (by kernel_rfl)
    (of_decide_eq_true (by kernel_rfl)) (by unfold Func.isWrapper; rw [if_neg (of_decide_eq_false (by kernel_rfl))]; exact ⟨rfl, rfl⟩)
    (fun os started H enc _ => panelCopperMatchSpec_lifted os started H enc)
#print axioms panelCopperMatchSpec_holds
end Go.Proofs.YtfdglihcpfpefaaGreat
