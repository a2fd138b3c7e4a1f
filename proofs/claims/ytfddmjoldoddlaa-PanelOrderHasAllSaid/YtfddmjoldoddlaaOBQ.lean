/- PanelOrderHasAll: whatever the input: the law answers true, and the arguments read as they did. -/
import Derived.Test.YtfddmjoldoddlaaXW
import Derived.Test.YtfddmjoldoddlaaO4
import Derived.Test.YtfddmjoldoddlaaOBR
namespace Go.Proofs.Ytfddmjoldoddlaa
open Go.ChangeShapes Go.WideShapes Go.ChangeAt Go.RowKit Go.Deep Go.WideElems
open Go.ChangeMaps (open_string)
set_option maxRecDepth 100000
theorem panelOrderHasAll_lifted (os : Os) (started : os.Started) (H : Type) (enc : TypeId × Value → H) :
    ReturnsInHanded {} Try.checked os 5 .any (Rows.panelOrderHasAllSpec.pre6 enc Try.prog Try.f5 Rows.panelOrderHasAllRow.domain false) (Rows.panelOrderHasAllSpec.post enc Try.prog Try.f5 false true false false) := by
  refine returnsInHanded_of_change (C := Try.checked) own_ started (by kernel_rfl) Try.func5
    (ChangeSpec.witness6 (enc := enc) (C := Try.checked) false ⟨#[], #[.agg #[.int .i64 0, .int .i64 0, .int .i64 0, .int .i64 0, .slice none 0 0, .slice none 0 0, .slice none 0 0]], []⟩ 8 (by kernel_rfl) (by kernel_rfl) (by kernel_rfl) (by kernel_rfl)) ?_
  intro W base args ds gs before hval0 hW _ _
  have hval : ∀ (j : Nat) t v, Try.f5.params[j]? = some t → args[j]? = some v → Value.okWide Try.prog W .any base t v := hval0
  have hW' := hW
  obtain ⟨p, q, hA0, hV, rfl, hfz, hnd⟩ := hW
  have hA : DataW.TrodAll enc Try.prog W 0 (fun _ => true) true Try.f5.params.toList args.toList ds p := hA0
  rw [Try.params5] at hA hval
  obtain ⟨v0, d0, rfl, rfl, h0⟩ := trodAll_one hA
  obtain ⟨rfl, rfl⟩ := trodVars_none hV
  have hh0 := h0
  obtain ⟨b0, A0_4, c0_4, A0_5, c0_5, A0_6, c0_6, rfl, s0_4, s0_5, s0_6, hw0⟩ := open_26 (hval 0 26 v0 rfl rfl) h0
  clear hA0 hval0
  try simp only [List.append_nil, List.nil_append] at hW'
  have hlt : ∀ x ∈ p, x.block < W.heap.size := fun x hx => by
    have := hW'.lt x (by first | (simp [hx]; done) | (simp at hx; rcases hx with h | h <;> simp [h]; done) | (simp at hx; rcases hx with h | h | h <;> simp [h]; done) | (simp at hx ⊢; exact hx))
    simpa using this
  obtain ⟨N, hN⟩ := HasAll_plain b0 hw0
  refine (F_etchhouselaw9_PanelOrderHasAll_ok N (w := lawBase W) b0 A0_4 c0_4 (by first | exact Sl.baseR s0_4 | exact s0_4) A0_5 c0_5 (by first | exact Sl.baseR s0_5 | exact s0_5) A0_6 c0_6 (by first | exact Sl.baseR s0_6 | exact s0_6) true hN (HF.start _)).mono fun e W' ⟨he, hnx0⟩ => ?_
  have hnx := (lawBase_below hnx0).kit
  subst he
  refine ⟨_, rfl, _, _, _, [], p, [], hW', ?_, ?_, rfl, hnx.frame _, fun h => by cases h⟩
  · exact trodAll_mk1 (shut_bool Try.underlying4 _)
  · have ht := trodAll_mk1 (Below.trod laidOut_ (by kernel_rfl) (of_decide_eq_true (by kernel_rfl)) hh0 hnx (fun x hx => hlt x (by simp [hx])))
    try simp only [List.append_nil, List.nil_append] at ht
    try rw [← List.append_assoc] at ht
    exact ht
theorem panelOrderHasAll_holds : Rows.PanelOrderHasAllSaid :=
  OpenClaim.holds_of_wide 5 Try.f5 rfl rfl rfl rfl rfl rfl rfl ⟨rfl, rfl, rfl, rfl, rfl⟩ rfl rfl rfl rfl rfl (by kernel_rfl) Try.func5 (by kernel_rfl)
    (of_decide_eq_true (by kernel_rfl)) (by unfold Func.isWrapper; rw [if_neg (of_decide_eq_false (by kernel_rfl))]; exact ⟨rfl, rfl⟩)
    (fun os started H enc _ => panelOrderHasAll_lifted os started H enc)
#print axioms panelOrderHasAll_holds
end Go.Proofs.Ytfddmjoldoddlaa
