/- PanelAddedMatchSpec: whatever the input: the law answers true, and the arguments read as they did. -/
import Derived.Test.YtpkicpnbpldkpaaXW
import Derived.Test.YtpkicpnbpldkpaaD6
import Derived.Test.YtpkicpnbpldkpaaPBR
namespace Go.Proofs.Ytpkicpnbpldkpaa
open Go.ChangeShapes Go.WideShapes Go.ChangeAt Go.RowKit Go.Deep Go.WideElems
open Go.ChangeMaps (open_string)
set_option maxRecDepth 100000
theorem panelAddedMatchSpec_lifted (os : Os) (started : os.Started) (H : Type) (enc : TypeId × Value → H) :
    ReturnsInHanded {} Try.checked os 11 .any (Rows.panelAddedMatchSpecSpec.pre6 enc Try.prog Try.f11 Rows.panelAddedMatchSpecRow.domain false) (Rows.panelAddedMatchSpecSpec.post enc Try.prog Try.f11 false true false false) := by
  refine returnsInHanded_of_change (C := Try.checked) own_ started (by kernel_rfl) Try.func11
    (ChangeSpec.witness6 (enc := enc) (C := Try.checked) false ⟨#[], #[.agg #[.int .i64 0, .int .i64 0, .int .i64 0, .int .i64 0, .slice none 0 0, .slice none 0 0, .slice none 0 0], .string ByteArray.empty, .int .i64 0], []⟩ 8 (by kernel_rfl) (by kernel_rfl) (by kernel_rfl) (by kernel_rfl)) ?_
  intro W base args ds gs before hval0 hW _ _
  have hval : ∀ (j : Nat) t v, Try.f11.params[j]? = some t → args[j]? = some v → Value.okWide Try.prog W .any base t v := hval0
  have hW' := hW
  obtain ⟨p, q, hA0, hV, rfl, hfz, hnd⟩ := hW
  have hA : DataW.TrodAll enc Try.prog W 0 (fun _ => true) true Try.f11.params.toList args.toList ds p := hA0
  rw [Try.params11] at hA hval
  obtain ⟨v0, v1, v2, d0, d1, d2, p0, p1, p2, rfl, rfl, rfl, h0, h1, h2⟩ := trodAll_three hA
  obtain ⟨rfl, rfl⟩ := trodVars_none hV
  have hh0 := h0
  have hh1 := h1
  have hh2 := h2
  obtain ⟨b0, A0_4, c0_4, A0_5, c0_5, A0_6, c0_6, rfl, s0_4, s0_5, s0_6, hw0⟩ := open_26 (hval 0 26 v0 rfl rfl) h0
  obtain ⟨b1, rfl, rfl, rfl, hs1⟩ := open_string Try.underlying9 (hval 1 9 v1 rfl rfl) h1
  obtain ⟨b2, rfl, rfl, rfl, hs2⟩ := open_int Try.underlying3 (hval 2 3 v2 rfl rfl) h2
  have hs2 := i64_wf hs2
  clear hA0 hval0
  try simp only [List.append_nil, List.nil_append] at hW'
  have hlt : ∀ x ∈ p0, x.block < W.heap.size := fun x hx => by
    have := hW'.lt x (by first | simp [hx] | (simp at hx; rcases hx with h | h <;> simp [h]) | (simp at hx; rcases hx with h | h | h <;> simp [h]))
    simpa using this
  obtain ⟨N, hN⟩ := AddedMatch_plain b0 b1 b2 hw0 hs1 hs2
  refine (F_etchhouselaw9_PanelAddedMatchSpec_ok N (w := lawBase W) b0 A0_4 c0_4 (by first | exact Sl.baseR s0_4 | exact s0_4) A0_5 c0_5 (by first | exact Sl.baseR s0_5 | exact s0_5) A0_6 c0_6 (by first | exact Sl.baseR s0_6 | exact s0_6) b1 b2 true hN (HF.start _)).mono fun e W' ⟨he, hnx0⟩ => ?_
  have hnx := (lawBase_below hnx0).kit
  subst he
  refine ⟨_, rfl, _, _, _, [], p0, [], hW', ?_, ?_, rfl, hnx.frame _, fun h => by cases h⟩
  · exact trodAll_mk1 (shut_bool Try.underlying4 _)
  · have ht := trodAll_mk3 (Below.trod laidOut_ (by kernel_rfl) (of_decide_eq_true (by kernel_rfl)) hh0 hnx (fun x hx => hlt x (by simp [hx]))) (Below.trod laidOut_ (by kernel_rfl) (of_decide_eq_true (by kernel_rfl)) hh1 hnx (fun x hx => by simp at hx)) (Below.trod laidOut_ (by kernel_rfl) (of_decide_eq_true (by kernel_rfl)) hh2 hnx (fun x hx => by simp at hx))
    try simp only [List.append_nil, List.nil_append] at ht
    exact ht
theorem panelAddedMatchSpec_holds : Rows.PanelAddedMatchSpecSaid :=
  OpenClaim.holds_of_wide 11 Try.f11 rfl rfl rfl rfl rfl rfl rfl ⟨rfl, rfl, rfl, rfl, rfl⟩ rfl rfl rfl rfl rfl (by kernel_rfl) Try.func11 (by kernel_rfl)
    (of_decide_eq_true (by kernel_rfl)) (by unfold Func.isWrapper; rw [if_neg (of_decide_eq_false (by kernel_rfl))]; exact ⟨rfl, rfl⟩)
    (fun os started H enc _ => panelAddedMatchSpec_lifted os started H enc)
#print axioms panelAddedMatchSpec_holds
end Go.Proofs.Ytpkicpnbpldkpaa
