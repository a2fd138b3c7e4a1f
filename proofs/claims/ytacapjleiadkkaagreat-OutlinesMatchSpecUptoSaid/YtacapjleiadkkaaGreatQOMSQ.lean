/- OutlinesMatchSpec: whatever the input of bounded bulk: the law answers true, and the arguments read as they did. -/
import Derived.Test.YtacapjleiadkkaaGreatXW
import Derived.Test.YtacapjleiadkkaaGreatJ5
import Derived.Test.YtacapjleiadkkaaGreatQOMSR
namespace Go.Proofs.YtacapjleiadkkaaGreat
open Go.ChangeShapes Go.WideShapes Go.ChangeAt Go.RowKit Go.Deep Go.WideElems
open Go.ChangeMaps (open_string)
set_option maxRecDepth 100000
theorem zEi (os : Os) (started : os.Started) (H : Type) (enc : TypeId × Value → H) (F : Stop.Interp) :
    ReturnsInHanded {} Tryz.checked os 3 .any ((Rows.OpenSpec.upto Rows.outlinesMatchSpecSpec).pre6 enc Tryz.prog Tryz.f3 Rows.outlinesMatchSpecUptoRow.domain false) (((Rows.OpenSpec.upto Rows.outlinesMatchSpecSpec).at F).post enc Tryz.prog Tryz.f3 false true false false) := by
  refine returnsInHanded_of_cond (C := Tryz.checked) (s := Rows.OpenSpec.upto Rows.outlinesMatchSpecSpec) (k := Rows.uptoSmall) rfl zrD started (by kernel_rfl) Tryz.func3
    (OpenSpec.witness (enc := enc) (C := Tryz.checked) (s := Rows.OpenSpec.upto Rows.outlinesMatchSpecSpec) (k := Rows.uptoSmall) rfl false ⟨#[], #[.slice none 0 0, .slice none 0 0], []⟩ 8 (by kernel_rfl) (by kernel_rfl) (by kernel_rfl) (x := ([.nil, .nil], [], [])) (by kernel_rfl) (by kernel_rfl) (by kernel_rfl) (by kernel_rfl)) ?_
  intro W base args ds gs before hval0 hW _ hk _
  have hval : ∀ (j : Nat) t v, Tryz.f3.params[j]? = some t → args[j]? = some v → Value.okWide Tryz.prog W .any base t v := hval0
  have hW' := hW
  obtain ⟨p, q, hA0, hV, rfl, hfz, hnd⟩ := hW
  have hA : DataW.TrodAll enc Tryz.prog W 0 (fun _ => true) true Tryz.f3.params.toList args.toList ds p := hA0
  rw [Tryz.params3] at hA hval
  obtain ⟨v0, v1, d0, d1, p0, p1, rfl, rfl, rfl, h0, h1⟩ := trodAll_two hA
  obtain ⟨rfl, rfl⟩ := trodVars_none hV
  have hh0 := h0
  have hh1 := h1
  obtain ⟨A0, c0, b0, rfl, s0, hw0⟩ : ∃ A c l, v0 = .slice A l.length c ∧ Sl (lo W.heap.size) W zL A c l ∧ ((l.length ≤ 9223372036854775807) ∧ ∀ x ∈ l, zJ.Wf x) := by
    obtain ⟨_, _, _, rfl⟩ := okWide_slice Tryz.underlying22 (hval 0 22 v0 rfl rfl)
    obtain ⟨fuel, hf⟩ := h0
    obtain ⟨A, c, l, e, s, w⟩ := zNp zL Tryz.underlying22 zeF (by decide) (zpV zL KL WW () zkt) hf
    exact ⟨A, c, l, e, s, Nat.le_trans s.form.1 s.form.2.1, w⟩
  obtain ⟨A1, c1, b1, rfl, s1, hw1, hz1⟩ : ∃ A c l, v1 = .slice A l.length c ∧ Sl (lo W.heap.size) W zS A c l ∧ ((l.length ≤ 9223372036854775807) ∧ ∀ x ∈ l, ((x).length ≤ 9223372036854775807 ∧ ∀ x' ∈ x, zG.Wf x')) ∧ l.length + l.flatten.length + 1 ≤ Rows.uptoBulk d1 := by
    obtain ⟨_, _, _, rfl⟩ := okWide_slice Tryz.underlying23 (hval 1 23 v1 rfl rfl)
    obtain ⟨fuel, hf⟩ := h1
    obtain ⟨A, c, l, e, s, w, z⟩ := zLx zS (fun r => r.length + 1) Tryz.underlying23 zlw (by decide) zdf hf
    rw [zS4] at z
    exact ⟨A, c, l, e, s, ⟨Nat.le_trans s.form.1 s.form.2.1, w⟩, z⟩
  clear hA0 hval0
  try simp only [List.append_nil, List.nil_append] at hW'
  have hlt : ∀ x ∈ p0 ++ p1, x.block < W.heap.size := fun x hx => by
    have := hW'.lt x (by first | (simp [hx]; done) | (simp at hx; rcases hx with h | h <;> simp [h]; done) | (simp at hx; rcases hx with h | h | h <;> simp [h]; done) | (simp at hx ⊢; exact hx))
    simpa using this
  have hk : Rows.uptoBulkAll ([d0, d1] : List (DataW H)) ≤ 1048576 := of_decide_eq_true hk
  simp only [Rows.uptoBulkAll] at hk
  have hB1 : b1.length + b1.flatten.length ≤ 1048576 := by omega
  obtain ⟨N, hN⟩ := zJG b0 b1 hw0 hw1 hB1
  refine (zCr N (w := zMj W) b0 A0 c0 (by first | exact Sl.zev s0 | exact s0) b1 A1 c1 (by first | exact Sl.zev s1 | exact s1) true hN (HF.start _)).mono fun e W' ⟨he, hnx0⟩ => ?_
  have hnx := (zPh hnx0).kit
  subst he
  refine ⟨_, rfl, _, _, _, [], p0 ++ p1, [], hW', ?_, ?_, rfl, hnx.frame _, fun h => by cases h⟩
  · exact trodAll_mk1 (shut_bool Tryz.underlying4 _)
  · have ht := trodAll_mk2 (Below.trod zTW (by kernel_rfl) (of_decide_eq_true (by kernel_rfl)) hh0 hnx (fun x hx => hlt x (by simp [hx]))) (Below.trod zTW (by kernel_rfl) (of_decide_eq_true (by kernel_rfl)) hh1 hnx (fun x hx => hlt x (by simp [hx])))
    try simp only [List.append_nil, List.nil_append] at ht
    try rw [← List.append_assoc] at ht
    exact ht
theorem outlinesMatchSpecUpto_holds : Rows.OutlinesMatchSpecUptoSaid :=
  OpenClaim.holds_of_cond 3 Tryz.f3 rfl rfl rfl rfl rfl rfl rfl ⟨rfl, rfl, rfl, rfl, rfl⟩ rfl rfl rfl rfl rfl (by kernel_rfl) Tryz.func3 (by kernel_rfl)
    (of_decide_eq_true (by kernel_rfl)) (by unfold Func.isWrapper; rw [if_neg (of_decide_eq_false (by kernel_rfl))]; exact ⟨rfl, rfl⟩)
    (fun os started H enc _ F => zEi os started H enc F)
#print axioms outlinesMatchSpecUpto_holds
end Go.Proofs.YtacapjleiadkkaaGreat
