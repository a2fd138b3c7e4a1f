/- TopClearGrows: whatever the input: the law answers true, and the arguments read as they did. -/
import Derived.Test.YtkccbhbhdnobhaaGreatDoorXW
import Derived.Test.YtkccbhbhdnobhaaGreatDoorCG9
import Derived.Test.YtkccbhbhdnobhaaGreatDoorQTCGR
import Derived.Test.YtkccbhbhdnobhaaGreatDoorTie
import Derived.Test.YtkccbhbhdnobhaaGreatDoorCards
import Derived.SevenTiedAt
import Derived.Shelf.Vars
namespace Go.Proofs.YtkccbhbhdnobhaaGreatDoor
open Go.ChangeShapes Go.WideShapes Go.ChangeAt Go.RowKit Go.Deep Go.WideElems
open Go.ChangeMaps (open_string)
set_option maxRecDepth 100000
theorem zB (os : Os) (args : Array Value) : laidMetH Tryz.prog Rows.topClearGrowsRow.laid ((World.laidAll Tryz.prog os Rows.topClearGrowsRow.laid).forCall (fun _ _ => 0) ⟨#[], args, []⟩).memory := by
  rw [Go.MakeChecks.laidMetH_plain _ _ _ (by kernel_rfl)]
  exact laidMet_laidAll args (by kernel_rfl) (by kernel_rfl)
theorem wY (os : Os) (started : os.Started) (H : Type) (enc : TypeId × Value → H) :
    ReturnsInHanded {} Tryz.checked os 3 .any (fun w args => (Rows.topClearGrowsSpec.pre enc Tryz.prog Tryz.f3 Rows.topClearGrowsRow.domain false w args ∧ laidMetH Tryz.prog Rows.topClearGrowsRow.laid w) ∧ sizedMet enc Tryz.prog Tryz.f3 (OpenSpec.ofChange Rows.topClearGrowsSpec) false w args) (Rows.topClearGrowsSpec.post enc Tryz.prog Tryz.f3 false true false false) := by
  refine ru (C := Tryz.checked) (X := fun w _ => laidMetH Tryz.prog Rows.topClearGrowsRow.laid w) (fun _ _ _ hh h => h.of_heap hh) Sj started (by kernel_rfl) Tryz.func3
    (ChangeSpec.witness_at (enc := enc) (C := Tryz.checked) (os := os) (X := fun w _ => laidMetH Tryz.prog Rows.topClearGrowsRow.laid w) false (World.laidAll Tryz.prog os Rows.topClearGrowsRow.laid) #[.agg #[.int .i64 0, .int .i64 0, .int .i64 0, .int .i64 0, .int .i64 0, .slice none 0 0, .slice none 0 0], .agg #[.slice none 0 0, .slice none 0 0, .slice none 0 0, .slice none 0 0], .slice none 0 0] 8 (World.laidAll_os _ _ _) (by kernel_rfl) (by kernel_rfl) (by kernel_rfl) (by kernel_rfl) (by kernel_rfl) (zB os _)) ?_
  intro W base args ds gs before hsh hval0 hW _ _ hL _
  have hT : Dx Tryz.prog (vN W) := ⟨PL (by kernel_rfl) (by kernel_rfl) (by kernel_rfl) hL, NL Tryz.BS.g1 (Go.Proofs.cell_of_shapedOpen_int (zero := #[.int .i64 0]) (t := 3) hsh (of_decide_eq_true (by kernel_rfl)) (by kernel_rfl) rfl (by kernel_rfl) (by kernel_rfl) Tryz.underlying3)⟩
  have hval : ∀ (j : Nat) t v, Tryz.f3.params[j]? = some t → args[j]? = some v → Value.okWide Tryz.prog W .any base t v := hval0
  have hW' := hW
  obtain ⟨p, q, hA0, hV, rfl, hfz, hnd⟩ := hW
  have hA : DataW.TrodAll enc Tryz.prog W 0 (fun _ => true) true Tryz.f3.params.toList args.toList ds p := hA0
  rw [Tryz.params3] at hA hval
  obtain ⟨v0, v1, v2, d0, d1, d2, p0, p1, p2, rfl, rfl, rfl, h0, h1, h2⟩ := trodAll_three hA
  obtain ⟨rfl, rfl⟩ := trodVars_none hV
  have hh0 := h0
  have hh1 := h1
  have hh2 := h2
  obtain ⟨b0, A0_5, c0_5, A0_6, c0_6, rfl, s0_5, s0_6, hw0⟩ := NG (hval 0 25 v0 rfl rfl) h0
  obtain ⟨b1, A1_0, c1_0, A1_1, c1_1, A1_2, c1_2, A1_3, c1_3, rfl, s1_0, s1_1, s1_2, s1_3, hw1⟩ := NF (hval 1 31 v1 rfl rfl) h1
  obtain ⟨A2, c2, b2, rfl, s2, hw2⟩ : ∃ A c l, v2 = .slice A l.length c ∧ Sl (lo W.heap.size) W mD A c l ∧ ((l.length ≤ 9223372036854775807) ∧ ∀ x ∈ l, (x).size ≤ 9223372036854775807) := by
    obtain ⟨_, _, _, rfl⟩ := okWide_slice Tryz.underlying32 (hval 2 32 v2 rfl rfl)
    obtain ⟨fuel, hf⟩ := h2
    obtain ⟨A, c, l, e, s, w⟩ := mV mD Tryz.underlying32 Lu (by decide) (Ia mD vT G5 () Gr) hf
    exact ⟨A, c, l, e, s, Nat.le_trans s.form.1 s.form.2.1, w⟩
  clear hA0 hval0
  try simp only [List.append_nil, List.nil_append] at hW'
  have hlt : ∀ x ∈ p0 ++ p1 ++ p2, x.block < W.heap.size := fun x hx => by
    have := hW'.lt x (by first | (simp [hx]; done) | (simp at hx; rcases hx with h | h <;> simp [h]; done) | (simp at hx; rcases hx with h | h | h <;> simp [h]; done) | (simp at hx ⊢; exact hx))
    simpa using this
  obtain ⟨N, hN⟩ := Dh b0 b1 b2 hw0 hw1 hw2
  refine (qX N (w := vN W) hT b0 A0_5 c0_5 (by first | exact Sl.CV s0_5 | exact s0_5) A0_6 c0_6 (by first | exact Sl.CV s0_6 | exact s0_6) b1 A1_0 c1_0 (by first | exact Sl.CV s1_0 | exact s1_0) A1_1 c1_1 (by first | exact Sl.CV s1_1 | exact s1_1) A1_2 c1_2 (by first | exact Sl.CV s1_2 | exact s1_2) A1_3 c1_3 (by first | exact Sl.CV s1_3 | exact s1_3) b2 A2 c2 (by first | exact Sl.CV s2 | exact s2) true hN (HF.start _)).mono fun e W' ⟨he, hnx0⟩ => ?_
  have hnx := (Dq hnx0).kit
  subst he
  refine ⟨_, rfl, _, _, _, [], p0 ++ p1 ++ p2, [], hW', ?_, ?_, rfl, hnx.frame _, fun h => by cases h⟩
  · exact trodAll_mk1 (shut_bool Tryz.underlying4 _)
  · have ht := trodAll_mk3 (Below.trod Co (by kernel_rfl) (of_decide_eq_true (by kernel_rfl)) hh0 hnx (fun x hx => hlt x (by simp [hx]))) (Below.trod Co (by kernel_rfl) (of_decide_eq_true (by kernel_rfl)) hh1 hnx (fun x hx => hlt x (by simp [hx]))) (Below.trod Co (by kernel_rfl) (of_decide_eq_true (by kernel_rfl)) hh2 hnx (fun x hx => hlt x (by simp [hx])))
    try simp only [List.append_nil, List.nil_append] at ht
    try rw [← List.append_assoc] at ht
    exact ht
theorem topClearGrows_holds : Rows.TopClearGrowsSaid :=
  OpenClaim.holds_of_wide 3 Tryz.f3 rfl rfl rfl rfl rfl rfl rfl ⟨rfl, rfl, rfl, rfl, rfl⟩ rfl rfl rfl rfl rfl (by kernel_rfl) Tryz.func3 (by kernel_rfl)
    (of_decide_eq_true (by kernel_rfl)) (by unfold Func.isWrapper; rw [if_neg (of_decide_eq_false (by kernel_rfl))]; exact ⟨rfl, rfl⟩)
    (fun os started H enc _ => wY os started H enc)
#print axioms topClearGrows_holds
theorem topClearGrowsCard_holds : Rows.TopClearGrowsCardSaid :=
  Claim7.holds_tied_plain_at .later [] [.data, .data, .data, .data, .pinned] true (true, "847725bde54a50e16a64668c844af90e906ca6eada51b3c304ef764cb070b03e") false
    topClearGrows_holds (fun _ h => by cases h) (by kernel_rfl) (fun _ h => by cases h) topClearGrows_row_tie rfl ⟨rfl, rfl⟩ (by kernel_rfl) rfl
    (fun f fn hf hfn => by
      obtain rfl : f = 3 := Option.some.inj ((show Tryz.prog.funcNamed "etchhouse/etchhousetop.TopClearGrows" = some 3 by kernel_rfl).symm.trans hf) |>.symm
      obtain rfl : fn = Tryz.f3 := (Option.some.inj (Tryz.func3.symm.trans hfn)).symm
      refine ⟨by kernel_rfl, fun j t ht => ?_⟩
      rw [Tryz.params3] at ht
      rcases j with _ | _ | _ | j
      · simp at ht; subst ht; exact (show Tryz.prog.wantsStandIn 25 = false by kernel_rfl)
      · simp at ht; subst ht; exact (show Tryz.prog.wantsStandIn 31 = false by kernel_rfl)
      · simp at ht; subst ht; exact (show Tryz.prog.wantsStandIn 32 = false by kernel_rfl)
      · simp at ht)
    (by kernel_rfl)
#print axioms topClearGrowsCard_holds
end Go.Proofs.YtkccbhbhdnobhaaGreatDoor
