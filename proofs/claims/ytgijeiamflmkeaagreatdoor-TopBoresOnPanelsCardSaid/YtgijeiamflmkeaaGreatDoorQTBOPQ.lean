/- TopBoresOnPanels: whatever the input: the law answers true, and the arguments read as they did. -/
import Derived.Test.YtgijeiamflmkeaaGreatDoorXW
import Derived.Test.YtgijeiamflmkeaaGreatDoorBO4
import Derived.Test.YtgijeiamflmkeaaGreatDoorQTBOPR
import Derived.Test.YtgijeiamflmkeaaGreatDoorTie
import Derived.Test.YtgijeiamflmkeaaGreatDoorCards
import Derived.SevenTiedAt
import Derived.Shelf.Vars
namespace Go.Proofs.YtgijeiamflmkeaaGreatDoor
open Go.ChangeShapes Go.WideShapes Go.ChangeAt Go.RowKit Go.Deep Go.WideElems
open Go.ChangeMaps (open_string)
set_option maxRecDepth 100000
theorem Ab (os : Os) (args : Array Value) : laidMetH Tryz.prog Rows.topBoresOnPanelsRow.laid ((World.laidAll Tryz.prog os Rows.topBoresOnPanelsRow.laid).forCall (fun _ _ => 0) ⟨#[], args, []⟩).memory := by
  rw [Go.MakeChecks.laidMetH_plain _ _ _ (by kernel_rfl)]
  exact laidMet_laidAll args (by kernel_rfl) (by kernel_rfl)
theorem xQ (os : Os) (started : os.Started) (H : Type) (enc : TypeId × Value → H) :
    ReturnsInHanded {} Tryz.checked os 3 .any (fun w args => (Rows.topBoresOnPanelsSpec.pre enc Tryz.prog Tryz.f3 Rows.topBoresOnPanelsRow.domain false w args ∧ laidMetH Tryz.prog Rows.topBoresOnPanelsRow.laid w) ∧ sizedMet enc Tryz.prog Tryz.f3 (OpenSpec.ofChange Rows.topBoresOnPanelsSpec) false w args) (Rows.topBoresOnPanelsSpec.post enc Tryz.prog Tryz.f3 false true false false) := by
  refine uS (C := Tryz.checked) (X := fun w _ => laidMetH Tryz.prog Rows.topBoresOnPanelsRow.laid w) (fun _ _ _ hh h => h.of_heap hh) Yn started (by kernel_rfl) Tryz.func3
    (ChangeSpec.witness_at (enc := enc) (C := Tryz.checked) (os := os) (X := fun w _ => laidMetH Tryz.prog Rows.topBoresOnPanelsRow.laid w) false (World.laidAll Tryz.prog os Rows.topBoresOnPanelsRow.laid) #[.agg #[.slice none 0 0, .slice none 0 0, .slice none 0 0, .slice none 0 0, .slice none 0 0, .slice none 0 0, .int .i64 0, .slice none 0 0, .slice none 0 0, .slice none 0 0, .slice none 0 0, .slice none 0 0, .slice none 0 0, .int .i64 0, .int .i64 0, .int .i64 0, .int .i64 0, .int .i64 0, .slice none 0 0, .slice none 0 0], .agg #[.int .i64 0, .int .i64 0, .int .i64 0, .int .i64 0, .slice none 0 0, .slice none 0 0, .slice none 0 0], .string ByteArray.empty] 8 (World.laidAll_os _ _ _) (by kernel_rfl) (by kernel_rfl) (by kernel_rfl) (by kernel_rfl) (by kernel_rfl) (Ab os _)) ?_
  intro W base args ds gs before hsh hval0 hW _ _ hL _
  have hT : Nj Tryz.prog (yX W) := ⟨V4 (by kernel_rfl) (by kernel_rfl) (by kernel_rfl) hL, Uf Tryz.GD.g1 (Go.Proofs.cell_of_shapedOpen_int (zero := #[.int .i64 0]) (t := 3) hsh (of_decide_eq_true (by kernel_rfl)) (by kernel_rfl) rfl (by kernel_rfl) (by kernel_rfl) Tryz.underlying3)⟩
  have hval : ∀ (j : Nat) t v, Tryz.f3.params[j]? = some t → args[j]? = some v → Value.okWide Tryz.prog W .any base t v := hval0
  have hW' := hW
  obtain ⟨p, q, hA0, hV, rfl, hfz, hnd⟩ := hW
  have hA : DataW.TrodAll enc Tryz.prog W 0 (fun _ => true) true Tryz.f3.params.toList args.toList ds p := hA0
  rw [Tryz.params3] at hA hval
  obtain ⟨v0, v1, v2, d0, d1, d2, p0, p1, p2, rfl, rfl, rfl, h0, h1, h2⟩ := trodAll_three hA
  obtain ⟨rfl, rfl⟩ := trodVars_none hV
  have hh0 := h0
  have hh1 := h1
  have hh2 := h2
  obtain ⟨b0, A0_0, c0_0, A0_1_0, c0_1_0, A0_1_1, c0_1_1, A0_2, c0_2, A0_3, c0_3, A0_4, c0_4, A0_5_0, c0_5_0, A0_5_1, c0_5_1, A0_6, c0_6, A0_7, c0_7, A0_8, c0_8, A0_9, c0_9, A0_10_0, c0_10_0, A0_10_1, c0_10_1, rfl, s0_0, s0_1_0, s0_1_1, s0_2, s0_3, s0_4, s0_5_0, s0_5_1, s0_6, s0_7, s0_8, s0_9, s0_10_0, s0_10_1, hw0⟩ := Ub (hval 0 43 v0 rfl rfl) h0
  obtain ⟨b1, A1_4, c1_4, A1_5, c1_5, A1_6, c1_6, rfl, s1_4, s1_5, s1_6, hw1⟩ := Ua (hval 1 48 v1 rfl rfl) h1
  obtain ⟨b2, rfl, rfl, rfl, hs2⟩ := open_string Tryz.underlying9 (hval 2 9 v2 rfl rfl) h2
  clear hA0 hval0
  try simp only [List.append_nil, List.nil_append] at hW'
  have hlt : ∀ x ∈ p0 ++ p1, x.block < W.heap.size := fun x hx => by
    have := hW'.lt x (by first | (simp [hx]; done) | (simp at hx; rcases hx with h | h <;> simp [h]; done) | (simp at hx; rcases hx with h | h | h <;> simp [h]; done) | (simp at hx ⊢; exact hx))
    simpa using this
  obtain ⟨N, hN⟩ := IK b0 b1 b2 hw0 hw1 hs2
  refine (sZ N (w := yX W) hT b0 A0_0 c0_0 (by first | exact Sl.vz s0_0 | exact s0_0) A0_1_0 c0_1_0 (by first | exact Sl.vz s0_1_0 | exact s0_1_0) A0_1_1 c0_1_1 (by first | exact Sl.vz s0_1_1 | exact s0_1_1) A0_2 c0_2 (by first | exact Sl.vz s0_2 | exact s0_2) A0_3 c0_3 (by first | exact Sl.vz s0_3 | exact s0_3) A0_4 c0_4 (by first | exact Sl.vz s0_4 | exact s0_4) A0_5_0 c0_5_0 (by first | exact Sl.vz s0_5_0 | exact s0_5_0) A0_5_1 c0_5_1 (by first | exact Sl.vz s0_5_1 | exact s0_5_1) A0_6 c0_6 (by first | exact Sl.vz s0_6 | exact s0_6) A0_7 c0_7 (by first | exact Sl.vz s0_7 | exact s0_7) A0_8 c0_8 (by first | exact Sl.vz s0_8 | exact s0_8) A0_9 c0_9 (by first | exact Sl.vz s0_9 | exact s0_9) A0_10_0 c0_10_0 (by first | exact Sl.vz s0_10_0 | exact s0_10_0) A0_10_1 c0_10_1 (by first | exact Sl.vz s0_10_1 | exact s0_10_1) b1 A1_4 c1_4 (by first | exact Sl.vz s1_4 | exact s1_4) A1_5 c1_5 (by first | exact Sl.vz s1_5 | exact s1_5) A1_6 c1_6 (by first | exact Sl.vz s1_6 | exact s1_6) b2 true hN (HF.start _)).mono fun e W' ⟨he, hnx0⟩ => ?_
  have hnx := (I8 hnx0).kit
  subst he
  refine ⟨_, rfl, _, _, _, [], p0 ++ p1, [], hW', ?_, ?_, rfl, hnx.frame _, fun h => by cases h⟩
  · exact trodAll_mk1 (shut_bool Tryz.underlying4 _)
  · have ht := trodAll_mk3 (Below.trod Hg (by kernel_rfl) (of_decide_eq_true (by kernel_rfl)) hh0 hnx (fun x hx => hlt x (by simp [hx]))) (Below.trod Hg (by kernel_rfl) (of_decide_eq_true (by kernel_rfl)) hh1 hnx (fun x hx => hlt x (by simp [hx]))) (Below.trod Hg (by kernel_rfl) (of_decide_eq_true (by kernel_rfl)) hh2 hnx (fun x hx => by simp at hx))
    try simp only [List.append_nil, List.nil_append] at ht
    try rw [← List.append_assoc] at ht
    exact ht
theorem topBoresOnPanels_holds : Rows.TopBoresOnPanelsSaid :=
  OpenClaim.holds_of_wide 3 Tryz.f3 rfl rfl rfl rfl rfl rfl rfl ⟨rfl, rfl, rfl, rfl, rfl⟩ rfl rfl rfl rfl rfl (by kernel_rfl) Tryz.func3 (by kernel_rfl)
    (of_decide_eq_true (by kernel_rfl)) (by unfold Func.isWrapper; rw [if_neg (of_decide_eq_false (by kernel_rfl))]; exact ⟨rfl, rfl⟩)
    (fun os started H enc _ => xQ os started H enc)
#print axioms topBoresOnPanels_holds
theorem topBoresOnPanelsCard_holds : Rows.TopBoresOnPanelsCardSaid :=
  Claim7.holds_tied_plain_at .later [] [.data, .data, .data, .data, .pinned] true (true, "926d0b75f5649cb9aff91b8b7f646acf9267043bf3a3dab8aeb761410c6e58cd") false
    topBoresOnPanels_holds (fun _ h => by cases h) (by kernel_rfl) (fun _ h => by cases h) topBoresOnPanels_row_tie rfl ⟨rfl, rfl⟩ (by kernel_rfl) rfl
    (fun f fn hf hfn => by
      obtain rfl : f = 3 := Option.some.inj ((show Tryz.prog.funcNamed "etchhouse/etchhousetop.TopBoresOnPanels" = some 3 by kernel_rfl).symm.trans hf) |>.symm
      obtain rfl : fn = Tryz.f3 := (Option.some.inj (Tryz.func3.symm.trans hfn)).symm
      refine ⟨by kernel_rfl, fun j t ht => ?_⟩
      rw [Tryz.params3] at ht
      rcases j with _ | _ | _ | j
      · simp at ht; subst ht; exact (show Tryz.prog.wantsStandIn 43 = false by kernel_rfl)
      · simp at ht; subst ht; exact (show Tryz.prog.wantsStandIn 48 = false by kernel_rfl)
      · simp at ht; subst ht; exact (show Tryz.prog.wantsStandIn 9 = false by kernel_rfl)
      · simp at ht)
    (by kernel_rfl)
#print axioms topBoresOnPanelsCard_holds
end Go.Proofs.YtgijeiamflmkeaaGreatDoor
