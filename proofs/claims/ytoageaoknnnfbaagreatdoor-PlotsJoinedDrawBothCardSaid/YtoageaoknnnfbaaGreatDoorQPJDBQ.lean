/- PlotsJoinedDrawBoth: whatever the input: the law answers true, and the arguments read as they did. -/
import Derived.Test.YtoageaoknnnfbaaGreatDoorXW
import Derived.Test.YtoageaoknnnfbaaGreatDoorY55
import Derived.Test.YtoageaoknnnfbaaGreatDoorQPJDBR
import Derived.Test.YtoageaoknnnfbaaGreatDoorTie
import Derived.Test.YtoageaoknnnfbaaGreatDoorCards
import Derived.SevenTiedAt
namespace Go.Proofs.YtoageaoknnnfbaaGreatDoor
open Go.ChangeShapes Go.WideShapes Go.ChangeAt Go.RowKit Go.Deep Go.WideElems
open Go.ChangeMaps (open_string)
set_option maxRecDepth 100000
theorem zHG (os : Os) (args : Array Value) : laidMetH Tryz.prog Rows.plotsJoinedDrawBothRow.laid ((World.laidAll Tryz.prog os Rows.plotsJoinedDrawBothRow.laid).forCall (fun _ _ => 0) ⟨#[], args, []⟩).memory := by
  rw [Go.MakeChecks.laidMetH_plain _ _ _ (by kernel_rfl)]
  exact laidMet_laidAll args (by kernel_rfl) (by kernel_rfl)
theorem zFw (os : Os) (started : os.Started) (H : Type) (enc : TypeId × Value → H) :
    ReturnsInHanded {} Tryz.checked os 5 .any (fun w args => (Rows.plotsJoinedDrawBothSpec.pre enc Tryz.prog Tryz.f5 Rows.plotsJoinedDrawBothRow.domain false w args ∧ laidMetH Tryz.prog Rows.plotsJoinedDrawBothRow.laid w) ∧ sizedMet enc Tryz.prog Tryz.f5 (OpenSpec.ofChange Rows.plotsJoinedDrawBothSpec) false w args) (Rows.plotsJoinedDrawBothSpec.post enc Tryz.prog Tryz.f5 false true false false) := by
  refine returnsInHanded_of_change_and (C := Tryz.checked) (X := fun w _ => laidMetH Tryz.prog Rows.plotsJoinedDrawBothRow.laid w) (fun _ _ _ hh h => h.of_heap hh) zmh started (by kernel_rfl) Tryz.func5
    (ChangeSpec.witness_at (enc := enc) (C := Tryz.checked) (os := os) (X := fun w _ => laidMetH Tryz.prog Rows.plotsJoinedDrawBothRow.laid w) false (World.laidAll Tryz.prog os Rows.plotsJoinedDrawBothRow.laid) #[.agg #[.int .i64 0, .slice none 0 0, .slice none 0 0], .agg #[.int .i64 0, .slice none 0 0, .slice none 0 0]] 8 (World.laidAll_os _ _ _) (by kernel_rfl) (by kernel_rfl) (by kernel_rfl) (by kernel_rfl) (by kernel_rfl) (zHG os _)) ?_
  intro W base args ds gs before hval0 hW _ _ hL _
  have hT : Tab Tryz.prog (zJq W) := zdv (by kernel_rfl) (by kernel_rfl) (by kernel_rfl) hL
  have hval : ∀ (j : Nat) t v, Tryz.f5.params[j]? = some t → args[j]? = some v → Value.okWide Tryz.prog W .any base t v := hval0
  have hW' := hW
  obtain ⟨p, q, hA0, hV, rfl, hfz, hnd⟩ := hW
  have hA : DataW.TrodAll enc Tryz.prog W 0 (fun _ => true) true Tryz.f5.params.toList args.toList ds p := hA0
  rw [Tryz.params5] at hA hval
  obtain ⟨v0, v1, d0, d1, p0, p1, rfl, rfl, rfl, h0, h1⟩ := trodAll_two hA
  obtain ⟨rfl, rfl⟩ := trodVars_none hV
  have hh0 := h0
  have hh1 := h1
  obtain ⟨b0, A0_1, c0_1, A0_2, c0_2, rfl, s0_1, s0_2, hw0⟩ := zWM (hval 0 25 v0 rfl rfl) h0
  obtain ⟨b1, A1_1, c1_1, A1_2, c1_2, rfl, s1_1, s1_2, hw1⟩ := zWM (hval 1 25 v1 rfl rfl) h1
  clear hA0 hval0
  try simp only [List.append_nil, List.nil_append] at hW'
  have hlt : ∀ x ∈ p0 ++ p1, x.block < W.heap.size := fun x hx => by
    have := hW'.lt x (by first | (simp [hx]; done) | (simp at hx; rcases hx with h | h <;> simp [h]; done) | (simp at hx; rcases hx with h | h | h <;> simp [h]; done) | (simp at hx ⊢; exact hx))
    simpa using this
  obtain ⟨N, hN⟩ := zLz b0 b1 hw0 hw1
  refine (zCM N (w := zJq W) b0 A0_1 c0_1 (by first | exact Sl.zXD s0_1 | exact s0_1) A0_2 c0_2 (by first | exact Sl.zXD s0_2 | exact s0_2) b1 A1_1 c1_1 (by first | exact Sl.zXD s1_1 | exact s1_1) A1_2 c1_2 (by first | exact Sl.zXD s1_2 | exact s1_2) true hN (HF.start _)).mono fun e W' ⟨he, hnx0⟩ => ?_
  have hnx := (zQS hnx0).kit
  subst he
  refine ⟨_, rfl, _, _, _, [], p0 ++ p1, [], hW', ?_, ?_, rfl, hnx.frame _, fun h => by cases h⟩
  · exact trodAll_mk1 (shut_bool Tryz.underlying4 _)
  · have ht := trodAll_mk2 (Below.trod zTj (by kernel_rfl) (of_decide_eq_true (by kernel_rfl)) hh0 hnx (fun x hx => hlt x (by simp [hx]))) (Below.trod zTj (by kernel_rfl) (of_decide_eq_true (by kernel_rfl)) hh1 hnx (fun x hx => hlt x (by simp [hx])))
    try simp only [List.append_nil, List.nil_append] at ht
    try rw [← List.append_assoc] at ht
    exact ht
theorem plotsJoinedDrawBoth_holds : Rows.PlotsJoinedDrawBothSaid :=
  OpenClaim.holds_of_wide 5 Tryz.f5 rfl rfl rfl rfl rfl rfl rfl ⟨rfl, rfl, rfl, rfl, rfl⟩ rfl rfl rfl rfl rfl (by kernel_rfl) Tryz.func5 (by kernel_rfl)
    (of_decide_eq_true (by kernel_rfl)) (by unfold Func.isWrapper; rw [if_neg (of_decide_eq_false (by kernel_rfl))]; exact ⟨rfl, rfl⟩)
    (fun os started H enc _ => zFw os started H enc)
#print axioms plotsJoinedDrawBoth_holds
theorem plotsJoinedDrawBothCard_holds : Rows.PlotsJoinedDrawBothCardSaid :=
  Claim7.holds_tied_plain_at .later [] [.data, .data, .data] true (true, "c44b1ef2c0d88c505592d55f9c8592435ba6879242bb344c928b354b8eb65ade") false
    plotsJoinedDrawBoth_holds (fun _ h => by cases h) (by kernel_rfl) (fun _ h => by cases h) plotsJoinedDrawBoth_row_tie rfl ⟨rfl, rfl⟩ (by kernel_rfl) rfl
    (fun f fn hf hfn => by
      obtain rfl : f = 5 := Option.some.inj ((show Tryz.prog.funcNamed "etchhouse/etchhouselaw3.PlotsJoinedDrawBoth" = some 5 by kernel_rfl).symm.trans hf) |>.symm
      obtain rfl : fn = Tryz.f5 := (Option.some.inj (Tryz.func5.symm.trans hfn)).symm
      refine ⟨by kernel_rfl, fun j t ht => ?_⟩
      rw [Tryz.params5] at ht
      rcases j with _ | _ | j
      · simp at ht; subst ht; exact (show Tryz.prog.wantsStandIn 25 = false by kernel_rfl)
      · simp at ht; subst ht; exact (show Tryz.prog.wantsStandIn 25 = false by kernel_rfl)
      · simp at ht)
    (by kernel_rfl)
#print axioms plotsJoinedDrawBothCard_holds
end Go.Proofs.YtoageaoknnnfbaaGreatDoor
