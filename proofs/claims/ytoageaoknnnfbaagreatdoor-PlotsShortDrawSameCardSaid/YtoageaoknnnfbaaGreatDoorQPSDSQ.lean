/- PlotsShortDrawSame: whatever the input: the law answers true, and the arguments read as they did. -/
import Derived.Test.YtoageaoknnnfbaaGreatDoorXW
import Derived.Test.YtoageaoknnnfbaaGreatDoorY44
import Derived.Test.YtoageaoknnnfbaaGreatDoorQPSDSR
import Derived.Test.YtoageaoknnnfbaaGreatDoorTie
import Derived.Test.YtoageaoknnnfbaaGreatDoorCards
import Derived.SevenTiedAt
namespace Go.Proofs.YtoageaoknnnfbaaGreatDoor
open Go.ChangeShapes Go.WideShapes Go.ChangeAt Go.RowKit Go.Deep Go.WideElems
open Go.ChangeMaps (open_string)
set_option maxRecDepth 100000
theorem zH5 (os : Os) (args : Array Value) : laidMetH Tryz.prog Rows.plotsShortDrawSameRow.laid ((World.laidAll Tryz.prog os Rows.plotsShortDrawSameRow.laid).forCall (fun _ _ => 0) ⟨#[], args, []⟩).memory := by
  rw [Go.MakeChecks.laidMetH_plain _ _ _ (by kernel_rfl)]
  exact laidMet_laidAll args (by kernel_rfl) (by kernel_rfl)
theorem zGf (os : Os) (started : os.Started) (H : Type) (enc : TypeId × Value → H) :
    ReturnsInHanded {} Tryz.checked os 6 .any (fun w args => (Rows.plotsShortDrawSameSpec.pre enc Tryz.prog Tryz.f6 Rows.plotsShortDrawSameRow.domain false w args ∧ laidMetH Tryz.prog Rows.plotsShortDrawSameRow.laid w) ∧ sizedMet enc Tryz.prog Tryz.f6 (OpenSpec.ofChange Rows.plotsShortDrawSameSpec) false w args) (Rows.plotsShortDrawSameSpec.post enc Tryz.prog Tryz.f6 false true false false) := by
  refine returnsInHanded_of_change_and (C := Tryz.checked) (X := fun w _ => laidMetH Tryz.prog Rows.plotsShortDrawSameRow.laid w) (fun _ _ _ hh h => h.of_heap hh) zoK started (by kernel_rfl) Tryz.func6
    (ChangeSpec.witness_at (enc := enc) (C := Tryz.checked) (os := os) (X := fun w _ => laidMetH Tryz.prog Rows.plotsShortDrawSameRow.laid w) false (World.laidAll Tryz.prog os Rows.plotsShortDrawSameRow.laid) #[.agg #[.int .i64 0, .slice none 0 0, .slice none 0 0]] 8 (World.laidAll_os _ _ _) (by kernel_rfl) (by kernel_rfl) (by kernel_rfl) (by kernel_rfl) (by kernel_rfl) (zH5 os _)) ?_
  intro W base args ds gs before hval0 hW _ _ hL _
  have hT : Tab Tryz.prog (zKE W) := zfy (by kernel_rfl) (by kernel_rfl) (by kernel_rfl) hL
  have hval : ∀ (j : Nat) t v, Tryz.f6.params[j]? = some t → args[j]? = some v → Value.okWide Tryz.prog W .any base t v := hval0
  have hW' := hW
  obtain ⟨p, q, hA0, hV, rfl, hfz, hnd⟩ := hW
  have hA : DataW.TrodAll enc Tryz.prog W 0 (fun _ => true) true Tryz.f6.params.toList args.toList ds p := hA0
  rw [Tryz.params6] at hA hval
  obtain ⟨v0, d0, rfl, rfl, h0⟩ := trodAll_one hA
  obtain ⟨rfl, rfl⟩ := trodVars_none hV
  have hh0 := h0
  obtain ⟨b0, A0_1, c0_1, A0_2, c0_2, rfl, s0_1, s0_2, hw0⟩ := zdI (hval 0 25 v0 rfl rfl) h0
  clear hA0 hval0
  try simp only [List.append_nil, List.nil_append] at hW'
  have hlt : ∀ x ∈ p, x.block < W.heap.size := fun x hx => by
    have := hW'.lt x (by first | (simp [hx]; done) | (simp at hx; rcases hx with h | h <;> simp [h]; done) | (simp at hx; rcases hx with h | h | h <;> simp [h]; done) | (simp at hx ⊢; exact hx))
    simpa using this
  obtain ⟨N, hN⟩ := zNS b0 hw0
  refine (zC8 N (w := zKE W) b0 A0_1 c0_1 (by first | exact Sl.zfY s0_1 | exact s0_1) A0_2 c0_2 (by first | exact Sl.zfY s0_2 | exact s0_2) true hN (HF.start _)).mono fun e W' ⟨he, hnx0⟩ => ?_
  have hnx := (zQR hnx0).kit
  subst he
  refine ⟨_, rfl, _, _, _, [], p, [], hW', ?_, ?_, rfl, hnx.frame _, fun h => by cases h⟩
  · exact trodAll_mk1 (shut_bool Tryz.underlying4 _)
  · have ht := trodAll_mk1 (Below.trod zaT (by kernel_rfl) (of_decide_eq_true (by kernel_rfl)) hh0 hnx (fun x hx => hlt x (by simp [hx])))
    try simp only [List.append_nil, List.nil_append] at ht
    try rw [← List.append_assoc] at ht
    exact ht
theorem plotsShortDrawSame_holds : Rows.PlotsShortDrawSameSaid :=
  OpenClaim.holds_of_wide 6 Tryz.f6 rfl rfl rfl rfl rfl rfl rfl ⟨rfl, rfl, rfl, rfl, rfl⟩ rfl rfl rfl rfl rfl (by kernel_rfl) Tryz.func6 (by kernel_rfl)
    (of_decide_eq_true (by kernel_rfl)) (by unfold Func.isWrapper; rw [if_neg (of_decide_eq_false (by kernel_rfl))]; exact ⟨rfl, rfl⟩)
    (fun os started H enc _ => zGf os started H enc)
#print axioms plotsShortDrawSame_holds
theorem plotsShortDrawSameCard_holds : Rows.PlotsShortDrawSameCardSaid :=
  Claim7.holds_tied_plain_at .later [] [.data, .data, .data] true (true, "c44b1ef2c0d88c505592d55f9c8592435ba6879242bb344c928b354b8eb65ade") false
    plotsShortDrawSame_holds (fun _ h => by cases h) (by kernel_rfl) (fun _ h => by cases h) plotsShortDrawSame_row_tie rfl ⟨rfl, rfl⟩ (by kernel_rfl) rfl
    (fun f fn hf hfn => by
      obtain rfl : f = 6 := Option.some.inj ((show Tryz.prog.funcNamed "etchhouse/etchhouselaw3.PlotsShortDrawSame" = some 6 by kernel_rfl).symm.trans hf) |>.symm
      obtain rfl : fn = Tryz.f6 := (Option.some.inj (Tryz.func6.symm.trans hfn)).symm
      refine ⟨by kernel_rfl, fun j t ht => ?_⟩
      rw [Tryz.params6] at ht
      rcases j with _ | j
      · simp at ht; subst ht; exact (show Tryz.prog.wantsStandIn 25 = false by kernel_rfl)
      · simp at ht)
    (by kernel_rfl)
#print axioms plotsShortDrawSameCard_holds
end Go.Proofs.YtoageaoknnnfbaaGreatDoor
