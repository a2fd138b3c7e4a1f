/- PlotsComeBack: whatever the input: the law answers true, and the arguments read as they did. -/
import Derived.Test.YtokanbmnoghafaaGreatDoorXW
import Derived.Test.YtokanbmnoghafaaGreatDoorI41
import Derived.Test.YtokanbmnoghafaaGreatDoorQPCBR
import Derived.Test.YtokanbmnoghafaaGreatDoorTie
import Derived.Test.YtokanbmnoghafaaGreatDoorCards
import Derived.SevenTiedAt
namespace Go.Proofs.YtokanbmnoghafaaGreatDoor
open Go.ChangeShapes Go.WideShapes Go.ChangeAt Go.RowKit Go.Deep Go.WideElems
open Go.ChangeMaps (open_string)
set_option maxRecDepth 100000
theorem zFl (os : Os) (args : Array Value) : laidMetH Tryz.prog Rows.plotsComeBackRow.laid ((World.laidAll Tryz.prog os Rows.plotsComeBackRow.laid).forCall (fun _ _ => 0) ⟨#[], args, []⟩).memory := by
  rw [Go.MakeChecks.laidMetH_plain _ _ _ (by kernel_rfl)]
  exact laidMet_laidAll args (by kernel_rfl) (by kernel_rfl)
theorem zEB (os : Os) (started : os.Started) (H : Type) (enc : TypeId × Value → H) :
    ReturnsInHanded {} Tryz.checked os 3 .any (fun w args => (Rows.plotsComeBackSpec.pre enc Tryz.prog Tryz.f3 Rows.plotsComeBackRow.domain false w args ∧ laidMetH Tryz.prog Rows.plotsComeBackRow.laid w) ∧ sizedMet enc Tryz.prog Tryz.f3 (OpenSpec.ofChange Rows.plotsComeBackSpec) false w args) (Rows.plotsComeBackSpec.post enc Tryz.prog Tryz.f3 false true false false) := by
  refine zBB (C := Tryz.checked) (X := fun w _ => laidMetH Tryz.prog Rows.plotsComeBackRow.laid w) (fun _ _ _ hh h => h.of_heap hh) own_ started (by kernel_rfl) Tryz.func3
    (ChangeSpec.witness_at (enc := enc) (C := Tryz.checked) (os := os) (X := fun w _ => laidMetH Tryz.prog Rows.plotsComeBackRow.laid w) false (World.laidAll Tryz.prog os Rows.plotsComeBackRow.laid) #[.agg #[.int .i64 0, .slice none 0 0, .slice none 0 0], .string ByteArray.empty] 8 (World.laidAll_os _ _ _) (by kernel_rfl) (by kernel_rfl) (by kernel_rfl) (by kernel_rfl) (by kernel_rfl) (zFl os _)) ?_
  intro W base args ds gs before hsh hval0 hW _ _ hL _
  have hT : Tab Tryz.prog (zDU W) := ⟨tab_of (by kernel_rfl) (by kernel_rfl) (by kernel_rfl) hL, maxI_of Tryz.cut17.g1 (Tryz.cut17.s1_3 W hsh)⟩
  have hval : ∀ (j : Nat) t v, Tryz.f3.params[j]? = some t → args[j]? = some v → Value.okWide Tryz.prog W .any base t v := hval0
  have hW' := hW
  obtain ⟨p, q, hA0, hV, rfl, hfz, hnd⟩ := hW
  have hA : DataW.TrodAll enc Tryz.prog W 0 (fun _ => true) true Tryz.f3.params.toList args.toList ds p := hA0
  rw [Tryz.params3] at hA hval
  obtain ⟨v0, v1, d0, d1, p0, p1, rfl, rfl, rfl, h0, h1⟩ := trodAll_two hA
  obtain ⟨rfl, rfl⟩ := trodVars_none hV
  have hh0 := h0
  have hh1 := h1
  obtain ⟨b0, A0_1, c0_1, A0_2, c0_2, rfl, s0_1, s0_2, hw0⟩ := open_25 (hval 0 25 v0 rfl rfl) h0
  obtain ⟨b1, rfl, rfl, rfl, hs1⟩ := open_string Tryz.underlying9 (hval 1 9 v1 rfl rfl) h1
  clear hA0 hval0
  try simp only [List.append_nil, List.nil_append] at hW'
  have hlt : ∀ x ∈ p0, x.block < W.heap.size := fun x hx => by
    have := hW'.lt x (by first | (simp [hx]; done) | (simp at hx; rcases hx with h | h <;> simp [h]; done) | (simp at hx; rcases hx with h | h | h <;> simp [h]; done) | (simp at hx ⊢; exact hx))
    simpa using this
  obtain ⟨N, hN⟩ := zHV b0 b1 hw0 hs1
  refine (zA1 N (w := zDU W) hT b0 A0_1 c0_1 (by first | exact Sl.baseR s0_1 | exact s0_1) A0_2 c0_2 (by first | exact Sl.baseR s0_2 | exact s0_2) b1 true hN (HF.start _)).mono fun e W' ⟨he, hnx0⟩ => ?_
  have hnx := (zJK hnx0).kit
  subst he
  refine ⟨_, rfl, _, _, _, [], p0, [], hW', ?_, ?_, rfl, hnx.frame _, fun h => by cases h⟩
  · exact trodAll_mk1 (shut_bool Tryz.underlying4 _)
  · have ht := trodAll_mk2 (Below.trod laidOut_ (by kernel_rfl) (of_decide_eq_true (by kernel_rfl)) hh0 hnx (fun x hx => hlt x (by simp [hx]))) (Below.trod laidOut_ (by kernel_rfl) (of_decide_eq_true (by kernel_rfl)) hh1 hnx (fun x hx => by simp at hx))
    try simp only [List.append_nil, List.nil_append] at ht
    try rw [← List.append_assoc] at ht
    exact ht
theorem plotsComeBack_holds : Rows.PlotsComeBackSaid :=
  OpenClaim.holds_of_wide 3 Tryz.f3 rfl rfl rfl rfl rfl rfl rfl ⟨rfl, rfl, rfl, rfl, rfl⟩ rfl rfl rfl rfl rfl (by kernel_rfl) Tryz.func3 (by kernel_rfl)
    (of_decide_eq_true (by kernel_rfl)) (by unfold Func.isWrapper; rw [if_neg (of_decide_eq_false (by kernel_rfl))]; exact ⟨rfl, rfl⟩)
    (fun os started H enc _ => zEB os started H enc)
#print axioms plotsComeBack_holds
theorem plotsComeBackCard_holds : Rows.PlotsComeBackCardSaid :=
  Claim7.holds_tied_plain_at .later [] [.data, .data, .data, .data, .sentinel, .sentinel, .pinned] true (true, "5a89f27628e7841bc92a5cb8db47312356dd6424bd5300d0038decdf143048b3") true
    plotsComeBack_holds (fun _ h => by cases h) (by kernel_rfl) (fun _ h => by cases h) plotsComeBack_row_tie rfl ⟨rfl, rfl⟩ (by kernel_rfl) rfl
    (fun f fn hf hfn => by
      obtain rfl : f = 3 := Option.some.inj ((show Tryz.prog.funcNamed "etchhouse/etchhouselaw3.PlotsComeBack" = some 3 by kernel_rfl).symm.trans hf) |>.symm
      obtain rfl : fn = Tryz.f3 := (Option.some.inj (Tryz.func3.symm.trans hfn)).symm
      refine ⟨by kernel_rfl, fun j t ht => ?_⟩
      rw [Tryz.params3] at ht
      rcases j with _ | _ | j
      · simp at ht; subst ht; exact (show Tryz.prog.wantsStandIn 25 = false by kernel_rfl)
      · simp at ht; subst ht; exact (show Tryz.prog.wantsStandIn 9 = false by kernel_rfl)
      · simp at ht)
    (by kernel_rfl)
#print axioms plotsComeBackCard_holds
end Go.Proofs.YtokanbmnoghafaaGreatDoor
