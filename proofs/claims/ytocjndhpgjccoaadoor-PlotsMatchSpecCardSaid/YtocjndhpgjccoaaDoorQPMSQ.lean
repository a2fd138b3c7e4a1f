/- PlotsMatchSpec: whatever the input: the law answers true, and the arguments read as they did. -/
import Derived.Test.YtocjndhpgjccoaaDoorXW
import Derived.Test.YtocjndhpgjccoaaDoorY7
import Derived.Test.YtocjndhpgjccoaaDoorQPMSR
import Derived.Test.YtocjndhpgjccoaaDoorTie
import Derived.Test.YtocjndhpgjccoaaDoorCards
import Derived.SevenTiedAt
namespace Go.Proofs.YtocjndhpgjccoaaDoor
open Go.ChangeShapes Go.WideShapes Go.ChangeAt Go.RowKit Go.Deep Go.WideElems
open Go.ChangeMaps (open_string)
set_option maxRecDepth 100000
theorem met_plotsMatchSpec (os : Os) (args : Array Value) : laidMetH Tryd.prog Rows.plotsMatchSpecRow.laid ((World.laidAll Tryd.prog os Rows.plotsMatchSpecRow.laid).forCall (fun _ _ => 0) ⟨#[], args, []⟩).memory := by
  rw [Go.MakeChecks.laidMetH_plain _ _ _ (by kernel_rfl)]
  exact laidMet_laidAll args (by kernel_rfl) (by kernel_rfl)
theorem plotsMatchSpec_lifted (os : Os) (started : os.Started) (H : Type) (enc : TypeId × Value → H) :
    ReturnsInHanded {} Tryd.checked os 3 .any (fun w args => (Rows.plotsMatchSpecSpec.pre enc Tryd.prog Tryd.f3 Rows.plotsMatchSpecRow.domain false w args ∧ laidMetH Tryd.prog Rows.plotsMatchSpecRow.laid w) ∧ sizedMet enc Tryd.prog Tryd.f3 (OpenSpec.ofChange Rows.plotsMatchSpecSpec) false w args) (Rows.plotsMatchSpecSpec.post enc Tryd.prog Tryd.f3 false true false false) := by
  refine returnsInHanded_of_change_and (C := Tryd.checked) (X := fun w _ => laidMetH Tryd.prog Rows.plotsMatchSpecRow.laid w) (fun _ _ _ hh h => h.of_heap hh) own_ started (by kernel_rfl) Tryd.func3
    (ChangeSpec.witness_at (enc := enc) (C := Tryd.checked) (os := os) (X := fun w _ => laidMetH Tryd.prog Rows.plotsMatchSpecRow.laid w) false (World.laidAll Tryd.prog os Rows.plotsMatchSpecRow.laid) #[.agg #[.int .i64 0, .slice none 0 0, .slice none 0 0]] 8 (World.laidAll_os _ _ _) (by kernel_rfl) (by kernel_rfl) (by kernel_rfl) (by kernel_rfl) (by kernel_rfl) (met_plotsMatchSpec os _)) ?_
  intro W base args ds gs before hval0 hW _ _ hL _
  have hT : Tab Tryd.prog (lawBase W) := tab_of (by kernel_rfl) (by kernel_rfl) (by kernel_rfl) hL
  have hval : ∀ (j : Nat) t v, Tryd.f3.params[j]? = some t → args[j]? = some v → Value.okWide Tryd.prog W .any base t v := hval0
  have hW' := hW
  obtain ⟨p, q, hA0, hV, rfl, hfz, hnd⟩ := hW
  have hA : DataW.TrodAll enc Tryd.prog W 0 (fun _ => true) true Tryd.f3.params.toList args.toList ds p := hA0
  rw [Tryd.params3] at hA hval
  obtain ⟨v0, d0, rfl, rfl, h0⟩ := trodAll_one hA
  obtain ⟨rfl, rfl⟩ := trodVars_none hV
  have hh0 := h0
  obtain ⟨b0, A0_1, c0_1, A0_2, c0_2, rfl, s0_1, s0_2, hw0⟩ := open_25 (hval 0 25 v0 rfl rfl) h0
  clear hA0 hval0
  try simp only [List.append_nil, List.nil_append] at hW'
  have hlt : ∀ x ∈ p, x.block < W.heap.size := fun x hx => by
    have := hW'.lt x (by first | (simp [hx]; done) | (simp at hx; rcases hx with h | h <;> simp [h]; done) | (simp at hx; rcases hx with h | h | h <;> simp [h]; done) | (simp at hx ⊢; exact hx))
    simpa using this
  obtain ⟨N, hN⟩ := Plots_plain b0 hw0
  refine (F_etchhouselaw3_PlotsMatchSpec_ok N (w := lawBase W) hT b0 A0_1 c0_1 (by first | exact Sl.baseR s0_1 | exact s0_1) A0_2 c0_2 (by first | exact Sl.baseR s0_2 | exact s0_2) true hN (HF.start _)).mono fun e W' ⟨he, hnx0⟩ => ?_
  have hnx := (lawBase_below hnx0).kit
  subst he
  refine ⟨_, rfl, _, _, _, [], p, [], hW', ?_, ?_, rfl, hnx.frame _, fun h => by cases h⟩
  · exact trodAll_mk1 (shut_bool Tryd.underlying4 _)
  · have ht := trodAll_mk1 (Below.trod laidOut_ (by kernel_rfl) (of_decide_eq_true (by kernel_rfl)) hh0 hnx (fun x hx => hlt x (by simp [hx])))
    try simp only [List.append_nil, List.nil_append] at ht
    try rw [← List.append_assoc] at ht
    exact ht
theorem plotsMatchSpec_holds : Rows.PlotsMatchSpecSaid :=
  OpenClaim.holds_of_wide 3 Tryd.f3 rfl rfl rfl rfl rfl rfl rfl ⟨rfl, rfl, rfl, rfl, rfl⟩ rfl rfl rfl rfl rfl (by kernel_rfl) Tryd.func3 (by kernel_rfl)
    (of_decide_eq_true (by kernel_rfl)) (by unfold Func.isWrapper; rw [if_neg (of_decide_eq_false (by kernel_rfl))]; exact ⟨rfl, rfl⟩)
    (fun os started H enc _ => plotsMatchSpec_lifted os started H enc)
#print axioms plotsMatchSpec_holds
theorem plotsMatchSpecCard_holds : Rows.PlotsMatchSpecCardSaid :=
  Claim7.holds_tied_plain_at .later [] [.data, .data, .data] true (true, "5e76e2267636eec91094139dbff447c5f887d351107d68d9ad4408eedf8c33a7") false
    plotsMatchSpec_holds (fun _ h => by cases h) (by kernel_rfl) (fun _ h => by cases h) plotsMatchSpec_row_tie rfl ⟨rfl, rfl⟩ (by kernel_rfl) rfl
    (fun f fn hf hfn => by
      obtain rfl : f = 3 := Option.some.inj ((show Tryd.prog.funcNamed "etchhouse/etchhouselaw3.PlotsMatchSpec" = some 3 by kernel_rfl).symm.trans hf) |>.symm
      obtain rfl : fn = Tryd.f3 := (Option.some.inj (Tryd.func3.symm.trans hfn)).symm
      refine ⟨by kernel_rfl, fun j t ht => ?_⟩
      rw [Tryd.params3] at ht
      rcases j with _ | j
      · simp at ht; subst ht; exact (show Tryd.prog.wantsStandIn 25 = false by kernel_rfl)
      · simp at ht)
    (by kernel_rfl)
#print axioms plotsMatchSpecCard_holds
end Go.Proofs.YtocjndhpgjccoaaDoor
