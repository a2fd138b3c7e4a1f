/- PlotsReadMatchSpec: whatever the input: the law answers true, and the arguments read as they did. -/
import Derived.Test.YtokanbmnoghafaaGreatDoorXW
import Derived.Test.YtokanbmnoghafaaGreatDoorI33
import Derived.Test.YtokanbmnoghafaaGreatDoorQPRMSR
import Derived.Test.YtokanbmnoghafaaGreatDoorTie
import Derived.Test.YtokanbmnoghafaaGreatDoorCards
import Derived.SevenTiedAt
namespace Go.Proofs.YtokanbmnoghafaaGreatDoor
open Go.ChangeShapes Go.WideShapes Go.ChangeAt Go.RowKit Go.Deep Go.WideElems
open Go.ChangeMaps (open_string)
set_option maxRecDepth 100000
theorem zEt (os : Os) (args : Array Value) : laidMetH Tryz.prog Rows.plotsReadMatchSpecRow.laid ((World.laidAll Tryz.prog os Rows.plotsReadMatchSpecRow.laid).forCall (fun _ _ => 0) ⟨#[], args, []⟩).memory := by
  rw [Go.MakeChecks.laidMetH_plain _ _ _ (by kernel_rfl)]
  exact laidMet_laidAll args (by kernel_rfl) (by kernel_rfl)
theorem zDg (os : Os) (started : os.Started) (H : Type) (enc : TypeId × Value → H) :
    ReturnsInHanded {} Tryz.checked os 4 .any (fun w args => (Rows.plotsReadMatchSpecSpec.pre enc Tryz.prog Tryz.f4 Rows.plotsReadMatchSpecRow.domain false w args ∧ laidMetH Tryz.prog Rows.plotsReadMatchSpecRow.laid w) ∧ sizedMet enc Tryz.prog Tryz.f4 (OpenSpec.ofChange Rows.plotsReadMatchSpecSpec) false w args) (Rows.plotsReadMatchSpecSpec.post enc Tryz.prog Tryz.f4 false true false false) := by
  refine zCV (C := Tryz.checked) (X := fun w _ => laidMetH Tryz.prog Rows.plotsReadMatchSpecRow.laid w) (fun _ _ _ hh h => h.of_heap hh) own_ started (by kernel_rfl) Tryz.func4
    (ChangeSpec.witness_at (enc := enc) (C := Tryz.checked) (os := os) (X := fun w _ => laidMetH Tryz.prog Rows.plotsReadMatchSpecRow.laid w) false (World.laidAll Tryz.prog os Rows.plotsReadMatchSpecRow.laid) #[.string ByteArray.empty] 8 (World.laidAll_os _ _ _) (by kernel_rfl) (by kernel_rfl) (by kernel_rfl) (by kernel_rfl) (by kernel_rfl) (zEt os _)) ?_
  intro W base args ds gs before hsh hval0 hW _ _ hL _
  have hT : Tab Tryz.prog (zG4 W) := ⟨tab_of (by kernel_rfl) (by kernel_rfl) (by kernel_rfl) hL, maxI_of Tryz.cut17.g1 (Tryz.cut17.s1_3 W hsh)⟩
  have hval : ∀ (j : Nat) t v, Tryz.f4.params[j]? = some t → args[j]? = some v → Value.okWide Tryz.prog W .any base t v := hval0
  have hW' := hW
  obtain ⟨p, q, hA0, hV, rfl, hfz, hnd⟩ := hW
  have hA : DataW.TrodAll enc Tryz.prog W 0 (fun _ => true) true Tryz.f4.params.toList args.toList ds p := hA0
  rw [Tryz.params4] at hA hval
  obtain ⟨v0, d0, rfl, rfl, h0⟩ := trodAll_one hA
  obtain ⟨rfl, rfl⟩ := trodVars_none hV
  have hh0 := h0
  obtain ⟨b0, rfl, rfl, rfl, hs0⟩ := open_string Tryz.underlying9 (hval 0 9 v0 rfl rfl) h0
  clear hA0 hval0
  try simp only [List.append_nil, List.nil_append] at hW'
  have hlt : ∀ x ∈ ([] : List MemPlace), x.block < W.heap.size := fun x hx => by
    have := hW'.lt x (by first | (simp [hx]; done) | (simp at hx; rcases hx with h | h <;> simp [h]; done) | (simp at hx; rcases hx with h | h | h <;> simp [h]; done) | (simp at hx ⊢; exact hx))
    simpa using this
  obtain ⟨N, hN⟩ := zIm b0 hs0
  refine (zBN N (w := zG4 W) hT b0 true hN (HF.start _)).mono fun e W' ⟨he, hnx0⟩ => ?_
  have hnx := (lawBase_below hnx0).kit
  subst he
  refine ⟨_, rfl, _, _, _, [], ([] : List MemPlace), [], hW', ?_, ?_, rfl, hnx.frame _, fun h => by cases h⟩
  · exact trodAll_mk1 (shut_bool Tryz.underlying4 _)
  · have ht := trodAll_mk1 (Below.trod laidOut_ (by kernel_rfl) (of_decide_eq_true (by kernel_rfl)) hh0 hnx (fun x hx => by simp at hx))
    try simp only [List.append_nil, List.nil_append] at ht
    try rw [← List.append_assoc] at ht
    exact ht
theorem plotsReadMatchSpec_holds : Rows.PlotsReadMatchSpecSaid :=
  OpenClaim.holds_of_wide 4 Tryz.f4 rfl rfl rfl rfl rfl rfl rfl ⟨rfl, rfl, rfl, rfl, rfl⟩ rfl rfl rfl rfl rfl (by kernel_rfl) Tryz.func4 (by kernel_rfl)
    (of_decide_eq_true (by kernel_rfl)) (by unfold Func.isWrapper; rw [if_neg (of_decide_eq_false (by kernel_rfl))]; exact ⟨rfl, rfl⟩)
    (fun os started H enc _ => zDg os started H enc)
#print axioms plotsReadMatchSpec_holds
theorem plotsReadMatchSpecCard_holds : Rows.PlotsReadMatchSpecCardSaid :=
  Claim7.holds_tied_plain_at .later [] [.data, .data, .data, .data, .sentinel, .sentinel, .pinned] true (true, "5a89f27628e7841bc92a5cb8db47312356dd6424bd5300d0038decdf143048b3") true
    plotsReadMatchSpec_holds (fun _ h => by cases h) (by kernel_rfl) (fun _ h => by cases h) plotsReadMatchSpec_row_tie rfl ⟨rfl, rfl⟩ (by kernel_rfl) rfl
    (fun f fn hf hfn => by
      obtain rfl : f = 4 := Option.some.inj ((show Tryz.prog.funcNamed "etchhouse/etchhouselaw3.PlotsReadMatchSpec" = some 4 by kernel_rfl).symm.trans hf) |>.symm
      obtain rfl : fn = Tryz.f4 := (Option.some.inj (Tryz.func4.symm.trans hfn)).symm
      refine ⟨by kernel_rfl, fun j t ht => ?_⟩
      rw [Tryz.params4] at ht
      rcases j with _ | j
      · simp at ht; subst ht; exact (show Tryz.prog.wantsStandIn 9 = false by kernel_rfl)
      · simp at ht)
    (by kernel_rfl)
#print axioms plotsReadMatchSpecCard_holds
end Go.Proofs.YtokanbmnoghafaaGreatDoor
