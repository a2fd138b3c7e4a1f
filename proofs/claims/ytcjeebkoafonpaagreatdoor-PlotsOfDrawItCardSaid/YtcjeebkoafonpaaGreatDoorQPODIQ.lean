/- PlotsOfDrawIt: whatever the input: the law answers true, and the arguments read as they did. -/
import Derived.Test.YtcjeebkoafonpaaGreatDoorXW
import Derived.Test.YtcjeebkoafonpaaGreatDoorJ6
import Derived.Test.YtcjeebkoafonpaaGreatDoorQPODIR
import Derived.Test.YtcjeebkoafonpaaGreatDoorTie
import Derived.Test.YtcjeebkoafonpaaGreatDoorCards
import Derived.SevenTiedAt
namespace Go.Proofs.YtcjeebkoafonpaaGreatDoor
open Go.ChangeShapes Go.WideShapes Go.ChangeAt Go.RowKit Go.Deep Go.WideElems
open Go.ChangeMaps (open_string)
set_option maxRecDepth 100000
theorem Bj (os : Os) (args : Array Value) : laidMetH Tryz.prog Rows.plotsOfDrawItRow.laid ((World.laidAll Tryz.prog os Rows.plotsOfDrawItRow.laid).forCall (fun _ _ => 0) ⟨#[], args, []⟩).memory := by
  rw [Go.MakeChecks.laidMetH_plain _ _ _ (by kernel_rfl)]
  exact laidMet_laidAll args (by kernel_rfl) (by kernel_rfl)
theorem yJ (os : Os) (started : os.Started) (H : Type) (enc : TypeId × Value → H) :
    ReturnsInHanded {} Tryz.checked os 4 .any (fun w args => (Rows.plotsOfDrawItSpec.pre enc Tryz.prog Tryz.f4 Rows.plotsOfDrawItRow.domain false w args ∧ laidMetH Tryz.prog Rows.plotsOfDrawItRow.laid w) ∧ sizedMet enc Tryz.prog Tryz.f4 (OpenSpec.ofChange Rows.plotsOfDrawItSpec) false w args) (Rows.plotsOfDrawItSpec.post enc Tryz.prog Tryz.f4 false true false false) := by
  refine returnsInHanded_of_change_and (C := Tryz.checked) (X := fun w _ => laidMetH Tryz.prog Rows.plotsOfDrawItRow.laid w) (fun _ _ _ hh h => h.of_heap hh) Vh started (by kernel_rfl) Tryz.func4
    (ChangeSpec.witness_at (enc := enc) (C := Tryz.checked) (os := os) (X := fun w _ => laidMetH Tryz.prog Rows.plotsOfDrawItRow.laid w) false (World.laidAll Tryz.prog os Rows.plotsOfDrawItRow.laid) #[.slice none 0 0] 8 (World.laidAll_os _ _ _) (by kernel_rfl) (by kernel_rfl) (by kernel_rfl) (by kernel_rfl) (by kernel_rfl) (Bj os _)) ?_
  intro W base args ds gs before hval0 hW _ _ hL _
  have hT : UN Tryz.prog (zB W) := R5 (by kernel_rfl) (by kernel_rfl) (by kernel_rfl) hL
  have hval : ∀ (j : Nat) t v, Tryz.f4.params[j]? = some t → args[j]? = some v → Value.okWide Tryz.prog W .any base t v := hval0
  have hW' := hW
  obtain ⟨p, q, hA0, hV, rfl, hfz, hnd⟩ := hW
  have hA : DataW.TrodAll enc Tryz.prog W 0 (fun _ => true) true Tryz.f4.params.toList args.toList ds p := hA0
  rw [Tryz.params4] at hA hval
  obtain ⟨v0, d0, rfl, rfl, h0⟩ := trodAll_one hA
  obtain ⟨rfl, rfl⟩ := trodVars_none hV
  have hh0 := h0
  obtain ⟨A0, c0, b0, rfl, s0, hw0⟩ : ∃ A c l, v0 = .slice A l.length c ∧ Sl (lo W.heap.size) W bq A c l ∧ ((l.length ≤ 9223372036854775807) ∧ ∀ x ∈ l, aQ.Wf x) := by
    obtain ⟨_, _, _, rfl⟩ := okWide_slice Tryz.underlying22 (hval 0 22 v0 rfl rfl)
    obtain ⟨fuel, hf⟩ := h0
    obtain ⟨A, c, l, e, s, w⟩ := J2 bq Tryz.underlying22 RF (by decide) (Vp bq mK qd () Te) hf
    exact ⟨A, c, l, e, s, Nat.le_trans s.form.1 s.form.2.1, w⟩
  clear hA0 hval0
  try simp only [List.append_nil, List.nil_append] at hW'
  have hlt : ∀ x ∈ p, x.block < W.heap.size := fun x hx => by
    have := hW'.lt x (by first | (simp [hx]; done) | (simp at hx; rcases hx with h | h <;> simp [h]; done) | (simp at hx; rcases hx with h | h | h <;> simp [h]; done) | (simp at hx ⊢; exact hx))
    simpa using this
  obtain ⟨N, hN⟩ := CP b0 hw0
  refine (sD N (w := zB W) b0 A0 c0 (by first | exact Sl.UJ s0 | exact s0) true hN (HF.start _)).mono fun e W' ⟨he, hnx0⟩ => ?_
  have hnx := (Fp hnx0).kit
  subst he
  refine ⟨_, rfl, _, _, _, [], p, [], hW', ?_, ?_, rfl, hnx.frame _, fun h => by cases h⟩
  · exact trodAll_mk1 (shut_bool Tryz.underlying4 _)
  · have ht := trodAll_mk1 (Below.trod OH (by kernel_rfl) (of_decide_eq_true (by kernel_rfl)) hh0 hnx (fun x hx => hlt x (by simp [hx])))
    try simp only [List.append_nil, List.nil_append] at ht
    try rw [← List.append_assoc] at ht
    exact ht
theorem plotsOfDrawIt_holds : Rows.PlotsOfDrawItSaid :=
  OpenClaim.holds_of_wide 4 Tryz.f4 rfl rfl rfl rfl rfl rfl rfl ⟨rfl, rfl, rfl, rfl, rfl⟩ rfl rfl rfl rfl rfl (by kernel_rfl) Tryz.func4 (by kernel_rfl)
    (of_decide_eq_true (by kernel_rfl)) (by unfold Func.isWrapper; rw [if_neg (of_decide_eq_false (by kernel_rfl))]; exact ⟨rfl, rfl⟩)
    (fun os started H enc _ => yJ os started H enc)
#print axioms plotsOfDrawIt_holds
theorem plotsOfDrawItCard_holds : Rows.PlotsOfDrawItCardSaid :=
  Claim7.holds_tied_plain_at .later [] [.data, .data, .data] true (true, "f87014b94601ef8f11e113d30fcf508090fcba9aeb8f3b9b3fdc0392649caf38") false
    plotsOfDrawIt_holds (fun _ h => by cases h) (by kernel_rfl) (fun _ h => by cases h) plotsOfDrawIt_row_tie rfl ⟨rfl, rfl⟩ (by kernel_rfl) rfl
    (fun f fn hf hfn => by
      obtain rfl : f = 4 := Option.some.inj ((show Tryz.prog.funcNamed "etchhouse/etchhouselaw3.PlotsOfDrawIt" = some 4 by kernel_rfl).symm.trans hf) |>.symm
      obtain rfl : fn = Tryz.f4 := (Option.some.inj (Tryz.func4.symm.trans hfn)).symm
      refine ⟨by kernel_rfl, fun j t ht => ?_⟩
      rw [Tryz.params4] at ht
      rcases j with _ | j
      · simp at ht; subst ht; exact (show Tryz.prog.wantsStandIn 22 = false by kernel_rfl)
      · simp at ht)
    (by kernel_rfl)
#print axioms plotsOfDrawItCard_holds
end Go.Proofs.YtcjeebkoafonpaaGreatDoor
