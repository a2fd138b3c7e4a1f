/- PlotsMovedMatchSpec: whatever the input: the law answers true, and the arguments read as they did. -/
import Derived.Test.YtneghcpnehiffaaDoorXW
import Derived.Test.YtneghcpnehiffaaDoorY63
import Derived.Test.YtneghcpnehiffaaDoorQPMMSR
import Derived.Test.YtneghcpnehiffaaDoorTie
import Derived.Test.YtneghcpnehiffaaDoorCards
import Derived.SevenTiedAt
namespace Go.Proofs.YtneghcpnehiffaaDoor
open Go.ChangeShapes Go.WideShapes Go.ChangeAt Go.RowKit Go.Deep Go.WideElems
open Go.ChangeMaps (open_string)
set_option maxRecDepth 100000
theorem met_plotsMovedMatchSpec (os : Os) (args : Array Value) : laidMetH Tryd.prog Rows.plotsMovedMatchSpecRow.laid ((World.laidAll Tryd.prog os Rows.plotsMovedMatchSpecRow.laid).forCall (fun _ _ => 0) ⟨#[], args, []⟩).memory := by
  rw [Go.MakeChecks.laidMetH_plain _ _ _ (by kernel_rfl)]
  exact laidMet_laidAll args (by kernel_rfl) (by kernel_rfl)
theorem plotsMovedMatchSpec_lifted (os : Os) (started : os.Started) (H : Type) (enc : TypeId × Value → H) :
    ReturnsInHanded {} Tryd.checked os 3 .any (fun w args => (Rows.plotsMovedMatchSpecSpec.pre enc Tryd.prog Tryd.f3 Rows.plotsMovedMatchSpecRow.domain false w args ∧ laidMetH Tryd.prog Rows.plotsMovedMatchSpecRow.laid w) ∧ sizedMet enc Tryd.prog Tryd.f3 (OpenSpec.ofChange Rows.plotsMovedMatchSpecSpec) false w args) (Rows.plotsMovedMatchSpecSpec.post enc Tryd.prog Tryd.f3 false true false false) := by
  refine returnsInHanded_of_change_and (C := Tryd.checked) (X := fun w _ => laidMetH Tryd.prog Rows.plotsMovedMatchSpecRow.laid w) (fun _ _ _ hh h => h.of_heap hh) own_ started (by kernel_rfl) Tryd.func3
    (ChangeSpec.witness_at (enc := enc) (C := Tryd.checked) (os := os) (X := fun w _ => laidMetH Tryd.prog Rows.plotsMovedMatchSpecRow.laid w) false (World.laidAll Tryd.prog os Rows.plotsMovedMatchSpecRow.laid) #[.agg #[.int .i64 0, .slice none 0 0, .slice none 0 0], .agg #[.int .i64 0, .int .i64 0], .agg #[.bool false, .int .i64 0, .int .i64 0, .int .i64 0]] 8 (World.laidAll_os _ _ _) (by kernel_rfl) (by kernel_rfl) (by kernel_rfl) (by kernel_rfl) (by kernel_rfl) (met_plotsMovedMatchSpec os _)) ?_
  intro W base args ds gs before hval0 hW _ _ hL _
  have hT : Tab Tryd.prog (lawBase W) := tab_of (by kernel_rfl) (by kernel_rfl) (by kernel_rfl) hL
  have hval : ∀ (j : Nat) t v, Tryd.f3.params[j]? = some t → args[j]? = some v → Value.okWide Tryd.prog W .any base t v := hval0
  have hW' := hW
  obtain ⟨p, q, hA0, hV, rfl, hfz, hnd⟩ := hW
  have hA : DataW.TrodAll enc Tryd.prog W 0 (fun _ => true) true Tryd.f3.params.toList args.toList ds p := hA0
  rw [Tryd.params3] at hA hval
  obtain ⟨v0, v1, v2, d0, d1, d2, p0, p1, p2, rfl, rfl, rfl, h0, h1, h2⟩ := trodAll_three hA
  obtain ⟨rfl, rfl⟩ := trodVars_none hV
  have hh0 := h0
  have hh1 := h1
  have hh2 := h2
  obtain ⟨b0, A0_1, c0_1, A0_2, c0_2, rfl, s0_1, s0_2, hw0⟩ := open_25 (hval 0 25 v0 rfl rfl) h0
  obtain ⟨b1, rfl, hw1⟩ := open_27 (hval 1 27 v1 rfl rfl) h1
  obtain ⟨b2, rfl, hw2⟩ := open_29 (hval 2 29 v2 rfl rfl) h2
  clear hA0 hval0
  try simp only [List.append_nil, List.nil_append] at hW'
  have hlt : ∀ x ∈ p0 ++ p1 ++ p2, x.block < W.heap.size := fun x hx => by
    have := hW'.lt x (by first | (simp [hx]; done) | (simp at hx; rcases hx with h | h <;> simp [h]; done) | (simp at hx; rcases hx with h | h | h <;> simp [h]; done) | (simp at hx ⊢; exact hx))
    simpa using this
  obtain ⟨N, hN⟩ := PlotsMoved_plain b0 b1 b2 hw0 hw1 hw2
  refine (F_etchhouselaw3_PlotsMovedMatchSpec_ok N (w := lawBase W) b0 A0_1 c0_1 (by first | exact Sl.baseR s0_1 | exact s0_1) A0_2 c0_2 (by first | exact Sl.baseR s0_2 | exact s0_2) b1  b2  true hN (HF.start _)).mono fun e W' ⟨he, hnx0⟩ => ?_
  have hnx := (lawBase_below hnx0).kit
  subst he
  refine ⟨_, rfl, _, _, _, [], p0 ++ p1 ++ p2, [], hW', ?_, ?_, rfl, hnx.frame _, fun h => by cases h⟩
  · exact trodAll_mk1 (shut_bool Tryd.underlying4 _)
  · have ht := trodAll_mk3 (Below.trod laidOut_ (by kernel_rfl) (of_decide_eq_true (by kernel_rfl)) hh0 hnx (fun x hx => hlt x (by simp [hx]))) (Below.trod laidOut_ (by kernel_rfl) (of_decide_eq_true (by kernel_rfl)) hh1 hnx (fun x hx => hlt x (by simp [hx]))) (Below.trod laidOut_ (by kernel_rfl) (of_decide_eq_true (by kernel_rfl)) hh2 hnx (fun x hx => hlt x (by simp [hx])))
    try simp only [List.append_nil, List.nil_append] at ht
    try rw [← List.append_assoc] at ht
    exact ht
theorem plotsMovedMatchSpec_holds : Rows.PlotsMovedMatchSpecSaid :=
  OpenClaim.holds_of_wide 3 Tryd.f3 rfl rfl rfl rfl rfl rfl rfl ⟨rfl, rfl, rfl, rfl, rfl⟩ rfl rfl rfl rfl rfl (by kernel_rfl) Tryd.func3 (by kernel_rfl)
    (of_decide_eq_true (by kernel_rfl)) (by unfold Func.isWrapper; rw [if_neg (of_decide_eq_false (by kernel_rfl))]; exact ⟨rfl, rfl⟩)
    (fun os started H enc _ => plotsMovedMatchSpec_lifted os started H enc)
#print axioms plotsMovedMatchSpec_holds
theorem plotsMovedMatchSpecCard_holds : Rows.PlotsMovedMatchSpecCardSaid :=
  Claim7.holds_tied_plain_at .later [] [.data, .data, .data] true (true, "a8cc09ba8a570f06cfe7b05c610370ba2846599ffc245549955180a93652a235") false
    plotsMovedMatchSpec_holds (fun _ h => by cases h) (by kernel_rfl) (fun _ h => by cases h) plotsMovedMatchSpec_row_tie rfl ⟨rfl, rfl⟩ (by kernel_rfl) rfl
    (fun f fn hf hfn => by
      obtain rfl : f = 3 := Option.some.inj ((show Tryd.prog.funcNamed "etchhouse/etchhouselaw3.PlotsMovedMatchSpec" = some 3 by kernel_rfl).symm.trans hf) |>.symm
      obtain rfl : fn = Tryd.f3 := (Option.some.inj (Tryd.func3.symm.trans hfn)).symm
      refine ⟨by kernel_rfl, fun j t ht => ?_⟩
      rw [Tryd.params3] at ht
      rcases j with _ | _ | _ | j
      · simp at ht; subst ht; exact (show Tryd.prog.wantsStandIn 25 = false by kernel_rfl)
      · simp at ht; subst ht; exact (show Tryd.prog.wantsStandIn 27 = false by kernel_rfl)
      · simp at ht; subst ht; exact (show Tryd.prog.wantsStandIn 29 = false by kernel_rfl)
      · simp at ht)
    (by kernel_rfl)
#print axioms plotsMovedMatchSpecCard_holds
end Go.Proofs.YtneghcpnehiffaaDoor
