/- PlotsTurnedDrawTurned: whatever the input: the law answers true, and the arguments read as they did. -/
import Derived.Test.YtneghcpnehiffaaGreatDoorXW
import Derived.Test.YtneghcpnehiffaaGreatDoorY74
import Derived.Test.YtneghcpnehiffaaGreatDoorQPTDTR
import Derived.Test.YtneghcpnehiffaaGreatDoorTie
import Derived.Test.YtneghcpnehiffaaGreatDoorCards
import Derived.SevenTiedAt
namespace Go.Proofs.YtneghcpnehiffaaGreatDoor
open Go.ChangeShapes Go.WideShapes Go.ChangeAt Go.RowKit Go.Deep Go.WideElems
open Go.ChangeMaps (open_string)
set_option maxRecDepth 100000
theorem zF2 (os : Os) (args : Array Value) : laidMetH Tryz.prog Rows.plotsTurnedDrawTurnedRow.laid ((World.laidAll Tryz.prog os Rows.plotsTurnedDrawTurnedRow.laid).forCall (fun _ _ => 0) ⟨#[], args, []⟩).memory := by
  rw [Go.MakeChecks.laidMetH_plain _ _ _ (by kernel_rfl)]
  exact laidMet_laidAll args (by kernel_rfl) (by kernel_rfl)
theorem zEu (os : Os) (started : os.Started) (H : Type) (enc : TypeId × Value → H) :
    ReturnsInHanded {} Tryz.checked os 3 .any (fun w args => (Rows.plotsTurnedDrawTurnedSpec.pre enc Tryz.prog Tryz.f3 Rows.plotsTurnedDrawTurnedRow.domain false w args ∧ laidMetH Tryz.prog Rows.plotsTurnedDrawTurnedRow.laid w) ∧ sizedMet enc Tryz.prog Tryz.f3 (OpenSpec.ofChange Rows.plotsTurnedDrawTurnedSpec) false w args) (Rows.plotsTurnedDrawTurnedSpec.post enc Tryz.prog Tryz.f3 false true false false) := by
  refine returnsInHanded_of_change_and (C := Tryz.checked) (X := fun w _ => laidMetH Tryz.prog Rows.plotsTurnedDrawTurnedRow.laid w) (fun _ _ _ hh h => h.of_heap hh) zoR started (by kernel_rfl) Tryz.func3
    (ChangeSpec.witness_at (enc := enc) (C := Tryz.checked) (os := os) (X := fun w _ => laidMetH Tryz.prog Rows.plotsTurnedDrawTurnedRow.laid w) false (World.laidAll Tryz.prog os Rows.plotsTurnedDrawTurnedRow.laid) #[.agg #[.int .i64 0, .slice none 0 0, .slice none 0 0], .agg #[.int .i64 0, .int .i64 0], .agg #[.bool false, .int .i64 0, .int .i64 0, .int .i64 0]] 8 (World.laidAll_os _ _ _) (by kernel_rfl) (by kernel_rfl) (by kernel_rfl) (by kernel_rfl) (by kernel_rfl) (zF2 os _)) ?_
  intro W base args ds gs before hval0 hW _ _ hL _
  have hT : Tab Tryz.prog (zJM W) := ze5 (by kernel_rfl) (by kernel_rfl) (by kernel_rfl) hL
  have hval : ∀ (j : Nat) t v, Tryz.f3.params[j]? = some t → args[j]? = some v → Value.okWide Tryz.prog W .any base t v := hval0
  have hW' := hW
  obtain ⟨p, q, hA0, hV, rfl, hfz, hnd⟩ := hW
  have hA : DataW.TrodAll enc Tryz.prog W 0 (fun _ => true) true Tryz.f3.params.toList args.toList ds p := hA0
  rw [Tryz.params3] at hA hval
  obtain ⟨v0, v1, v2, d0, d1, d2, p0, p1, p2, rfl, rfl, rfl, h0, h1, h2⟩ := trodAll_three hA
  obtain ⟨rfl, rfl⟩ := trodVars_none hV
  have hh0 := h0
  have hh1 := h1
  have hh2 := h2
  obtain ⟨b0, A0_1, c0_1, A0_2, c0_2, rfl, s0_1, s0_2, hw0⟩ := zcJ (hval 0 25 v0 rfl rfl) h0
  obtain ⟨b1, rfl, hw1⟩ := zcI (hval 1 27 v1 rfl rfl) h1
  obtain ⟨b2, rfl, hw2⟩ := zcH (hval 2 29 v2 rfl rfl) h2
  clear hA0 hval0
  try simp only [List.append_nil, List.nil_append] at hW'
  have hlt : ∀ x ∈ p0 ++ p1 ++ p2, x.block < W.heap.size := fun x hx => by
    have := hW'.lt x (by first | (simp [hx]; done) | (simp at hx; rcases hx with h | h <;> simp [h]; done) | (simp at hx; rcases hx with h | h | h <;> simp [h]; done) | (simp at hx ⊢; exact hx))
    simpa using this
  obtain ⟨N, hN⟩ := zLf b0 b1 b2 hw0 hw1 hw2
  refine (zB3 N (w := zJM W) b0 A0_1 c0_1 (by first | exact Sl.zei s0_1 | exact s0_1) A0_2 c0_2 (by first | exact Sl.zei s0_2 | exact s0_2) b1  b2  true hN (HF.start _)).mono fun e W' ⟨he, hnx0⟩ => ?_
  have hnx := (zPk hnx0).kit
  subst he
  refine ⟨_, rfl, _, _, _, [], p0 ++ p1 ++ p2, [], hW', ?_, ?_, rfl, hnx.frame _, fun h => by cases h⟩
  · exact trodAll_mk1 (shut_bool Tryz.underlying4 _)
  · have ht := trodAll_mk3 (Below.trod zOa (by kernel_rfl) (of_decide_eq_true (by kernel_rfl)) hh0 hnx (fun x hx => hlt x (by simp [hx]))) (Below.trod zOa (by kernel_rfl) (of_decide_eq_true (by kernel_rfl)) hh1 hnx (fun x hx => hlt x (by simp [hx]))) (Below.trod zOa (by kernel_rfl) (of_decide_eq_true (by kernel_rfl)) hh2 hnx (fun x hx => hlt x (by simp [hx])))
    try simp only [List.append_nil, List.nil_append] at ht
    try rw [← List.append_assoc] at ht
    exact ht
theorem plotsTurnedDrawTurned_holds : Rows.PlotsTurnedDrawTurnedSaid :=
  OpenClaim.holds_of_wide 3 Tryz.f3 rfl rfl rfl rfl rfl rfl rfl ⟨rfl, rfl, rfl, rfl, rfl⟩ rfl rfl rfl rfl rfl (by kernel_rfl) Tryz.func3 (by kernel_rfl)
    (of_decide_eq_true (by kernel_rfl)) (by unfold Func.isWrapper; rw [if_neg (of_decide_eq_false (by kernel_rfl))]; exact ⟨rfl, rfl⟩)
    (fun os started H enc _ => zEu os started H enc)
#print axioms plotsTurnedDrawTurned_holds
theorem plotsTurnedDrawTurnedCard_holds : Rows.PlotsTurnedDrawTurnedCardSaid :=
  Claim7.holds_tied_plain_at .later [] [.data, .data, .data] true (true, "b0ecb7d7ea93fe271510be3bccfea0ab92c7dc63503b3d303d7250e6904131ec") false
    plotsTurnedDrawTurned_holds (fun _ h => by cases h) (by kernel_rfl) (fun _ h => by cases h) plotsTurnedDrawTurned_row_tie rfl ⟨rfl, rfl⟩ (by kernel_rfl) rfl
    (fun f fn hf hfn => by
      obtain rfl : f = 3 := Option.some.inj ((show Tryz.prog.funcNamed "etchhouse/etchhouselaw3.PlotsTurnedDrawTurned" = some 3 by kernel_rfl).symm.trans hf) |>.symm
      obtain rfl : fn = Tryz.f3 := (Option.some.inj (Tryz.func3.symm.trans hfn)).symm
      refine ⟨by kernel_rfl, fun j t ht => ?_⟩
      rw [Tryz.params3] at ht
      rcases j with _ | _ | _ | j
      · simp at ht; subst ht; exact (show Tryz.prog.wantsStandIn 25 = false by kernel_rfl)
      · simp at ht; subst ht; exact (show Tryz.prog.wantsStandIn 27 = false by kernel_rfl)
      · simp at ht; subst ht; exact (show Tryz.prog.wantsStandIn 29 = false by kernel_rfl)
      · simp at ht)
    (by kernel_rfl)
#print axioms plotsTurnedDrawTurnedCard_holds
end Go.Proofs.YtneghcpnehiffaaGreatDoor
