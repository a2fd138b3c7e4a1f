/- TopRegionsThroughPlots: whatever the input: the law answers true, and the arguments read as they did. -/
import Derived.Test.YtblmajfbibbiaaaGreatDoorXW
import Derived.Test.YtblmajfbibbiaaaGreatDoorJ6
import Derived.Test.YtblmajfbibbiaaaGreatDoorQTRTPR
import Derived.Test.YtblmajfbibbiaaaGreatDoorTie
import Derived.Test.YtblmajfbibbiaaaGreatDoorCards
import Derived.SevenTiedAt
namespace Go.Proofs.YtblmajfbibbiaaaGreatDoor
open Go.ChangeShapes Go.WideShapes Go.ChangeAt Go.RowKit Go.Deep Go.WideElems
open Go.ChangeMaps (open_string)
set_option maxRecDepth 100000
theorem ww (os : Os) (args : Array Value) : laidMetH Tryz.prog Rows.topRegionsThroughPlotsRow.laid ((World.laidAll Tryz.prog os Rows.topRegionsThroughPlotsRow.laid).forCall (fun _ _ => 0) ⟨#[], args, []⟩).memory := by
  rw [Go.MakeChecks.laidMetH_plain _ _ _ (by kernel_rfl)]
  exact laidMet_laidAll args (by kernel_rfl) (by kernel_rfl)
theorem uF (os : Os) (started : os.Started) (H : Type) (enc : TypeId × Value → H) :
    ReturnsInHanded {} Tryz.checked os 3 .any (fun w args => (Rows.topRegionsThroughPlotsSpec.pre enc Tryz.prog Tryz.f3 Rows.topRegionsThroughPlotsRow.domain false w args ∧ laidMetH Tryz.prog Rows.topRegionsThroughPlotsRow.laid w) ∧ sizedMet enc Tryz.prog Tryz.f3 (OpenSpec.ofChange Rows.topRegionsThroughPlotsSpec) false w args) (Rows.topRegionsThroughPlotsSpec.post enc Tryz.prog Tryz.f3 false true false false) := by
  refine uj (C := Tryz.checked) (X := fun w _ => laidMetH Tryz.prog Rows.topRegionsThroughPlotsRow.laid w) (fun _ _ _ hh h => h.of_heap hh) YU started (by kernel_rfl) Tryz.func3
    (ChangeSpec.witness_at (enc := enc) (C := Tryz.checked) (os := os) (X := fun w _ => laidMetH Tryz.prog Rows.topRegionsThroughPlotsRow.laid w) false (World.laidAll Tryz.prog os Rows.topRegionsThroughPlotsRow.laid) #[.slice none 0 0, .agg #[.bool false, .int .i64 0, .int .i64 0, .int .i64 0]] 8 (World.laidAll_os _ _ _) (by kernel_rfl) (by kernel_rfl) (by kernel_rfl) (by kernel_rfl) (by kernel_rfl) (ww os _)) ?_
  intro W base args ds gs before hsh hval0 hW _ _ hL _
  have hT : Kg Tryz.prog (yL W) := ⟨VY (by kernel_rfl) (by kernel_rfl) (by kernel_rfl) hL, Uo Tryz.Pj.g1 (Tryz.Pj.s1_3 W hsh)⟩
  have hval : ∀ (j : Nat) t v, Tryz.f3.params[j]? = some t → args[j]? = some v → Value.okWide Tryz.prog W .any base t v := hval0
  have hW' := hW
  obtain ⟨p, q, hA0, hV, rfl, hfz, hnd⟩ := hW
  have hA : DataW.TrodAll enc Tryz.prog W 0 (fun _ => true) true Tryz.f3.params.toList args.toList ds p := hA0
  rw [Tryz.params3] at hA hval
  obtain ⟨v0, v1, d0, d1, p0, p1, rfl, rfl, rfl, h0, h1⟩ := trodAll_two hA
  obtain ⟨rfl, rfl⟩ := trodVars_none hV
  have hh0 := h0
  have hh1 := h1
  obtain ⟨A0, c0, b0, rfl, s0, hw0⟩ : ∃ A c l, v0 = .slice A l.length c ∧ Sl (lo W.heap.size) W aX A c l ∧ ((l.length ≤ 9223372036854775807) ∧ ∀ x ∈ l, aK.Wf x) := by
    obtain ⟨_, _, _, rfl⟩ := okWide_slice Tryz.underlying22 (hval 0 22 v0 rfl rfl)
    obtain ⟨fuel, hf⟩ := h0
    obtain ⟨A, c, l, e, s, w⟩ := Mr aX Tryz.underlying22 Vu (by decide) (Y8 aX lY lW () WS) hf
    exact ⟨A, c, l, e, s, Nat.le_trans s.form.1 s.form.2.1, w⟩
  obtain ⟨b1, rfl, hw1⟩ := Ul (hval 1 26 v1 rfl rfl) h1
  clear hA0 hval0
  try simp only [List.append_nil, List.nil_append] at hW'
  have hlt : ∀ x ∈ p0 ++ p1, x.block < W.heap.size := fun x hx => by
    have := hW'.lt x (by first | (simp [hx]; done) | (simp at hx; rcases hx with h | h <;> simp [h]; done) | (simp at hx; rcases hx with h | h | h <;> simp [h]; done) | (simp at hx ⊢; exact hx))
    simpa using this
  obtain ⟨N, hN⟩ := Hq b0 b1 hw0 hw1
  refine (qH N (w := yL W) hT b0 A0 c0 (by first | exact Sl.Yn s0 | exact s0) b1  true hN (HF.start _)).mono fun e W' ⟨he, hnx0⟩ => ?_
  have hnx := (Hf hnx0).kit
  subst he
  refine ⟨_, rfl, _, _, _, [], p0 ++ p1, [], hW', ?_, ?_, rfl, hnx.frame _, fun h => by cases h⟩
  · exact trodAll_mk1 (shut_bool Tryz.underlying4 _)
  · have ht := trodAll_mk2 (Below.trod La (by kernel_rfl) (of_decide_eq_true (by kernel_rfl)) hh0 hnx (fun x hx => hlt x (by simp [hx]))) (Below.trod La (by kernel_rfl) (of_decide_eq_true (by kernel_rfl)) hh1 hnx (fun x hx => hlt x (by simp [hx])))
    try simp only [List.append_nil, List.nil_append] at ht
    try rw [← List.append_assoc] at ht
    exact ht
theorem topRegionsThroughPlots_holds : Rows.TopRegionsThroughPlotsSaid :=
  OpenClaim.holds_of_wide 3 Tryz.f3 rfl rfl rfl rfl rfl rfl rfl ⟨rfl, rfl, rfl, rfl, rfl⟩ rfl rfl rfl rfl rfl (by kernel_rfl) Tryz.func3 (by kernel_rfl)
    (of_decide_eq_true (by kernel_rfl)) (by unfold Func.isWrapper; rw [if_neg (of_decide_eq_false (by kernel_rfl))]; exact ⟨rfl, rfl⟩)
    (fun os started H enc _ => uF os started H enc)
#print axioms topRegionsThroughPlots_holds
theorem topRegionsThroughPlotsCard_holds : Rows.TopRegionsThroughPlotsCardSaid :=
  Claim7.holds_tied_plain_at .later [] [.data, .data, .data, .data, .sentinel, .sentinel, .pinned] true (true, "79bd5bf1fab0e023964b7c17aa28cf5a01bcc78c489d8406c06195ff1562b2f4") true
    topRegionsThroughPlots_holds (fun _ h => by cases h) (by kernel_rfl) (fun _ h => by cases h) topRegionsThroughPlots_row_tie rfl ⟨rfl, rfl⟩ (by kernel_rfl) rfl
    (fun f fn hf hfn => by
      obtain rfl : f = 3 := Option.some.inj ((show Tryz.prog.funcNamed "etchhouse/etchhousetop.TopRegionsThroughPlots" = some 3 by kernel_rfl).symm.trans hf) |>.symm
      obtain rfl : fn = Tryz.f3 := (Option.some.inj (Tryz.func3.symm.trans hfn)).symm
      refine ⟨by kernel_rfl, fun j t ht => ?_⟩
      rw [Tryz.params3] at ht
      rcases j with _ | _ | j
      · simp at ht; subst ht; exact (show Tryz.prog.wantsStandIn 22 = false by kernel_rfl)
      · simp at ht; subst ht; exact (show Tryz.prog.wantsStandIn 26 = false by kernel_rfl)
      · simp at ht)
    (by kernel_rfl)
#print axioms topRegionsThroughPlotsCard_holds
end Go.Proofs.YtblmajfbibbiaaaGreatDoor
