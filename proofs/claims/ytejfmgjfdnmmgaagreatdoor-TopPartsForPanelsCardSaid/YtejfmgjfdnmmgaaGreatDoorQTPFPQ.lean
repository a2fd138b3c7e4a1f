/- TopPartsForPanels: whatever the input: the law answers true, and the arguments read as they did. -/
import Derived.Test.YtejfmgjfdnmmgaaGreatDoorXW
import Derived.Test.YtejfmgjfdnmmgaaGreatDoorTP9
import Derived.Test.YtejfmgjfdnmmgaaGreatDoorQTPFPR
import Derived.Test.YtejfmgjfdnmmgaaGreatDoorTie
import Derived.Test.YtejfmgjfdnmmgaaGreatDoorCards
import Derived.SevenTiedAt
namespace Go.Proofs.YtejfmgjfdnmmgaaGreatDoor
open Go.ChangeShapes Go.WideShapes Go.ChangeAt Go.RowKit Go.Deep Go.WideElems
open Go.ChangeMaps (open_string)
set_option maxRecDepth 100000
theorem met_topPartsForPanels (os : Os) (args : Array Value) : laidMetH Tryz.prog Rows.topPartsForPanelsRow.laid ((World.laidAll Tryz.prog os Rows.topPartsForPanelsRow.laid).forCall (fun _ _ => 0) ⟨#[], args, []⟩).memory := by
  rw [Go.MakeChecks.laidMetH_plain _ _ _ (by kernel_rfl)]
  exact laidMet_laidAll args (by kernel_rfl) (by kernel_rfl)
theorem topPartsForPanels_lifted (os : Os) (started : os.Started) (H : Type) (enc : TypeId × Value → H) :
    ReturnsInHanded {} Tryz.checked os 3 .any (fun w args => (Rows.topPartsForPanelsSpec.pre enc Tryz.prog Tryz.f3 Rows.topPartsForPanelsRow.domain false w args ∧ laidMetH Tryz.prog Rows.topPartsForPanelsRow.laid w) ∧ sizedMet enc Tryz.prog Tryz.f3 (OpenSpec.ofChange Rows.topPartsForPanelsSpec) false w args) (Rows.topPartsForPanelsSpec.post enc Tryz.prog Tryz.f3 false true false false) := by
  refine returnsInHanded_of_change_andS (C := Tryz.checked) (X := fun w _ => laidMetH Tryz.prog Rows.topPartsForPanelsRow.laid w) (fun _ _ _ hh h => h.of_heap hh) own_ started (by kernel_rfl) Tryz.func3
    (ChangeSpec.witness_at (enc := enc) (C := Tryz.checked) (os := os) (X := fun w _ => laidMetH Tryz.prog Rows.topPartsForPanelsRow.laid w) false (World.laidAll Tryz.prog os Rows.topPartsForPanelsRow.laid) #[.agg #[.int .i64 0, .int .i64 0, .int .i64 0, .int .i64 0, .slice none 0 0, .slice none 0 0, .slice none 0 0], .string ByteArray.empty, .int .i64 0, .slice none 0 0, .slice none 0 0] 8 (World.laidAll_os _ _ _) (by kernel_rfl) (by kernel_rfl) (by kernel_rfl) (by kernel_rfl) (by kernel_rfl) (met_topPartsForPanels os _)) ?_
  intro W base args ds gs before hsh hval0 hW _ _ hL _
  have hT : Tab Tryz.prog (lawBase W) := maxI_of Tryz.split43.g1 (Go.Proofs.cell_of_shapedOpen_int (zero := #[.int .i64 0]) (t := 3) hsh (of_decide_eq_true (by kernel_rfl)) (by kernel_rfl) rfl (by kernel_rfl) (by kernel_rfl) Tryz.underlying3)
  have hval : ∀ (j : Nat) t v, Tryz.f3.params[j]? = some t → args[j]? = some v → Value.okWide Tryz.prog W .any base t v := hval0
  have hW' := hW
  obtain ⟨p, q, hA0, hV, rfl, hfz, hnd⟩ := hW
  have hA : DataW.TrodAll enc Tryz.prog W 0 (fun _ => true) true Tryz.f3.params.toList args.toList ds p := hA0
  rw [Tryz.params3] at hA hval
  obtain ⟨v0, v1, v2, v3, v4, d0, d1, d2, d3, d4, p0, p1, p2, p3, p4, rfl, rfl, rfl, h0, h1, h2, h3, h4⟩ := trodAll_five hA
  obtain ⟨rfl, rfl⟩ := trodVars_none hV
  have hh0 := h0
  have hh1 := h1
  have hh2 := h2
  have hh3 := h3
  have hh4 := h4
  obtain ⟨b0, A0_4, c0_4, A0_5, c0_5, A0_6, c0_6, rfl, s0_4, s0_5, s0_6, hw0⟩ := open_26 (hval 0 26 v0 rfl rfl) h0
  obtain ⟨b1, rfl, rfl, rfl, hs1⟩ := open_string Tryz.underlying9 (hval 1 9 v1 rfl rfl) h1
  obtain ⟨b2, rfl, rfl, rfl, hs2⟩ := open_int Tryz.underlying3 (hval 2 3 v2 rfl rfl) h2
  have hs2 := i64_wf hs2
  obtain ⟨A3, c3, b3, rfl, s3, hw3⟩ : ∃ A c l, v3 = .slice A l.length c ∧ Sl (lo W.heap.size) W fl_TBody A c l ∧ ((l.length ≤ 9223372036854775807) ∧ ∀ x ∈ l, TBody.Wf x) := by
    obtain ⟨_, _, _, rfl⟩ := okWide_slice Tryz.underlying27 (hval 3 27 v3 rfl rfl)
    obtain ⟨fuel, hf⟩ := h3
    obtain ⟨A, c, l, e, s, w⟩ := sl_of_trod fl_TBody Tryz.underlying27 nc_68 (by decide) (decF fl_TBody ef_TBody tr_TBody () dec_68) hf
    exact ⟨A, c, l, e, s, Nat.le_trans s.form.1 s.form.2.1, w⟩
  obtain ⟨A4, c4, b4, rfl, s4, hw4⟩ : ∃ A c l, v4 = .slice A l.length c ∧ Sl (lo W.heap.size) W fl_TPlace A c l ∧ ((l.length ≤ 9223372036854775807) ∧ ∀ x ∈ l, TPlace.Wf x) := by
    obtain ⟨_, _, _, rfl⟩ := okWide_slice Tryz.underlying28 (hval 4 28 v4 rfl rfl)
    obtain ⟨fuel, hf⟩ := h4
    obtain ⟨A, c, l, e, s, w⟩ := sl_of_trod fl_TPlace Tryz.underlying28 nc_66 (by decide) (decF fl_TPlace ef_TPlace tr_TPlace () dec_66) hf
    exact ⟨A, c, l, e, s, Nat.le_trans s.form.1 s.form.2.1, w⟩
  clear hA0 hval0
  try simp only [List.append_nil, List.nil_append] at hW'
  have hlt : ∀ x ∈ p0 ++ p3 ++ p4, x.block < W.heap.size := fun x hx => by
    have := hW'.lt x (by first | (simp [hx]; done) | (simp at hx; rcases hx with h | h <;> simp [h]; done) | (simp at hx; rcases hx with h | h | h <;> simp [h]; done) | (simp at hx ⊢; exact hx))
    simpa using this
  obtain ⟨N, hN⟩ := TopParts_plain b0 b1 b2 b3 b4 hw0 hs1 hs2 hw3 hw4
  refine (F_etchhousetop_TopPartsForPanels_ok N (w := lawBase W) hT b0 A0_4 c0_4 (by first | exact Sl.baseR s0_4 | exact s0_4) A0_5 c0_5 (by first | exact Sl.baseR s0_5 | exact s0_5) A0_6 c0_6 (by first | exact Sl.baseR s0_6 | exact s0_6) b1 b2 b3 A3 c3 (by first | exact Sl.baseR s3 | exact s3) b4 A4 c4 (by first | exact Sl.baseR s4 | exact s4) true hN (HF.start _)).mono fun e W' ⟨he, hnx0⟩ => ?_
  have hnx := (lawBase_below hnx0).kit
  subst he
  refine ⟨_, rfl, _, _, _, [], p0 ++ p3 ++ p4, [], hW', ?_, ?_, rfl, hnx.frame _, fun h => by cases h⟩
  · exact trodAll_mk1 (shut_bool Tryz.underlying4 _)
  · have ht := trodAll_mk5 (Below.trod laidOut_ (by kernel_rfl) (of_decide_eq_true (by kernel_rfl)) hh0 hnx (fun x hx => hlt x (by simp [hx]))) (Below.trod laidOut_ (by kernel_rfl) (of_decide_eq_true (by kernel_rfl)) hh1 hnx (fun x hx => by simp at hx)) (Below.trod laidOut_ (by kernel_rfl) (of_decide_eq_true (by kernel_rfl)) hh2 hnx (fun x hx => by simp at hx)) (Below.trod laidOut_ (by kernel_rfl) (of_decide_eq_true (by kernel_rfl)) hh3 hnx (fun x hx => hlt x (by simp [hx]))) (Below.trod laidOut_ (by kernel_rfl) (of_decide_eq_true (by kernel_rfl)) hh4 hnx (fun x hx => hlt x (by simp [hx])))
    try simp only [List.append_nil, List.nil_append] at ht
    try rw [← List.append_assoc] at ht
    exact ht
theorem topPartsForPanels_holds : Rows.TopPartsForPanelsSaid :=
  OpenClaim.holds_of_wide 3 Tryz.f3 rfl rfl rfl rfl rfl rfl rfl ⟨rfl, rfl, rfl, rfl, rfl⟩ rfl rfl rfl rfl rfl (by kernel_rfl) Tryz.func3 (by kernel_rfl)
    (of_decide_eq_true (by kernel_rfl)) (by unfold Func.isWrapper; rw [if_neg (of_decide_eq_false (by kernel_rfl))]; exact ⟨rfl, rfl⟩)
    (fun os started H enc _ => topPartsForPanels_lifted os started H enc)
#print axioms topPartsForPanels_holds
theorem topPartsForPanelsCard_holds : Rows.TopPartsForPanelsCardSaid :=
  Claim7.holds_tied_plain_at .later [] [.data, .pinned] true (true, "056c5d01e141f28331e7c170d075a04d5e8598c0e405b9edfd6235669acdacce") false
    topPartsForPanels_holds (fun _ h => by cases h) (by kernel_rfl) (fun _ h => by cases h) topPartsForPanels_row_tie rfl ⟨rfl, rfl⟩ (by kernel_rfl) rfl
    (fun f fn hf hfn => by
      obtain rfl : f = 3 := Option.some.inj ((show Tryz.prog.funcNamed "etchhouse/etchhousetop.TopPartsForPanels" = some 3 by kernel_rfl).symm.trans hf) |>.symm
      obtain rfl : fn = Tryz.f3 := (Option.some.inj (Tryz.func3.symm.trans hfn)).symm
      refine ⟨by kernel_rfl, fun j t ht => ?_⟩
      rw [Tryz.params3] at ht
      rcases j with _ | _ | _ | _ | _ | j
      · simp at ht; subst ht; exact (show Tryz.prog.wantsStandIn 26 = false by kernel_rfl)
      · simp at ht; subst ht; exact (show Tryz.prog.wantsStandIn 9 = false by kernel_rfl)
      · simp at ht; subst ht; exact (show Tryz.prog.wantsStandIn 3 = false by kernel_rfl)
      · simp at ht; subst ht; exact (show Tryz.prog.wantsStandIn 27 = false by kernel_rfl)
      · simp at ht; subst ht; exact (show Tryz.prog.wantsStandIn 28 = false by kernel_rfl)
      · simp at ht)
    (by kernel_rfl)
#print axioms topPartsForPanelsCard_holds
end Go.Proofs.YtejfmgjfdnmmgaaGreatDoor
