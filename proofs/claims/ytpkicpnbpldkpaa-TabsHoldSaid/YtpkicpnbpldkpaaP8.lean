/- open, CheckPanel, Cells: validate a panel, and give its cells. -/
import Derived.Test.YtpkicpnbpldkpaaP7
import Derived.Test.YtpkicpnbpldkpaaB2
namespace Go.Proofs.Ytpkicpnbpldkpaa
open Go.RowKit
noncomputable def marksErr (p : Panel) (l : List Rc) : List Pt → List Pt → Int
  | _, [] => 0
  | pre, q :: rest => if onPanel p q = false then 1 else if (l.any fun c => isInside c q) = true then 12 else if (pre.any fun m => decide (q = m)) = true then 7 else marksErr p l (pre ++ [q]) rest
def sizesOk (p : Panel) : Prop := within p.W 1 1000000 = true ∧ within p.H 1 1000000 = true ∧ within p.Rail 0 1000000 = true ∧ within p.Gap 0 1000000 = true
noncomputable def openErr (p : Panel) : Int :=
  if within p.W 1 1000000 = false ∨ within p.H 1 1000000 = false ∨ within p.Rail 0 1000000 = false ∨ within p.Gap 0 1000000 = false then 1
  else if checkKinds p.Kinds ≠ 0 then checkKinds p.Kinds else if cellsErr p ≠ 0 then cellsErr p
  else if 10 < p.Marks.length then 2 else marksErr p (p.Slots.map (cellOf p)) [] p.Marks
def OpenPost (p : Panel) (w : World) (e : Ending) (w' : World) : Prop :=
  ∃ v, e = .returned (.tuple #[v, .int .i64 (openErr p)]) ∧ Own w' w.heap.size 42 4 Rc.enc v (if openErr p = 0 then p.Slots.map (cellOf p) else []) ∧ Below w.heap.size w w'
theorem OpenPost.err {p : Panel} {w w' : World} {f : Int} (h : openErr p = f) (hf : f ≠ 0) (hb : Below w.heap.size w w') : OpenPost p w (.returned (.tuple #[.slice none 0 0, .int .i64 f])) w' :=
  ⟨_, by rw [h], by rw [if_neg (by rw [h]; exact hf)]; exact Own.nil _ _ _ _ _, hb⟩
theorem OpenPost.ok {p : Panel} {w w' : World} {v : Value} (h : openErr p = 0) (ho : Own w' w.heap.size 42 4 Rc.enc v (p.Slots.map (cellOf p))) (hb : Below w.heap.size w w') : OpenPost p w (.returned (.tuple #[v, .int .i64 0])) w' :=
  ⟨_, by rw [h], by rw [if_pos h]; exact ho, hb⟩
theorem kindsErr_ok : ∀ (l : List BKind) (o : Option ByteArray), kindsErr o l = 0 → ∀ k ∈ l, 1 ≤ k.W ∧ k.W ≤ 1000000 ∧ 1 ≤ k.H ∧ k.H ≤ 1000000
  | [], _, _, k, hk => by simp at hk
  | a :: l, o, h, k, hk => by
    unfold kindsErr at h
    split at h
    · omega
    · split at h
      · omega
      · rename_i h1 h2
        split at h
        · omega
        · rcases List.mem_cons.1 hk with rfl | hk
          · have a1 : within k.W 1 1000000 = true := by cases hh : within k.W 1 1000000 <;> simp_all
            have a2 : within k.H 1 1000000 = true := by cases hh : within k.H 1 1000000 <;> simp_all
            have := within_iff.1 a1; have := within_iff.1 a2; omega
          · exact kindsErr_ok l _ h k hk
theorem panelBd_of {p : Panel} (h1 : within p.W 1 1000000 = true) (h2 : within p.H 1 1000000 = true) (h3 : within p.Rail 0 1000000 = true) (h4 : within p.Gap 0 1000000 = true) (hk : checkKinds p.Kinds = 0) : PanelBd p := by
  have := within_iff.1 h1; have := within_iff.1 h2; have := within_iff.1 h3; have := within_iff.1 h4
  have hk' : kindsErr none p.Kinds = 0 := by
    unfold checkKinds at hk; split at hk
    · omega
    · exact hk
  exact ⟨by omega, by omega, by omega, by omega, by omega, by omega, by omega, by omega, kindsErr_ok _ _ hk'⟩
set_option maxHeartbeats 2000000
theorem open_any (p : Panel) (kv sv mv : Value) (w : World) (hok : PanelOk w p kv sv mv) : Calls Try.prog 47 #[.agg #[.int .i64 p.W, .int .i64 p.H, .int .i64 p.Rail, .int .i64 p.Gap, kv, sv, mv]] w (OpenPost p w) := by
  obtain ⟨A, c, rfl, m1, m2, m3⟩ := hok.marks
  unfold maxLen at m2
  have c1 := hid (fun w => within_46 p.W 1 1000000 w)
  have c2 := hid (fun w => within_46 p.H 1 1000000 w)
  have c3 := hid (fun w => within_46 p.Rail 0 1000000 w)
  have c4 := hid (fun w => within_46 p.Gap 0 1000000 w)
  cases hq1 : within p.W 1 1000000 with
  | false =>
    rw [hq1] at c1
    have HE := hid (fun w' => OpenPost.err (w := w) (w' := w') (show openErr p = 1 from if_pos (by simp [hq1])) (by omega))
    clear hq1 hok
    go_enter Try.func47, Try.ntmps47
    go_wp2_with (first | (go_at_call 46; (with_reducible refine (c1.out _).mono ?_); rintro e w' ⟨rfl, rfl⟩) | (go_at_call 46; (with_reducible refine (c2.out _).mono ?_); rintro e w' ⟨rfl, rfl⟩) | (go_at_call 46; (with_reducible refine (c3.out _).mono ?_); rintro e w' ⟨rfl, rfl⟩) | (go_at_call 46; (with_reducible refine (c4.out _).mono ?_); rintro e w' ⟨rfl, rfl⟩))
    go_ret2
    exact HE.out _ (by repeat (first | exact Below.refl _ _ | assumption | (with_reducible refine Below.drew ?_) | (with_reducible refine below_drewN ?_ _) | (with_reducible refine Below.alloc ?_ (by simp <;> omega) _)))
  | true =>
  rw [hq1] at c1
  cases hq2 : within p.H 1 1000000 with
  | false =>
    rw [hq2] at c2
    have HE := hid (fun w' => OpenPost.err (w := w) (w' := w') (show openErr p = 1 from if_pos (by simp [hq2])) (by omega))
    clear hq1 hq2 hok
    go_enter Try.func47, Try.ntmps47
    go_wp2_with (first | (go_at_call 46; (with_reducible refine (c1.out _).mono ?_); rintro e w' ⟨rfl, rfl⟩) | (go_at_call 46; (with_reducible refine (c2.out _).mono ?_); rintro e w' ⟨rfl, rfl⟩) | (go_at_call 46; (with_reducible refine (c3.out _).mono ?_); rintro e w' ⟨rfl, rfl⟩) | (go_at_call 46; (with_reducible refine (c4.out _).mono ?_); rintro e w' ⟨rfl, rfl⟩))
    go_ret2
    exact HE.out _ (by repeat (first | exact Below.refl _ _ | assumption | (with_reducible refine Below.drew ?_) | (with_reducible refine below_drewN ?_ _) | (with_reducible refine Below.alloc ?_ (by simp <;> omega) _)))
  | true =>
  rw [hq2] at c2
  cases hq3 : within p.Rail 0 1000000 with
  | false =>
    rw [hq3] at c3
    have HE := hid (fun w' => OpenPost.err (w := w) (w' := w') (show openErr p = 1 from if_pos (by simp [hq3])) (by omega))
    clear hq1 hq2 hq3 hok
    go_enter Try.func47, Try.ntmps47
    go_wp2_with (first | (go_at_call 46; (with_reducible refine (c1.out _).mono ?_); rintro e w' ⟨rfl, rfl⟩) | (go_at_call 46; (with_reducible refine (c2.out _).mono ?_); rintro e w' ⟨rfl, rfl⟩) | (go_at_call 46; (with_reducible refine (c3.out _).mono ?_); rintro e w' ⟨rfl, rfl⟩) | (go_at_call 46; (with_reducible refine (c4.out _).mono ?_); rintro e w' ⟨rfl, rfl⟩))
    go_ret2
    exact HE.out _ (by repeat (first | exact Below.refl _ _ | assumption | (with_reducible refine Below.drew ?_) | (with_reducible refine below_drewN ?_ _) | (with_reducible refine Below.alloc ?_ (by simp <;> omega) _)))
  | true =>
  rw [hq3] at c3
  cases hq4 : within p.Gap 0 1000000 with
  | false =>
    rw [hq4] at c4
    have HE := hid (fun w' => OpenPost.err (w := w) (w' := w') (show openErr p = 1 from if_pos (by simp [hq4])) (by omega))
    clear hq1 hq2 hq3 hq4 hok
    go_enter Try.func47, Try.ntmps47
    go_wp2_with (first | (go_at_call 46; (with_reducible refine (c1.out _).mono ?_); rintro e w' ⟨rfl, rfl⟩) | (go_at_call 46; (with_reducible refine (c2.out _).mono ?_); rintro e w' ⟨rfl, rfl⟩) | (go_at_call 46; (with_reducible refine (c3.out _).mono ?_); rintro e w' ⟨rfl, rfl⟩) | (go_at_call 46; (with_reducible refine (c4.out _).mono ?_); rintro e w' ⟨rfl, rfl⟩))
    go_ret2
    exact HE.out _ (by repeat (first | exact Below.refl _ _ | assumption | (with_reducible refine Below.drew ?_) | (with_reducible refine below_drewN ?_ _) | (with_reducible refine Below.alloc ?_ (by simp <;> omega) _)))
  | true =>
  rw [hq4] at c4
  have HU : Hid (openErr p = if checkKinds p.Kinds ≠ 0 then checkKinds p.Kinds else if cellsErr p ≠ 0 then cellsErr p
    else if 10 < p.Marks.length then 2 else marksErr p (p.Slots.map (cellOf p)) [] p.Marks) := if_neg (by simp [hq1, hq2, hq3, hq4])
  have HB := hid (fun hk => panelBd_of hq1 hq2 hq3 hq4 hk)
  have Hok := hid hok
  clear hq1 hq2 hq3 hq4 hok
  go_enter Try.func47, Try.ntmps47
  go_wp2_with (first | (go_at_call 46; (with_reducible refine (c1.out _).mono ?_); rintro e w' ⟨rfl, rfl⟩) | (go_at_call 46; (with_reducible refine (c2.out _).mono ?_); rintro e w' ⟨rfl, rfl⟩) | (go_at_call 46; (with_reducible refine (c3.out _).mono ?_); rintro e w' ⟨rfl, rfl⟩) | (go_at_call 46; (with_reducible refine (c4.out _).mono ?_); rintro e w' ⟨rfl, rfl⟩))
  refine (checkKinds_any p.Kinds kv _ (Hok.out.kinds.ext (by repeat (first | exact Below.refl _ _ | assumption | (with_reducible refine Below.drew ?_) | (with_reducible refine below_drewN ?_ _) | (with_reducible refine Below.alloc ?_ (by simp <;> omega) _)))) Hok.out.names).mono ?_
  rintro e w1 ⟨rfl, hb1⟩
  have hb1c := bcell hb1
  have hw1 : Below w.heap.size w w1 := Below.trans (by repeat (first | exact Below.refl _ _ | assumption | (with_reducible refine Below.drew ?_) | (with_reducible refine below_drewN ?_ _) | (with_reducible refine Below.alloc ?_ (by simp <;> omega) _))) (hb1.mono (by simp))
  have hz1 := lts (show w.heap.size < w1.heap.size by have := hb1.size; simp at this; omega)
  by_cases hck : checkKinds p.Kinds ≠ 0
  · have HE := hid (fun w' => OpenPost.err (w := w) (w' := w') (show openErr p = checkKinds p.Kinds by rw [HU.out]; exact if_pos hck) hck)
    have hck' : (checkKinds p.Kinds != 0) = true := bne_iff_ne.2 hck
    clear hck
    go_wp2
    go_ret2
    exact HE.out _ hw1
  have hck := Classical.not_not.1 hck
  have HB' := hid (HB.out hck)
  have HU2 := hid (HU.out.trans (if_neg (by simp [hck])))
  rw [hck]
  clear HU HB hck
  go_wp2_with fail
  refine (cells_any p kv sv _ _ (Hok.out.ext hw1) HB'.out).mono ?_
  rintro e w2 ⟨v2, rfl, ho2, hb2⟩
  have hb2c := bcell hb2
  have hw2 : Below w.heap.size w w2 := bthen hw1 hb2
  have hz2 := lts (show w.heap.size < w2.heap.size by have := hb2.size; omega)
  by_cases hce : cellsErr p ≠ 0
  · have HE := hid (fun w' => OpenPost.err (w := w) (w' := w') (show openErr p = cellsErr p by rw [HU2.out]; exact if_pos hce) hce)
    have hce' : (cellsErr p != 0) = true := bne_iff_ne.2 hce
    clear hce ho2
    go_wp2
    go_ret2
    exact HE.out _ hw2
  have hce := Classical.not_not.1 hce
  have HU3 := hid (HU2.out.trans (if_neg (by simp [hce])))
  rw [if_pos hce] at ho2
  rw [hce]
  have Ho2 := hid ho2
  clear HU2 hce ho2
  by_cases hml : 10 < p.Marks.length
  · have HE := hid (fun w' => OpenPost.err (w := w) (w' := w') (show openErr p = 2 by rw [HU3.out]; exact if_pos hml) (by omega))
    go_wp2
    go_ret2
    exact HE.out _ hw2
  have HU4 := hid (HU3.out.trans (if_neg hml))
  have hml' : p.Marks.length ≤ 10 := by omega
  clear HU3 hml
  have HP2 : Hid (w2.heap[w.heap.size]? = some (.cells #[.int .i64 p.W, .int .i64 p.H, .int .i64 p.Rail, .int .i64 p.Gap, kv, sv, .slice A p.Marks.length c] 26 (0, 0))) := (hb2.block _ hz1.1).trans ((hb1.block _ (by simp)).trans (heap_new _ _ _ rfl))
  have Hw2 := hid hw2
  go_wp2
  clear hb1c hb2c
  generalize hL : p.Slots.map (cellOf p) = L at *
  have HL := hid hL
  clear hL
  go_loopw [52] (fun i wr => ∃ k : Nat, k ≤ p.Marks.length ∧ i = .int .i64 k ∧ marksErr p L [] p.Marks = marksErr p L (p.Marks.take k) (p.Marks.drop k) ∧ Below w2.heap.size w2 wr) (fun i _ => p.Marks.length - (intOf i).toNat)
  case atStart => exact ⟨0, Nat.zero_le _, rfl, rfl, Below.refl _ _⟩
  case round =>
    obtain ⟨k, hk, rfl, hi, hb⟩ := hrel
    have Hi := hid hi
    have Hb := hid hb
    have hwr : Below w.heap.size w wr := bthen Hw2.out hb
    have Hwr := hid hwr
    have hP := (hb.block _ hz2.1).trans HP2.out
    have hPc := fun j => cell_of_row wr w.heap.size j _ _ _ hP
    have HP := hid hP
    have hsz : w.heap.size < wr.heap.size := by have := hb.size; omega
    have hlts2 := lts hsz
    clear hi hP
    by_cases hlt : k < p.Marks.length
    · obtain ⟨b, off, rfl, hbl, hc⟩ := m3 (by omega)
      obtain ⟨q, hq⟩ := get_of_lt hlt
      have hcs := cells2 hwr hbl hc hq rfl
      have hbr : b < wr.heap.size := by omega
      have hlts := lts hbr
      have Hd := hid (drop_at hq)
      have Ht := hid (take_at hq)
      have HU : Hid (marksErr p L (p.Marks.take k) (q :: p.Marks.drop (k + 1)) = if onPanel p q = false then 1 else if (L.any fun c => isInside c q) = true then 12 else if ((p.Marks.take k).any fun m => decide (q = m)) = true then 7 else marksErr p L (p.Marks.take k ++ [q]) (p.Marks.drop (k + 1))) := rfl
      have cO := hid (fun w => isOnPanel_any p kv sv (.slice (some ⟨b, off, none⟩) p.Marks.length c) q w)
      clear hq m3 hc hwr hb
      go_wp2_with fail
      refine (cO.out _).mono ?_
      rintro e w3 ⟨rfl, hb3⟩
      have hb3c := bcell hb3
      have hw3 : Below wr.heap.size wr w3 := Below.trans (by repeat (first | exact Below.refl _ _ | assumption | (with_reducible refine Below.drew ?_) | (with_reducible refine below_drewN ?_ _) | (with_reducible refine Below.alloc ?_ (by simp <;> omega) _))) (hb3.mono (by simp))
      have hz3 : w.heap.size < w3.heap.size ∧ wr.heap.size < w3.heap.size := by have := hb3.size; simp at this; omega
      have HQ3 : Hid (w3.heap[wr.heap.size]? = some (.cells #[.int .i64 q.X, .int .i64 q.Y] 32 (0, 0))) := (hb3.block _ (by simp)).trans (heap_new _ _ _ rfl)
      cases hon : onPanel p q with
      | false =>
        rw [hon] at HU
        have HE := hid (fun w' => OpenPost.err (w := w) (w' := w') (show openErr p = 1 by rw [HU4.out, Hi.out, Hd.out, HU.out]; rfl) (by omega))
        clear hon
        go_wp2
        go_ret2
        exact HE.out _ (bthen Hwr.out hw3)
      | true =>
      rw [hon] at HU
      clear hon
      have hPr : Hid (PredOk Try.prog 96 #[.pointer (some ⟨wr.heap.size, 0, none⟩)] Rc.enc (fun c => isInside c q) w3 L) := by
        refine ⟨enters Try.func96 (by kernel_rfl) rfl, fun d hd w' hw' => ?_⟩
        exact open1_any d q ⟨wr.heap.size, 0, none⟩ w' ((hw'.block _ hz3.2).trans HQ3.out) rfl
      have Hcf := hid (ContainsFunc_Rc L v2 _ _ (fun c => isInside c q) w3 ((Ho2.out.ext (Hb.out.trans (hw3.mono Hb.out.size))).sl (fun x _ => Rc.len x)) hPr.out)
      go_wp2_with fail
      refine Hcf.out.mono ?_
      rintro e w4 ⟨rfl, hb4⟩
      have hb4c := bcell hb4
      have hw4 : Below wr.heap.size wr w4 := bthen hw3 hb4
      cases han : (L.any fun c => isInside c q) with
      | true =>
        rw [han] at HU
        have HE := hid (fun w' => OpenPost.err (w := w) (w' := w') (show openErr p = 12 by rw [HU4.out, Hi.out, Hd.out, HU.out]; rfl) (by omega))
        clear han
        go_wp2
        go_ret2
        exact HE.out _ (bthen Hwr.out hw4)
      | false =>
      rw [han] at HU
      clear han
      have Hct := hid (fun w5 (h5 : Below w4.heap.size w4 w5) => Contains_Pt (p.Marks.take k) (.slice (some ⟨b, off, none⟩) k c) q w5 ((Hok.out.marks.ext (bthen Hwr.out (bthen hw4 h5))).take hk))
      have hz4 : w.heap.size < w4.heap.size ∧ wr.heap.size < w4.heap.size := by have := hb4.size; omega
      go_wp2_with fail
      refine wp_region_lat (by kernel_rfl) (by kernel_rfl) ?_
      repeat (go_big_quiet_step ((go_at_call 97; exact lat_of (Hct.out _ (lat_below _ _)))))
      refine wpQuiet_nil ?_
      intro w5 hb5
      have hb5c := bcell hb5
      have hw5 : Below wr.heap.size wr w5 := bthen hw4 hb5
      cases hct : ((p.Marks.take k).any fun m => decide (q = m)) with
      | true =>
        rw [hct] at HU
        have HE := hid (fun w' => OpenPost.err (w := w) (w' := w') (show openErr p = 7 by rw [HU4.out, Hi.out, Hd.out, HU.out]; rfl) (by omega))
        clear hct
        go_wp2
        go_ret2
        exact HE.out _ (bthen Hwr.out hw5)
      | false =>
      rw [hct] at HU
      clear hct
      go_wp2
      go_roundw
      case rel => exact ⟨k + 1, by omega, by go_num, by rw [Hi.out, Hd.out, HU.out, Ht.out]; rfl, Hb.out.trans (hw5.mono Hb.out.size)⟩
      case measure => simp [intOf]; omega
    · have HO := hid (OpenPost.ok (p := p) (w := w) (w' := wr) (v := v2) (by rw [HU4.out, Hi.out, drop_all hlt]; rfl) (by rw [HL.out]; exact (Ho2.out.ext hb).base_le hw1.size) hwr)
      go_wp2
      go_ret2
      exact HO.out
theorem CheckPanel_any (p : Panel) (kv sv mv : Value) (w : World) (hok : PanelOk w p kv sv mv) : Calls Try.prog 31 #[.agg #[.int .i64 p.W, .int .i64 p.H, .int .i64 p.Rail, .int .i64 p.Gap, kv, sv, mv]] w fun e w' => e = .returned (.int .i64 (openErr p)) ∧ Below w.heap.size w w' := by
  have Hok := hid hok
  clear hok
  go_enter Try.func31, Try.ntmps31
  go_wp2_with fail
  refine (open_any p kv sv mv _ (Hok.out.ext (by repeat (first | exact Below.refl _ _ | assumption | (with_reducible refine Below.drew ?_) | (with_reducible refine below_drewN ?_ _) | (with_reducible refine Below.alloc ?_ (by simp <;> omega) _))))).mono ?_
  rintro e w1 ⟨v, rfl, _, hb1⟩
  go_wp2
  go_ret
  exact ⟨rfl, Below.trans (by repeat (first | exact Below.refl _ _ | assumption | (with_reducible refine Below.drew ?_) | (with_reducible refine below_drewN ?_ _) | (with_reducible refine Below.alloc ?_ (by simp <;> omega) _))) (hb1.mono (by simp))⟩
theorem Cells_any (p : Panel) (kv sv mv : Value) (w : World) (hok : PanelOk w p kv sv mv) : Calls Try.prog 17 #[.agg #[.int .i64 p.W, .int .i64 p.H, .int .i64 p.Rail, .int .i64 p.Gap, kv, sv, mv]] w (OpenPost p w) := by
  have Hok := hid hok
  clear hok
  go_enter Try.func17, Try.ntmps17
  go_wp2_with fail
  refine (open_any p kv sv mv _ (Hok.out.ext (by repeat (first | exact Below.refl _ _ | assumption | (with_reducible refine Below.drew ?_) | (with_reducible refine below_drewN ?_ _) | (with_reducible refine Below.alloc ?_ (by simp <;> omega) _))))).mono ?_
  rintro e w1 ⟨v, rfl, ho, hb1⟩
  have H := hid (show OpenPost p w (.returned (.tuple #[v, .int .i64 (openErr p)])) w1 from ⟨v, rfl, ho.base_le (by simp), Below.trans (by repeat (first | exact Below.refl _ _ | assumption | (with_reducible refine Below.drew ?_) | (with_reducible refine below_drewN ?_ _) | (with_reducible refine Below.alloc ?_ (by simp <;> omega) _))) (hb1.mono (by simp))⟩)
  clear ho hb1
  go_wp2
  go_ret2
  exact H.out
end Go.Proofs.Ytpkicpnbpldkpaa
