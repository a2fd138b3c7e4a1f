/- cells: validates the slots, and gives their cells. -/
import Derived.Test.YtpkicpnbpldkpaaP6
namespace Go.Proofs.Ytpkicpnbpldkpaa
open Go.RowKit
/-- The error of the slots that are left, the cells of those before being pre. -/
noncomputable def slotsErr (p : Panel) : List Rc → List Slot → Int
  | _, [] => 0
  | pre, s :: rest => if kindIdx p.Kinds s.Board < 0 then 5 else if within s.Q 0 3 = false ∨ within s.At.X 0 p.W = false ∨ within s.At.Y 0 p.H = false then 1
      else if isOn p (cellOf p s) = false then 1 else if (pre.any fun d => !apart (cellOf p s) d p.Gap) = true then 12 else slotsErr p (pre ++ [cellOf p s]) rest
/-- What cells answers: its fault. -/
noncomputable def cellsErr (p : Panel) : Int := if 500 < p.Slots.length then 2 else slotsErr p [] p.Slots
structure PanelBd (p : Panel) : Prop where
  w0 : 1 ≤ p.W
  w1 : p.W ≤ 1000000
  h0 : 1 ≤ p.H
  h1 : p.H ≤ 1000000
  r0 : 0 ≤ p.Rail
  r1 : p.Rail ≤ 1000000
  g0 : 0 ≤ p.Gap
  g1 : p.Gap ≤ 1000000
  kinds : ∀ k ∈ p.Kinds, 1 ≤ k.W ∧ k.W ≤ 1000000 ∧ 1 ≤ k.H ∧ k.H ≤ 1000000
def CellsPost (p : Panel) (w : World) (e : Ending) (w' : World) : Prop :=
  ∃ v, e = .returned (.tuple #[v, .int .i64 (cellsErr p)]) ∧ Own w' w.heap.size 42 4 Rc.enc v (if cellsErr p = 0 then p.Slots.map (cellOf p) else []) ∧ Below w.heap.size w w'
theorem CellsPost.err {p : Panel} {w w' : World} {f : Int} (h : cellsErr p = f) (hf : f ≠ 0) (hb : Below w.heap.size w w') : CellsPost p w (.returned (.tuple #[.slice none 0 0, .int .i64 f])) w' :=
  ⟨_, by rw [h], by rw [if_neg (by rw [h]; exact hf)]; exact Own.nil _ _ _ _ _, hb⟩
theorem CellsPost.ok {p : Panel} {w w' : World} {v : Value} (h : cellsErr p = 0) (ho : Own w' w.heap.size 42 4 Rc.enc v (p.Slots.map (cellOf p))) (hb : Below w.heap.size w w') : CellsPost p w (.returned (.tuple #[v, .int .i64 0])) w' :=
  ⟨_, by rw [h], by rw [if_pos h]; exact ho, hb⟩
theorem info_Rc : (Try.prog.info? 42).map (fun i => (i.zero, i.size, i.bytes)) = some (some (.agg #[.int .i64 0, .int .i64 0, .int .i64 0, .int .i64 0]), 4, 32) := by kernel_rfl
set_option maxHeartbeats 2000000
theorem cells_any (p : Panel) (kv sv mv : Value) (w : World) (hok : PanelOk w p kv sv mv) (hB : PanelBd p) :
    Calls Try.prog 95 #[.agg #[.int .i64 p.W, .int .i64 p.H, .int .i64 p.Rail, .int .i64 p.Gap, kv, sv, mv]] w (CellsPost p w) := by
  obtain ⟨hk, hsl, hm, _⟩ := hok
  obtain ⟨A, c, rfl, h1, h2, h3⟩ := hsl
  unfold maxLen at h2
  by_cases hlen : 500 < p.Slots.length
  · have HR := hid (fun w' => CellsPost.err (p := p) (w := w) (w' := w') (show cellsErr p = 2 from if_pos hlen) (by omega))
    clear hk
    go_enter Try.func95, Try.ntmps95
    go_wp2
    go_ret2
    exact HR.out _ (by repeat (first | exact Below.refl _ _ | assumption | (with_reducible refine Below.drew ?_) | (with_reducible refine below_drewN ?_ _) | (with_reducible refine Below.alloc ?_ (by simp <;> omega) _)))
  have HR := hid (show cellsErr p = slotsErr p [] p.Slots from if_neg hlen)
  have hlen' : p.Slots.length ≤ 500 := by omega
  have Hk := hid hk
  clear hlen hk
  go_enter Try.func95, Try.ntmps95
  go_wp2
  generalize hW : World.alloc w (.cells #[.int .i64 p.W, .int .i64 p.H, .int .i64 p.Rail, .int .i64 p.Gap, kv, .slice A p.Slots.length c, mv] 26) = W
  have hWb : Below w.heap.size w W := by rw [← hW]; exact (by repeat (first | exact Below.refl _ _ | assumption | (with_reducible refine Below.drew ?_) | (with_reducible refine below_drewN ?_ _) | (with_reducible refine Below.alloc ?_ (by simp <;> omega) _)))
  have hWs : W.heap.size = w.heap.size + 1 := by rw [← hW]; simp
  have hWp : W.heap[w.heap.size]? = some (.cells #[.int .i64 p.W, .int .i64 p.H, .int .i64 p.Rail, .int .i64 p.Gap, kv, .slice A p.Slots.length c, mv] 26 (0, 0)) := by rw [← hW]; exact heap_new _ _ _ rfl
  clear hW
  have HWb := hid hWb; have HWs := hid hWs; have HWp := hid hWp
  clear hWb hWs hWp
  go_loopw [4, 15] (fun v i wr => ∃ k : Nat, k ≤ p.Slots.length ∧ i = .int .i64 k ∧ Own wr (w.heap.size + 1) 42 4 Rc.enc v ((p.Slots.take k).map (cellOf p)) ∧
      slotsErr p [] p.Slots = slotsErr p ((p.Slots.take k).map (cellOf p)) (p.Slots.drop k) ∧ (∀ d ∈ (p.Slots.take k).map (cellOf p), Bd d.X1 ∧ Bd d.Y1) ∧ Below W.heap.size W wr) (fun _ i _ => p.Slots.length - (intOf i).toNat)
  case atStart => exact ⟨0, Nat.zero_le _, rfl, Own.nil _ _ _ _ _, rfl, fun d hd => by simp at hd, Below.refl _ _⟩
  case round =>
    obtain ⟨k, hk, rfl, hown, hi, hbd, hb⟩ := hrel
    have hpl : ((p.Slots.take k).map (cellOf p)).length ≤ 500 := by simp; omega
    generalize hpre : (p.Slots.take k).map (cellOf p) = pre at *
    have Hpre := hid hpre
    clear hpre
    have Hi := hid hi; have Hbd := hid hbd; clear hi hbd
    have hwr : Below w.heap.size w wr := bthen HWb.out hb
    have hsz : w.heap.size + 1 ≤ wr.heap.size := by have := hb.size; have := HWs.out; omega
    have hP := (hb.block w.heap.size (by have := HWs.out; omega)).trans HWp.out
    have hPc := fun j => cell_of_row wr w.heap.size j _ _ _ hP
    have Hown := hid hown
    have HP := hid hP
    clear hP hown
    by_cases hlt : k < p.Slots.length
    · obtain ⟨b, off, rfl, hbl, hc⟩ := h3 (by omega)
      obtain ⟨x, hx⟩ := get_of_lt hlt
      have hcs := cells4 hwr hbl hc hx rfl
      have hbr : b < wr.heap.size := by omega
      have hlts := lts hbr
      have hlts2 := lts (show w.heap.size < wr.heap.size by omega)
      have Hd := hid (drop_at hx)
      have Ht := hid (take_at hx)
      have HU : Hid (slotsErr p pre (x :: p.Slots.drop (k + 1)) = if kindIdx p.Kinds x.Board < 0 then 5 else if within x.Q 0 3 = false ∨ within x.At.X 0 p.W = false ∨ within x.At.Y 0 p.H = false then 1
        else if isOn p (cellOf p x) = false then 1 else if (pre.any fun d => !apart (cellOf p x) d p.Gap) = true then 12 else slotsErr p (pre ++ [cellOf p x]) (p.Slots.drop (k + 1))) := rfl
      have Hwr := hid hwr
      have Hb := hid hb
      clear hx h3 hc hwr hb
      go_wp2_with fail
      refine (kindAt_any p kv _ mv x.Board _ (Hk.out.ext (bthen Hwr.out (by repeat (first | exact Below.refl _ _ | assumption | (with_reducible refine Below.drew ?_) | (with_reducible refine below_drewN ?_ _) | (with_reducible refine Below.alloc ?_ (by simp <;> omega) _)))))).mono ?_
      rintro e w1 ⟨rfl, hb1⟩
      have hb1c := bcell hb1
      have hz1 : wr.heap.size < w1.heap.size ∧ w.heap.size < w1.heap.size := by have := hb1.size; simp at this; omega
      have hw1 : Below wr.heap.size wr w1 := Below.trans (by repeat (first | exact Below.refl _ _ | assumption | (with_reducible refine Below.drew ?_) | (with_reducible refine below_drewN ?_ _) | (with_reducible refine Below.alloc ?_ (by simp <;> omega) _))) (hb1.mono (by simp))
      by_cases hki : kindIdx p.Kinds x.Board < 0
      · have HE := hid (fun w' => CellsPost.err (w := w) (w' := w') (show cellsErr p = 5 by rw [HR.out, Hi.out, Hd.out, HU.out]; exact if_pos hki) (by omega))
        go_wp2
        go_ret2
        exact HE.out _ (bthen Hwr.out hw1)
      have HU2 : Hid (slotsErr p pre (x :: p.Slots.drop (k + 1)) = _) := HU.out.trans (if_neg hki)
      have hki' : 0 ≤ kindIdx p.Kinds x.Board := by omega
      clear HU hki
      have c1 := hid (fun w => within_46 x.Q 0 3 w)
      have c2 := hid (fun w => within_46 x.At.X 0 p.W w)
      have c3 := hid (fun w => within_46 x.At.Y 0 p.H w)
      cases hq1 : within x.Q 0 3 with
      | false =>
        rw [hq1] at c1 HU2
        have HE := hid (fun w' => CellsPost.err (w := w) (w' := w') (show cellsErr p = 1 by rw [HR.out, Hi.out, Hd.out, HU2.out]; rfl) (by omega))
        clear hq1
        go_wp2_with (first | (go_at_call 46; (with_reducible refine (c1.out _).mono ?_); rintro e w' ⟨rfl, rfl⟩) | (go_at_call 46; (with_reducible refine (c2.out _).mono ?_); rintro e w' ⟨rfl, rfl⟩) | (go_at_call 46; (with_reducible refine (c3.out _).mono ?_); rintro e w' ⟨rfl, rfl⟩))
        go_ret2
        exact HE.out _ (bthen Hwr.out hw1)
      | true =>
      rw [hq1] at c1 HU2
      cases hq2 : within x.At.X 0 p.W with
      | false =>
        rw [hq2] at c2 HU2
        have HE := hid (fun w' => CellsPost.err (w := w) (w' := w') (show cellsErr p = 1 by rw [HR.out, Hi.out, Hd.out, HU2.out]; rfl) (by omega))
        clear hq1 hq2
        go_wp2_with (first | (go_at_call 46; (with_reducible refine (c1.out _).mono ?_); rintro e w' ⟨rfl, rfl⟩) | (go_at_call 46; (with_reducible refine (c2.out _).mono ?_); rintro e w' ⟨rfl, rfl⟩) | (go_at_call 46; (with_reducible refine (c3.out _).mono ?_); rintro e w' ⟨rfl, rfl⟩))
        go_ret2
        exact HE.out _ (bthen Hwr.out hw1)
      | true =>
      rw [hq2] at c2 HU2
      cases hq3 : within x.At.Y 0 p.H with
      | false =>
        rw [hq3] at c3 HU2
        have HE := hid (fun w' => CellsPost.err (w := w) (w' := w') (show cellsErr p = 1 by rw [HR.out, Hi.out, Hd.out, HU2.out]; rfl) (by omega))
        clear hq1 hq2 hq3
        go_wp2_with (first | (go_at_call 46; (with_reducible refine (c1.out _).mono ?_); rintro e w' ⟨rfl, rfl⟩) | (go_at_call 46; (with_reducible refine (c2.out _).mono ?_); rintro e w' ⟨rfl, rfl⟩) | (go_at_call 46; (with_reducible refine (c3.out _).mono ?_); rintro e w' ⟨rfl, rfl⟩))
        go_ret2
        exact HE.out _ (bthen Hwr.out hw1)
      | true =>
      rw [hq3] at c3 HU2
      obtain ⟨q10, q11⟩ := within_iff.1 hq1
      obtain ⟨q20, q21⟩ := within_iff.1 hq2
      obtain ⟨q30, q31⟩ := within_iff.1 hq3
      clear hq1 hq2 hq3
      obtain ⟨B1, B2, B3, B4, B5, B6, B7, B8, B9⟩ := hB
      have hkd := B9 _ (get_mem (kindOf_get hki'))
      have HkW : 0 ≤ sizeW (kindOf p.Kinds x.Board) x.Q ∧ sizeW (kindOf p.Kinds x.Board) x.Q ≤ 1000000 := by unfold sizeW; split <;> omega
      have HkH : 0 ≤ sizeH (kindOf p.Kinds x.Board) x.Q ∧ sizeH (kindOf p.Kinds x.Board) x.Q ≤ 1000000 := by unfold sizeH; split <;> omega
      have cC := hid (fun w hk => cellOf_any p kv (.slice (some ⟨b, off, none⟩) p.Slots.length c) mv x w hk hki' q20 (by omega) q30 (by omega) HkW.1 HkW.2 HkH.1 HkH.2)
      have HX : Bd (cellOf p x).X1 ∧ Bd (cellOf p x).Y1 ∧ Bd p.W ∧ Bd p.H ∧ Bd p.Rail ∧ Bd p.Gap := by unfold Bd cellOf; dsimp only; omega
      have HX := hid HX
      clear hkd HkW HkH B9
      go_wp2_with (first | (go_at_call 46; (with_reducible refine (c1.out _).mono ?_); rintro e w' ⟨rfl, rfl⟩) | (go_at_call 46; (with_reducible refine (c2.out _).mono ?_); rintro e w' ⟨rfl, rfl⟩) | (go_at_call 46; (with_reducible refine (c3.out _).mono ?_); rintro e w' ⟨rfl, rfl⟩))
      refine (cC.out _ (Hk.out.ext (bthen Hwr.out hw1))).mono ?_
      rintro e w2 ⟨rfl, hb2⟩
      generalize hcx : cellOf p x = cx at *
      have Hcx := hid hcx
      clear hcx
      have hb2c := bcell hb2
      have hz2 : wr.heap.size < w2.heap.size ∧ w.heap.size < w2.heap.size := by have := hb2.size; omega
      have hw2 : Below wr.heap.size wr w2 := bthen hw1 hb2
      have cI := hid (fun w => isOn_any p kv (.slice (some ⟨b, off, none⟩) p.Slots.length c) mv cx w HX.out.2.2.1 HX.out.2.2.2.1 HX.out.2.2.2.2.1)
      cases hon : isOn p cx with
      | false =>
        rw [hon] at cI HU2
        have HE := hid (fun w' => CellsPost.err (w := w) (w' := w') (show cellsErr p = 1 by rw [HR.out, Hi.out, Hd.out, HU2.out]; rfl) (by omega))
        clear hon
        go_wp2_with fail
        refine (cI.out _).mono ?_
        rintro e w3 ⟨rfl, hb3⟩
        have hw3 : Below wr.heap.size wr w3 := bthen hw2 (Below.trans (by repeat (first | exact Below.refl _ _ | assumption | (with_reducible refine Below.drew ?_) | (with_reducible refine below_drewN ?_ _) | (with_reducible refine Below.alloc ?_ (by simp <;> omega) _))) (hb3.mono (by simp)))
        go_wp2
        go_ret2
        exact HE.out _ (bthen Hwr.out hw3)
      | true =>
      rw [hon] at cI HU2
      clear hon
      go_wp2_with fail
      refine (cI.out _).mono ?_
      rintro e w3 ⟨rfl, hb3⟩
      have hb3c := bcell hb3
      have hw23 : Below w2.heap.size w2 w3 := Below.trans (by repeat (first | exact Below.refl _ _ | assumption | (with_reducible refine Below.drew ?_) | (with_reducible refine below_drewN ?_ _) | (with_reducible refine Below.alloc ?_ (by simp <;> omega) _))) (hb3.mono (by simp))
      have hw3 : Below wr.heap.size wr w3 := bthen hw2 hw23
      have hz3 : wr.heap.size < w3.heap.size ∧ w.heap.size < w3.heap.size ∧ w2.heap.size < w3.heap.size := by have := hb3.size; simp at this; omega
      have HC : Hid (w3.heap[w2.heap.size]? = some (.cells #[.int .i64 cx.X0, .int .i64 cx.Y0, .int .i64 cx.X1, .int .i64 cx.Y1] 42 (0, 0))) := (hb3.block _ (by simp)).trans (heap_new _ _ _ rfl)
      have HP3 := hid ((hw3.block w.heap.size (by omega)).trans HP.out)
      have hPr : Hid (PredOk Try.prog 115 #[.pointer (some ⟨w2.heap.size, 0, none⟩), .pointer (some ⟨w.heap.size, 0, none⟩)] Rc.enc (fun d => !apart cx d p.Gap) w3 pre) := by
        refine ⟨enters Try.func115 (by kernel_rfl) rfl, fun d hd w' hw' => ?_⟩
        exact cells1_any p kv (.slice (some ⟨b, off, none⟩) p.Slots.length c) mv cx d ⟨w2.heap.size, 0, none⟩ ⟨w.heap.size, 0, none⟩ w' ((hw'.block _ hz3.2.2).trans HC.out) rfl ((hw'.block _ hz3.2.1).trans HP3.out) rfl
          HX.out.1 (Hbd.out d hd).1 HX.out.2.1 (Hbd.out d hd).2 HX.out.2.2.2.2.2
      have Hcf := hid (ContainsFunc_Rc _ u4 _ _ (fun d => !apart cx d p.Gap) w3 ((Hown.out.ext hw3).sl (fun x _ => Rc.len x)) hPr.out)
      go_wp2_with fail
      refine Hcf.out.mono ?_
      rintro e w4 ⟨rfl, hb4⟩
      have hb4c := bcell hb4
      have hw4 : Below wr.heap.size wr w4 := bthen hw3 hb4
      cases han : (pre.any fun d => !apart cx d p.Gap) with
      | true =>
        rw [han] at HU2
        have HE := hid (fun w' => CellsPost.err (w := w) (w' := w') (show cellsErr p = 12 by rw [HR.out, Hi.out, Hd.out, HU2.out]; rfl) (by omega))
        clear han
        go_wp2
        go_ret2
        exact HE.out _ (bthen Hwr.out hw4)
      | false =>
      rw [han] at HU2
      clear han
      obtain ⟨i0, hi, hz0, hz1, hz2⟩ := info_parts info_Rc
      have hz4 : w2.heap.size < w4.heap.size := by have := hb4.size; omega
      have Hw4 := hid hw4
      have Ho4 := hid (Hown.out.ext hw4)
      have hcC : ∀ j, w4.cell? ⟨w2.heap.size, j, none⟩ = #[Value.int .i64 cx.X0, .int .i64 cx.Y0, .int .i64 cx.X1, .int .i64 cx.Y1][j]? := fun j => cell_of_row _ _ j _ _ _ ((hb4.block _ hz3.2.2).trans HC.out)
      clear hb1c hb2c hb3c hb4c hPc hcs hw4 hw3 hw2 hw1 hw23
      go_wp2_with (at_builtin; refine wpList_append_own _ rfl (.tmp 56) (.tmp 58) 38 rfl (w.heap.size + 1) 42 i0 (.agg #[.int .i64 0, .int .i64 0, .int .i64 0, .int .i64 0]) 4 32 Try.underlying38 hi hz0 hz1 hz2 rfl (by decide) u4 pre.length (pre.flatMap Rc.enc) rfl (World.ownsRow.alloc Ho4.out _) ⟨w4.heap.size, 0, none⟩ 1 1 [.int .i64 cx.X0, .int .i64 cx.Y0, .int .i64 cx.X1, .int .i64 cx.Y1] rfl rfl (new_cells _ _ _) (by simp [Value.oneCell']) (by unfold maxLen; omega) (by omega) (by simp; omega) ?_)
      intro v' w5 hown5 hg5 _
      go_wp2
      have hT : (p.Slots.take (k + 1)).map (cellOf p) = pre ++ [cx] := by rw [Ht.out, List.map_append, List.map_cons, List.map_nil, Hcx.out, Hpre.out]
      go_roundw
      case rel =>
        refine ⟨k + 1, by omega, by go_num, ?_, ?_, ?_, ?_⟩
        · rw [hT]; exact Own.snoc (l2 := [cx]) rfl rfl rfl hown5
        · rw [hT, Hi.out, Hd.out, HU2.out]; rfl
        · rw [hT]
          intro d hd
          rcases List.mem_append.1 hd with h | h
          · exact Hbd.out d h
          · have : d = cx := by simpa using h
            subst this; exact ⟨HX.out.1, HX.out.2.1⟩
        · exact Hb.out.trans ((Hw4.out.mono (by have := Hb.out.size; omega)).trans (grown_below Ho4.out hg5 (by have := HWs.out; omega) (by have := HWs.out; have := Hw4.out.size; omega)))
      case measure => simp [intOf]; omega
    · have HO := hid (CellsPost.ok (p := p) (w := w) (w' := wr) (v := u4) (by rw [HR.out, Hi.out, drop_all hlt]; rfl) (by have := Hown.out; rw [← Hpre.out, take_all hlt] at this; exact this.base_le (by omega)) hwr)
      go_wp2
      go_ret2
      exact HO.out
end Go.Proofs.Ytpkicpnbpldkpaa
