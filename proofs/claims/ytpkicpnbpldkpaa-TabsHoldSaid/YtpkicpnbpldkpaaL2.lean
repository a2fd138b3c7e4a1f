/- The law TabsHold: its walk. -/
import Derived.Test.YtpkicpnbpldkpaaPC
namespace Go.Proofs.Ytpkicpnbpldkpaa
open Go.RowKit
def onBorder (c : Rc) (q : Pt) : Prop := c.X0 ≤ q.X ∧ q.X ≤ c.X1 ∧ c.Y0 ≤ q.Y ∧ q.Y ≤ c.Y1 ∧ (q.X = c.X0 ∨ q.X = c.X1 ∨ q.Y = c.Y0 ∨ q.Y = c.Y1)
theorem tabs_border (c : Rc) (most : Int) (hx : c.X0 < c.X1) (hy : c.Y0 < c.Y1) : ∀ q ∈ tabsTo c most 4, onBorder c q := by
  intro q hq
  unfold tabsTo at hq
  obtain ⟨i, hi, hq⟩ := List.mem_flatMap.1 hq
  have hi := List.mem_range.1 hi
  unfold sideAll sideTabs at hq
  obtain ⟨j, hj, rfl⟩ := List.mem_map.1 hq
  have hj := List.mem_range.1 hj
  have h2 := partN_two (partLen c i) most
  have hpl : 0 ≤ partLen c i := by unfold partLen; split <;> omega
  generalize hn : partN (partLen c i) most = n at *
  have d1 : 0 ≤ partLen c i * ((j : Int) + 1) / n := Int.ediv_nonneg (Int.mul_nonneg hpl (by omega)) (by omega)
  have d2 : partLen c i * ((j : Int) + 1) / n ≤ partLen c i := Int.ediv_le_of_le_mul (by omega) (Int.mul_le_mul_of_nonneg_left (by omega) hpl)
  generalize partLen c i * ((j : Int) + 1) / n = d at *
  unfold onBorder
  match i, hi with
  | 0, _ => rw [show partLen c ((0 : Nat) : Int) = c.X1 - c.X0 from rfl] at d2; refine ⟨?_, ?_, ?_, ?_, Or.inr (Or.inr (Or.inl rfl))⟩ <;> simp only [tabPt] <;> omega
  | 1, _ => rw [show partLen c ((1 : Nat) : Int) = c.Y1 - c.Y0 from rfl] at d2; refine ⟨?_, ?_, ?_, ?_, Or.inr (Or.inl rfl)⟩ <;> simp only [tabPt] <;> omega
  | 2, _ => rw [show partLen c ((2 : Nat) : Int) = c.X1 - c.X0 from rfl] at d2; refine ⟨?_, ?_, ?_, ?_, Or.inr (Or.inr (Or.inr rfl))⟩ <;> simp only [tabPt] <;> omega
  | 3, _ => rw [show partLen c ((3 : Nat) : Int) = c.Y1 - c.Y0 from rfl] at d2; refine ⟨?_, ?_, ?_, ?_, Or.inl rfl⟩ <;> simp only [tabPt] <;> omega
theorem tabs_four (c : Rc) (most : Int) : 4 ≤ (tabsTo c most 4).length := by
  have h := tabsTo_len c most 4
  have e : manyTabs c most 4 = (partN (partLen c 0) most - 1) + (partN (partLen c 1) most - 1) + (partN (partLen c 2) most - 1) + (partN (partLen c 3) most - 1) := by
    rw [manyTabs_snoc, manyTabs_snoc, manyTabs_snoc, manyTabs_snoc]
    simp [manyTabs]
  have h0 := partN_two (partLen c 0) most
  have h1 := partN_two (partLen c 1) most
  have h2 := partN_two (partLen c 2) most
  have h3 := partN_two (partLen c 3) most
  omega
theorem tabsErr_ok {p : Panel} {slot most : Int} (h : tabsErr p slot most = 0) : ∃ (k : Nat) (s : Slot), slot = (k : Int) ∧ openErr p = 0 ∧ p.Slots[k]? = some s ∧ tabs p slot most = tabsTo (cellOf p s) most 4 := by
  have h0 := h
  unfold tabsErr at h
  split at h
  · rename_i h1; exact absurd h h1
  · rename_i h1
    split at h
    · omega
    · rename_i h2
      have h2 : within slot 0 ((p.Slots.length : Int) - 1) = true := by cases hh : within slot 0 ((p.Slots.length : Int) - 1) <;> simp_all
      obtain ⟨a, b⟩ := within_iff.1 h2
      obtain ⟨k, rfl⟩ := Int.eq_ofNat_of_zero_le a
      obtain ⟨s, hs⟩ := get_of_lt (l := p.Slots) (k := k) (by omega)
      refine ⟨k, s, rfl, Classical.not_not.1 h1, hs, ?_⟩
      unfold tabs
      rw [if_pos h0, show ((k : Int)).toNat = k from rfl, hs]; rfl
set_option maxHeartbeats 8000000
set_option maxRecDepth 100000 in
theorem TabsHold_any (p : Panel) (kv sv mv : Value) (slot most : Int) (w : World) (hok : PanelOk w p kv sv mv) :
    Calls Try.prog 4 #[.agg #[.int .i64 p.W, .int .i64 p.H, .int .i64 p.Rail, .int .i64 p.Gap, kv, sv, mv], .int .i64 slot, .int .i64 most] w fun e w' => e = .returned (.bool true) ∧ Below w.heap.size w w' := by
  have Hok := hid hok
  clear hok
  go_enter Try.func4, Try.ntmps4
  go_wp2_with fail
  refine (Tabs_any p kv sv mv slot most _ (Hok.out.ext (by repeat (first | exact Below.refl _ _ | assumption | (with_reducible refine Below.drew ?_) | (with_reducible refine below_drewN ?_ _) | (with_reducible refine Below.alloc ?_ (by simp <;> omega) _))))).mono ?_
  rintro e w1 ⟨v, rfl, ho, hb1⟩
  have hb1c := bcell hb1
  have hw1 : Below w.heap.size w w1 := Below.trans (by repeat (first | exact Below.refl _ _ | assumption | (with_reducible refine Below.drew ?_) | (with_reducible refine below_drewN ?_ _) | (with_reducible refine Below.alloc ?_ (by simp <;> omega) _))) (hb1.mono (by simp))
  have hz1 := lts (show w.heap.size < w1.heap.size by have := hb1.size; simp at this; omega)
  by_cases hf : tabsErr p slot most = 0
  · obtain ⟨k, s, rfl, hoe, hs, hv⟩ := tabsErr_ok hf
    rw [hv] at ho
    have hcb := cell_bd hoe
    have hsm : (p.Slots.map (cellOf p))[k]? = some (cellOf p s) := by simp [hs]
    obtain ⟨hR, r1, r2, r3, r4, _⟩ := hcb _ (get_mem hsm)
    have Hbo := hid (tabs_border (cellOf p s) most r2 r4)
    have hfo := tabs_four (cellOf p s) most
    obtain ⟨_, hlen, _⟩ := openErr_bd hoe
    have hks : k < p.Slots.length := (List.getElem?_eq_some_iff.1 hs).1
    rw [hf]
    generalize tabsTo (cellOf p s) most 4 = L at *
    have cC := hid (fun w2 hx => Cells_any p kv sv mv w2 (Hok.out.ext hx))
    obtain ⟨A, c, rfl, h1, h2, h3⟩ := ho.sl (fun x _ => Pt.len x)
    unfold maxLen at h2
    have Hs := hid hsm
    have Hoe := hid hoe
    clear hf hs hv ho hcb r1 r2 r3 r4 hoe hsm
    go_wp2_with fail
    refine (cC.out _ hw1).mono ?_
    rintro e w2 ⟨v2, rfl, ho2, hb2⟩
    rw [if_pos Hoe.out] at ho2
    rw [Hoe.out]
    have hb2c := bcell hb2
    have hw2 := bthen hw1 hb2
    obtain ⟨A2, c2, rfl, g1, g2, g3⟩ := ho2.sl (fun x _ => Rc.len x)
    unfold maxLen at g2
    rw [show (p.Slots.map (cellOf p)).length = p.Slots.length by simp] at g1 g3 ⊢
    obtain ⟨b2, off2, rfl, hbl2, hc2⟩ := g3 (by omega)
    have hcs2 := cells4 (Below.refl w2.heap.size w2) hbl2 hc2 Hs.out rfl
    generalize cellOf p s = d at *
    have hbr2 := lts hbl2
    clear g3 hc2 ho2
    have H3 := hid (fun (h : 0 < L.length) => h3 h)
    clear h3
    go_wp2
    generalize hW : (World.alloc w2 (.cells #[.int .i64 d.X0, .int .i64 d.Y0, .int .i64 d.X1, .int .i64 d.Y1] 42)) = W
    have hWb : Below w2.heap.size w2 W := by rw [← hW]; exact (by repeat (first | exact Below.refl _ _ | assumption | (with_reducible refine Below.drew ?_) | (with_reducible refine below_drewN ?_ _) | (with_reducible refine Below.alloc ?_ (by simp <;> omega) _)))
    have HD : Hid (W.heap[w2.heap.size]? = some (.cells #[.int .i64 d.X0, .int .i64 d.Y0, .int .i64 d.X1, .int .i64 d.Y1] 42 (0, 0))) := by rw [← hW]; exact heap_new _ _ _ rfl
    have hWs : w2.heap.size < W.heap.size := by rw [← hW]; simp
    have HwW := hid (bthen hw2 hWb)
    have HvW := hid (bthen hb2 hWb)
    clear hW hWb hw2 hb2 hb2c hb1c hcs2 hbr2
    go_loopw [11] (fun i wr => ∃ n : Nat, n ≤ L.length ∧ i = .int .i64 n ∧ Below W.heap.size W wr) (fun i _ => L.length - (intOf i).toNat)
    case atStart => exact ⟨0, Nat.zero_le _, rfl, Below.refl _ _⟩
    case round =>
      obtain ⟨n, hn, rfl, hb⟩ := hrel
      have Hb := hid hb
      by_cases hlt : n < L.length
      · obtain ⟨b, off, rfl, hbl, hc⟩ := H3.out (by omega)
        obtain ⟨q, hq⟩ := get_of_lt hlt
        have hcs := cells2 (bthen HvW.out hb) hbl hc hq rfl
        obtain ⟨b1, b2', b3, b4, b5⟩ := Hbo.out q (get_mem hq)
        have hD := (hb.block _ hWs).trans HD.out
        have hDc := fun j => cell_of_row wr _ j _ _ _ hD
        have hsz : w2.heap.size < wr.heap.size := by have := hb.size; omega
        have hsz2 : b < wr.heap.size := by have := (bthen HvW.out hb).size; omega
        have hlts := lts hsz2
        have hlts2 := lts hsz
        have t1 : decide (d.Y0 ≤ q.Y) = true := decide_eq_true b3
        have t2 : decide (q.Y ≤ d.Y1) = true := decide_eq_true b4
        have t3 : decide (d.X0 ≤ q.X) = true := decide_eq_true b1
        have t4 : decide (q.X ≤ d.X1) = true := decide_eq_true b2'
        clear hb hD hc hq
        have Hlt := hid hlt
        clear g1 g2 hn hks hlen hfo hz1 hR b1 b2' b3 b4
        go_wp2_with fail
        rw [show ∀ l m : List Oper, l.append m = l ++ m from fun _ _ => rfl]
        simp only [List.cons_append, List.nil_append]
        refine wp_region_lat (by kernel_rfl) (by kernel_rfl) ?_
        by_cases e1 : q.X = d.X0
        · have e1' : (q.X == d.X0) = true := by simp [e1]
          clear e1 b5 t3 t4
          repeat (go_big_quiet_step (fail))
          refine wpQuiet_nil ?_
          intro w9 hb9
          go_wp2
          go_roundw
          case rel => exact ⟨n + 1, by have := Hlt.out; omega, by go_num, bthen Hb.out hb9⟩
          case measure => (have := Hlt.out; simp [intOf]; omega)
        have e1' : (q.X == d.X0) = false := by simp [e1]
        by_cases e2 : q.X = d.X1
        · have e2' : (q.X == d.X1) = true := by simp [e2]
          clear e1 e2 b5 t3 t4
          repeat (go_big_quiet_step (fail))
          refine wpQuiet_nil ?_
          intro w9 hb9
          go_wp2
          go_roundw
          case rel => exact ⟨n + 1, by have := Hlt.out; omega, by go_num, bthen Hb.out hb9⟩
          case measure => (have := Hlt.out; simp [intOf]; omega)
        have e2' : (q.X == d.X1) = false := by simp [e2]
        by_cases e3 : q.Y = d.Y0
        · have e3' : (q.Y == d.Y0) = true := by simp [e3]
          clear e1 e2 e3 b5 t1 t2
          repeat (go_big_quiet_step (fail))
          refine wpQuiet_nil ?_
          intro w9 hb9
          go_wp2
          go_roundw
          case rel => exact ⟨n + 1, by have := Hlt.out; omega, by go_num, bthen Hb.out hb9⟩
          case measure => (have := Hlt.out; simp [intOf]; omega)
        have e3' : (q.Y == d.Y0) = false := by simp [e3]
        have e4' : (q.Y == d.Y1) = true := by simp; omega
        clear e1 e2 e3 b5 t1 t2
        repeat (go_big_quiet_step (fail))
        refine wpQuiet_nil ?_
        intro w9 hb9
        go_wp2
        go_roundw
        case rel => exact ⟨n + 1, by have := Hlt.out; omega, by go_num, bthen Hb.out hb9⟩
        case measure => (have := Hlt.out; simp [intOf]; omega)
      · clear hb
        go_wp2_with (go_at_call 15; refine (awake_any _).mono ?_; rintro e w2 ⟨rfl, hb2⟩)
        go_ret
        exact ⟨rfl, bthen (bthen HwW.out Hb.out) hb2⟩
  · have hv : tabs p slot most = [] := if_neg hf
    rw [hv] at ho
    obtain ⟨A, c, rfl, h1, h2, h3⟩ := ho.sl (fun x _ => Pt.len x)
    unfold maxLen at h2
    have hf' : (tabsErr p slot most != 0) = true := by simp [hf]
    clear hf hv ho h3
    go_wp2_with (go_at_call 15; refine (awake_any _).mono ?_; rintro e w2 ⟨rfl, hb2⟩)
    go_ret
    exact ⟨rfl, bthen hw1 hb2⟩
end Go.Proofs.Ytpkicpnbpldkpaa
