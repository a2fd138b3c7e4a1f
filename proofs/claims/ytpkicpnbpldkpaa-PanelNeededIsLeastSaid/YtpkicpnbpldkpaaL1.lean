/- The law PanelNeededIsLeast: its walk. -/
import Derived.Test.YtpkicpnbpldkpaaPA
namespace Go.Proofs.Ytpkicpnbpldkpaa
open Go.RowKit
set_option maxHeartbeats 1000000
theorem needed_law (p : Panel) (nm : ByteArray) (m : Int) (hn : (needed p nm m).f = 0) : 1 ≤ (countB nm p.Slots : Int) ∧ (countB nm p.Slots : Int) ≤ 500 ∧ 0 ≤ (needed p nm m).a ∧ (needed p nm m).a ≤ 1000499 ∧
    (needed p nm m).a * (countB nm p.Slots : Int) - (needed p nm m).b = m ∧ 0 ≤ (needed p nm m).b ∧ (needed p nm m).b < (countB nm p.Slots : Int) ∧ 0 ≤ m ∧ m ≤ 1000000 := by
  unfold needed at hn ⊢
  split at hn
  · rename_i h; exact absurd hn h
  · rename_i h0
    rw [if_neg h0]
    have hlen := marksOk_len (Classical.not_not.1 h0)
    split at hn
    · simp at hn
    · rename_i h1
      rw [if_neg h1]
      split at hn
      · simp at hn
      · rename_i h2
        rw [if_neg h2]
        split at hn
        · simp at hn
        · rename_i h3
          rw [if_neg h3]
          have hw : within m 0 1000000 = true := by cases hh : within m 0 1000000 <;> simp_all
          obtain ⟨a, b⟩ := within_iff.1 hw
          have hc := countB_le nm p.Slots
          have := panelsOf_bd (n := (countB nm p.Slots : Int)) a b (by omega) (by omega)
          unfold panelsOf
          dsimp only
          omega
theorem needed_err (p : Panel) (nm : ByteArray) (m : Int) (hn : (needed p nm m).f ≠ 0) : (needed p nm m).a = 0 ∧ (needed p nm m).b = 0 := by
  unfold needed at hn ⊢
  split
  · exact ⟨rfl, rfl⟩
  · split
    · exact ⟨rfl, rfl⟩
    · split
      · exact ⟨rfl, rfl⟩
      · split
        · exact ⟨rfl, rfl⟩
        · simp_all
theorem PanelNeededIsLeast_any (p : Panel) (kv sv mv : Value) (nm : ByteArray) (m : Int) (w : World) (hok : PanelOk w p kv sv mv) :
    Calls Try.prog 3 #[.agg #[.int .i64 p.W, .int .i64 p.H, .int .i64 p.Rail, .int .i64 p.Gap, kv, sv, mv], .string nm, .int .i64 m] w fun e w' => e = .returned (.bool true) ∧ Below w.heap.size w w' := by
  obtain ⟨A, c, rfl, h1, h2, h3⟩ := hok.slots
  unfold maxLen at h2
  have Hok := hid hok
  clear hok
  go_enter Try.func3, Try.ntmps3
  go_wp2_with fail
  refine (Needed_any p kv _ mv nm m _ (Hok.out.ext (by repeat (first | exact Below.refl _ _ | assumption | (with_reducible refine Below.drew ?_) | (with_reducible refine below_drewN ?_ _) | (with_reducible refine Below.alloc ?_ (by simp <;> omega) _))))).mono ?_
  rintro e w1 ⟨rfl, hb1⟩
  have hb1c := bcell hb1
  have hw1 : Below w.heap.size w w1 := Below.trans (by repeat (first | exact Below.refl _ _ | assumption | (with_reducible refine Below.drew ?_) | (with_reducible refine below_drewN ?_ _) | (with_reducible refine Below.alloc ?_ (by simp <;> omega) _))) (hb1.mono (by simp))
  have hz1 := lts (show w.heap.size < w1.heap.size by have := hb1.size; simp at this; omega)
  by_cases hf : (needed p nm m).f = 0
  · have hl := needed_law p nm m hf
    have hf' : ((needed p nm m).f != 0) = false := by simp [hf]
    clear hf
    generalize needed p nm m = R at *
    have HP1 : Hid (w1.heap[w.heap.size]? = some (.cells #[.int .i64 p.W, .int .i64 p.H, .int .i64 p.Rail, .int .i64 p.Gap, kv, .slice A p.Slots.length c, mv] 26 (0, 0))) := (hb1.block _ (by simp)).trans (heap_new _ _ _ rfl)
    have Hl := hid hl
    have Hw1 := hid hw1
    clear hl hw1
    go_wp2
    clear hb1c hb1
    go_loopw [10, 11] (fun n i wr => ∃ k : Nat, k ≤ p.Slots.length ∧ i = .int .i64 k ∧ n = .int .i64 (countB nm (p.Slots.take k) : Nat) ∧ Below w1.heap.size w1 wr) (fun _ i _ => p.Slots.length - (intOf i).toNat)
    case atStart => exact ⟨0, Nat.zero_le _, rfl, rfl, Below.refl _ _⟩
    case round =>
      obtain ⟨k, hk, rfl, rfl, hb⟩ := hrel
      have hwr : Below w.heap.size w wr := bthen Hw1.out hb
      have hP := (hb.block _ hz1.1).trans HP1.out
      have hPc := fun j => cell_of_row wr w.heap.size j _ _ _ hP
      have hzr := lts (show w.heap.size < wr.heap.size by have := hb.size; omega)
      have Hwr := hid hwr
      have Hb := hid hb
      have hcl := countB_le nm (p.Slots.take k)
      have hcl2 : (p.Slots.take k).length = k := by simp; omega
      by_cases hlt : k < p.Slots.length
      · obtain ⟨b, off, rfl, hbl, hc⟩ := h3 (by omega)
        obtain ⟨x, hx⟩ := get_of_lt hlt
        have hcs := cells4 hwr hbl hc hx rfl
        have HT : Hid (countB nm (p.Slots.take (k + 1)) = countB nm (p.Slots.take k) + if (x.Board.toList == nm.toList) = true then 1 else 0) := by rw [take_at hx]; exact countB_snoc nm x _
        clear h3 hc hx hwr hb hP
        rw [hcl2] at hcl
        clear hcl2
        generalize countB nm (p.Slots.take k) = cn at *
        cases hbn : (x.Board.toList == nm.toList) with
        | false =>
          rw [hbn] at HT
          go_wp2
          go_roundw
          case rel => exact ⟨k + 1, by omega, by go_num, by rw [HT.out]; simp, Hb.out⟩
          case measure => simp [intOf]; omega
        | true =>
          rw [hbn] at HT
          go_wp2
          go_roundw
          case rel => exact ⟨k + 1, by omega, by go_num, by rw [HT.out]; simp, Hb.out⟩
          case measure => simp [intOf]; omega
      · rw [take_all hlt] at hcl hcl2 ⊢
        obtain ⟨l1, l2, l3, l4, l5, l6, l7, l8, l9⟩ := Hl.out
        clear h3 hwr hb hP
        generalize countB nm p.Slots = cn at *
        have hq : (R.a * (cn : Int) - R.b == m) = true := by simp [l5]
        have hp1 : 0 ≤ R.a * (cn : Int) := Int.mul_nonneg l3 (by omega)
        have hp2 : R.a * (cn : Int) ≤ 1000499 * 500 := Int.mul_le_mul l4 l2 (by omega) (by omega)
        have hr1 : decide (0 ≤ R.b) = true := decide_eq_true l6
        have hr2 : decide (R.b < (cn : Int)) = true := decide_eq_true l7
        clear l5
        go_wp2_with (go_at_call 15; refine (awake_any _).mono ?_; rintro e w2 ⟨rfl, hb2⟩)
        go_ret
        exact ⟨rfl, bthen Hwr.out hb2⟩
  · obtain ⟨ha, hb⟩ := needed_err p nm m hf
    have hf' : ((needed p nm m).f != 0) = true := by simp [hf]
    clear hf
    rw [ha, hb]
    generalize needed p nm m = R at *
    clear ha hb
    go_wp2_with (go_at_call 15; refine (awake_any _).mono ?_; rintro e w2 ⟨rfl, hb2⟩)
    go_ret
    exact ⟨rfl, bthen hw1 hb2⟩
end Go.Proofs.Ytpkicpnbpldkpaa
