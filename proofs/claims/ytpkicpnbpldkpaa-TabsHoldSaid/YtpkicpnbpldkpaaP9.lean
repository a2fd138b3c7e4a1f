/- Needed: how many panels one must make. -/
import Derived.Test.YtpkicpnbpldkpaaP8
namespace Go.Proofs.Ytpkicpnbpldkpaa
open Go.RowKit
def countB (nm : ByteArray) : List Slot → Nat
  | [] => 0
  | s :: l => (if (s.Board.toList == nm.toList) = true then 1 else 0) + countB nm l
theorem countB_le (nm : ByteArray) : ∀ l, countB nm l ≤ l.length
  | [] => Nat.le_refl _
  | s :: l => by have := countB_le nm l; unfold countB; simp only [List.length_cons]; split <;> omega
theorem countB_snoc (nm : ByteArray) (x : Slot) : ∀ l, countB nm (l ++ [x]) = countB nm l + if (x.Board.toList == nm.toList) = true then 1 else 0
  | [] => by simp [countB]
  | s :: l => by
    have := countB_snoc nm x l
    rw [List.cons_append]; unfold countB; rw [this]; omega
def panelsOf (m n : Int) : Int := (m + n - 1) / n
structure NeededR where
  a : Int
  b : Int
  f : Int
open Classical in
noncomputable def needed (p : Panel) (nm : ByteArray) (m : Int) : NeededR :=
  if openErr p ≠ 0 then ⟨0, 0, openErr p⟩ else if kindIdx p.Kinds nm < 0 then ⟨0, 0, 9⟩ else if within m 0 1000000 = false then ⟨0, 0, 1⟩
  else if countB nm p.Slots = 0 then ⟨0, 0, 13⟩ else ⟨panelsOf m (countB nm p.Slots), panelsOf m (countB nm p.Slots) * (countB nm p.Slots : Nat) - m, 0⟩
theorem marksOk_len {p : Panel} (h : openErr p = 0) : p.Slots.length ≤ 500 := by
  unfold openErr at h
  split at h
  · omega
  · split at h
    · rename_i h1; exact absurd h h1
    · split at h
      · rename_i h1; exact absurd h h1
      · rename_i h1
        have h1 := Classical.not_not.1 h1
        unfold cellsErr at h1
        split at h1 <;> omega
theorem panelsOf_bd {m n : Int} (h0 : 0 ≤ m) (h1 : m ≤ 1000000) (h2 : 1 ≤ n) (h3 : n ≤ 500) : 0 ≤ (m + n - 1) / n ∧ (m + n - 1) / n ≤ 1000499 ∧ m ≤ (m + n - 1) / n * n ∧ (m + n - 1) / n * n ≤ m + n - 1 := by
  have a := Int.emod_def (m + n - 1) n
  have b := Int.emod_nonneg (m + n - 1) (show n ≠ 0 by omega)
  have c := Int.emod_lt_of_pos (m + n - 1) (show 0 < n by omega)
  have d := Int.ediv_nonneg (show 0 ≤ m + n - 1 by omega) (show 0 ≤ n by omega)
  have e : (m + n - 1) / n ≤ m + n - 1 := Int.ediv_le_self _ (by omega)
  rw [Int.mul_comm] at a
  omega
set_option maxHeartbeats 1000000
theorem Needed_any (p : Panel) (kv sv mv : Value) (nm : ByteArray) (m : Int) (w : World) (hok : PanelOk w p kv sv mv) :
    Calls Try.prog 14 #[.agg #[.int .i64 p.W, .int .i64 p.H, .int .i64 p.Rail, .int .i64 p.Gap, kv, sv, mv], .string nm, .int .i64 m] w fun e w' => e = .returned (.tuple #[.int .i64 (needed p nm m).a, .int .i64 (needed p nm m).b, .int .i64 (needed p nm m).f]) ∧ Below w.heap.size w w' := by
  obtain ⟨A, c, rfl, h1, h2, h3⟩ := hok.slots
  unfold maxLen at h2
  have Hok := hid hok
  clear hok
  have fin : ∀ r : NeededR, needed p nm m = r → ∀ w', Below w.heap.size w w' → (Ending.returned (.tuple #[.int .i64 r.a, .int .i64 r.b, .int .i64 r.f]) = .returned (.tuple #[.int .i64 (needed p nm m).a, .int .i64 (needed p nm m).b, .int .i64 (needed p nm m).f]) ∧ Below w.heap.size w w') := fun r h w' hb => ⟨by rw [h], hb⟩
  have Fin := hid fin
  clear fin
  generalize hR : needed p nm m = R at *
  unfold needed at hR
  go_enter Try.func14, Try.ntmps14
  go_wp2_with fail
  refine (CheckPanel_any p kv _ mv _ (Hok.out.ext (by repeat (first | exact Below.refl _ _ | assumption | (with_reducible refine Below.drew ?_) | (with_reducible refine below_drewN ?_ _) | (with_reducible refine Below.alloc ?_ (by simp <;> omega) _))))).mono ?_
  rintro e w1 ⟨rfl, hb1⟩
  have hb1c := bcell hb1
  have hw1 : Below w.heap.size w w1 := Below.trans (by repeat (first | exact Below.refl _ _ | assumption | (with_reducible refine Below.drew ?_) | (with_reducible refine below_drewN ?_ _) | (with_reducible refine Below.alloc ?_ (by simp <;> omega) _))) (hb1.mono (by simp))
  have hz1 := lts (show w.heap.size < w1.heap.size by have := hb1.size; simp at this; omega)
  by_cases hoe : openErr p ≠ 0
  · have hn := hid ((if_pos hoe).symm.trans hR)
    have hoe' : (openErr p != 0) = true := bne_iff_ne.2 hoe
    clear hoe hR
    go_wp2
    go_ret3
    exact Fin.out _ hn.out.symm _ hw1
  rw [if_neg hoe] at hR
  have hoe := Classical.not_not.1 hoe
  have hlen := marksOk_len hoe
  rw [hoe]
  clear hoe
  go_wp2_with fail
  refine (kindAt_any p kv _ mv nm _ (Hok.out.kinds.ext hw1)).mono ?_
  rintro e w2 ⟨rfl, hb2⟩
  have hb2c := bcell hb2
  have hw2 : Below w.heap.size w w2 := bthen hw1 hb2
  have hz2 := lts (show w.heap.size < w2.heap.size by have := hb2.size; omega)
  by_cases hki : kindIdx p.Kinds nm < 0
  · rw [if_pos hki] at hR
    have hn := hid hR
    clear hR
    go_wp2
    go_ret3
    exact Fin.out _ hn.out.symm _ hw2
  rw [if_neg hki] at hR
  have hki' : 0 ≤ kindIdx p.Kinds nm := by omega
  clear hki
  have c1 := hid (fun w => within_46 m 0 1000000 w)
  cases hq1 : within m 0 1000000 with
  | false =>
    rw [hq1] at c1 hR
    have hn := hid hR
    clear hR hq1
    go_wp2_with (go_at_call 46; (with_reducible refine (c1.out _).mono ?_); rintro e w' ⟨rfl, rfl⟩)
    go_ret3
    exact Fin.out _ hn.out.symm _ hw2
  | true =>
  rw [hq1] at c1 hR
  obtain ⟨q10, q11⟩ := within_iff.1 hq1
  have HR := hid hR
  clear hq1 hR
  go_wp2_with (go_at_call 46; (with_reducible refine (c1.out _).mono ?_); rintro e w' ⟨rfl, rfl⟩)
  clear hb1c hb2c
  have Hw2 := hid hw2
  clear hw2 hw1 hb1 hb2
  go_loopw [10, 29] (fun n i wr => ∃ k : Nat, k ≤ p.Slots.length ∧ i = .int .i64 k ∧ n = .int .i64 (countB nm (p.Slots.take k) : Nat) ∧ Below w2.heap.size w2 wr) (fun _ i _ => p.Slots.length - (intOf i).toNat)
  case atStart => exact ⟨0, Nat.zero_le _, rfl, rfl, Below.refl _ _⟩
  case round =>
    obtain ⟨k, hk, rfl, rfl, hb⟩ := hrel
    have hwr : Below w.heap.size w wr := bthen Hw2.out hb
    have Hwr := hid hwr
    have Hb := hid hb
    have hcl := countB_le nm (p.Slots.take k)
    have hcl2 : (p.Slots.take k).length ≤ 500 := by simp; omega
    by_cases hlt : k < p.Slots.length
    · obtain ⟨b, off, rfl, hbl, hc⟩ := h3 (by omega)
      obtain ⟨x, hx⟩ := get_of_lt hlt
      have hcs := cells4 hwr hbl hc hx rfl
      have hbr : b < wr.heap.size := by have := hwr.size; omega
      have hlts := lts hbr
      have HT : Hid (countB nm (p.Slots.take (k + 1)) = countB nm (p.Slots.take k) + if (x.Board.toList == nm.toList) = true then 1 else 0) := by rw [take_at hx]; exact countB_snoc nm x _
      clear h3 hc hx hwr hb
      generalize countB nm (p.Slots.take k) = cn at *
      generalize (p.Slots.take k).length = ln at *
      cases hbn : (x.Board.toList == nm.toList) with
      | false =>
        rw [hbn] at HT
        go_wp2
        go_roundw
        case rel => exact ⟨k + 1, by omega, by go_num, by rw [HT.out]; simp, bthen Hb.out (by repeat (first | exact Below.refl _ _ | assumption | (with_reducible refine Below.drew ?_) | (with_reducible refine below_drewN ?_ _) | (with_reducible refine Below.alloc ?_ (by simp <;> omega) _)))⟩
        case measure => simp [intOf]; omega
      | true =>
        rw [hbn] at HT
        go_wp2
        go_roundw
        case rel => exact ⟨k + 1, by omega, by go_num, by rw [HT.out]; simp, bthen Hb.out (by repeat (first | exact Below.refl _ _ | assumption | (with_reducible refine Below.drew ?_) | (with_reducible refine below_drewN ?_ _) | (with_reducible refine Below.alloc ?_ (by simp <;> omega) _)))⟩
        case measure => simp [intOf]; omega
    · rw [take_all hlt] at hcl hcl2 ⊢
      by_cases hn0 : countB nm p.Slots = 0
      · have hn := hid ((if_neg (by simp) : (if true = false then (⟨0, 0, 1⟩ : NeededR) else _) = _).symm.trans HR.out)
        have HR2 := hid ((if_pos hn0).symm.trans hn.out)
        clear hn HR
        rw [hn0]
        clear hn0
        go_wp2
        go_ret3
        exact Fin.out _ HR2.out.symm _ Hwr.out
      · have hn := hid ((if_neg (by simp) : (if true = false then (⟨0, 0, 1⟩ : NeededR) else _) = _).symm.trans HR.out)
        have HR2 := hid ((if_neg hn0).symm.trans hn.out)
        clear hn HR
        generalize countB nm p.Slots = cn at *
        have hpb := panelsOf_bd (n := (cn : Int)) q10 q11 (by omega) (by omega)
        have hne : ((cn : Int) == 0) = false := by simpa using hn0
        obtain ⟨p1, p2, p3, p4⟩ := hpb
        go_wp2
        go_ret3
        exact Fin.out ⟨_, _, 0⟩ HR2.out.symm _ Hwr.out
end Go.Proofs.Ytpkicpnbpldkpaa
