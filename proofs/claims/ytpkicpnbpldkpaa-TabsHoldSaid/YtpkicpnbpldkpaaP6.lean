/- slices.Index and slices.Contains at points. -/
import Derived.Test.YtpkicpnbpldkpaaP5
import Derived.Test.YtpkicpnbpldkpaaE0
namespace Go.Proofs.Ytpkicpnbpldkpaa
open Go.RowKit
set_option maxHeartbeats 400000
theorem Index_Pt (l : List Pt) (v : Value) (q : Pt) (w : World) (hl : Sl w 2 Pt.enc v l) :
    Calls Try.prog 116 #[v, .agg #[.int .i64 q.X, .int .i64 q.Y]] w fun e w' => e = .returned (.int .i64 (idxOf (fun x => decide (q = x)) l 0)) ∧ Below w.heap.size w w' := by
  obtain ⟨A, c, rfl, h1, h2, h3⟩ := hl
  unfold maxLen at h2
  go_enter Try.func116, Try.ntmps116
  go_wp2
  go_loopw [8] (fun i wr => ∃ k : Nat, k ≤ l.length ∧ i = .int .i64 k ∧ idxOf (fun x => decide (q = x)) l 0 = idxOf (fun x => decide (q = x)) (l.drop k) k ∧ Below (w.alloc (.cells #[.int .i64 q.X, .int .i64 q.Y] 32)).heap.size (w.alloc (.cells #[.int .i64 q.X, .int .i64 q.Y] 32)) wr) (fun i _ => l.length - (intOf i).toNat)
  case atStart => exact ⟨0, Nat.zero_le _, rfl, rfl, Below.refl _ _⟩
  case round =>
    obtain ⟨k, hk, rfl, hi, hb⟩ := hrel
    have Hi := hid hi; clear hi
    have hb0 : Below w.heap.size w wr := Below.trans (by repeat (first | exact Below.refl _ _ | assumption | (with_reducible refine Below.drew ?_) | (with_reducible refine below_drewN ?_ _) | (with_reducible refine Below.alloc ?_ (by simp <;> omega) _))) (hb.mono (by simp))
    have hsz : w.heap.size + 1 ≤ wr.heap.size := by have := hb.size; simpa using this
    by_cases hlt : k < l.length
    · obtain ⟨b, off, rfl, hbl, hc⟩ := h3 (by omega)
      obtain ⟨x, hx⟩ := get_of_lt hlt
      have hcs := cells2 hb0 hbl hc hx rfl
      have hq := bcell hb
      have hbr : b < wr.heap.size := by omega
      have hlts := lts hbr
      have hlts2 := lts (show w.heap.size < wr.heap.size by omega)
      have heq := eqPt_run q x
      have hgd := eqPt_guard
      have Hs := hid (idxOf_step (fun x => decide (q = x)) hx)
      have Hb := hid hb
      have Hb0 := hid hb0
      clear hx h3 hc hb hb0
      cases hpp : decide (q = x)
      · have hpf : Hid (decide (q = x) = false) := hpp
        rw [hpp] at heq
        clear hpp
        go_wp2
        go_quiet (fail)
        go_wp2
        go_roundw
        case rel => exact ⟨k + 1, by omega, by go_num, by rw [Hi.out, Hs.out]; exact if_neg (by rw [hpf.out]; exact Bool.false_ne_true), below_drewN Hb.out _⟩
        case measure => simp [intOf]; omega
      · have hpf : Hid (decide (q = x) = true) := hpp
        rw [hpp] at heq
        clear hpp
        go_wp2
        go_quiet (fail)
        go_wp2
        go_ret
        exact ⟨ret_int (by rw [Hi.out, Hs.out]; exact (if_pos hpf.out).symm), below_drewN Hb0.out _⟩
    · go_wp2_with fail
      go_ret
      exact ⟨ret_int (by rw [Hi.out, drop_all hlt]; rfl), hb0⟩
theorem Contains_Pt (l : List Pt) (v : Value) (q : Pt) (w : World) (hl : Sl w 2 Pt.enc v l) :
    Calls Try.prog 97 #[v, .agg #[.int .i64 q.X, .int .i64 q.Y]] w fun e w' => e = .returned (.bool (l.any (fun x => decide (q = x)))) ∧ Below w.heap.size w w' := by
  have H := hid (idxOf_any (fun x => decide (q = x)) l 0)
  have Hl := hid hl
  clear hl
  go_enter Try.func97, Try.ntmps97
  go_wp2_with fail
  refine (Index_Pt l v q _ (Hl.out.ext (by repeat (first | exact Below.refl _ _ | assumption | (with_reducible refine Below.drew ?_) | (with_reducible refine below_drewN ?_ _) | (with_reducible refine Below.alloc ?_ (by simp <;> omega) _))))).mono ?_
  rintro e w1 ⟨rfl, hb1⟩
  go_wp2_with fail
  go_ret
  exact ⟨ret_bool (by rw [← H.out]), Below.trans (by repeat (first | exact Below.refl _ _ | assumption | (with_reducible refine Below.drew ?_) | (with_reducible refine below_drewN ?_ _) | (with_reducible refine Below.alloc ?_ (by simp <;> omega) _))) (hb1.mono (by simp))⟩
end Go.Proofs.Ytpkicpnbpldkpaa
