/- The panel package's cellOf. -/
import Derived.Test.YtpkicpnbpldkpaaP1
namespace Go.Proofs.Ytpkicpnbpldkpaa
open Go.RowKit
set_option maxHeartbeats 400000
theorem cellOf_any (p : Panel) (kv sv mv : Value) (s : Slot) (w : World) (hk : Sl w 3 BKind.enc kv p.Kinds) (hi : 0 ≤ kindIdx p.Kinds s.Board)
    (hx0 : 0 ≤ s.At.X) (hx1 : s.At.X ≤ 1000000) (hy0 : 0 ≤ s.At.Y) (hy1 : s.At.Y ≤ 1000000)
    (hw0 : 0 ≤ sizeW (kindOf p.Kinds s.Board) s.Q) (hw1 : sizeW (kindOf p.Kinds s.Board) s.Q ≤ 1000000) (hh0 : 0 ≤ sizeH (kindOf p.Kinds s.Board) s.Q) (hh1 : sizeH (kindOf p.Kinds s.Board) s.Q ≤ 1000000) :
    Calls Try.prog 114 #[.agg #[.int .i64 p.W, .int .i64 p.H, .int .i64 p.Rail, .int .i64 p.Gap, kv, sv, mv], .agg #[.string s.Board, .int .i64 s.Q, .int .i64 s.At.X, .int .i64 s.At.Y]] w
      fun e w' => e = .returned (.agg #[.int .i64 (cellOf p s).X0, .int .i64 (cellOf p s).Y0, .int .i64 (cellOf p s).X1, .int .i64 (cellOf p s).Y1]) ∧ Below w.heap.size w w' := by
  have hlo := idxOf_lo (fun k : BKind => k.Name.toList == s.Board.toList) p.Kinds 0
  have hk2 := hk
  obtain ⟨A, c, rfl, h1, h2, h3⟩ := hk
  have hlt : (kindIdx p.Kinds s.Board).toNat < p.Kinds.length := by unfold kindIdx at hi ⊢; omega
  obtain ⟨b, off, rfl, hbl, hc⟩ := h3 (by omega)
  have hx := kindOf_get hi
  have hc := cells3 (Below.refl _ _) hbl hc hx rfl
  generalize hn : (kindIdx p.Kinds s.Board).toNat = n at hlt hx hc
  have hn' : kindIdx p.Kinds s.Board = (n : Int) := by omega
  have Hk := hid hk2
  have Hn := hid hn'
  have Hw : Hid ((cellOf p s).X1 = s.At.X + sizeW (kindOf p.Kinds s.Board) s.Q) := rfl
  have Hh : Hid ((cellOf p s).Y1 = s.At.Y + sizeH (kindOf p.Kinds s.Board) s.Q) := rfl
  generalize hkd : kindOf p.Kinds s.Board = kd at *
  unfold maxLen at h2
  have hlts := lts hbl
  clear hk2 hn hn' h3 hlo hx hkd
  go_enter Try.func114, Try.ntmps114
  go_wp2
  refine wp_region_lat (by kernel_rfl) (by kernel_rfl) ?_
  repeat (go_big_quiet_step ((first | (go_at_call 45; refine lat_of (kindAt_n p _ sv mv s.Board n _ ?_ Hn.out); exact (Hk.out.ext (by repeat (first | exact Below.refl _ _ | assumption | (with_reducible refine Below.drew ?_) | (with_reducible refine below_drewN ?_ _) | (with_reducible refine Below.alloc ?_ (by simp <;> omega) _)))).ext (lat_below _ _)) | (go_at_call 59; exact lat_of (sizeOf_any kd s.Q _)))))
  refine wpQuiet_nil ?_
  intro w1 hb1
  have hb1c := bcell hb1
  go_wp2
  refine bodyPost_ret (v := .agg #[.int .i64 (cellOf p s).X0, .int .i64 (cellOf p s).Y0, .int .i64 (cellOf p s).X1, .int .i64 (cellOf p s).Y1]) ?_ rfl ⟨rfl, ?_⟩
  · rw [Hw.out, Hh.out]
    have hB : w1.heap[w.heap.size + 1 + 1]? = some (.cells #[.int .i64 0, .int .i64 0, .int .i64 0, .int .i64 0] 42 (0, 0)) := (hb1.block _ (by simp)).trans (heap_new _ _ _ (by simp))
    have hC := fun v0 v1 v2 v3 j => cell_of_row _ _ j _ _ _ (set4 (v0 := v0) (v1 := v1) (v2 := v2) (v3 := v3) hB)
    simp [results, Try.results114, go_sem, cellOf, hC]
  · have hb2 : Below w.heap.size w w1 := Below.trans (by repeat (first | exact Below.refl _ _ | assumption | (with_reducible refine Below.drew ?_) | (with_reducible refine below_drewN ?_ _) | (with_reducible refine Below.alloc ?_ (by simp <;> omega) _))) (hb1.mono (by simp; omega))
    exact (((hb2.setCell (by simp; omega) _).setCell (by simp; omega) _).setCell (by simp; omega) _).setCell (by simp; omega) _
end Go.Proofs.Ytpkicpnbpldkpaa
