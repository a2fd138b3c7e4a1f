/- The panel package's small functions, each by one walk. -/
import Derived.Test.YtpkicpnbpldkpaaB1
import Derived.Test.YtpkicpnbpldkpaaS0
namespace Go.Proofs.Ytpkicpnbpldkpaa
open Go.RowKit
set_option maxHeartbeats 400000
theorem within_46 (n lo hi : Int) (w : World) :
    Calls Try.prog 46 #[.int .i64 n, .int .i64 lo, .int .i64 hi] w fun e w' => e = .returned (.bool (within n lo hi)) ∧ w = w' := by
  go_enter Try.func46, Try.ntmps46
  go_wp2
  all_goals go_ret
  all_goals exact ⟨ret_bool (by unfold within; rw [Bool.eq_iff_iff]; simp; omega), rfl⟩
theorem within_49 (n lo hi : Int) (w : World) :
    Calls Try.prog 49 #[.int .i64 n, .int .i64 lo, .int .i64 hi] w fun e w' => e = .returned (.bool (within n lo hi)) ∧ w = w' := by
  go_enter Try.func49, Try.ntmps49
  go_wp2
  all_goals go_ret
  all_goals exact ⟨ret_bool (by unfold within; rw [Bool.eq_iff_iff]; simp; omega), rfl⟩
theorem within_117 (n lo hi : Int) (w : World) :
    Calls Try.prog 117 #[.int .i64 n, .int .i64 lo, .int .i64 hi] w fun e w' => e = .returned (.bool (within n lo hi)) ∧ w = w' := by
  go_enter Try.func117, Try.ntmps117
  go_wp2
  all_goals go_ret
  all_goals exact ⟨ret_bool (by unfold within; rw [Bool.eq_iff_iff]; simp; omega), rfl⟩
theorem within_112 (n lo hi : Int) (w : World) :
    Calls Try.prog 112 #[.int .i64 n, .int .i64 lo, .int .i64 hi] w fun e w' => e = .returned (.bool (within n lo hi)) ∧ w = w' := by
  go_enter Try.func112, Try.ntmps112
  go_wp2
  all_goals go_ret
  all_goals exact ⟨ret_bool (by unfold within; rw [Bool.eq_iff_iff]; simp; omega), rfl⟩
theorem kindAt1 (nm : ByteArray) (W H : Int) (p : Addr) (nb : ByteArray) (w : World) (hp : w.cell? p = some (.string nb)) :
    Calls Try.prog 93 #[.agg #[.string nm, .int .i64 W, .int .i64 H], .pointer (some p)] w fun e w' => e = .returned (.bool (nm.toList == nb.toList)) ∧ Below w.heap.size w w' := by
  have hp2 : p.block < w.heap.size := World.block_lt_of_cell? w p hp
  go_enter Try.func93, Try.ntmps93
  go_wp2
  go_ret
  exact ⟨rfl, (by repeat (first | exact Below.refl _ _ | assumption | (with_reducible refine Below.drew ?_) | (with_reducible refine below_drewN ?_ _) | (with_reducible refine Below.alloc ?_ (by simp <;> omega) _)))⟩
theorem kindAt_any (p : Panel) (kv sv mv : Value) (nb : ByteArray) (w : World) (hk : Sl w 3 BKind.enc kv p.Kinds) :
    Calls Try.prog 45 #[.agg #[.int .i64 p.W, .int .i64 p.H, .int .i64 p.Rail, .int .i64 p.Gap, kv, sv, mv], .string nb] w fun e w' => e = .returned (.int .i64 (kindIdx p.Kinds nb)) ∧ Below w.heap.size w w' := by
  have Hk := hid hk; clear hk
  go_enter Try.func45, Try.ntmps45
  go_wp2_with fail
  refine (IndexFunc_BKind p.Kinds kv 93 _ (fun k => k.Name.toList == nb.toList) _ (Hk.out.ext (((Below.refl _ _).alloc (Nat.le_refl _) _).alloc (by simp) _)) ⟨enters Try.func93 (by kernel_rfl) rfl, ?_⟩).mono ?_
  · intro x hx w' hb
    exact kindAt1 x.Name x.W x.H _ nb w' ((hb.cell (p := ⟨w.heap.size + 1, 0, none⟩) (by simp)).trans (by simp [go_sem]))
  · rintro e w1 ⟨rfl, hb1⟩
    go_wp2_with fail
    go_ret
    exact ⟨rfl, ((((Below.refl _ _).alloc (Nat.le_refl _) _).alloc (by simp) _)).trans (hb1.mono (by simp; omega))⟩
theorem kindAt_n (p : Panel) (kv sv mv : Value) (nb : ByteArray) (n : Int) (w : World) (hk : Sl w 3 BKind.enc kv p.Kinds) (hn : kindIdx p.Kinds nb = n) :
    Calls Try.prog 45 #[.agg #[.int .i64 p.W, .int .i64 p.H, .int .i64 p.Rail, .int .i64 p.Gap, kv, sv, mv], .string nb] w fun e w' => e = .returned (.int .i64 n) ∧ Below w.heap.size w w' := hn ▸ kindAt_any p kv sv mv nb w hk
theorem sizeOf_any (k : BKind) (q : Int) (w : World) :
    Calls Try.prog 59 #[.agg #[.string k.Name, .int .i64 k.W, .int .i64 k.H], .int .i64 q] w fun e w' => e = .returned (.tuple #[.int .i64 (sizeW k q), .int .i64 (sizeH k q)]) ∧ Below w.heap.size w w' := by
  by_cases hq : q.tmod 2 = 1
  · have h1 : sizeW k q = k.H := if_pos hq
    have h2 : sizeH k q = k.W := if_pos hq
    rw [h1, h2]
    have hq' : (q.tmod 2 == 1) = true := by simpa using hq
    clear hq h1 h2
    go_enter Try.func59, Try.ntmps59
    go_wp2
    go_quiet (fail)
    go_wp2
    go_ret2
    exact ⟨rfl, (by repeat (first | exact Below.refl _ _ | assumption | (with_reducible refine Below.drew ?_) | (with_reducible refine below_drewN ?_ _) | (with_reducible refine Below.alloc ?_ (by simp <;> omega) _)))⟩
  · have h1 : sizeW k q = k.W := if_neg hq
    have h2 : sizeH k q = k.H := if_neg hq
    rw [h1, h2]
    have hq' : (q.tmod 2 == 1) = false := by simpa using hq
    clear hq h1 h2
    go_enter Try.func59, Try.ntmps59
    go_wp2
    go_quiet (fail)
    go_wp2
    go_ret2
    exact ⟨rfl, (by repeat (first | exact Below.refl _ _ | assumption | (with_reducible refine Below.drew ?_) | (with_reducible refine below_drewN ?_ _) | (with_reducible refine Below.alloc ?_ (by simp <;> omega) _)))⟩
end Go.Proofs.Ytpkicpnbpldkpaa
