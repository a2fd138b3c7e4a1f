/- The panel package's small predicates, each by one walk. -/
import Derived.Test.YtpkicpnbpldkpaaP2
namespace Go.Proofs.Ytpkicpnbpldkpaa
open Go.RowKit
set_option maxHeartbeats 400000
def Bd (n : Int) : Prop := -1000000000000 ≤ n ∧ n ≤ 1000000000000
theorem isApart_any (a b : Rc) (gap : Int) (w : World) (h1 : Bd a.X1) (h2 : Bd b.X1) (h3 : Bd a.Y1) (h4 : Bd b.Y1) (h5 : Bd gap) :
    Calls Try.prog 71 #[.agg #[.int .i64 a.X0, .int .i64 a.Y0, .int .i64 a.X1, .int .i64 a.Y1], .agg #[.int .i64 b.X0, .int .i64 b.Y0, .int .i64 b.X1, .int .i64 b.Y1], .int .i64 gap] w
      fun e w' => e = .returned (.bool (apart a b gap)) ∧ Below w.heap.size w w' := by
  obtain ⟨h10, h11⟩ := h1; obtain ⟨h20, h21⟩ := h2; obtain ⟨h30, h31⟩ := h3; obtain ⟨h40, h41⟩ := h4; obtain ⟨h50, h51⟩ := h5
  go_enter Try.func71, Try.ntmps71
  go_wp2
  all_goals go_ret
  all_goals exact ⟨ret_bool (by unfold apart; rw [Bool.eq_iff_iff] <;> first | (simp; done) | (simp; omega)), (by repeat (first | exact Below.refl _ _ | assumption | (with_reducible refine Below.drew ?_) | (with_reducible refine below_drewN ?_ _) | (with_reducible refine Below.alloc ?_ (by simp <;> omega) _)))⟩
theorem isOn_any (p : Panel) (kv sv mv : Value) (c : Rc) (w : World) (h1 : Bd p.W) (h2 : Bd p.H) (h3 : Bd p.Rail) :
    Calls Try.prog 68 #[.agg #[.int .i64 p.W, .int .i64 p.H, .int .i64 p.Rail, .int .i64 p.Gap, kv, sv, mv], .agg #[.int .i64 c.X0, .int .i64 c.Y0, .int .i64 c.X1, .int .i64 c.Y1]] w
      fun e w' => e = .returned (.bool (isOn p c)) ∧ Below w.heap.size w w' := by
  obtain ⟨h10, h11⟩ := h1; obtain ⟨h20, h21⟩ := h2; obtain ⟨h30, h31⟩ := h3
  go_enter Try.func68, Try.ntmps68
  go_wp2
  all_goals go_ret
  all_goals exact ⟨ret_bool (by unfold isOn; rw [Bool.eq_iff_iff] <;> first | (simp; done) | (simp; omega)), (by repeat (first | exact Below.refl _ _ | assumption | (with_reducible refine Below.drew ?_) | (with_reducible refine below_drewN ?_ _) | (with_reducible refine Below.alloc ?_ (by simp <;> omega) _)))⟩
theorem isInside_any (c : Rc) (q : Pt) (w : World) :
    Calls Try.prog 74 #[.agg #[.int .i64 c.X0, .int .i64 c.Y0, .int .i64 c.X1, .int .i64 c.Y1], .agg #[.int .i64 q.X, .int .i64 q.Y]] w
      fun e w' => e = .returned (.bool (isInside c q)) ∧ Below w.heap.size w w' := by
  go_enter Try.func74, Try.ntmps74
  go_wp2
  all_goals go_ret
  all_goals exact ⟨ret_bool (by unfold isInside; rw [Bool.eq_iff_iff] <;> first | (simp; done) | (simp; omega)), (by repeat (first | exact Below.refl _ _ | assumption | (with_reducible refine Below.drew ?_) | (with_reducible refine below_drewN ?_ _) | (with_reducible refine Below.alloc ?_ (by simp <;> omega) _)))⟩
theorem isOnPanel_any (p : Panel) (kv sv mv : Value) (q : Pt) (w : World) :
    Calls Try.prog 57 #[.agg #[.int .i64 p.W, .int .i64 p.H, .int .i64 p.Rail, .int .i64 p.Gap, kv, sv, mv], .agg #[.int .i64 q.X, .int .i64 q.Y]] w
      fun e w' => e = .returned (.bool (onPanel p q)) ∧ Below w.heap.size w w' := by
  have Hx : Hid (onPanel p q = (within q.X 0 p.W && within q.Y 0 p.H)) := rfl
  cases h1 : within q.X 0 p.W
  · have c1 := hid (h1 ▸ fun w => within_46 q.X 0 p.W w)
    rw [h1] at Hx
    clear h1
    go_enter Try.func57, Try.ntmps57
    go_wp2_with (go_at_call 46; refine (c1.out _).mono ?_; rintro e w' ⟨rfl, rfl⟩)
    go_ret
    exact ⟨ret_bool (by rw [Hx.out]; rfl), (by repeat (first | exact Below.refl _ _ | assumption | (with_reducible refine Below.drew ?_) | (with_reducible refine below_drewN ?_ _) | (with_reducible refine Below.alloc ?_ (by simp <;> omega) _)))⟩
  · have c1 := hid (h1 ▸ fun w => within_46 q.X 0 p.W w)
    rw [h1] at Hx
    clear h1
    go_enter Try.func57, Try.ntmps57
    go_wp2_with (go_at_call 46; first | ((with_reducible refine (c1.out _).mono ?_); rintro e w' ⟨rfl, rfl⟩) | ((with_reducible refine (within_46 _ _ _ _).mono ?_); rintro e w' ⟨rfl, rfl⟩))
    go_ret
    exact ⟨ret_bool (by rw [Hx.out]; rfl), (by repeat (first | exact Below.refl _ _ | assumption | (with_reducible refine Below.drew ?_) | (with_reducible refine below_drewN ?_ _) | (with_reducible refine Below.alloc ?_ (by simp <;> omega) _)))⟩
/-- The closure of cells: is an earlier cell too near? -/
theorem cells1_any (p : Panel) (kv sv mv : Value) (c d : Rc) (a b : Addr) (w : World) (ha : w.heap[a.block]? = some (.cells #[.int .i64 c.X0, .int .i64 c.Y0, .int .i64 c.X1, .int .i64 c.Y1] 42 (0, 0))) (ha0 : a = ⟨a.block, 0, none⟩)
    (hb : w.heap[b.block]? = some (.cells #[.int .i64 p.W, .int .i64 p.H, .int .i64 p.Rail, .int .i64 p.Gap, kv, sv, mv] 26 (0, 0))) (hb0 : b = ⟨b.block, 0, none⟩)
    (h1 : Bd c.X1) (h2 : Bd d.X1) (h3 : Bd c.Y1) (h4 : Bd d.Y1) (h5 : Bd p.Gap) :
    Calls Try.prog 115 #[.agg #[.int .i64 d.X0, .int .i64 d.Y0, .int .i64 d.X1, .int .i64 d.Y1], .pointer (some a), .pointer (some b)] w
      fun e w' => e = .returned (.bool (!apart c d p.Gap)) ∧ Below w.heap.size w w' := by
  have ea := fun j => cell_of_row w a.block j _ _ _ ha
  have eb := fun j => cell_of_row w b.block j _ _ _ hb
  have la := lts (Array.getElem?_eq_some_iff.1 ha).1
  have lb := lts (Array.getElem?_eq_some_iff.1 hb).1
  generalize a.block = na at *
  generalize b.block = nb at *
  subst ha0 hb0
  have H := hid (isApart_any c d p.Gap · h1 h2 h3 h4 h5)
  clear ha hb h1 h2 h3 h4 h5
  go_enter Try.func115, Try.ntmps115
  go_wp2_with (go_at_call 71; refine (H.out _).mono ?_; rintro e w1 ⟨rfl, hb1⟩)
  go_ret
  exact ⟨rfl, Below.trans (by repeat (first | exact Below.refl _ _ | assumption | (with_reducible refine Below.drew ?_) | (with_reducible refine below_drewN ?_ _) | (with_reducible refine Below.alloc ?_ (by simp <;> omega) _))) (hb1.mono (by simp))⟩
/-- The closure of open: does a cell hold the point inside? -/
theorem open1_any (c : Rc) (q : Pt) (a : Addr) (w : World) (ha : w.heap[a.block]? = some (.cells #[.int .i64 q.X, .int .i64 q.Y] 32 (0, 0))) (ha0 : a = ⟨a.block, 0, none⟩) :
    Calls Try.prog 96 #[.agg #[.int .i64 c.X0, .int .i64 c.Y0, .int .i64 c.X1, .int .i64 c.Y1], .pointer (some a)] w
      fun e w' => e = .returned (.bool (isInside c q)) ∧ Below w.heap.size w w' := by
  have ea := fun j => cell_of_row w a.block j _ _ _ ha
  have la := lts (Array.getElem?_eq_some_iff.1 ha).1
  generalize a.block = na at *
  subst ha0
  have H := hid (isInside_any c q)
  clear ha
  go_enter Try.func96, Try.ntmps96
  go_wp2_with (go_at_call 74; refine (H.out _).mono ?_; rintro e w1 ⟨rfl, hb1⟩)
  go_ret
  exact ⟨rfl, Below.trans (by repeat (first | exact Below.refl _ _ | assumption | (with_reducible refine Below.drew ?_) | (with_reducible refine below_drewN ?_ _) | (with_reducible refine Below.alloc ?_ (by simp <;> omega) _))) (hb1.mono (by simp))⟩
end Go.Proofs.Ytpkicpnbpldkpaa
