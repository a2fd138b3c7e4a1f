/- Tabs: where a slot is held. -/
import Derived.Test.YtpkicpnbpldkpaaPA
namespace Go.Proofs.Ytpkicpnbpldkpaa
open Go.RowKit
def partLen (c : Rc) (i : Int) : Int := if i.tmod 2 = 1 then c.Y1 - c.Y0 else c.X1 - c.X0
def partN (len most : Int) : Int := max 2 ((len + most - 1) / most)
def tabPt (c : Rc) : Nat → Int → Pt
  | 0, d => ⟨c.X0 + d, c.Y0⟩
  | 1, d => ⟨c.X1, c.Y0 + d⟩
  | 2, d => ⟨c.X1 - d, c.Y1⟩
  | _, d => ⟨c.X0, c.Y1 - d⟩
def sideTabs (c : Rc) (i : Nat) (len n : Int) (k : Nat) : List Pt := (List.range k).map fun (j : Nat) => tabPt c i (len * ((j : Int) + 1) / n)
def sideAll (c : Rc) (most : Int) (i : Nat) : List Pt := sideTabs c i (partLen c i) (partN (partLen c i) most) (partN (partLen c i) most - 1).toNat
def tabsTo (c : Rc) (most : Int) (m : Nat) : List Pt := (List.range m).flatMap (sideAll c most)
def manyTabs (c : Rc) (most : Int) (m : Nat) : Int := ((List.range m).map fun (i : Nat) => partN (partLen c i) most - 1).sum
noncomputable def tabsErr (p : Panel) (slot most : Int) : Int :=
  if openErr p ≠ 0 then openErr p else if within slot 0 ((p.Slots.length : Int) - 1) = false then 9 else if within most 1 1000000 = false then 1
  else if 2000 < manyTabs (cellOf p ((p.Slots[slot.toNat]?).getD ⟨ByteArray.empty, 0, ⟨0, 0⟩⟩)) most 4 then 2 else 0
noncomputable def tabs (p : Panel) (slot most : Int) : List Pt := if tabsErr p slot most = 0 then tabsTo (cellOf p ((p.Slots[slot.toNat]?).getD ⟨ByteArray.empty, 0, ⟨0, 0⟩⟩)) most 4 else []
theorem partN_bd {len most : Int} (h1 : 0 ≤ len) (h2 : len ≤ 10000000) (h3 : 1 ≤ most) (h4 : most ≤ 10000000) : 0 ≤ (len + most - 1) / most ∧ (len + most - 1) / most ≤ 20000000 ∧ 2 ≤ partN len most ∧ partN len most ≤ 20000000 := by
  have a := Int.ediv_nonneg (show 0 ≤ len + most - 1 by omega) (show 0 ≤ most by omega)
  have b : (len + most - 1) / most ≤ len + most - 1 := Int.ediv_le_self _ (by omega)
  unfold partN; omega
theorem ret_ii {k k' : IntKind} {a a' b b' : Int} (h1 : a = a') (h2 : b = b') : Ending.returned (.tuple #[.int k a, .int k' b]) = .returned (.tuple #[.int k a', .int k' b']) := by rw [h1, h2]
set_option maxHeartbeats 1000000
theorem Tabs1_any (c : Rc) (most i : Int) (a b : Nat) (T2 : Nat) (w : World) (ha : w.heap[a]? = some (.cells #[.int .i64 c.X0, .int .i64 c.Y0, .int .i64 c.X1, .int .i64 c.Y1] 42 (0, 0)))
    (hb : w.heap[b]? = some (.cells #[.int .i64 most] T2 (0, 0))) (hbd : RcBd c) (h0 : c.X0 ≤ c.X1) (h1 : c.Y0 ≤ c.Y1) (hm : 1 ≤ most) (hm2 : most ≤ 1000000) :
    Calls Try.prog 48 #[.int .i64 i, .pointer (some ⟨a, 0, none⟩), .pointer (some ⟨b, 0, none⟩)] w
      fun e w' => e = .returned (.tuple #[.int .i64 (partLen c i), .int .i64 (partN (partLen c i) most)]) ∧ Below w.heap.size w w' := by
  have ea := fun j => cell_of_row w a j _ _ _ ha
  have eb := fun j => cell_of_row w b j _ _ _ hb
  obtain ⟨x1, x2, x3, x4, x5, x6, x7, x8⟩ := hbd
  by_cases hi : i.tmod 2 = 1
  · have hp : partLen c i = c.Y1 - c.Y0 := if_pos hi
    have hi' : (i.tmod 2 == 1) = true := by simp [hi]
    have hb := partN_bd (len := c.Y1 - c.Y0) (most := most) (by omega) (by omega) hm (by omega)
    obtain ⟨n1, n2, n3, n4⟩ := hb
    have hN : partN (c.Y1 - c.Y0) most = max 2 ((c.Y1 - c.Y0 + most - 1) / most) := rfl
    rw [hp]
    have HN := hid hN
    clear hi hp ha hN
    go_enter Try.func48, Try.ntmps48
    go_wp2
    go_quiet (fail)
    all_goals go_wp2
    all_goals go_ret2
    all_goals exact ⟨ret_ii rfl (by rw [HN.out]; omega), (by repeat (first | exact Below.refl _ _ | assumption | (with_reducible refine Below.drew ?_) | (with_reducible refine below_drewN ?_ _) | (with_reducible refine Below.alloc ?_ (by simp <;> omega) _)))⟩
  · have hp : partLen c i = c.X1 - c.X0 := if_neg hi
    have hi' : (i.tmod 2 == 1) = false := by simp [hi]
    have hb := partN_bd (len := c.X1 - c.X0) (most := most) (by omega) (by omega) hm (by omega)
    obtain ⟨n1, n2, n3, n4⟩ := hb
    have hN : partN (c.X1 - c.X0) most = max 2 ((c.X1 - c.X0 + most - 1) / most) := rfl
    rw [hp]
    have HN := hid hN
    clear hi hp ha hN
    go_enter Try.func48, Try.ntmps48
    go_wp2
    go_quiet (fail)
    all_goals go_wp2
    all_goals go_ret2
    all_goals exact ⟨ret_ii rfl (by rw [HN.out]; omega), (by repeat (first | exact Below.refl _ _ | assumption | (with_reducible refine Below.drew ?_) | (with_reducible refine below_drewN ?_ _) | (with_reducible refine Below.alloc ?_ (by simp <;> omega) _)))⟩
end Go.Proofs.Ytpkicpnbpldkpaa
