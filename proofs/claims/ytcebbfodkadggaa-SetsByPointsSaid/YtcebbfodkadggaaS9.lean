/- Regions: the law that regions are canonical, and its fuel. Plain Lean about the plain functions. -/
import Derived.Test.YtcebbfodkadggaaS8
import Derived.Test.YtcebbfodkadggaaE0
namespace Go.Proofs.Ytcebbfodkadggaa
theorem sets_at {α : Type} {l : List α} {i : Int} {x : α} (h0 : 0 ≤ i) (h : i < l.length) : sets l i x = some (l.set i.toNat x) := by
  unfold sets
  rw [if_pos ⟨h0, by omega⟩]
theorem Reverse_ok {N : Nat} {l : List TRect} (hN : 10000000000 ≤ N) (hl : l.length ≤ 100000000) : ∃ m, F_slices_Reverse_Rect N l = some m ∧ m.Perm l := by
  have key : ∀ (n : Nat) (m : List TRect) (i j : Int), m.length ≤ 100000000 → 0 ≤ i → j < m.length → -1 ≤ j → i ≤ 100000000 → j - i < n → ∃ r, F_slices_Reverse_Rect_L1 (n + 1) m i j = some r ∧ r.Perm m := by
    intro n
    induction n with
    | zero =>
      intro m i j h1 h2 h3 h4 h5 h6
      rw [F_slices_Reverse_Rect_L1.eq_2, if_neg (by simp; omega)]
      exact ⟨m, rfl, .refl _⟩
    | succ n ih =>
      intro m i j h1 h2 h3 h4 h5 h6
      rw [F_slices_Reverse_Rect_L1.eq_2]
      by_cases hij : i < j
      · rw [if_pos (by simpa using hij)]
        have e1 : idx m j = some m[j.toNat] := by
          have := idx_nat (l := m) (i := j.toNat) (by omega)
          rw [show ((j.toNat : Nat) : Int) = j by omega] at this; exact this
        have e2 : idx m i = some m[i.toNat] := by
          have := idx_nat (l := m) (i := i.toNat) (by omega)
          rw [show ((i.toNat : Nat) : Int) = i by omega] at this; exact this
        rw [e1, Option.bind_some, e2, Option.bind_some, Option.bind_some, sets_at h2 (by omega), Option.bind_some]
        have e3 : idx (m.set i.toNat m[j.toNat]) j = some ((m.set i.toNat m[j.toNat])[j.toNat]'(by simp; omega)) := by
          have := idx_nat (l := m.set i.toNat m[j.toNat]) (i := j.toNat) (by simp; omega)
          rw [show ((j.toNat : Nat) : Int) = j by omega] at this; exact this
        rw [e3, Option.bind_some, sets_at (by omega) (by simp; omega), Option.bind_some, w64_id (by omega) (by omega), w64_id (by omega) (by omega)]
        have hp : ((m.set i.toNat m[j.toNat]).set j.toNat m[i.toNat]).Perm m := List.set_set_perm (by omega) (by omega)
        obtain ⟨r, r1, r2⟩ := ih ((m.set i.toNat m[j.toNat]).set j.toNat m[i.toNat]) (i + 1) (j - 1) (by simp; omega) (by omega) (by simp; omega) (by omega) (by omega) (by omega)
        exact ⟨r, r1, r2.trans hp⟩
      · rw [if_neg (by simpa using hij)]
        exact ⟨m, rfl, .refl _⟩
  unfold F_slices_Reverse_Rect
  rw [w64_id (by omega) (by omega)]
  obtain ⟨m, hm⟩ : ∃ k, N = k + 1 := ⟨N - 1, by omega⟩
  rw [hm]
  exact key m l 0 ((l.length : Int) - 1) hl (by omega) (by omega) (by omega) (by omega) (by omega)
theorem regionV_ok {l : List TRect} {x : List TRect} (h : regionV l = (x, 0)) : rectsErr l = 0 ∧ x = rectsB (setB l) ∧ (rectsB (setB l)).length ≤ 2000 := by
  unfold regionV toldV at h
  split at h
  · rename_i h1
    split at h
    · injection h with _ h2; cases h2
    · injection h with h2 _; exact ⟨h1, h2.symm, by omega⟩
  · rename_i h1; injection h with _ h2; exact absurd h2 h1
theorem regionV_of {l : List TRect} (h : rectsErr l = 0) (h2 : (rectsB (setB l)).length ≤ 2000) : regionV l = (rectsB (setB l), 0) := by
  unfold regionV toldV
  rw [if_pos h, if_neg (by omega)]
theorem rectsErr_of {l : List TRect} (h1 : l.length ≤ 2000) (h2 : ∀ r ∈ l, ROk r) : rectsErr l = 0 := by
  unfold rectsErr
  rw [if_neg (by omega)]
  exact rsErr_of h2
theorem regionV_err {l : List TRect} (h : (regionV l).2 ≠ 0) : (regionV l).1 = [] := by
  unfold regionV toldV at *
  split
  · rename_i h1
    rw [if_pos h1] at h
    split
    · rfl
    · rename_i h2; rw [if_neg h2] at h; exact absurd rfl h
  · rfl
theorem region_squares {l : List TRect} (h : ∀ r ∈ l, ROk r) {x y : Int} (hx : InB x y (setB l)) : (-1000000 ≤ x ∧ x < 1000000) ∧ (-1000000 ≤ y ∧ y < 1000000) := InR_lim h (((setB_ok (ROk.ne h)).2 x y).1 hx)
/-- A region that was told is right. -/
theorem told_region {l : List TRect} (h1 : rectsErr l = 0) (h2 : (rectsB (setB l)).length ≤ 2000) : regionErr (rectsB (setB l)) = 0 := by
  obtain ⟨_, hok⟩ := rectsErr_ok h1
  exact region_of (setB_ok (ROk.ne hok)).1 (fun x y hx => region_squares hok hx) h2
theorem InR_perm {l m : List TRect} (h : m.Perm l) (x y : Int) : InR x y m ↔ InR x y l := by
  unfold InR
  exact ⟨fun ⟨r, hr, h1⟩ => ⟨r, h.subset hr, h1⟩, fun ⟨r, hr, h1⟩ => ⟨r, h.symm.subset hr, h1⟩⟩
theorem canonical_ok {N : Nat} (hN : 10000000000 ≤ N) (l : List TRect) : F_etchhouselaw1_RegionsAreCanonical N l = some true := by
  unfold F_etchhouselaw1_RegionsAreCanonical
  rw [Region_ok hN, Option.bind_some, awake1_ok (by omega)]
  by_cases h0 : (regionV l).2 = 0
  · obtain ⟨x, hx⟩ : ∃ x, regionV l = (x, 0) := ⟨(regionV l).1, by rw [← h0]⟩
    obtain ⟨h1, rfl, h3⟩ := regionV_ok hx
    obtain ⟨hl, hok⟩ := rectsErr_ok h1
    rw [hx, if_neg (by simp)]
    unfold F_slices_Clone_Rect
    rw [apd_ok (by simp; omega), Option.bind_some, Option.bind_some, List.nil_append]
    obtain ⟨m, m1, m2⟩ := Reverse_ok (l := l) hN (by omega)
    have hmok : ∀ r ∈ m, ROk r := fun r hr => hok r (m2.subset hr)
    have hset : setB m = setB l := setB_congr (ROk.ne hmok) (ROk.ne hok) (InR_perm m2)
    have hreg := told_region h1 h3
    have hxr := regionErr_ok hreg
    have hset2 : setB (rectsB (setB l)) = setB l := setB_rectsB (setB_ok (ROk.ne hok)).1
    have e1 : regionV m = (rectsB (setB l), 0) := by rw [regionV_of (rectsErr_of (by rw [m2.length_eq]; exact hl) hmok) (by rw [hset]; exact h3), hset]
    have e2 : regionV (rectsB (setB l)) = (rectsB (setB l), 0) := by rw [regionV_of hxr.1 (by rw [hset2]; exact h3), hset2]
    rw [m1, Option.bind_some, Region_ok hN, Option.bind_some, e1, Region_ok hN, Option.bind_some, e2]
    obtain ⟨b, b1, b2⟩ := EqualR_ok (rectsB (setB l)) (rectsB (setB l))
    have hb : b = true := b2.2 rfl
    subst hb
    rw [CheckRegion_ok hN, hreg]
    simp [b1]
  · rw [if_pos (by simpa using h0), regionV_err h0]
    simp
theorem Canonical_plain (l : List TRect) {X : Prop} (_ : X) : ∃ N, F_etchhouselaw1_RegionsAreCanonical N l = some true := ⟨10000000000, canonical_ok (Nat.le_refl _) l⟩
end Go.Proofs.Ytcebbfodkadggaa
