/- Sets of rectangles by bands: their one form, by points. Plain Lean. -/
import Derived.Test.YtfdglihcpfpefaaGreatS5p
namespace Go.Proofs.YtfdglihcpfpefaaGreat
/-- The stretches of bands at a height. -/
def rowAt : List Bd → Int → List (Int × Int)
  | [], _ => []
  | b :: l, y => if b.1 ≤ y ∧ y < b.2.1 then b.2.2 else rowAt l y
/-- Bands in order, none empty, neighbours that touch differ. -/
def CanB : Int → List Bd → Prop
  | _, [] => True
  | lo, b :: l => lo ≤ b.1 ∧ b.1 < b.2.1 ∧ b.2.2 ≠ [] ∧ (∀ d, l.head? = some d → d.1 = b.2.1 → d.2.2 ≠ b.2.2) ∧ CanB b.2.1 l
theorem rowAt_lo : ∀ {l : List Bd} {lo y : Int}, CanB lo l → y < lo → rowAt l y = []
  | [], _, _, _, _ => rfl
  | b :: l, lo, y, h, hy => by
    unfold rowAt
    rw [if_neg (by have := h.1; omega)]
    exact rowAt_lo h.2.2.2.2 (by have := h.1; have := h.2.1; omega)
theorem CanB.uniq : ∀ {l m : List Bd} {lo lo' : Int}, CanB lo l → CanB lo' m → (∀ y, rowAt l y = rowAt m y) → l = m
  | [], [], _, _, _, _, _ => rfl
  | [], b :: m, _, _, _, h2, h => by
    have := h b.1
    unfold rowAt at this
    rw [if_pos ⟨Int.le_refl _, h2.2.1⟩] at this
    exact absurd this.symm h2.2.2.1
  | b :: l, [], _, _, h1, _, h => by
    have := h b.1
    unfold rowAt at this
    rw [if_pos ⟨Int.le_refl _, h1.2.1⟩] at this
    exact absurd this h1.2.2.1
  | b :: l, d :: m, lo, lo', h1, h2, h => by
    obtain ⟨a1, a2, a3, a4, a5⟩ := h1
    obtain ⟨b1, b2, b3, b4, b5⟩ := h2
    have fst : ∀ {l : List Bd} {b : Bd} {y : Int}, b.1 ≤ y → y < b.2.1 → rowAt (b :: l) y = b.2.2 := fun h1 h2 => by unfold rowAt; rw [if_pos ⟨h1, h2⟩]
    have low : ∀ {l : List Bd} {b : Bd} {y : Int}, CanB b.2.1 l → b.1 < b.2.1 → y < b.1 → rowAt (b :: l) y = [] := fun h1 h2 h3 => by
      unfold rowAt
      rw [if_neg (by omega)]
      exact rowAt_lo h1 (by omega)
    have e1 : b.1 = d.1 := by
      have hb := h b.1
      have hd := h d.1
      rw [fst (Int.le_refl _) a2] at hb
      rw [fst (l := m) (b := d) (Int.le_refl _) b2] at hd
      rcases Int.lt_trichotomy b.1 d.1 with hlt | heq | hgt
      · rw [low b5 b2 hlt] at hb; exact absurd hb a3
      · exact heq
      · rw [low a5 a2 hgt] at hd; exact absurd hd.symm b3
    have e2 : b.2.2 = d.2.2 := by
      have hb := h b.1
      rw [fst (Int.le_refl _) a2, e1, fst (Int.le_refl _) b2] at hb
      exact hb
    have past : ∀ {l : List Bd} {b : Bd}, CanB b.2.1 l → (∀ d, l.head? = some d → d.1 = b.2.1 → d.2.2 ≠ b.2.2) → b.2.2 ≠ [] → rowAt (b :: l) b.2.1 ≠ b.2.2 := fun {l b} h1 h2 h3 => by
      unfold rowAt
      rw [if_neg (by omega)]
      cases l with
      | nil => exact fun h => h3 h.symm
      | cons e l =>
        unfold rowAt
        by_cases he : e.1 = b.2.1
        · rw [if_pos ⟨by omega, by have := h1.2.1; omega⟩]
          exact h2 e rfl he
        · have hlt : b.2.1 < e.1 := by have := h1.1; omega
          rw [if_neg (by omega), rowAt_lo h1.2.2.2.2 (by have := h1.2.1; omega)]
          exact fun h => h3 h.symm
    have e3 : b.2.1 = d.2.1 := by
      rcases Int.lt_trichotomy b.2.1 d.2.1 with hlt | heq | hgt
      · have := h b.2.1
        rw [fst (l := m) (b := d) (by omega) hlt, ← e2] at this
        exact absurd this (past a5 a4 a3)
      · exact heq
      · have := h d.2.1
        rw [fst (l := l) (b := b) (by omega) hgt, e2] at this
        exact absurd this.symm (past b5 b4 b3)
    have hbd : b = d := by
      obtain ⟨x, y, z⟩ := b
      obtain ⟨x', y', z'⟩ := d
      simp only at e1 e2 e3
      rw [e1, e2, e3]
    subst hbd
    rw [CanB.uniq a5 b5 fun y => by
      by_cases hy : y < b.2.1
      · rw [rowAt_lo a5 hy, rowAt_lo b5 hy]
      · have := h y
        unfold rowAt at this
        rw [if_neg (by omega), if_neg (by omega)] at this
        exact this]
end Go.Proofs.YtfdglihcpfpefaaGreat
