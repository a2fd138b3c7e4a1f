/- What a region has within a rectangle: no more rectangles than the region. Plain Lean. -/
import Derived.Test.YtnlhigfglfahiaaW1
namespace Go.Proofs.Ytnlhigfglfahiaa
section
variable (x0 x1 y0 y1 : Int)
def clipS (l : List (Int × Int)) : List (Int × Int) := (l.map fun p => (max p.1 x0, min p.2 x1)).filter fun p => decide (p.1 < p.2)
theorem clipS_len (l : List (Int × Int)) : (clipS x0 x1 l).length ≤ l.length := by
  unfold clipS
  exact Nat.le_trans (List.length_filter_le _ _) (by simp)
theorem clipS_can : ∀ {l : List (Int × Int)} {lo : Int}, Can lo l → Can lo (clipS x0 x1 l)
  | [], _, _ => trivial
  | p :: l, lo, h => by
    obtain ⟨h1, h2, h3⟩ := h
    have i := clipS_can h3
    have e : clipS x0 x1 (p :: l) = if max p.1 x0 < min p.2 x1 then (max p.1 x0, min p.2 x1) :: clipS x0 x1 l else clipS x0 x1 l := by
      unfold clipS
      rw [List.map_cons, List.filter_cons]
      by_cases hc : max p.1 x0 < min p.2 x1
      · rw [if_pos (by simpa using hc), if_pos hc]
      · rw [if_neg (by simpa using hc), if_neg hc]
    rw [e]
    split
    · rename_i hc
      exact ⟨by show lo < max p.1 x0; omega, hc, i.mono (by show min p.2 x1 ≤ p.2; omega)⟩
    · exact i.mono (by omega)
theorem clipS_in (l : List (Int × Int)) (x : Int) : InS x (clipS x0 x1 l) ↔ (x0 ≤ x ∧ x < x1) ∧ InS x l := by
  unfold InS clipS
  constructor
  · rintro ⟨p, hp, h1, h2⟩
    obtain ⟨hm, _⟩ := List.mem_filter.1 hp
    obtain ⟨q, hq, rfl⟩ := List.mem_map.1 hm
    exact ⟨⟨by have : max q.1 x0 ≤ x := h1; omega, by have : x < min q.2 x1 := h2; omega⟩, q, hq, by have : max q.1 x0 ≤ x := h1; omega, by have : x < min q.2 x1 := h2; omega⟩
  · rintro ⟨⟨h1, h2⟩, q, hq, h3, h4⟩
    exact ⟨(max q.1 x0, min q.2 x1), List.mem_filter.2 ⟨List.mem_map.2 ⟨q, hq, rfl⟩, by simp; omega⟩, by show max q.1 x0 ≤ x; omega, by show x < min q.2 x1; omega⟩
def clipB : List Bd → List Bd → List Bd
  | [], out => out
  | b :: l, out => clipB l (if max b.1 y0 < min b.2.1 y1 then pushB out (max b.1 y0, min b.2.1 y1, clipS x0 x1 b.2.2) else out)
theorem push_tot (l : List Bd) (b : Bd) : (rectsB (pushB l b)).length ≤ (rectsB l).length + b.2.2.length := by
  by_cases he : b.2.2 = []
  · rw [pushB_empty he]; omega
  · rcases List.eq_nil_or_concat l with rfl | ⟨j, c, hc⟩
    · rw [pushB_nil he, rectsB_cons, List.length_append, rectsOf_len]; simp [rectsB]
    · rw [List.concat_eq_append] at hc
      subst hc
      rw [pushB_snoc he]
      split
      · rw [rectsB_append, rectsB_append, List.length_append, List.length_append, rectsB_cons, rectsB_cons, List.length_append, List.length_append, rectsOf_len, rectsOf_len]; show _ + (c.2.2.length + _) ≤ _; omega
      · rw [rectsB_append, List.length_append, rectsB_cons b, List.length_append, rectsOf_len]; simp [rectsB]
theorem clipB_ok : ∀ (l out : List Bd) (lo l0 : Int), CanB lo l → (∀ b ∈ l, ∃ lo, Can lo b.2.2) → CanB l0 out → (∀ b ∈ out, ∃ lo, Can lo b.2.2) → l0 ≤ lo → (∀ c ∈ out, c.2.1 ≤ lo) →
    CanB l0 (clipB x0 x1 y0 y1 l out) ∧ (∀ b ∈ clipB x0 x1 y0 y1 l out, ∃ lo, Can lo b.2.2) ∧ (rectsB (clipB x0 x1 y0 y1 l out)).length ≤ (rectsB out).length + (rectsB l).length ∧ ∀ x y, InB x y (clipB x0 x1 y0 y1 l out) ↔ InB x y out ∨ ((x0 ≤ x ∧ x < x1) ∧ (y0 ≤ y ∧ y < y1) ∧ InB x y l)
  | [], out, lo, l0, _, _, h1, h2, _, _ => ⟨h1, h2, by simp [clipB], fun x y => by
    show InB x y out ↔ _
    exact ⟨fun h => .inl h, fun h => by
      rcases h with h | ⟨_, _, h⟩
      · exact h
      · exact absurd h InS_nil⟩⟩
  | b :: l, out, lo, l0, h, hr, h1, h2, h3, h4 => by
    obtain ⟨lb, hb⟩ := hr b (by simp)
    have hb1 := h.1; have hb2 := h.2.1
    have hcons : ∀ x y, InB x y (b :: l) ↔ ((b.1 ≤ y ∧ y < b.2.1) ∧ InS x b.2.2) ∨ InB x y l := fun x y => by
      unfold InB
      by_cases hy : b.1 ≤ y ∧ y < b.2.1
      · have e : rowAt (b :: l) y = b.2.2 := by show (if b.1 ≤ y ∧ y < b.2.1 then b.2.2 else rowAt l y) = _; rw [if_pos hy]
        have e2 : rowAt l y = [] := rowAt_lo h.2.2.2.2 hy.2
        rw [e, e2]
        exact ⟨fun hx => .inl ⟨hy, hx⟩, fun hx => by rcases hx with hx | hx; exact hx.2; exact absurd hx InS_nil⟩
      · have e : rowAt (b :: l) y = rowAt l y := by show (if b.1 ≤ y ∧ y < b.2.1 then b.2.2 else rowAt l y) = _; rw [if_neg hy]
        rw [e]
        exact ⟨fun hx => .inr hx, fun hx => by rcases hx with hx | hx; exact absurd hx.1 hy; exact hx⟩
    by_cases hc : max b.1 y0 < min b.2.1 y1
    · obtain ⟨p1, p2, p3⟩ := h1.push (b := (max b.1 y0, min b.2.1 y1, clipS x0 x1 b.2.2)) (fun c hcm => by have := h4 c hcm; show c.2.1 ≤ max b.1 y0; omega) (by show l0 ≤ max b.1 y0; omega) hc
      have pt := push_tot out (max b.1 y0, min b.2.1 y1, clipS x0 x1 b.2.2)
      obtain ⟨i1, i2, i3, i4⟩ := clipB_ok l (pushB out (max b.1 y0, min b.2.1 y1, clipS x0 x1 b.2.2)) b.2.1 l0 h.2.2.2.2 (fun c hcm => hr c (by simp [hcm])) p1 (fun c hcm => by
        rcases (p2 c hcm).2 with e | ⟨d, hd, e⟩
        · rw [e]; exact ⟨lb, clipS_can x0 x1 hb⟩
        · rw [e]; exact h2 d hd) (by omega) (fun c hcm => by have h5 := (p2 c hcm).1; have h5 : c.2.1 ≤ min b.2.1 y1 := h5; omega)
      have e : clipB x0 x1 y0 y1 (b :: l) out = clipB x0 x1 y0 y1 l (pushB out (max b.1 y0, min b.2.1 y1, clipS x0 x1 b.2.2)) := by
        show clipB x0 x1 y0 y1 l (if _ then _ else _) = _; rw [if_pos hc]
      have hcl := clipS_len x0 x1 b.2.2
      rw [e]
      refine ⟨i1, i2, ?_, fun x y => ?_⟩
      · rw [rectsB_cons, List.length_append, rectsOf_len]
        simp only at pt
        omega
      · rw [i4, hcons]
        have hpi : InB x y (pushB out (max b.1 y0, min b.2.1 y1, clipS x0 x1 b.2.2)) ↔ InB x y out ∨ ((max b.1 y0 ≤ y ∧ y < min b.2.1 y1) ∧ InS x (clipS x0 x1 b.2.2)) := by
          unfold InB
          rw [p3 y]
          show InS x (if max b.1 y0 ≤ y ∧ y < min b.2.1 y1 then clipS x0 x1 b.2.2 else rowAt out y) ↔ _
          by_cases hy : max b.1 y0 ≤ y ∧ y < min b.2.1 y1
          · rw [if_pos hy]
            refine ⟨fun hx => .inr ⟨hy, hx⟩, fun hx => ?_⟩
            rcases hx with hx | hx
            · exfalso
              rcases rowAt_mem (l := out) (y := y) with k | ⟨c, hcm, k1, k2, _⟩
              · rw [k] at hx; exact InS_nil hx
              · have := h4 c hcm; omega
            · exact hx.2
          · rw [if_neg hy]
            exact ⟨fun hx => .inl hx, fun hx => by rcases hx with hx | hx; exact hx; exact absurd hx.1 hy⟩
        rw [hpi, clipS_in]
        constructor
        · rintro ((k | ⟨k1, k2, k3⟩) | ⟨k1, k2, k3⟩)
          · exact .inl k
          · exact .inr ⟨k2, by omega, .inl ⟨by omega, k3⟩⟩
          · exact .inr ⟨k1, k2, .inr k3⟩
        · rintro (k | ⟨k1, k2, ⟨k3, k4⟩ | k3⟩)
          · exact .inl (.inl k)
          · exact .inl (.inr ⟨by omega, k1, k4⟩)
          · exact .inr ⟨k1, k2, k3⟩
    · obtain ⟨i1, i2, i3, i4⟩ := clipB_ok l out b.2.1 l0 h.2.2.2.2 (fun c hcm => hr c (by simp [hcm])) h1 h2 (by omega) (fun c hcm => by have := h4 c hcm; omega)
      have e : clipB x0 x1 y0 y1 (b :: l) out = clipB x0 x1 y0 y1 l out := by
        show clipB x0 x1 y0 y1 l (if _ then _ else _) = _; rw [if_neg hc]
      rw [e]
      refine ⟨i1, i2, ?_, fun x y => ?_⟩
      · rw [rectsB_cons, List.length_append]; omega
      · rw [i4, hcons]
        constructor
        · rintro (k | ⟨k1, k2, k3⟩)
          · exact .inl k
          · exact .inr ⟨k1, k2, .inr k3⟩
        · rintro (k | ⟨k1, k2, ⟨k3, k4⟩ | k3⟩)
          · exact .inl k
          · omega
          · exact .inr ⟨k1, k2, k3⟩
end
/-- Within a rectangle a set has no more rectangles. -/
theorem clip_len {S C : List Bd} {x0 x1 y0 y1 : Int} (hS : BOk S) (hC : BOk C) (h : ∀ x y, InB x y C ↔ (x0 ≤ x ∧ x < x1) ∧ (y0 ≤ y ∧ y < y1) ∧ InB x y S) : (rectsB C).length ≤ (rectsB S).length := by
  obtain ⟨lo, hc⟩ := hS.can
  obtain ⟨i1, i2, i3, i4⟩ := clipB_ok x0 x1 y0 y1 S [] lo lo hc hS.row trivial (by simp) (Int.le_refl _) (by simp)
  have e : C = clipB x0 x1 y0 y1 S [] := hC.uniq ⟨⟨lo, i1⟩, i2⟩ fun x y => by
    rw [h, i4]
    exact ⟨fun k => .inr k, fun k => by rcases k with k | k; exact absurd k InS_nil; exact k⟩
  rw [e]
  simpa [rectsB] using i3
end Go.Proofs.Ytnlhigfglfahiaa
