/- Regions: the least rectangle around squares. Plain Lean about the plain functions. -/
import Derived.Test.YtnlhigfglfahiaaS8
namespace Go.Proofs.Ytnlhigfglfahiaa
/-- The least rectangle around squares. -/
structure IsBnd (S : Int → Int → Prop) (r : TRect) : Prop where
  all : ∀ x y, S x y → (r.X0 ≤ x ∧ x < r.X1) ∧ (r.Y0 ≤ y ∧ y < r.Y1)
  x0 : ∃ y, S r.X0 y
  x1 : ∃ y, S (r.X1 - 1) y
  y0 : ∃ x, S x r.Y0
  y1 : ∃ x, S x (r.Y1 - 1)
theorem IsBnd.uniq {S T : Int → Int → Prop} {r q : TRect} (h1 : IsBnd S r) (h2 : IsBnd T q) (h : ∀ x y, S x y ↔ T x y) : r = q := by
  obtain ⟨a, ha⟩ := h1.x0
  obtain ⟨b, hb⟩ := h1.x1
  obtain ⟨c, hc⟩ := h1.y0
  obtain ⟨d, hd⟩ := h1.y1
  obtain ⟨a', ha'⟩ := h2.x0
  obtain ⟨b', hb'⟩ := h2.x1
  obtain ⟨c', hc'⟩ := h2.y0
  obtain ⟨d', hd'⟩ := h2.y1
  have e1 := h2.all _ _ ((h _ _).1 ha)
  have e2 := h2.all _ _ ((h _ _).1 hb)
  have e3 := h2.all _ _ ((h _ _).1 hc)
  have e4 := h2.all _ _ ((h _ _).1 hd)
  have f1 := h1.all _ _ ((h _ _).2 ha')
  have f2 := h1.all _ _ ((h _ _).2 hb')
  have f3 := h1.all _ _ ((h _ _).2 hc')
  have f4 := h1.all _ _ ((h _ _).2 hd')
  obtain ⟨x0, y0, x1, y1⟩ := r
  obtain ⟨x0', y0', x1', y1'⟩ := q
  simp only at *
  congr 1 <;> omega
theorem CanB.init : ∀ {l : List Bd} {b : Bd} {lo : Int}, CanB lo (l ++ [b]) → ∀ c ∈ l, c.2.1 ≤ b.1
  | [], _, _, _, c, hc => by simp at hc
  | d :: l, b, lo, h, c, hc => by
    have h' : CanB d.2.1 (l ++ [b]) := h.2.2.2.2
    rcases List.mem_cons.1 hc with rfl | hc
    · exact (h'.mem b (by simp)).1
    · exact h'.init c hc
theorem flatS_head {p : Int × Int} {l : List (Int × Int)} : idx (flatS (p :: l)) 0 = some p.1 ∧ idx (flatS (p :: l)) 1 = some p.2 := ⟨rfl, rfl⟩
theorem flatS_last {l : List (Int × Int)} {q : Int × Int} (hl : l.length ≤ 1000000000) : idx (flatS (l ++ [q])) (w64 (((flatS (l ++ [q])).length : Int) - 1)) = some q.2 := by
  have e : flatS (l ++ [q]) = (flatS l ++ [q.1]) ++ q.2 :: [] := by rw [flatS_append]; simp [flatS]
  have e2 : w64 (((flatS (l ++ [q])).length : Int) - 1) = ((flatS l ++ [q.1]).length : Int) := by
    rw [w64_id (by rw [flatS_len]; simp; omega) (by rw [flatS_len]; simp; omega), flatS_len]; simp [flatS_len]; omega
  rw [e2, e]
  exact idx_mid _ [] _
theorem Around_ok {l : List Bd} (h : BOk l) (hne : l ≠ []) (hl : l.length ≤ 1000000000) (hr : ∀ b ∈ l, b.2.2.length ≤ 1000000000) : ∃ r, F_shape_Set__Around (l.map toP) = some r ∧ IsBnd (fun x y => InB x y l) r := by
  obtain ⟨lo, hc⟩ := h.can
  -- the loop: the least and the greatest X of all bands
  have loop : ∀ (f g : TBand) (suf : List Bd) (i : Nat) (u v : Int), (∀ b ∈ suf, b ∈ l) → ∃ u' v', F_shape_Set__Around_L1 f g (suf.map toP) i u v = some ⟨u', f.Y0, v', g.Y1⟩ ∧ u' ≤ u ∧ v ≤ v' ∧ (u' = u ∨ ∃ b ∈ suf, ∃ p ∈ b.2.2, u' = p.1) ∧ (v' = v ∨ ∃ b ∈ suf, ∃ p ∈ b.2.2, v' = p.2) ∧ ∀ b ∈ suf, ∀ p ∈ b.2.2, u' ≤ p.1 ∧ p.2 ≤ v' := by
    intro f g suf
    induction suf with
    | nil => intro i u v _; exact ⟨u, v, rfl, Int.le_refl _, Int.le_refl _, .inl rfl, .inl rfl, by simp⟩
    | cons b suf ih =>
      intro i u v hb
      have hbl := hb b (by simp)
      have hbne := (hc.mem b hbl).2.2
      obtain ⟨lo', hcan⟩ := h.row b hbl
      have hlen := hr b hbl
      obtain ⟨p, t, hp⟩ : ∃ p t, b.2.2 = p :: t := by cases hx : b.2.2 with | nil => exact absurd hx hbne | cons p t => exact ⟨p, t, rfl⟩
      obtain ⟨j, q, hq⟩ : ∃ j q, b.2.2 = j ++ [q] := by
        rcases List.eq_nil_or_concat b.2.2 with hx | ⟨j, q, hx⟩
        · exact absurd hx hbne
        · exact ⟨j, q, by simpa using hx⟩
      have e1 : idx (toP b).Xs 0 = some p.1 := by show idx (flatS b.2.2) 0 = _; rw [hp]; rfl
      have e2 : idx (toP b).Xs (w64 (((toP b).Xs.length : Int) - 1)) = some q.2 := by
        show idx (flatS b.2.2) (w64 (((flatS b.2.2).length : Int) - 1)) = _
        rw [hq]
        exact flatS_last (by rw [hq] at hlen; simp at hlen; omega)
      obtain ⟨u', v', i1, i2, i3, i4, i5, i6⟩ := ih (i + 1) (min u p.1) (max v q.2) (fun c hc => hb c (by simp [hc]))
      have hfirst : ∀ r ∈ b.2.2, p.1 ≤ r.1 := fun r hr => by
        rw [hp] at hr hcan
        rcases List.mem_cons.1 hr with rfl | hr
        · exact Int.le_refl _
        · have := hcan.2.2.mem r hr; have := hcan.2.1; omega
      have hlast : ∀ r ∈ b.2.2, r.2 ≤ q.2 := fun r hr => by
        rw [hq] at hr hcan
        obtain ⟨_, c2, c3, c4⟩ := hcan.init
        rcases List.mem_append.1 hr with hr | hr
        · have := c2 r hr; omega
        · simp at hr; subst hr; exact Int.le_refl _
      refine ⟨u', v', ?_, Int.le_trans i2 (Int.min_le_left _ _), Int.le_trans (Int.le_max_left _ _) i3, ?_, ?_, fun c hcm r hrm => ?_⟩
      · rw [List.map_cons, F_shape_Set__Around_L1.eq_2, e1, Option.bind_some, e2, Option.bind_some]; exact i1
      · rcases i4 with k | ⟨c, hc1, r, hr1, k⟩
        · by_cases hu : u ≤ p.1
          · exact .inl (k.trans (Int.min_eq_left hu))
          · exact .inr ⟨b, by simp, p, by rw [hp]; simp, k.trans (Int.min_eq_right (by omega))⟩
        · exact .inr ⟨c, by simp [hc1], r, hr1, k⟩
      · rcases i5 with k | ⟨c, hc1, r, hr1, k⟩
        · by_cases hv : q.2 ≤ v
          · exact .inl (k.trans (Int.max_eq_left hv))
          · exact .inr ⟨b, by simp, q, by rw [hq]; simp, k.trans (Int.max_eq_right (by omega))⟩
        · exact .inr ⟨c, by simp [hc1], r, hr1, k⟩
      · rcases List.mem_cons.1 hcm with rfl | hcm
        · exact ⟨Int.le_trans i2 (Int.le_trans (Int.min_le_right _ _) (hfirst r hrm)), Int.le_trans (hlast r hrm) (Int.le_trans (Int.le_max_right _ _) i3)⟩
        · exact i6 c hcm r hrm
  obtain ⟨b, t, hbt⟩ : ∃ b t, l = b :: t := by cases l with | nil => exact absurd rfl hne | cons b t => exact ⟨b, t, rfl⟩
  obtain ⟨j, c, hjc⟩ : ∃ j c, l = j ++ [c] := by
    rcases List.eq_nil_or_concat l with hx | ⟨j, q, hx⟩
    · exact absurd hx hne
    · exact ⟨j, q, by simpa using hx⟩
  have hbl : b ∈ l := by rw [hbt]; simp
  have hcl : c ∈ l := by rw [hjc]; simp
  have hbm := hc.mem b hbl
  have hcm := hc.mem c hcl
  obtain ⟨p, s, hp⟩ : ∃ p s, b.2.2 = p :: s := by cases hx : b.2.2 with | nil => exact absurd hx hbm.2.2 | cons p t => exact ⟨p, t, rfl⟩
  obtain ⟨p2, s2, hp2⟩ : ∃ p s, c.2.2 = p :: s := by cases hx : c.2.2 with | nil => exact absurd hx hcm.2.2 | cons p t => exact ⟨p, t, rfl⟩
  have e0 : idx (l.map toP) 0 = some (toP b) := by rw [hbt]; rfl
  have e1 : idx (toP b).Xs 0 = some p.1 := by show idx (flatS b.2.2) 0 = _; rw [hp]; rfl
  have e2 : idx (toP b).Xs 1 = some p.2 := by show idx (flatS b.2.2) 1 = _; rw [hp]; rfl
  have e3 : idx (l.map toP) (w64 (((l.map toP).length : Int) - 1)) = some (toP c) := by
    have : w64 (((l.map toP).length : Int) - 1) = ((j.map toP).length : Int) := by
      rw [w64_id (by simp; omega) (by simp; omega), hjc]; simp
    rw [this, hjc, List.map_append]
    exact idx_mid _ [] _
  obtain ⟨u, v, k1, k2, k3, k4, k5, k6⟩ := loop (toP b) (toP c) l 0 p.1 p.2 (fun _ h => h)
  have inb : ∀ d ∈ l, ∀ r ∈ d.2.2, InB r.1 d.1 l ∧ InB (r.2 - 1) d.1 l ∧ InB r.1 (d.2.1 - 1) l := fun d hd r hr => by
    have hdm := hc.mem d hd
    obtain ⟨_, hcan⟩ := h.row d hd
    have hrm := hcan.mem r hr
    unfold InB
    rw [rowAt_of hc hd (Int.le_refl _) hdm.2.1, rowAt_of hc hd (y := d.2.1 - 1) (by omega) (by omega)]
    exact ⟨⟨r, hr, Int.le_refl _, hrm.2⟩, ⟨r, hr, by omega, by omega⟩, ⟨r, hr, Int.le_refl _, hrm.2⟩⟩
  refine ⟨⟨u, b.1, v, c.2.1⟩, ?_, fun x y hxy => ?_, ?_, ?_, ?_, ?_⟩
  · unfold F_shape_Set__Around
    rw [e0, Option.bind_some, e1, Option.bind_some, Option.bind_some, Option.bind_some, e2, Option.bind_some, e3, Option.bind_some]
    exact k1
  · have hxy : InB x y l := hxy
    unfold InB at hxy
    rcases rowAt_mem (l := l) (y := y) with h1 | ⟨d, hd, h1, h2, h3⟩
    · rw [h1] at hxy; exact absurd hxy InS_nil
    · rw [h3] at hxy
      obtain ⟨r, hr, hx⟩ := hxy
      have := k6 d hd r hr
      have hlo : b.1 ≤ d.1 := by
        have hc' := hc
        rw [hbt] at hd hc'
        rcases List.mem_cons.1 hd with rfl | hd
        · exact Int.le_refl _
        · have := hc'.2.2.2.2.mem d hd; have := hc'.2.1; omega
      have hhi : d.2.1 ≤ c.2.1 := by
        have hc' := hc
        rw [hjc] at hd hc'
        rcases List.mem_append.1 hd with hd | hd
        · have := hc'.init d hd; omega
        · simp at hd; subst hd; exact Int.le_refl _
      show (u ≤ x ∧ x < v) ∧ (b.1 ≤ y ∧ y < c.2.1)
      omega
  · rcases k4 with k | ⟨d, hd, r, hr, k⟩
    · rw [k]; exact ⟨b.1, (inb b hbl p (by rw [hp]; simp)).1⟩
    · rw [k]; exact ⟨d.1, (inb d hd r hr).1⟩
  · rcases k5 with k | ⟨d, hd, r, hr, k⟩
    · show ∃ y, InB (v - 1) y l
      rw [k]; exact ⟨b.1, (inb b hbl p (by rw [hp]; simp)).2.1⟩
    · show ∃ y, InB (v - 1) y l
      rw [k]; exact ⟨d.1, (inb d hd r hr).2.1⟩
  · exact ⟨p.1, (inb b hbl p (by rw [hp]; simp)).1⟩
  · exact ⟨p2.1, (inb c hcl p2 (by rw [hp2]; simp)).2.2⟩
end Go.Proofs.Ytnlhigfglfahiaa
