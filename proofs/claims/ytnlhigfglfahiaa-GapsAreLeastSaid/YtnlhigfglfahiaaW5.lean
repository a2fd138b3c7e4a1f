/- Gaps: where the nearest squares lie. Plain Lean. -/
import Derived.Test.YtnlhigfglfahiaaG1p
namespace Go.Proofs.Ytnlhigfglfahiaa
theorem far_squares {r q : TRect} {u v x y d : Int} (hd : 0 ≤ d) (h1 : r.X0 ≤ u ∧ u < r.X1) (h2 : r.Y0 ≤ v ∧ v < r.Y1) (h3 : q.X0 ≤ x ∧ x < q.X1) (h4 : q.Y0 ≤ y ∧ y < q.Y1) (h5 : x - d ≤ u ∧ u ≤ x + d) (h6 : y - d ≤ v ∧ v ≤ y + d) : far r q ≤ d := by
  unfold far bt
  omega
theorem to_in {a b : List TRect} (ha : a ≠ []) (hb : b ≠ []) (h1 : ∀ r ∈ a, R2 r) (h2 : ∀ r ∈ b, R2 r) : ∃ r ∈ b, (r.X0 ≤ (toV a b).1 ∧ (toV a b).1 < r.X1) ∧ (r.Y0 ≤ (toV a b).2.1 ∧ (toV a b).2.1 < r.Y1) := by
  obtain ⟨l1, p, hp, l2⟩ := least_ok ha hb
  obtain ⟨u1, u2⟩ := upd_true (least a b) (prs a b) (0, 0, false)
  have hok := u2 ⟨p, hp, l2.symm⟩
  obtain ⟨n0, n1⟩ := least_lim ha hb h1 h2
  -- the pair that gave the first square
  obtain ⟨q, hq, e1, e2⟩ : ∃ q ∈ prs a b, far q.1 q.2 = least a b ∧ fromV a b = ((nearP q (least a b)).X, (nearP q (least a b)).Y, true) := by
    rcases u1 with e | ⟨q, hq, e1, e2⟩
    · rw [e] at hok; cases hok
    · exact ⟨q, hq, e1, e2⟩
  obtain ⟨q1, q2⟩ := mem_prs.1 hq
  have k1 := h1 _ q1
  have k2 := h2 _ q2
  have hn := (near_iff k1 k2 n0).1 (by omega)
  have fx : (fromV a b).1 = max q.1.X0 (q.2.X0 - least a b) := by rw [e2]; rfl
  have fy : (fromV a b).2.1 = max q.1.Y0 (q.2.Y0 - least a b) := by rw [e2]; rfl
  have hx := k1.x; have hy := k1.y; have hx2 := k2.x; have hy2 := k2.y
  have c1 := k1.x0; have c2 := k1.x1; have c3 := k1.y0; have c4 := k1.y1
  obtain ⟨U, hU⟩ : ∃ U : TRect, U = ⟨(fromV a b).1, (fromV a b).2.1, (fromV a b).1 + 1, (fromV a b).2.1 + 1⟩ := ⟨_, rfl⟩
  have ux : U.X0 = (fromV a b).1 := by rw [hU]
  have uy : U.Y0 = (fromV a b).2.1 := by rw [hU]
  have ux1 : U.X1 = (fromV a b).1 + 1 := by rw [hU]
  have uy1 : U.Y1 = (fromV a b).2.1 + 1 := by rw [hU]
  have gx : q.1.X0 ≤ U.X0 ∧ U.X0 < q.1.X1 ∧ q.2.X0 - least a b ≤ U.X0 ∧ U.X0 ≤ q.2.X1 + least a b - 1 := by rw [ux, fx]; omega
  have gy : q.1.Y0 ≤ U.Y0 ∧ U.Y0 < q.1.Y1 ∧ q.2.Y0 - least a b ≤ U.Y0 ∧ U.Y0 ≤ q.2.Y1 + least a b - 1 := by rw [uy, fy]; omega
  have hur : R2 U := by constructor <;> omega
  have hge : ∀ r ∈ b, least a b ≤ far r U := fun r hr => by
    have hmin : least a b ≤ far q.1 r := l1 (q.1, r) (mem_prs.2 ⟨q1, hr⟩)
    have kr := h2 r hr
    have hx' := kr.x; have hy' := kr.y
    refine Classical.byContradiction fun hlt => ?_
    have h0 := (far_lim kr hur).1
    have hnn := (near_iff kr hur (n := least a b - 1) (by omega)).1 (by omega)
    have := far_squares (r := q.1) (q := r) (u := U.X0) (v := U.Y0) (x := max r.X0 (U.X0 - (least a b - 1))) (y := max r.Y0 (U.Y0 - (least a b - 1))) (d := least a b - 1) (by omega) ⟨by omega, by omega⟩ ⟨by omega, by omega⟩ ⟨by omega, by omega⟩ ⟨by omega, by omega⟩ ⟨by omega, by omega⟩ ⟨by omega, by omega⟩
    omega
  have hle : far q.2 U ≤ least a b := far_squares (r := q.2) (q := U) (u := max q.2.X0 (min U.X0 (q.2.X1 - 1))) (v := max q.2.Y0 (min U.Y0 (q.2.Y1 - 1))) (x := U.X0) (y := U.Y0) n0 ⟨by omega, by omega⟩ ⟨by omega, by omega⟩ ⟨by omega, by omega⟩ ⟨by omega, by omega⟩ ⟨by omega, by omega⟩ ⟨by omega, by omega⟩
  obtain ⟨v1, v2⟩ := upd_true (least a b) (prs b [U]) (0, 0, false)
  have hok2 := v2 ⟨(q.2, U), mem_prs.2 ⟨q2, by simp⟩, by have := hge q.2 q2; show far q.2 U = _; omega⟩
  have et : toV a b = (prs b [U]).foldl (upd (least a b)) (0, 0, false) := by rw [hU]; rfl
  rw [et]
  rcases v1 with e | ⟨s, hs, e3, e4⟩
  · rw [e] at hok2; cases hok2
  · rw [e4]
    obtain ⟨s1, s2⟩ := mem_prs.1 hs
    have s2 : s.2 = U := by simpa using s2
    have ks := h2 _ s1
    rw [s2] at e3
    have := (near_iff ks hur n0).1 (by omega)
    refine ⟨s.1, s1, ?_⟩
    show (s.1.X0 ≤ max s.1.X0 (s.2.X0 - least a b) ∧ max s.1.X0 (s.2.X0 - least a b) < s.1.X1) ∧ (s.1.Y0 ≤ max s.1.Y0 (s.2.Y0 - least a b) ∧ max s.1.Y0 (s.2.Y0 - least a b) < s.1.Y1)
    rw [s2]
    omega
end Go.Proofs.Ytnlhigfglfahiaa
