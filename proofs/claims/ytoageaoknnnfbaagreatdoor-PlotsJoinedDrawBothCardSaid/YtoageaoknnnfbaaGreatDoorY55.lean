/- PlotsJoinedDrawBoth: a plot that draws one without clear behind another one draws both. Plain. Conditions: none beyond each theorem's own. -/
import Derived.Test.YtoageaoknnnfbaaGreatDoorJ4
import Derived.Test.YtoageaoknnnfbaaGreatDoorQPJDBR
namespace Go.Proofs.YtoageaoknnnfbaaGreatDoor
theorem zby {x : zG} (h : x.Wf) : zVT x := by
  induction h with
  | mk f1 f2 f3 l1 f4 f5 f6 l2 f7 ih =>
    rw [zGd]
    exact ⟨f2, ⟨f3.fX, f3.fY⟩, ⟨l1, fun q hq => ⟨(f4 q hq).fX, (f4 q hq).fY⟩⟩, ⟨f5, f6⟩, l2, zRw ih⟩
theorem zWU {p : zm} (h : p.Wf) : zK1 p :=
  ⟨h.fUnit, fun t ht => ⟨(h.fTools.2 t ht).fName, fun r hr => ⟨⟨((h.fTools.2 t ht).fRects.2 r hr).fX0, ((h.fTools.2 t ht).fRects.2 r hr).fY0⟩, ((h.fTools.2 t ht).fRects.2 r hr).fX1, ((h.fTools.2 t ht).fRects.2 r hr).fY1⟩⟩, h.fSteps.1, zRw (fun x hx => zby (h.fSteps.2 x hx))⟩
theorem zeO : zLU 7 = some ⟨#[55]⟩ := by
  unfold zLU
  rw [if_pos (by decide)]
  have : Lib.decDigits (7 : Int).toNat = [55] := by
    unfold Lib.decDigits
    rw [dif_pos (by decide)]
    rfl
  rw [this]
theorem zYB {N : Nat} (hN : 10 ≤ N) : KN N = some true := by
  obtain ⟨N, rfl⟩ : ∃ n, N = n + 1 := ⟨N - 1, by omega⟩
  have h1 : Jv (N + 1) ⟨7, [], []⟩ = some 0 := rfl
  have h2 : zEv (N + 1) ⟨7, [], []⟩ = some (⟨#[117, 110, 105, 116, 32, 55, 10]⟩, 0) := by
    unfold zEv
    rw [h1, Option.bind_some, if_neg (by decide)]
    show (zLU 7).bind _ = _
    rw [zeO]
    rfl
  unfold KN
  rw [h2, Option.bind_some]
  simp [zYy]
theorem zLz (a b : zm) (ha : a.Wf) (hb : b.Wf) : ∃ N, KU N a b = some true := by
  obtain ⟨N, hN⟩ : ∃ N, N = 3 * (JG a.Steps + VE a.Tools + JG b.Steps + VE b.Tools) + 30000000000 := ⟨_, rfl⟩
  refine ⟨N, ?_⟩
  have hLa := zWU ha
  have hLb := zWU hb
  have hFa : Fu a N := by unfold Fu; omega
  have hFb : Fu b N := by unfold Fu; omega
  obtain ⟨I, e, i1, i2, i3, _⟩ := zUm (N := N) (by omega) hFa hLa
  obtain ⟨J, f, j1, j2, j3, _⟩ := zUm (N := N) (by omega) hFb hLb
  obtain ⟨q, g, q1, q2, q3⟩ := zV2 (N := N) hFa hLa hFb hLb (by omega)
  have haw := zYB (N := N) (by omega)
  have hfin : (if (((e == 0) || ((I.length : Int) == 0)) && ((g == 0) || (q.Unit == 0))) = true then (KN N).bind fun y114 => some y114 else some false).bind (fun zNi => some zNi) = some true := by
    have h1 : ((e == 0) || ((I.length : Int) == 0)) = true := by
      by_cases he : e = 0
      · simp [he]
      · rw [i2 he]; simp
    have h2 : ((g == 0) || (q.Unit == 0)) = true := by
      by_cases hg : g = 0
      · simp [hg]
      · rw [q2 hg]; simp
    rw [h1, h2, haw]; rfl
  unfold KU
  rw [i1, Option.bind_some, j1, Option.bind_some, q1, Option.bind_some]
  by_cases hz : e ≠ 0 ∨ f ≠ 0 ∨ g ≠ 0
  · rw [if_pos (by simp; omega), Option.bind_some, if_pos rfl]
    exact hfin
  · have he : e = 0 := Classical.byContradiction fun h => hz (.inl h)
    have hf : f = 0 := Classical.byContradiction fun h => hz (.inr (.inl h))
    have hg : g = 0 := Classical.byContradiction fun h => hz (.inr (.inr h))
    obtain ⟨pa, za, hI⟩ := i3 he
    obtain ⟨pb, zb, hJ⟩ := j3 hf
    obtain ⟨_, _, hq, pj, fj, lj⟩ := q3 hg
    rw [if_neg (by simp; omega)]
    have hszb : JG b.Steps ≤ N := by omega
    obtain ⟨c, c1, c2⟩ := zRN (JG b.Steps) b.Steps N (Nat.le_refl _) (by omega) (by
      have := (pb.zab hFb hLb)
      have h1 := pb.steps
      have key : ∀ (k : Nat) (l : List zG) (d : Int), JG l ≤ k → zEl 40 l → JG l ≤ 2041 * zAX l := by
        intro k
        induction k with
        | zero =>
          intro l d hk _
          cases l with
          | nil => rw [zDK]; omega
          | cons x l => have := Jg x; rw [Qj] at hk; omega
        | succ k ih =>
          intro l
          induction l with
          | nil => intro d _ _; rw [zDK]; omega
          | cons x l ihl =>
            intro d hk hg
            have hs := Jg x
            rw [Qj] at hk
            rw [zEK, zGA] at hg
            have i1 := ih x.Steps d (by omega) hg.1.2
            have i2 := ihl d (by omega) hg.2
            have i3 : x.Points.length ≤ 2000 ∧ x.Name.size ≤ 40 := hg.1.1
            rw [Qj, zCQ, zEE, hs]
            omega
      have h2 := key _ b.Steps 0 (Nat.le_refl _) this.steps
      have h3 := this.nd
      omega)
    rw [c1, Option.bind_some, Option.bind_some]
    cases c
    · rw [if_neg (by simp)]
      have hcl := c2 rfl
      have ia := ((zJI (N := N) (by omega) pa).2 za).img
      have ib := ((zJI (N := N) (by omega) pb).2 zb).img
      obtain ⟨C, d1, d2, d3⟩ := zYD (N := N) (by omega) ia ib
      have hjv := zYE (N := N) (by omega) fj lj pj
      rw [← hI, ← hJ] at d3
      rw [hq]
      show ((WG N (Vb a b)).bind _) = _
      rw [hjv, Option.bind_some]
      show ((zBl N I J).bind _) = _
      rw [d3, Option.bind_some]
      rcases zZR pa pb pj za zb ⟨_, hcl⟩ with h | ⟨h, hp⟩
      · have e1 : (zX2 (Vb a b)).2 = 2 := by unfold zX2; rw [if_neg (by omega)]; exact h
        rw [e1, if_pos (by simp), if_pos (by simp), haw]; rfl
      · have ij := ((zJI (N := N) (by omega) pj).2 h).img
        have hCe : C = (zDG (Vb a b)).2.img := d1.uniq ij.ok fun x y => by rw [d2, hp]
        have hfew := ij.few
        have e1 : zX2 (Vb a b) = (QR (zDG (Vb a b)).2.img, 0) := by unfold zX2; rw [if_pos h]
        have e2 : zTA C = (QR (zDG (Vb a b)).2.img, 0) := by
          unfold zTA
          rw [hCe, if_neg (by omega)]
        rw [e1, e2, if_neg (by simp)]
        obtain ⟨t, t1, t2⟩ := zRU (QR (zDG (Vb a b)).2.img) (QR (zDG (Vb a b)).2.img)
        show ((Ke (QR (zDG (Vb a b)).2.img) (QR (zDG (Vb a b)).2.img)).bind _) = _
        rw [t1, Option.bind_some, t2.2 rfl, if_pos rfl, haw]; rfl
    · rw [if_pos rfl]
      exact hfin
end Go.Proofs.YtoageaoknnnfbaaGreatDoor
