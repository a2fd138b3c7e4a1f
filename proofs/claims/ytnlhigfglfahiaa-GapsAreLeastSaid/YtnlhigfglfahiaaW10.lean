/- Gaps are least: the law and its fuel. Plain Lean about the plain functions. -/
import Derived.Test.YtnlhigfglfahiaaW8
import Derived.Test.YtnlhigfglfahiaaW5
import Derived.Test.YtnlhigfglfahiaaG2p
namespace Go.Proofs.Ytnlhigfglfahiaa
/-- The gaps of two regions. -/
theorem gaps_two (a b : List TRect) : ∃ v : List TGap × Int, gapsV [a, b] 100000 = some v ∧ ((v.1 = []) ∨ (regionErr a = 0 ∧ regionErr b = 0 ∧ a ≠ [] ∧ b ≠ [] ∧ 0 < least a b ∧ least a b ≤ 100000 ∧ v = ([⟨0, 1, (gapV a b).Distance, (gapV a b).From, (gapV a b).To⟩], 0))) := by
  unfold gapsV
  by_cases hc : (decide (2000 < (([a, b] : List (List TRect)).length : Int)) || decide (2000 < manyV [a, b] 0)) = true
  · rw [if_pos hc]; exact ⟨_, rfl, .inl rfl⟩
  · rw [if_neg hc]
    by_cases ha : regionErr a = 0
    · by_cases hb : regionErr b = 0
      · have hr : regsErr [a, b] = 0 := by
          show (if regionErr a = 0 then (if regionErr b = 0 then (0 : Int) else regionErr b) else regionErr a) = 0
          rw [if_pos ha, if_pos hb]
        rw [if_pos hr, if_pos (show within (100000 : Int) 0 100000 = true by decide)]
        have e : gOut 100000 [a, b] 0 [] = (if a = [] ∨ b = [] then some ([], 0) else if least a b = 0 then some ([], 12) else if least a b - 1 < 100000 then some ([⟨0, 1, (gapV a b).Distance, (gapV a b).From, (gapV a b).To⟩], 0) else some ([], 0)) := by
          show gIn 100000 a 0 (gOut 100000 [b] (0 + 1)) [b] (0 + 1) [] = _
          unfold gIn
          rfl
        rw [e]
        by_cases h1 : a = [] ∨ b = []
        · rw [if_pos h1]; exact ⟨_, rfl, .inl rfl⟩
        · rw [if_neg h1]
          by_cases h2 : least a b = 0
          · rw [if_pos h2]; exact ⟨_, rfl, .inl rfl⟩
          · rw [if_neg h2]
            by_cases h3 : least a b - 1 < 100000
            · rw [if_pos h3]
              have ha0 : a ≠ [] := fun h => h1 (.inl h)
              have hb0 : b ≠ [] := fun h => h1 (.inr h)
              have hl := least_lim ha0 hb0 (fun r hr => ((regionErr_ok ha).2.2.1 r hr).r2) (fun r hr => ((regionErr_ok hb).2.2.1 r hr).r2)
              exact ⟨_, rfl, .inr ⟨ha, hb, ha0, hb0, by omega, by omega, rfl⟩⟩
            · rw [if_neg h3]; exact ⟨_, rfl, .inl rfl⟩
      · have hr : regsErr [a, b] = regionErr b := by
          show (if regionErr a = 0 then (if regionErr b = 0 then (0 : Int) else regionErr b) else regionErr a) = _
          rw [if_pos ha, if_neg hb]
        rw [if_neg (by rw [hr]; exact hb)]; exact ⟨_, rfl, .inl rfl⟩
    · have hr : regsErr [a, b] = regionErr a := by
        show (if regionErr a = 0 then (if regionErr b = 0 then (0 : Int) else regionErr b) else regionErr a) = _
        rw [if_neg ha]
      rw [if_neg (by rw [hr]; exact ha)]; exact ⟨_, rfl, .inl rfl⟩
theorem gapsLeast_ok {N : Nat} (hN : 10000000000 ≤ N) (a b : List TRect) : F_etchhouselaw1_GapsAreLeast N a b = some true := by
  unfold F_etchhouselaw1_GapsAreLeast
  obtain ⟨v, v1, v2⟩ := gaps_two a b
  rw [Gaps_ok hN, v1, Option.bind_some, awake1_ok (by omega)]
  rcases v2 with hv | ⟨ha, hb, ha0, hb0, hl0, hl1, rfl⟩
  · rw [if_pos (by rw [hv]; simp), hv]; rfl
  · obtain ⟨ga, ra⟩ := Good.of ha
    have hS : ∀ x y, InB x y (setB a) ↔ InR x y a := (setB_ok (ROk.ne (regionErr_ok ha).2.2.1)).2
    have aok := (regionErr_ok ha).2.2.1
    have bok := (regionErr_ok hb).2.2.1
    have a2 : ∀ r ∈ a, R2 r := fun r hr => (aok r hr).r2
    have b2 : ∀ r ∈ b, R2 r := fun r hr => (bok r hr).r2
    obtain ⟨lm, p, hp, lp⟩ := least_ok ha0 hb0
    have hd : (gapV a b).Distance = least a b - 1 := rfl
    have i1 : inN (least a b - 1) := ⟨by omega, by omega⟩
    have i2 : inN (least a b) := ⟨by omega, by omega⟩
    rw [if_neg (by simp)]
    simp only [show ∀ g : TGap, idx [g] 0 = some g from fun _ => rfl, Option.bind_some, hd]
    rw [show least a b - 1 + 1 = least a b by omega, w64_id (x := least a b) (by omega) (by omega), Grow_ok hN, Grow_ok hN, if_pos ha, if_pos ha, if_pos i1, if_pos i2]
    simp only [Option.bind_some]
    by_cases h1 : (growV (setB a) (least a b - 1)).2 = 0
    · by_cases h2 : (growV (setB a) (least a b)).2 = 0
      · obtain ⟨gX, pX⟩ := growV_ok ga i1.1 (W := (growV (setB a) (least a b - 1)).1) (by rw [← h1])
        obtain ⟨gY, pY⟩ := growV_ok ga i2.1 (W := (growV (setB a) (least a b)).1) (by rw [← h2])
        rw [outV_ok h1, outV_ok h2, if_neg (by simp)]
        obtain ⟨u, u1, u2⟩ := Both_ok hN (rectsB (growV (setB a) (least a b - 1)).1) b
        obtain ⟨w, w1, w2⟩ := Both_ok hN (rectsB (growV (setB a) (least a b)).1) b
        obtain ⟨C, c1, c2, c3⟩ := u2.ok gX.region hb
        obtain ⟨D, d1, d2, d3⟩ := w2.ok gY.region hb
        -- nothing is so near
        have hC : C = [] := c1.uniq (m := []) ⟨⟨0, trivial⟩, by simp⟩ fun x y => by
          refine ⟨fun h => ?_, fun h => absurd h InS_nil⟩
          have hk := KeptR_dec.1 ((c2 x y).1 h)
          simp at hk
          obtain ⟨s, t, k1, k2, k3⟩ := (pX x y).1 ((InR_rectsB gX.ok x y).1 hk.1)
          obtain ⟨r, hr, r1, r2⟩ := (hS s t).1 k1
          obtain ⟨q, hq, q1, q2⟩ := hk.2
          have := far_squares (r := r) (q := q) (d := least a b - 1) (by omega) r1 r2 q1 q2 (by omega) (by omega)
          have hmin : least a b ≤ far r q := lm (r, q) (mem_prs.2 ⟨hr, hq⟩)
          omega
        have eu : u = ([], 0) := by rw [c3, hC]; rfl
        rw [u1, w1, eu]
        simp only [Option.bind_some]
        by_cases h3 : 2000 < (rectsB D).length
        · have ew : w = ([], 2) := by rw [d3]; unfold toldV; rw [if_pos h3]
          rw [ew]; rfl
        · have ew : w = (rectsB D, 0) := by rw [d3]; unfold toldV; rw [if_neg h3]
          rw [ew, if_neg (by simp)]
          -- something is one nearer
          have hDn : rectsB D ≠ [] := fun hnil => by
            obtain ⟨m1, m2⟩ := mem_prs.1 hp
            have hnear := (near_iff (a2 _ m1) (b2 _ m2) (n := least a b) (by omega)).1 (by omega)
            have k1 := (a2 _ m1).x; have k2 := (a2 _ m1).y; have k3 := (b2 _ m2).x; have k4 := (b2 _ m2).y
            have hx : InB (max p.2.X0 (min (max p.1.X0 (p.2.X0 - least a b)) (p.2.X1 - 1))) (max p.2.Y0 (min (max p.1.Y0 (p.2.Y0 - least a b)) (p.2.Y1 - 1))) D := by
              rw [d2, KeptR_dec]
              have e1 : InR (max p.2.X0 (min (max p.1.X0 (p.2.X0 - least a b)) (p.2.X1 - 1))) (max p.2.Y0 (min (max p.1.Y0 (p.2.Y0 - least a b)) (p.2.Y1 - 1))) b := ⟨p.2, m2, ⟨by omega, by omega⟩, by omega, by omega⟩
              have e2 : InR (max p.2.X0 (min (max p.1.X0 (p.2.X0 - least a b)) (p.2.X1 - 1))) (max p.2.Y0 (min (max p.1.Y0 (p.2.Y0 - least a b)) (p.2.Y1 - 1))) (rectsB (growV (setB a) (least a b)).1) := by
                rw [InR_rectsB gY.ok, pY]
                exact ⟨max p.1.X0 (p.2.X0 - least a b), max p.1.Y0 (p.2.Y0 - least a b), (hS _ _).2 ⟨p.1, m1, ⟨by omega, by omega⟩, by omega, by omega⟩, ⟨by omega, by omega⟩, by omega, by omega⟩
              simp [e1, e2]
            obtain ⟨q, hq, _⟩ := (InR_rectsB d1 _ _).2 hx
            rw [hnil] at hq
            simp at hq
          have hpos := List.length_pos_iff.2 hDn
          have hfrom : (pErr (gapV a b).From && decide (InR (gapV a b).From.X (gapV a b).From.Y a)) = true := by
            obtain ⟨r, hr, f1, f2⟩ := from_in ha0 hb0 a2 b2
            have hrl := aok r hr
            have := hrl.x0; have := hrl.x1; have := hrl.y0; have := hrl.y1
            rw [Bool.and_eq_true, decide_eq_true_eq]
            exact ⟨pErr_iff.2 ⟨by show -1000000 ≤ (fromV a b).1 ∧ (fromV a b).1 ≤ 1000000; omega, by show -1000000 ≤ (fromV a b).2.1 ∧ (fromV a b).2.1 ≤ 1000000; omega⟩, r, hr, f1, f2⟩
          have hto : (pErr (gapV a b).To && decide (InR (gapV a b).To.X (gapV a b).To.Y b)) = true := by
            obtain ⟨r, hr, f1, f2⟩ := to_in ha0 hb0 a2 b2
            have hrl := bok r hr
            have := hrl.x0; have := hrl.x1; have := hrl.y0; have := hrl.y1
            rw [Bool.and_eq_true, decide_eq_true_eq]
            exact ⟨pErr_iff.2 ⟨by show -1000000 ≤ (toV a b).1 ∧ (toV a b).1 ≤ 1000000; omega, by show -1000000 ≤ (toV a b).2.1 ∧ (toV a b).2.1 ≤ 1000000; omega⟩, r, hr, f1, f2⟩
          rw [hasL_ok hN ha, hasL_ok hN hb, hfrom, hto]
          simp [hpos]
      · rw [outV_err h2, if_pos (by simp [h2]), outV_ok h1]; rfl
    · rw [outV_err h1, if_pos (by simp [h1])]
      simp
theorem GapsLeast_plain (a b : List TRect) {X Y : Prop} (_ : X) (_ : Y) : ∃ N, F_etchhouselaw1_GapsAreLeast N a b = some true := ⟨10000000000, gapsLeast_ok (Nat.le_refl _) a b⟩
end Go.Proofs.Ytnlhigfglfahiaa
