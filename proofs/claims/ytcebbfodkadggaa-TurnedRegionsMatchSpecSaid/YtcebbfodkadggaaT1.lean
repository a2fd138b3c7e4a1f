/- Turned regions: the law that program and reference agree, and its fuel. Plain Lean about the plain functions. -/
import Derived.Test.YtcebbfodkadggaaS5
import Derived.Test.YtcebbfodkadggaaV1
import Derived.Test.YtcebbfodkadggaaE1p
namespace Go.Proofs.Ytcebbfodkadggaa
/-- A rectangle, turned. -/
def tr (t : TTurn) (r : TRect) : TRect := ⟨min (tk t ⟨r.X0, r.Y0⟩).X (tk t ⟨r.X1, r.Y1⟩).X, min (tk t ⟨r.X0, r.Y0⟩).Y (tk t ⟨r.X1, r.Y1⟩).Y, max (tk t ⟨r.X0, r.Y0⟩).X (tk t ⟨r.X1, r.Y1⟩).X, max (tk t ⟨r.X0, r.Y0⟩).Y (tk t ⟨r.X1, r.Y1⟩).Y⟩
theorem corners {r : TRect} (h : ROk r) : nearB ⟨r.X0, r.Y0⟩ = true ∧ nearB ⟨r.X1, r.Y1⟩ = true := ⟨nearB_iff.2 ⟨h.x0, h.y0⟩, nearB_iff.2 ⟨h.x1, h.y1⟩⟩
theorem tr_r9 {t : TTurn} (ht : chk t = true) {r : TRect} (h : ROk r) : R9 (tr t r) := by
  obtain ⟨c1, c2, c3⟩ := chk_iff.1 ht
  have := h.x0; have := h.x1; have := h.y0; have := h.y1; have hx := h.x; have hy := h.y
  obtain ⟨fl, q, ⟨ax, ay⟩⟩ := t
  obtain ⟨x0, y0, x1, y1⟩ := r
  simp only at *
  rcases q_cases c1 with rfl | rfl | rfl | rfl <;> cases fl <;> (constructor <;> simp [tr, tk, rX, rY] <;> omega)
theorem TurnRect_ok {N : Nat} (hN : 5 ≤ N) {t : TTurn} (ht : chk t = true) {r : TRect} (h : ROk r) : F_shape_TurnRect N r t = some (tr t r) := by
  obtain ⟨c1, c2, c3⟩ := chk_iff.1 ht
  obtain ⟨h1, h2⟩ := corners h
  unfold F_shape_TurnRect
  rw [turn_ok hN c1 ⟨c2, c3⟩ h1, Option.bind_some, turn_ok hN c1 ⟨c2, c3⟩ h2]; rfl
theorem TurnRectR_ok {N : Nat} (hN : 5 ≤ N) {t : TTurn} (ht : chk t = true) {r : TRect} (h : ROk r) : F_etchhouseref1_TurnRect N r t = some (tr t r) := by
  obtain ⟨c1, c2, c3⟩ := chk_iff.1 ht
  obtain ⟨h1, h2⟩ := corners h
  unfold F_etchhouseref1_TurnRect
  rw [turnR_ok hN c1 ⟨c2, c3⟩ h1, Option.bind_some, turnR_ok hN c1 ⟨c2, c3⟩ h2]; rfl
/-- A rectangle within the limits. -/
def lim (r : TRect) : Bool := ((within r.X0 (-1000000) 1000000 && within r.Y0 (-1000000) 1000000) && within r.X1 (-1000000) 1000000) && within r.Y1 (-1000000) 1000000
theorem lim_iff {r : TRect} : lim r = true ↔ ((((-1000000 ≤ r.X0 ∧ r.X0 ≤ 1000000) ∧ (-1000000 ≤ r.Y0 ∧ r.Y0 ≤ 1000000)) ∧ (-1000000 ≤ r.X1 ∧ r.X1 ≤ 1000000)) ∧ (-1000000 ≤ r.Y1 ∧ r.Y1 ≤ 1000000)) := by
  unfold lim
  rw [Bool.and_eq_true, Bool.and_eq_true, Bool.and_eq_true, within_iff, within_iff, within_iff, within_iff]
/-- A set fits just if all rectangles that make it do. -/
theorem Fits_ok {L : List TRect} (hL : L.length ≤ 100000000) (hne : ∀ r ∈ L, r.X0 < r.X1 ∧ r.Y0 < r.Y1) : F_shape_Set__Fits ((setB L).map toP) = some (L.all lim) := by
  unfold F_shape_Set__Fits
  obtain ⟨c1, c2⟩ := setB_ok hne
  obtain ⟨s1, s2⟩ := setB_len L
  by_cases h : setB L = []
  · have hnil : L = [] := by
      cases L with
      | nil => rfl
      | cons a l =>
        have ha := hne a (by simp)
        have := (c2 a.X0 a.Y0).2 ⟨a, by simp, ⟨by omega, by omega⟩, by omega, by omega⟩
        rw [h] at this
        exact absurd this InS_nil
    subst hnil
    rw [h]; rfl
  · have hlen := List.length_pos_iff.2 h
    obtain ⟨b, b1, b2⟩ := Around_ok c1 h (by omega) (fun c hc => by have := s2 c hc; omega)
    rw [if_neg (by simp; exact h), b1, Option.bind_some, isRect_ok, Option.bind_some, Option.bind_some]
    congr 1
    show lim b = L.all lim
    rw [Bool.eq_iff_iff, List.all_eq_true]
    constructor
    · intro hb r hr
      have hr' := hne r hr
      have k1 := b2.all _ _ ((c2 r.X0 r.Y0).2 ⟨r, hr, ⟨by omega, by omega⟩, by omega, by omega⟩)
      have k2 := b2.all _ _ ((c2 (r.X1 - 1) (r.Y1 - 1)).2 ⟨r, hr, ⟨by omega, by omega⟩, by omega, by omega⟩)
      rw [lim_iff] at hb ⊢
      omega
    · intro hall
      obtain ⟨y, hx0⟩ := b2.x0
      obtain ⟨y', hx1⟩ := b2.x1
      obtain ⟨x, hy0⟩ := b2.y0
      obtain ⟨x', hy1⟩ := b2.y1
      obtain ⟨r1, m1, e1⟩ := (c2 _ _).1 hx0
      obtain ⟨r2, m2, e2⟩ := (c2 _ _).1 hx1
      obtain ⟨r3, m3, e3⟩ := (c2 _ _).1 hy0
      obtain ⟨r4, m4, e4⟩ := (c2 _ _).1 hy1
      have l1 := lim_iff.1 (hall r1 m1)
      have l2 := lim_iff.1 (hall r2 m2)
      have l3 := lim_iff.1 (hall r3 m3)
      have l4 := lim_iff.1 (hall r4 m4)
      rw [lim_iff]
      omega
theorem TurnSet_ok {N : Nat} (hN : 10000000000 ≤ N) {t : TTurn} (ht : chk t = true) {l : List TRect} (h : regionErr l = 0) : F_shape_Set__TurnSet N ((setB l).map toP) t = some ((setB (l.map (tr t))).map toP) := by
  obtain ⟨_, hl, hok, hr⟩ := regionErr_ok h
  have loop : ∀ (suf pre : List TRect) (m : Nat), l = pre ++ suf → suf.length < m → F_shape_Set__TurnSet_L1 N t l m (pre.map (tr t) ++ suf) pre.length = some ((setB (l.map (tr t))).map toP) := by
    intro suf
    induction suf with
    | nil =>
      intro pre m h1 h2
      obtain ⟨m, rfl⟩ : ∃ k, m = k + 1 := ⟨m - 1, by omega⟩
      rw [List.append_nil] at h1
      subst h1
      rw [F_shape_Set__TurnSet_L1.eq_2, if_neg (by simp), List.append_nil, SetOf_ok hN (by simp; omega) (fun r hr => by
        obtain ⟨q, hq, rfl⟩ := List.mem_map.1 hr
        exact tr_r9 ht (hok q hq))]; rfl
    | cons r suf ih =>
      intro pre m h1 h2
      obtain ⟨m, rfl⟩ : ∃ k, m = k + 1 := ⟨m - 1, by omega⟩
      have hpl : pre.length ≤ 2000 := by rw [h1] at hl; simp at hl; omega
      have e0 : (pre.length : Int) = ((pre.map (tr t)).length : Int) := by simp
      have hid : idx (pre.map (tr t) ++ r :: suf) (pre.length : Int) = some r := by rw [e0]; exact idx_mid _ suf r
      have hset : sets (pre.map (tr t) ++ r :: suf) (pre.length : Int) (tr t r) = some ((pre ++ [r]).map (tr t) ++ suf) := by
        unfold sets
        rw [if_pos ⟨by omega, by simp⟩]
        simp
      rw [F_shape_Set__TurnSet_L1.eq_2, if_pos (by rw [h1]; exact lt_mid pre suf r), hid, Option.bind_some, TurnRect_ok (by omega) ht (hok r (by rw [h1]; simp)), Option.bind_some, Option.bind_some, hset, Option.bind_some, up_mid pre r (by omega)]
      exact ih (pre ++ [r]) m (by rw [h1]; simp) (by simp at h2; omega)
  unfold F_shape_Set__TurnSet
  rw [Rects_ok hN (setB_small (by omega)), Option.bind_some, hr]
  exact loop l [] N rfl (by omega)
def turnedRV (l : List TRect) (t : TTurn) : List TRect × Int := if regionErr l = 0 then if chk t = true then if (l.map (tr t)).all lim = true then toldV (setB (l.map (tr t))) else ([], 1) else ([], 1) else ([], regionErr l)
theorem TurnedRegion_ok {N : Nat} (hN : 10000000000 ≤ N) (l : List TRect) (t : TTurn) : F_shape_TurnedRegion N l t = some (turnedRV l t) := by
  unfold F_shape_TurnedRegion turnedRV
  rw [CheckRegion_ok hN, Option.bind_some]
  by_cases h : regionErr l = 0
  · rw [if_neg (by simpa using h), if_pos h, CheckTurn_ok, Option.bind_some]
    cases hc : chk t
    · simp
    · obtain ⟨_, hl, hok, hr⟩ := regionErr_ok h
      have hsm := setB_small (l := l.map (tr t)) (by simp; omega)
      rw [if_neg (by simp), SetOf_ok hN (by omega) (fun r hr => (hok r hr).r9), Option.bind_some, TurnSet_ok hN hc h, Option.bind_some, Fits_ok (by simp; omega) (fun r hr => by
        obtain ⟨q, hq, rfl⟩ := List.mem_map.1 hr
        have := tr_r9 hc (hok q hq)
        exact ⟨this.x, this.y⟩), Option.bind_some, if_pos rfl, Told_ok hN hsm.len (by have := hsm.tot; omega), Option.bind_some]
      cases (l.map (tr t)).all lim <;> simp
  · rw [if_pos (by simpa using h), if_neg h]
theorem TurnedRegionR_ok {N : Nat} (hN : 10000000000 ≤ N) (l : List TRect) (t : TTurn) : F_etchhouseref1_TurnedRegion N l t = some (turnedRV l t) := by
  unfold F_etchhouseref1_TurnedRegion turnedRV
  rw [CheckRegionR_ok hN, Option.bind_some]
  by_cases h : regionErr l = 0
  · rw [if_neg (by simpa using h), if_pos h, CheckTurnR_ok, Option.bind_some]
    cases hc : chk t
    · simp
    · obtain ⟨_, hl, hok, hr⟩ := regionErr_ok h
      rw [if_neg (by simp), if_pos rfl]
      have hat : ∀ x, F_etchhouseref1_At x = some (within x (-1000000) 1000000) := fun x => rfl
      have loop : ∀ (suf pre : List TRect) (m : Nat), l = pre ++ suf → suf.length < m → (pre.map (tr t)).all lim = true → F_etchhouseref1_TurnedRegion_L1 N l t m (pre.map (tr t)) pre.length = some (if (l.map (tr t)).all lim = true then toldV (setB (l.map (tr t))) else ([], 1)) := by
        intro suf
        induction suf with
        | nil =>
          intro pre m h1 h2 h3
          obtain ⟨m, rfl⟩ : ∃ k, m = k + 1 := ⟨m - 1, by omega⟩
          rw [List.append_nil] at h1
          subst h1
          rw [F_etchhouseref1_TurnedRegion_L1.eq_2, if_neg (by simp), Canonical_ok hN (by simp; omega) (setB_small (by simp; omega)).tot, Option.bind_some, if_pos h3]
          unfold F_etchhouseref1_limited toldV
          by_cases h2 : 2000 < (rectsB (setB (l.map (tr t)))).length
          · rw [if_pos (by simp; omega), if_pos h2]; rfl
          · rw [if_neg (by simp; omega), if_neg h2]; rfl
        | cons r suf ih =>
          intro pre m h1 h2 h3
          obtain ⟨m, rfl⟩ : ∃ k, m = k + 1 := ⟨m - 1, by omega⟩
          have hpl : pre.length ≤ 2000 := by rw [h1] at hl; simp at hl; omega
          have hid : idx l (pre.length : Int) = some r := by rw [h1]; exact idx_mid pre suf r
          rw [F_etchhouseref1_TurnedRegion_L1.eq_2, if_pos (by rw [h1]; exact lt_mid pre suf r), hid, Option.bind_some, TurnRectR_ok (by omega) hc (hok r (by rw [h1]; simp)), Option.bind_some, hat, hat, hat, hat]
          have hlim : lim (tr t r) = (((within (tr t r).X0 (-1000000) 1000000 && within (tr t r).Y0 (-1000000) 1000000) && within (tr t r).X1 (-1000000) 1000000) && within (tr t r).Y1 (-1000000) 1000000) := rfl
          cases hb : lim (tr t r)
          · have hno : (l.map (tr t)).all lim = false := by
              rw [Bool.eq_false_iff]
              intro hall
              rw [List.all_eq_true] at hall
              have := hall (tr t r) (List.mem_map.2 ⟨r, by rw [h1]; simp, rfl⟩)
              rw [hb] at this; cases this
            rw [hno, if_neg (by simp)]
            rw [hb] at hlim
            revert hlim
            cases within (tr t r).X0 (-1000000) 1000000 <;> cases within (tr t r).Y0 (-1000000) 1000000 <;> cases within (tr t r).X1 (-1000000) 1000000 <;> cases within (tr t r).Y1 (-1000000) 1000000 <;> simp
          · have ih' := ih (pre ++ [r]) m (by rw [h1]; simp) (by simp at h2; omega) (by rw [List.map_append, List.all_append, h3]; simp [hb])
            rw [hb] at hlim
            have e : (pre.map (tr t)) ++ [tr t r] = (pre ++ [r]).map (tr t) := by simp
            rw [apd_ok (by simp; omega), e, up_mid pre r (by omega)]
            have k1 : within (tr t r).X0 (-1000000) 1000000 = true := by revert hlim; cases within (tr t r).X0 (-1000000) 1000000 <;> simp
            have k2 : within (tr t r).Y0 (-1000000) 1000000 = true := by revert hlim; cases within (tr t r).Y0 (-1000000) 1000000 <;> simp
            have k3 : within (tr t r).X1 (-1000000) 1000000 = true := by revert hlim; cases within (tr t r).X1 (-1000000) 1000000 <;> simp
            have k4 : within (tr t r).Y1 (-1000000) 1000000 = true := by revert hlim; cases within (tr t r).Y1 (-1000000) 1000000 <;> simp
            rw [k1, k2, k3, k4]
            exact ih'
      exact loop l [] N rfl (by omega) rfl
  · rw [if_pos (by simpa using h), if_neg h]
theorem turnedMatch_ok {N : Nat} (hN : 10000000000 ≤ N) (l : List TRect) (t : TTurn) : F_etchhouselaw1_TurnedRegionsMatchSpec N l t = some true := by
  unfold F_etchhouselaw1_TurnedRegionsMatchSpec
  obtain ⟨b, b1, b2⟩ := EqualR_ok (turnedRV l t).1 (turnedRV l t).1
  obtain rfl : b = true := b2.2 rfl
  rw [TurnedRegion_ok hN, Option.bind_some, TurnedRegionR_ok hN, Option.bind_some, b1, Option.bind_some, awake1_ok (by omega)]
  simp
theorem Turned_plain (l : List TRect) (t : TTurn) {X Y : Prop} (_ : X) (_ : Y) : ∃ N, F_etchhouselaw1_TurnedRegionsMatchSpec N l t = some true := ⟨10000000000, turnedMatch_ok (Nat.le_refl _) l t⟩
end Go.Proofs.Ytcebbfodkadggaa
