/- Two sets combined: the reference's bands. Plain Lean about the plain functions. -/
import Derived.Test.YtnlhigfglfahiaaGreatU2
namespace Go.Proofs.YtnlhigfglfahiaaGreat
def ofSp (s : TSpan) : Int × Int := (s.from_, s.to_)
theorem of_to (l : List (Int × Int)) : (l.map toSp).map ofSp = l := by
  rw [List.map_map]
  have : (ofSp ∘ toSp) = id := by funext p; rfl
  rw [this, List.map_id]
/-- What the reference has at a height. -/
def mixF (N : Nat) (a b : List TRect) (w : Int) (y : Int) : List (Int × Int) := ((F_etchhouseref1_mixed N ((rowS a y).map toSp) ((rowS b y).map toSp) w).getD []).map ofSp
theorem mixF_ok {N : Nat} {a b : List TRect} {w : Int} (hN : 10000000000 ≤ N) (ha : ∀ r ∈ a, r.X0 < r.X1 ∧ r.Y0 < r.Y1) (hb : ∀ r ∈ b, r.X0 < r.X1 ∧ r.Y0 < r.Y1) (hl : a.length + b.length ≤ 100000000) (y : Int) :
    F_etchhouseref1_mixed N ((rowS a y).map toSp) ((rowS b y).map toSp) w = some ((mixF N a b w y).map toSp) ∧ (∃ lo, Can lo (mixF N a b w y)) ∧ (mixF N a b w y).length ≤ 2 * a.length + 2 * b.length ∧ ∀ x, InS x (mixF N a b w y) ↔ KeptS (wayK w) (rowS a y) (rowS b y) x := by
  have l1 := rowS_len a y
  have l2 := rowS_len b y
  obtain ⟨⟨lo1, c1⟩, _⟩ := rowS_ok (fun r hr => (ha r hr).1) y
  obtain ⟨⟨lo2, c2⟩, _⟩ := rowS_ok (fun r hr => (hb r hr).1) y
  obtain ⟨C, k1, k2, k3, k4⟩ := mixed_ok (w := w) hN (show (rowS a y).length ≤ 100000000 by omega) (show (rowS b y).length ≤ 100000000 by omega) (fun p hp => by
    rcases List.mem_append.1 hp with hp | hp
    · exact (c1.mem p hp).2
    · exact (c2.mem p hp).2)
  have e : mixF N a b w y = C := by
    unfold mixF
    rw [k1, Option.getD_some, of_to]
  rw [e]
  exact ⟨k1, k2, by omega, k4⟩
/-- A square is kept, by whether it is in the one and in the other one. -/
def KeptR (k : Bool → Bool → Bool) (a b : List TRect) (x y : Int) : Prop := ∃ p q, (p = true ↔ InR x y a) ∧ (q = true ↔ InR x y b) ∧ k p q = true
theorem bandsF_small {f : Int → List (Int × Int)} {R : Nat} (hf : ∀ y, (f y).length ≤ R) : ∀ (ys : List Int) (out : List Bd), (∀ c ∈ out, c.2.2.length ≤ R) → (bandsF f ys out).length ≤ out.length + ys.length ∧ ∀ c ∈ bandsF f ys out, c.2.2.length ≤ R
  | [], out, h => ⟨by simp [bandsF], h⟩
  | [a], out, h => ⟨by simp [bandsF], h⟩
  | a :: b :: ys, out, h => by
    have hp := pushB_len out (a, b, f a)
    obtain ⟨i1, i2⟩ := bandsF_small hf (b :: ys) (pushB out (a, b, f a)) (pushB_row h (hf a))
    simp only [List.length_cons] at i1 ⊢
    exact ⟨by show (bandsF f (b :: ys) (pushB out (a, b, f a))).length ≤ _; omega, i2⟩
theorem combined_ok {N : Nat} {a b : List TRect} {w : Int} (hN : 10000000000 ≤ N) (ha : ∀ r ∈ a, r.X0 < r.X1 ∧ r.Y0 < r.Y1) (hb : ∀ r ∈ b, r.X0 < r.X1 ∧ r.Y0 < r.Y1) (hl : a.length + b.length ≤ 50000000) :
    ∃ C, BOk C ∧ (∀ x y, InB x y C ↔ KeptR (wayK w) a b x y) ∧ C.length ≤ 2 * a.length + 2 * b.length ∧ (∀ c ∈ C, c.2.2.length ≤ 2 * a.length + 2 * b.length) ∧ ((rectsB C).length ≤ 4000000000 → F_etchhouseref1_combined N a b w = some (rectsB C)) := by
  have hab : ∀ r ∈ a ++ b, r.X0 < r.X1 ∧ r.Y0 < r.Y1 := fun r hr => by
    rcases List.mem_append.1 hr with hr | hr
    · exact ha r hr
    · exact hb r hr
  have hmix := mixF_ok (w := w) hN ha hb (by omega)
  have hmem : ∀ r ∈ a ++ b, r.Y0 ∈ srtd (ysOfR (a ++ b)) ∧ r.Y1 ∈ srtd (ysOfR (a ++ b)) := fun r hr => ⟨(srtd_mem _ _).2 (mem_ysOfR.2 ⟨r, hr, .inl rfl⟩), (srtd_mem _ _).2 (mem_ysOfR.2 ⟨r, hr, .inr rfl⟩)⟩
  obtain ⟨a1, a2, a3⟩ := rowS_change ha fun r hr => hmem r (List.mem_append_left _ hr)
  obtain ⟨b1, b2, b3⟩ := rowS_change hb fun r hr => hmem r (List.mem_append_right _ hr)
  have mnil : ∀ y, rowS a y = [] → rowS b y = [] → mixF N a b w y = [] := fun y h1 h2 => by
    obtain ⟨_, k2, _, k4⟩ := hmix y
    refine can_nil k2 fun x hx => ?_
    rw [k4 x, h1, h2, KeptS_iff (p := false) (q := false) (by simp [InS_nil]) (by simp [InS_nil]), wayK_ff] at hx
    cases hx
  obtain ⟨hC, hrow⟩ := bandsF_row (f := mixF N a b w) (srtd_strict (ysOfR (a ++ b))) (fun y => (hmix y).2.1) (fun u y h1 h2 => by unfold mixF; rw [a1 u y h1 h2, b1 u y h1 h2]) (fun y h => mnil y (a2 y h) (b2 y h)) (fun y h => mnil y (a3 y h) (b3 y h))
  have hyl : (srtd (ysOfR (a ++ b))).length ≤ 2 * a.length + 2 * b.length := Nat.le_trans (srtd_len _) (by rw [ysOfR_len, List.length_append]; omega)
  obtain ⟨sm1, sm2⟩ := bandsF_small (f := mixF N a b w) (fun y => (hmix y).2.2.1) (srtd (ysOfR (a ++ b))) [] (by simp)
  rw [List.length_nil, Nat.zero_add] at sm1
  refine ⟨bandsF (mixF N a b w) (srtd (ysOfR (a ++ b))) [], hC, fun x y => ?_, by omega, sm2, fun htot => ?_⟩
  · unfold InB
    rw [hrow y, (hmix y).2.2.2 x]
    have e1 := (rowS_ok (fun r hr => (ha r hr).1) y).2 x
    have e2 := (rowS_ok (fun r hr => (hb r hr).1) y).2 x
    unfold KeptS KeptR
    rw [e1, e2]
  have hsm : Small (bandsF (mixF N a b w) (srtd (ysOfR (a ++ b))) []) := ⟨by omega, fun c hc => by have := sm2 c hc; omega, htot⟩
  have key : ∀ (hsuf hpre : List Int) (u : Int) (m : Nat) (bands : List Bd), srtd (ysOfR (a ++ b)) = hpre ++ u :: hsuf → hsuf.length < m → bands.length ≤ hpre.length → (∀ c ∈ bands, c.2.2.length ≤ 2 * a.length + 2 * b.length) → bandsF (mixF N a b w) (u :: hsuf) bands = bandsF (mixF N a b w) (srtd (ysOfR (a ++ b))) [] →
      F_etchhouseref1_combined_L1 N a b w (srtd (ysOfR (a ++ b))) m (bands.map toRB) ((hpre.length : Int) + 1) = some (rectsB (bandsF (mixF N a b w) (srtd (ysOfR (a ++ b))) [])) := by
    intro hsuf
    induction hsuf with
    | nil =>
      intro hpre u m bands h1 h2 h3 h4 h5
      obtain ⟨m, rfl⟩ : ∃ k, m = k + 1 := ⟨m - 1, by omega⟩
      rw [F_etchhouseref1_combined_L1.eq_2, if_neg (by rw [h1]; simp)]
      have e : bands = bandsF (mixF N a b w) (srtd (ysOfR (a ++ b))) [] := h5
      rw [e, told_ok hN hsm]; rfl
    | cons v hsuf ih =>
      intro hpre u m bands h1 h2 h3 h4 h5
      obtain ⟨m, rfl⟩ : ∃ k, m = k + 1 := ⟨m - 1, by omega⟩
      have hpl : hpre.length + 2 ≤ 200000000 := by rw [h1] at hyl; simp at hyl; omega
      have hu : idx (srtd (ysOfR (a ++ b))) (hpre.length : Int) = some u := by rw [h1]; exact idx_mid hpre _ u
      have hv : idx (srtd (ysOfR (a ++ b))) ((hpre.length : Int) + 1) = some v := by
        rw [h1, show hpre ++ u :: v :: hsuf = (hpre ++ [u]) ++ v :: hsuf by simp, show ((hpre.length : Int) + 1) = ((hpre ++ [u]).length : Int) by simp]
        exact idx_mid (hpre ++ [u]) _ v
      have hst := stacked_ok (N := N) (l := bands) (b := (u, v, mixF N a b w u)) hN (by omega) (fun c hc => by have := h4 c hc; omega)
      have hpb := pushB_len bands (u, v, mixF N a b w u)
      obtain ⟨m1, _, m3, _⟩ := hmix u
      rw [F_etchhouseref1_combined_L1.eq_2, if_pos (by rw [h1]; simp; omega), w64_id (x := (hpre.length : Int) + 1 - 1) (by omega) (by omega), show ((hpre.length : Int) + 1 - 1) = (hpre.length : Int) by omega, hu, Option.bind_some, hv, Option.bind_some, Option.bind_some, Option.bind_some, row_ok hN (by omega), Option.bind_some, row_ok hN (by omega), Option.bind_some, m1, Option.bind_some]
      show (F_etchhouseref1_stacked N (bands.map toRB) (toRB (u, v, mixF N a b w u))).bind _ = _
      rw [hst, Option.bind_some, w64_id (by omega) (by omega)]
      have := ih (hpre ++ [u]) v m (pushB bands (u, v, mixF N a b w u)) (by rw [h1]; simp) (by simp at h2; omega) (by simp; omega) (pushB_row h4 m3) h5
      rw [show ((hpre ++ [u]).length : Int) = (hpre.length : Int) + 1 by simp] at this
      exact this
  unfold F_etchhouseref1_combined
  rw [apd_ok (by simp; omega), Option.bind_some, List.nil_append, apd_ok (by omega), Option.bind_some, heights_ok hN (by simp; omega), Option.bind_some]
  cases hy : srtd (ysOfR (a ++ b)) with
  | nil =>
    obtain ⟨m, hm⟩ : ∃ k, N = k + 1 := ⟨N - 1, by omega⟩
    have hf : F_etchhouseref1_combined_L1 N a b w [] N [] 1 = F_etchhouseref1_combined_L1 N a b w [] (m + 1) [] 1 := congrArg (fun z => F_etchhouseref1_combined_L1 N a b w [] z [] 1) hm
    rw [hf, F_etchhouseref1_combined_L1.eq_2, if_neg (by simp)]
    rw [hy] at hsm
    have := told_ok hN hsm
    show (F_etchhouseref1_told N []).bind _ = _
    rw [show bandsF (mixF N a b w) [] [] = [] from rfl] at this ⊢
    rw [List.map_nil] at this
    rw [this]; rfl
  | cons u hsuf =>
    have := key hsuf [] u N [] hy (by rw [hy] at hyl; simp at hyl; omega) (by simp) (by simp) (by rw [hy])
    rw [hy] at this
    exact this
end Go.Proofs.YtnlhigfglfahiaaGreat
