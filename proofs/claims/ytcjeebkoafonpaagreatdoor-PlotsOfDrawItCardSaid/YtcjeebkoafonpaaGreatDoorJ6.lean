/- Rules of the walks, or plain laws about the plain functions. Conditions: none beyond each theorem's own. -/
import Derived.Test.YtcjeebkoafonpaaGreatDoorJ4
import Derived.Test.YtcjeebkoafonpaaGreatDoorJ5
namespace Go.Proofs.YtcjeebkoafonpaaGreatDoor
def Ld (xs : List Int) (x : Int) : List Int := if xs.getLast? = some x then xs.dropLast else xs ++ [x]
def Jy (l : List Int) : List Int := l.foldl Ld []
def Dm (x : Int) (l : List Int) : Nat := (l.filter fun z => decide (z ≤ x)).length
theorem sO (x : Int) (l m : List Int) : Dm x (l ++ m) = Dm x l + Dm x m := by unfold Dm; rw [List.filter_append, List.length_append]
theorem Mr (x z : Int) : Dm x [z] = if z ≤ x then 1 else 0 := by
 unfold Dm
 by_cases h : z ≤ x <;> simp [h]
structure JM (xs done : List Int) : Prop where
 inc : xs.Pairwise fun a b => a < b
 par : ∀ x, Dm x xs % 2 = Dm x done % 2
 len : xs.length % 2 = done.length % 2
 sub : ∀ x ∈ xs, x ∈ done
theorem Si {xs done : List Int} {x : Int} (h : JM xs done) (hx : ∀ z ∈ done, z ≤ x) : JM (Ld xs x) (done ++ [x]) := by
 obtain ⟨h1, h2, h3, h4⟩ := h
 unfold Ld
 by_cases hl : xs.getLast? = some x
 ·rw [if_pos hl]
  obtain ⟨ys, rfl⟩ := List.getLast?_eq_some_iff.1 hl
  rw [List.dropLast_concat]
  rw [List.pairwise_append] at h1
  refine ⟨h1.1, fun z => ?_, ?_, fun z hz => List.mem_append_left _ (h4 z (List.mem_append_left _ hz))⟩
  ·have := h2 z
   rw [sO] at this
   rw [sO]; omega
  ·rw [List.length_append] at h3 ⊢
   simp only [List.length_singleton] at h3 ⊢
   omega
 ·rw [if_neg hl]
  refine ⟨?_, fun z => ?_, ?_, fun z hz => ?_⟩
  ·rw [List.pairwise_append]
   refine ⟨h1, by simp, fun a ha b hb => ?_⟩
   simp at hb; subst hb
   have hle := hx a (h4 a ha)
   rcases Int.lt_or_eq_of_le hle with h | h
   ·exact h
   ·subst h
    exfalso
    apply hl
    rcases List.eq_nil_or_concat xs with e | ⟨ys, y, e⟩
    ·subst e; cases ha
    ·rw [List.concat_eq_append] at e
     subst e
     have hy := hx y (h4 y (by simp))
     rw [List.pairwise_append] at h1
     rcases List.mem_append.1 ha with ha | ha
     ·have := h1.2.2 a ha y (by simp)
      omega
     ·simp at ha; subst ha; simp
  ·have := h2 z
   rw [sO, sO]; omega
  ·rw [List.length_append, List.length_append]
   simp only [List.length_singleton]; omega
  ·rcases List.mem_append.1 hz with hz | hz
   ·exact List.mem_append_left _ (h4 z hz)
   ·exact List.mem_append_right _ hz
theorem Ms : ∀ (suf done xs : List Int), JM xs done → (∀ z ∈ done, ∀ y ∈ suf, z ≤ y) → suf.Pairwise (fun a b => a ≤ b) → JM (suf.foldl Ld xs) (done ++ suf)
 | [], done, xs, h, _, _ => by simpa using h
 | x :: l, done, xs, h, hd, hs => by
  obtain ⟨s1, s2⟩ := List.pairwise_cons.1 hs
  have := Ms l (done ++ [x]) (Ld xs x) (Si h fun z hz => hd z hz x List.mem_cons_self) (fun z hz y hy => by
   rcases List.mem_append.1 hz with hz | hz
   ·exact hd z hz y (List.mem_cons_of_mem _ hy)
   ·simp at hz; subst hz; exact s1 y hy) s2
  rw [List.foldl_cons]
  simpa using this
theorem Ra {l : List Int} (hs : l.Pairwise fun a b => a ≤ b) : JM (Jy l) l := by
 have := Ms l [] [] ⟨.nil, fun _ => rfl, rfl, fun _ h => (by cases h)⟩ (fun _ h => by cases h) hs
 unfold Jy
 simpa using this
def SA : List Int → List (Int × Int)
 | a :: b :: l => (a, b) :: SA l
 | _ => []
theorem Oq : ∀ {xs : List Int} {lo : Int}, xs.Pairwise (fun a b => a < b) → xs.length % 2 = 0 → (∀ x ∈ xs, lo < x) → dm (SA xs) = xs ∧ Can lo (SA xs) ∧ ∀ x, lL x (SA xs) ↔ Dm x xs % 2 = 1
 | [], lo, _, _, _ => ⟨rfl, trivial, fun x => ⟨fun h => absurd h gI, fun h => by simp [Dm] at h⟩⟩
 | [a], lo, _, h, _ => by simp at h
 | a :: b :: l, lo, hp, hl, hlo => by
  obtain ⟨p1, p2⟩ := List.pairwise_cons.1 hp
  obtain ⟨p3, p4⟩ := List.pairwise_cons.1 p2
  have hab := p1 b List.mem_cons_self
  obtain ⟨i1, i2, i3⟩ := Oq (xs := l) (lo := b) p4 (by simp at hl; omega) p3
  refine ⟨by rw [SA, mJ, i1], ⟨hlo a List.mem_cons_self, hab, i2⟩, fun x => ?_⟩
  rw [SA, jL, i3]
  have e : Dm x (a :: b :: l) = (if a ≤ x then 1 else 0) + ((if b ≤ x then 1 else 0) + Dm x l) := by
   rw [show a :: b :: l = [a] ++ ([b] ++ l) from rfl, sO, sO, Mr, Mr]
  rw [e]
  have h0 : x < b → Dm x l = 0 := fun h => by
   unfold Dm
   rw [List.length_eq_zero_iff, List.filter_eq_nil_iff]
   intro z hz
   have := p3 z hz
   simp; omega
  by_cases ha : a ≤ x <;> by_cases hb : b ≤ x <;> simp only [ha, hb, if_true, if_false, true_and, false_and, and_false, false_or, true_or, iff_true] <;> first | omega | (have := h0 (by omega); omega)
def Fh (p0 : au) : List au → List (au × au)
 | [] => []
 | [x] => [(x, p0)]
 | x :: y :: r => (x, y) :: Fh p0 (y :: r)
def ru : List au → List (au × au)
 | [] => []
 | x :: r => Fh x (x :: r)
def TE (l : List (au × au)) : Prop := ∀ s ∈ l, (s.1.X = s.2.X) ≠ (s.1.Y = s.2.Y)
def rR (y : Int) (l : List (au × au)) : List (au × au) := l.filter fun s => decide (s.1.X = s.2.X) && (decide (min s.1.Y s.2.Y ≤ y) && decide (y < max s.1.Y s.2.Y))
theorem Gf {y : Int} {s : au × au} (h : s.1.X ≠ s.2.X → s.1.Y = s.2.Y) : (decide (s.1.X = s.2.X) && (decide (min s.1.Y s.2.Y ≤ y) && decide (y < max s.1.Y s.2.Y))) = (decide (s.1.Y ≤ y) != decide (s.2.Y ≤ y)) := by
 by_cases hx : s.1.X = s.2.X
 ·rw [decide_eq_true hx, Bool.true_and, Bool.eq_iff_iff]
  simp only [Bool.and_eq_true, decide_eq_true_eq, bne_iff_ne, ne_eq, decide_eq_decide]
  omega
 ·have hy := h hx
  rw [decide_eq_false hx, Bool.false_and, hy]; simp
theorem Lx (y : Int) (p0 : au) : ∀ (r : List au) (x : au), TE (Fh p0 (x :: r)) → (rR y (Fh p0 (x :: r))).length % 2 = (if (decide (x.Y ≤ y) != decide (p0.Y ≤ y)) then 1 else 0)
 | [], x, h => by
  have hs := h (x, p0) (by simp [Fh])
  have := Gf (y := y) (s := (x, p0)) (fun hx => by
   by_cases hy : x.Y = p0.Y
   ·exact hy
   ·exact absurd (propext ⟨fun h => absurd h hx, fun h => absurd h hy⟩) hs)
  unfold rR
  rw [Fh, List.filter_cons, List.filter_nil, this]
  split <;> rfl
 | z :: r, x, h => by
  have hs := h (x, z) (by simp [Fh])
  have hc := Gf (y := y) (s := (x, z)) (fun hx => by
   by_cases hy : x.Y = z.Y
   ·exact hy
   ·exact absurd (propext ⟨fun h => absurd h hx, fun h => absurd h hy⟩) hs)
  have ih := Lx y p0 r z (fun s hs => h s (by rw [Fh]; exact List.mem_cons_of_mem _ hs))
  unfold rR at ih ⊢
  rw [Fh, List.filter_cons, hc]
  simp only at hc ⊢
  cases h1 : decide (x.Y ≤ y) <;> cases h2 : decide (z.Y ≤ y) <;> cases h3 : decide (p0.Y ≤ y) <;> rw [h2, h3] at ih <;> simp at ih ⊢ <;> omega
theorem EH (y : Int) {l : List au} (h : TE (ru l)) : (rR y (ru l)).length % 2 = 0 := by
 cases l with
 | nil => rfl
 | cons x r =>
  have := Lx y x r x h
  rw [ru, this]; simp
def rf (up : List aQ) (y : Int) : List Int := (up.filter fun s => decide (s.Y0 ≤ y) && decide (y < s.Y1)).map (·.X0)
def fA (up : List aQ) (y : Int) : List (Int × Int) := SA (Jy (rf up y))
theorem LJ : ∀ (l : List Int), ∃ lo, ∀ x ∈ l, lo < x
 | [] => ⟨0, fun _ h => by cases h⟩
 | a :: l => by
  obtain ⟨lo, h⟩ := LJ l
  refine ⟨min lo (a - 1), fun x hx => ?_⟩
  rcases List.mem_cons.1 hx with rfl | hx
  ·omega
  ·have := h x hx; omega
theorem Me {up : List aQ} (hs : up.Pairwise fun a b => a.X0 ≤ b.X0) (hev : ∀ y, (rf up y).length % 2 = 0) (y : Int) : dm (fA up y) = Jy (rf up y) ∧ (∃ lo, Can lo (fA up y)) ∧ (∀ x, lL x (fA up y) ↔ Dm x (rf up y) % 2 = 1) ∧ ∀ z ∈ Jy (rf up y), z ∈ rf up y := by
 have hp : (rf up y).Pairwise fun a b => a ≤ b := by
  unfold rf
  rw [List.pairwise_map]
  exact hs.filter _
 have hc := Ra hp
 obtain ⟨lo, hlo⟩ := LJ (Jy (rf up y))
 obtain ⟨a1, a2, a3⟩ := Oq (lo := lo) hc.inc (by rw [hc.len, hev]) hlo
 exact ⟨a1, ⟨lo, a2⟩, fun x => by unfold fA; rw [a3, hc.par], hc.sub⟩
theorem JV {up : List aQ} {ys : List Int} (hm : ∀ s ∈ up, s.Y0 ∈ ys ∧ s.Y1 ∈ ys) {a y : Int} (hay : a ≤ y) (h : ∀ z ∈ ys, z ≤ a ∨ y < z) : rf up y = rf up a := by
 unfold rf
 congr 1
 apply List.filter_congr
 intro s hs
 obtain ⟨h1, h2⟩ := hm s hs
 have k1 := h _ h1
 have k2 := h _ h2
 rw [Bool.eq_iff_iff]
 simp only [Bool.and_eq_true, decide_eq_true_eq]
 omega
theorem O4 {up : List aQ} {ys : List Int} (hy : ys.Pairwise fun x y => x < y) (hs : up.Pairwise fun a b => a.X0 ≤ b.X0) (hev : ∀ y, (rf up y).length % 2 = 0) (hm : ∀ s ∈ up, s.Y0 ∈ ys ∧ s.Y1 ∈ ys) : yw (qj (fA up) ys []) ∧ ∀ x y, qW x y (qj (fA up) ys []) ↔ Dm x (rf up y) % 2 = 1 := by
 have hnil : ∀ y, (∀ s ∈ up, ¬ (s.Y0 ≤ y ∧ y < s.Y1)) → fA up y = [] := fun y h => by
  have : rf up y = [] := by
   unfold rf
   rw [List.map_eq_nil_iff, List.filter_eq_nil_iff]
   intro s hs
   have := h s hs
   simpa using this
  unfold fA; rw [this]; rfl
 obtain ⟨b1, b2⟩ := EP (f := fA up) hy (fun y => (Me hs hev y).2.1) (fun a y hay h => by unfold fA; rw [JV hm hay h])
  (fun y h => hnil y fun s hs hh => by have := h _ (hm s hs).1; omega) (fun y h => hnil y fun s hs hh => by have := h _ (hm s hs).2; omega)
 refine ⟨b1, fun x y => ?_⟩
 unfold qW
 rw [b2, (Me hs hev y).2.2.1]
def ol (y : Int) : List Bd → List Bd
 | [] => []
 | b :: l => if b.2.1 ≤ y then ol y l else b :: l
theorem Cf (y : Int) : ∀ l : List Bd, ∀ b ∈ ol y l, b ∈ l
 | [], b, h => h
 | c :: l, b, h => by
  unfold ol at h
  split at h
  ·exact List.mem_cons_of_mem _ (Cf y l b h)
  ·exact h
theorem Cg (y : Int) : ∀ l : List Bd, (ol y l).length ≤ l.length
 | [] => by simp [ol]
 | c :: l => by
  unfold ol
  split
  ·have := Cg y l; simp; omega
  ·simp
theorem Ch (y : Int) : ∀ {l : List Bd} {lo : Int}, nV lo l → ∃ lo, nV lo (ol y l)
 | [], lo, h => ⟨lo, h⟩
 | c :: l, lo, h => by
  unfold ol
  split
  ·exact Ch y h.2.2.2.2
  ·exact ⟨lo, h⟩
theorem wT {y z : Int} (hz : y ≤ z) : ∀ l : List Bd, rowAt (ol y l) z = rowAt l z
 | [] => rfl
 | c :: l => by
  unfold ol
  split
  ·rw [wT hz l]
   show _ = if c.1 ≤ z ∧ z < c.2.1 then c.2.2 else rowAt l z
   rw [if_neg (by omega)]
  ·rfl
theorem Am {y : Int} : ∀ {l : List Bd} {b : Bd}, (ol y l).head? = some b → y < b.2.1
 | [], b, h => by simp [ol] at h
 | c :: l, b, h => by
  unfold ol at h
  split at h
  ·exact Am h
  ·simp at h; subst h; omega
def GQ : List Bd → Int → List (Int × Int)
 | [], _ => []
 | b :: _, y => if y < b.1 then [] else b.2.2
def qP (e : Int) : List Bd → Int → Int
 | [], _ => e
 | b :: _, y => if y < b.1 then min e b.1 else min e b.2.1
theorem Mv (l : List Bd) (y e : Int) : mX (l.map toP) y e = some (dm (GQ l y), qP e l y) := by
 unfold mX
 cases l with
 | nil => rfl
 | cons b l =>
  rw [if_neg (by simp; omega), List.map_cons, show idx (toP b :: l.map toP) 0 = some (toP b) from rfl, Option.bind_some]
  simp only [GQ, qP]
  by_cases h : y < b.1
  ·rw [if_pos (decide_eq_true (show y < (toP b).Y0 from h)), if_pos h, if_pos h, Option.bind_some]; rfl
  ·rw [if_neg (show ¬ decide (y < (toP b).Y0) = true from by rw [decide_eq_true_eq]; exact h), if_neg h, if_neg h, Option.bind_some, Option.bind_some]; rfl
theorem Lr {l : List Bd} {lo y e : Int} (h : nV lo l) (hh : ∀ b, l.head? = some b → y < b.2.1) (hy : y < e) : y < qP e l y ∧ qP e l y ≤ e ∧ (∀ z, y ≤ z → z < qP e l y → rowAt l z = GQ l y) ∧ (qP e l y = e ∨ ∃ b ∈ l, qP e l y = b.1 ∨ qP e l y = b.2.1) := by
 cases l with
 | nil => exact ⟨hy, Int.le_refl _, fun _ _ _ => rfl, .inl rfl⟩
 | cons b l =>
  have hb := hh b rfl
  simp only [GQ, qP]
  by_cases h1 : y < b.1
  ·rw [if_pos h1, if_pos h1]
   refine ⟨by omega, by omega, fun z k1 k2 => ?_, ?_⟩
   ·show (if b.1 ≤ z ∧ z < b.2.1 then b.2.2 else rowAt l z) = []
    rw [if_neg (by omega)]
    exact lX h.2.2.2.2 (by have := h.2.1; omega)
   ·by_cases k : e ≤ b.1
    ·exact .inl (by omega)
    ·exact .inr ⟨b, by simp, .inl (by omega)⟩
  ·rw [if_neg h1, if_neg h1]
   refine ⟨by omega, by omega, fun z k1 k2 => ?_, ?_⟩
   ·show (if b.1 ≤ z ∧ z < b.2.1 then b.2.2 else rowAt l z) = b.2.2
    rw [if_pos (by omega)]
   ·by_cases k : e ≤ b.2.1
    ·exact .inl (by omega)
    ·exact .inr ⟨b, by simp, .inr (by omega)⟩
section
variable {N : Nat} {f : Bool → Bool → Option Bool} {e : Int} {out : List aV} {y : Int} {K : List aV → List aV → List aV → Int → Option (List aV)}
def Pt (N : Nat) (f : Bool → Bool → Option Bool) (e : Int) (out : List aV) (y : Int) (K : List aV → List aV → List aV → Int → Option (List aV)) (a b : List Bd) : Option (List aV) :=
 (kV N (dm (GQ a y)) (dm (GQ b y)) f).bind fun U2 =>
 (gW out (aV.mk y (min (qP e a y) (qP e b y)) U2)).bind fun U1 =>
 K (a.map toP) (b.map toP) U1 (min (qP e a y) (qP e b y))
theorem K5 (a : List Bd) : ∀ (b : List Bd) (m : Nat), b.length < m → jS N f e out y K (a.map toP) m (b.map toP) = Pt N f e out y K a (ol y b)
 | b, 0, h => absurd h (Nat.not_lt_zero _)
 | [], m + 1, h => by
  rw [jS.eq_2, if_neg (by simp), Option.bind_some, if_neg (by simp), Mv, Option.bind_some, Mv, Option.bind_some]; rfl
 | c :: b, m + 1, h => by
  simp only [List.length_cons] at h
  rw [jS.eq_2, if_pos (by simp), List.map_cons, show idx (toP c :: b.map toP) 0 = some (toP c) from rfl, Option.bind_some, Option.bind_some]
  unfold ol
  by_cases hc : c.2.1 ≤ y
  ·rw [if_pos (decide_eq_true (show (toP c).Y1 ≤ y from hc)), if_pos hc, vo, Option.bind_some]
   exact K5 a b m (by omega)
  ·rw [if_neg (show ¬ decide ((toP c).Y1 ≤ y) = true from by rw [decide_eq_true_eq]; exact hc), if_neg hc, ← List.map_cons, Mv, Option.bind_some, Mv, Option.bind_some]; rfl
theorem PZ {b : List Bd} (hb : b.length < N) : ∀ (a : List Bd) (m : Nat), a.length < m → jT N f e (b.map toP) out y K m (a.map toP) = Pt N f e out y K (ol y a) (ol y b)
 | a, 0, h => absurd h (Nat.not_lt_zero _)
 | [], m + 1, h => by
  rw [jT.eq_2, if_neg (by simp), Option.bind_some, if_neg (by simp)]
  exact K5 [] b N hb
 | c :: a, m + 1, h => by
  simp only [List.length_cons] at h
  rw [jT.eq_2, if_pos (by simp), List.map_cons, show idx (toP c :: a.map toP) 0 = some (toP c) from rfl, Option.bind_some, Option.bind_some]
  have hd : ol y (c :: a) = if c.2.1 ≤ y then ol y a else c :: a := rfl
  rw [hd]
  by_cases hc : c.2.1 ≤ y
  ·rw [if_pos (decide_eq_true (show (toP c).Y1 ≤ y from hc)), if_pos hc, vo, Option.bind_some]
   exact PZ hb a m (by omega)
  ·rw [if_neg (show ¬ decide ((toP c).Y1 ≤ y) = true from by rw [decide_eq_true_eq]; exact hc), if_neg hc, ← List.map_cons]
   exact K5 (c :: a) b N hb
end
def PI (ev : List Int) (y : Int) : Nat := (ev.filter fun z => decide (y < z)).length
theorem Tv {y z : Int} (hyz : y < z) : ∀ {ev : List Int}, z ∈ ev → PI ev z < PI ev y := by
 have mono : ∀ ev : List Int, PI ev z ≤ PI ev y := by
  intro ev
  induction ev with
  | nil => simp [PI]
  | cons a ev ih =>
   unfold PI at *
   rw [List.filter_cons, List.filter_cons]
   by_cases h1 : z < a
   ·rw [if_pos (by simpa using h1), if_pos (by simp; omega)]; simp; exact ih
   ·rw [if_neg (by simpa using h1)]
    split
    ·simp; omega
    ·exact ih
 intro ev
 induction ev with
 | nil => intro h; simp at h
 | cons a ev ih =>
  intro h
  have hm := mono ev
  unfold PI at *
  rw [List.filter_cons, List.filter_cons]
  rcases List.mem_cons.1 h with rfl | h
  ·rw [if_neg (by simp), if_pos (by simpa using hyz)]
   simp; omega
  ·have := ih h
   by_cases h1 : z < a
   ·rw [if_pos (by simpa using h1), if_pos (by simp; omega)]; simp; exact this
   ·rw [if_neg (by simpa using h1)]
    split
    ·simp; omega
    ·exact this
theorem Ri (ev : List Int) (y : Int) : PI ev y ≤ ev.length := List.length_filter_le _ _
def Kept (k : Bool → Bool → Bool) (A B : List Bd) (x y : Int) : Prop := ∃ p q, (p = true ↔ qW x y A) ∧ (q = true ↔ qW x y B) ∧ k p q = true
theorem I8 {k : Bool → Bool → Bool} {f : Bool → Bool → Option Bool} (hf : ∀ a b, f a b = some (k a b)) (hk : k false false = false) {N : Nat} (hN : 10000000000 ≤ N) {A B : List Bd} {R1 R2 : Nat} (hrA : ∀ b ∈ A, (∃ lo, Can lo b.2.2) ∧ b.2.2.length ≤ R1) (hrB : ∀ b ∈ B, (∃ lo, Can lo b.2.2) ∧ b.2.2.length ≤ R2) (hR : R1 + R2 ≤ 500000000) (hAl : A.length ≤ 500000000) (hBl : B.length ≤ 500000000) {ev : List Int} {e lo : Int} (hev : e ∈ ev) (hevA : ∀ b ∈ A, b.1 ∈ ev ∧ b.2.1 ∈ ev) (hevB : ∀ b ∈ B, b.1 ∈ ev ∧ b.2.1 ∈ ev) :
  ∀ (m : Nat) (a b out : List Bd) (y : Int), (∃ lo, nV lo a) → (∃ lo, nV lo b) → (∀ c ∈ a, c ∈ A) → (∀ c ∈ b, c ∈ B) → a.length ≤ A.length → b.length ≤ B.length → (∀ z, y ≤ z → rowAt a z = rowAt A z) → (∀ z, y ≤ z → rowAt b z = rowAt B z) → nV lo out → lo ≤ y → (∀ c ∈ out, c.2.1 ≤ y ∧ (∃ lo, Can lo c.2.2) ∧ c.2.2.length ≤ R1 + R2) → (∀ x z, qW x z out ↔ z < y ∧ Kept k A B x z) → PI ev y < m → out.length + PI ev y ≤ 900000000 → (∀ x z, e ≤ z → ¬ Kept k A B x z) →
  ∃ C, gU N f e m (a.map toP) (b.map toP) (out.map toP) y = some (C.map toP) ∧ yw C ∧ (∀ x z, qW x z C ↔ Kept k A B x z) ∧ C.length ≤ out.length + PI ev y ∧ ∀ c ∈ C, c.2.2.length ≤ R1 + R2
 | 0, _, _, _, _, _, _, _, _, _, _, _, _, _, _, _, _, h, _, _ => absurd h (Nat.not_lt_zero _)
 | m + 1, a, b, out, y, ⟨la, ca⟩, ⟨lb, cb⟩, sa, sb, hal, hbl, ra, rb, co, hlo, ho, hin, hm, hl, hend => by
  by_cases hye : y < e
  ·rw [gU.eq_2, if_pos (by simpa using hye), PZ (by omega) a N (by omega)]
   obtain ⟨la', ca'⟩ := Ch y ca
   obtain ⟨lb', cb'⟩ := Ch y cb
   have sa' : ∀ c ∈ ol y a, c ∈ A := fun c hc => sa c (Cf y a c hc)
   have sb' : ∀ c ∈ ol y b, c ∈ B := fun c hc => sb c (Cf y b c hc)
   obtain ⟨na, na2, wa, va⟩ := Lr (e := e) ca' (fun c hc => Am hc) hye
   obtain ⟨nb, nb2, wb, vb⟩ := Lr (e := e) cb' (fun c hc => Am hc) hye
   have rowcan : ∀ {l : List Bd} {L : List Bd} {R : Nat}, (∀ b ∈ L, (∃ lo, Can lo b.2.2) ∧ b.2.2.length ≤ R) → (∀ c ∈ l, c ∈ L) → (∃ lo, Can lo (GQ l y)) ∧ (GQ l y).length ≤ R := fun {l L R} h1 h2 => by
    cases l with
    | nil => exact ⟨⟨0, trivial⟩, Nat.zero_le _⟩
    | cons c l =>
     simp only [GQ]
     split
     ·exact ⟨⟨0, trivial⟩, Nat.zero_le _⟩
     ·exact h1 c (h2 c (by simp))
   obtain ⟨ra1, ra2⟩ := rowcan hrA sa'
   obtain ⟨rb1, rb2⟩ := rowcan hrB sb'
   obtain ⟨C0, k1, k2, k3, k4⟩ := Hl hf hk (N := N) ra1 rb1 (by omega) (by omega)
   unfold Pt
   rw [k1, Option.bind_some]
   generalize hn : min (qP e (ol y a) y) (qP e (ol y b) y) = n
   have hyn : y < n := by omega
   have hne : n ≤ e := by omega
   have hnev : n ∈ ev := by
    have key : ∀ {l L : List Bd}, (∀ c ∈ l, c ∈ L) → (∀ b ∈ L, b.1 ∈ ev ∧ b.2.1 ∈ ev) → (qP e l y = e ∨ ∃ b ∈ l, qP e l y = b.1 ∨ qP e l y = b.2.1) → qP e l y ∈ ev := fun h1 h2 h3 => by
     rcases h3 with h | ⟨c, hc, h | h⟩
     ·rw [h]; exact hev
     ·rw [h]; exact (h2 c (h1 c hc)).1
     ·rw [h]; exact (h2 c (h1 c hc)).2
    have e1 := key sa' hevA va
    have e2 := key sb' hevB vb
    rcases Int.le_total (qP e (ol y a) y) (qP e (ol y b) y) with h | h
    ·rw [← hn, Int.min_eq_left h]; exact e1
    ·rw [← hn, Int.min_eq_right h]; exact e2
   have haft := Tv hyn hnev
   have hp : gW (out.map toP) (aV.mk y n (dm C0)) = some ((pushB out (y, n, C0)).map toP) := C9 (l := out) (b := (y, n, C0)) (by omega) hyn
   rw [hp, Option.bind_some]
   obtain ⟨p1, p2, p3⟩ := co.push (b := (y, n, C0)) (fun c hc => (ho c hc).1) hlo hyn
   have hpl := wL out (y, n, C0)
   have hkept : ∀ x z, y ≤ z → z < n → (lL x C0 ↔ Kept k A B x z) := fun x z z1 z2 => by
    rw [k4 x, ← wa z z1 (by omega), ← wb z z1 (by omega), wT z1, wT z1, ra z z1, rb z z1]
    exact Iff.rfl
   obtain ⟨C, i1, i2, i3, i4, i5⟩ := I8 hf hk hN hrA hrB hR hAl hBl hev hevA hevB m (ol y a) (ol y b) (pushB out (y, n, C0)) n ⟨la', ca'⟩ ⟨lb', cb'⟩ sa' sb' (Nat.le_trans (Cg y a) hal) (Nat.le_trans (Cg y b) hbl) (fun z hz => by rw [wT (by omega), ra z (by omega)]) (fun z hz => by rw [wT (by omega), rb z (by omega)]) p1 (by omega) (fun c hc => by
    obtain ⟨q1, q2 | ⟨d, q2, q3⟩⟩ := p2 c hc
    ·exact ⟨q1, by rw [q2]; exact k2, by rw [q2]; show C0.length ≤ _; omega⟩
    ·exact ⟨q1, by rw [q3]; exact (ho d q2).2.1, by rw [q3]; exact (ho d q2).2.2⟩) (fun x z => by
    have h1 : qW x z (pushB out (y, n, C0)) ↔ lL x (if y ≤ z ∧ z < n then C0 else rowAt out z) := by
     unfold qW
     rw [p3 z]
    rw [h1]
    by_cases hz : y ≤ z ∧ z < n
    ·rw [if_pos hz, hkept x z hz.1 hz.2]
     exact ⟨fun h => ⟨hz.2, h⟩, fun h => h.2⟩
    ·rw [if_neg hz]
     refine (hin x z).trans ⟨fun h => ⟨by omega, h.2⟩, fun h => ⟨by omega, h.2⟩⟩) (by omega) (by omega) hend
   exact ⟨C, i1, i2, i3, by omega, i5⟩
  ·rw [gU.eq_2, if_neg (by simpa using hye)]
   refine ⟨out, rfl, ⟨⟨lo, co⟩, fun c hc => (ho c hc).2.1⟩, fun x z => ?_, by omega, fun c hc => (ho c hc).2.2⟩
   rw [hin]
   exact ⟨fun h => h.2, fun h => ⟨by
    rcases Int.lt_or_le z y with hz | hz
    ·exact hz
    ·exact absurd h (hend x z (by omega)), h⟩⟩
theorem JP {k : Bool → Bool → Bool} {f : Bool → Bool → Option Bool} (hf : ∀ a b, f a b = some (k a b)) (hk : k false false = false) {N : Nat} (hN : 10000000000 ≤ N) {A B : List Bd} {R1 R2 : Nat} (hA : yw A) (hB : yw B) (hrA : ∀ b ∈ A, b.2.2.length ≤ R1) (hrB : ∀ b ∈ B, b.2.2.length ≤ R2) (hR : R1 + R2 ≤ 500000000) (hl : A.length + B.length ≤ 200000000) :
  ∃ C, pM N (A.map toP) (B.map toP) f = some (C.map toP) ∧ yw C ∧ (∀ x z, qW x z C ↔ Kept k A B x z) ∧ C.length ≤ 2 * A.length + 2 * B.length + 1 ∧ ∀ c ∈ C, c.2.2.length ≤ R1 + R2 := by
 have hnot : ∀ {A B : List Bd} {x z : Int}, ¬ qW x z A → ¬ qW x z B → ¬ Kept k A B x z := fun h1 h2 ⟨p, q, hp, hq, h⟩ => by
  have e1 : p = false := by rw [Bool.eq_false_iff]; exact fun h => h1 (hp.1 h)
  have e2 : q = false := by rw [Bool.eq_false_iff]; exact fun h => h2 (hq.1 h)
  rw [e1, e2, hk] at h; cases h
 have inlo : ∀ {l : List Bd} {lo x z : Int}, nV lo l → qW x z l → lo ≤ z := fun {l lo x z} h hx => by
  rcases Int.lt_or_le z lo with hz | hz
  ·unfold qW at hx
   rw [lX h hz] at hx
   exact absurd hx gI
  ·exact hz
 have inhi : ∀ {l : List Bd} {b : Bd} {lo x z : Int}, nV lo (l ++ [b]) → qW x z (l ++ [b]) → z < b.2.1 := by
  intro l
  induction l with
  | nil =>
   intro b lo x z h hx
   unfold qW at hx
   by_cases hz : b.1 ≤ z ∧ z < b.2.1
   ·exact hz.2
   ·have : rowAt ([] ++ [b]) z = [] := by show (if b.1 ≤ z ∧ z < b.2.1 then b.2.2 else []) = []; rw [if_neg hz]
    rw [this] at hx; exact absurd hx gI
  | cons c l ih =>
   intro b lo x z h hx
   have hcan : nV c.2.1 (l ++ [b]) := h.2.2.2.2
   by_cases hz : c.1 ≤ z ∧ z < c.2.1
   ·have := hcan.mem b (by simp)
    omega
   ·refine ih hcan (x := x) ?_
    unfold qW at hx ⊢
    have : rowAt (c :: l ++ [b]) z = rowAt (l ++ [b]) z := by show (if c.1 ≤ z ∧ z < c.2.1 then c.2.2 else rowAt (l ++ [b]) z) = _; rw [if_neg hz]
    rw [← this]; exact hx
 obtain ⟨la, ca⟩ := hA.can
 obtain ⟨lb, cb⟩ := hB.can
 have go : ∀ (y e : Int), (∀ x z, qW x z A → y ≤ z ∧ z < e) → (∀ x z, qW x z B → y ≤ z ∧ z < e) → ∃ C, gU N f e N (A.map toP) (B.map toP) ([] : List aV) y = some (C.map toP) ∧ yw C ∧ (∀ x z, qW x z C ↔ Kept k A B x z) ∧ C.length ≤ 2 * A.length + 2 * B.length + 1 ∧ ∀ c ∈ C, c.2.2.length ≤ R1 + R2 := fun y e h1 h2 => by
  have hlen : (e :: (A.flatMap (fun b => [b.1, b.2.1]) ++ B.flatMap fun b => [b.1, b.2.1])).length = 2 * A.length + 2 * B.length + 1 := by
   have : ∀ l : List Bd, (l.flatMap fun b => [b.1, b.2.1]).length = 2 * l.length := by
    intro l
    induction l with
    | nil => rfl
    | cons b l ih => rw [List.flatMap_cons, List.length_append, ih]; simp; omega
   rw [List.length_cons, List.length_append, this, this]
  have haf := Ri (e :: (A.flatMap (fun b => [b.1, b.2.1]) ++ B.flatMap fun b => [b.1, b.2.1])) y
  rw [hlen] at haf
  have hmem : ∀ l : List Bd, ∀ b ∈ l, b.1 ∈ l.flatMap (fun b => [b.1, b.2.1]) ∧ b.2.1 ∈ l.flatMap (fun b => [b.1, b.2.1]) := fun l b hb => ⟨List.mem_flatMap.2 ⟨b, hb, by simp⟩, List.mem_flatMap.2 ⟨b, hb, by simp⟩⟩
  obtain ⟨C, c1, c2, c3, c4, c5⟩ := I8 hf hk hN (A := A) (B := B) (R1 := R1) (R2 := R2) (fun b hb => ⟨hA.row b hb, hrA b hb⟩) (fun b hb => ⟨hB.row b hb, hrB b hb⟩) hR (by omega) (by omega) (ev := e :: (A.flatMap (fun b => [b.1, b.2.1]) ++ B.flatMap fun b => [b.1, b.2.1])) (e := e) (lo := y) (by simp) (fun b hb => ⟨List.mem_cons_of_mem _ (List.mem_append_left _ (hmem A b hb).1), List.mem_cons_of_mem _ (List.mem_append_left _ (hmem A b hb).2)⟩) (fun b hb => ⟨List.mem_cons_of_mem _ (List.mem_append_right _ (hmem B b hb).1), List.mem_cons_of_mem _ (List.mem_append_right _ (hmem B b hb).2)⟩)
   N A B [] y hA.can hB.can (fun _ h => h) (fun _ h => h) (Nat.le_refl _) (Nat.le_refl _) (fun _ _ => rfl) (fun _ _ => rfl) trivial (Int.le_refl _) (by simp) (fun x z => by
    constructor
    ·intro h; unfold qW at h; exact absurd h gI
    ·rintro ⟨hz, h⟩
     exact absurd h (hnot (fun h => by have := h1 x z h; omega) (fun h => by have := h2 x z h; omega))) (by omega) (by simp; omega) (fun x z hz => hnot (fun h => by have := h1 x z h; omega) (fun h => by have := h2 x z h; omega))
  exact ⟨C, c1, c2, c3, by simp at c4; omega, c5⟩
 have two : ∀ {l : List Bd}, l ≠ [] → yw l → l.length ≤ 200000000 → ∃ b c, idx (l.map toP) 0 = some (toP b) ∧ idx (l.map toP) (bG (((l.map toP).length : Int) - 1)) = some (toP c) ∧ ∀ x z, qW x z l → b.1 ≤ z ∧ z < c.2.1 := fun {l} hne hok hlen => by
  obtain ⟨lo, hc⟩ := hok.can
  have h1 : ∃ b, idx (l.map toP) 0 = some (toP b) ∧ ∀ x z, qW x z l → b.1 ≤ z := by
   cases l with
   | nil => exact absurd rfl hne
   | cons b l => exact ⟨b, rfl, fun x z h => inlo (l := b :: l) (lo := b.1) (show nV b.1 (b :: l) from ⟨Int.le_refl _, hc.2⟩) h⟩
  have h2 : ∃ c, idx (l.map toP) (bG (((l.map toP).length : Int) - 1)) = some (toP c) ∧ ∀ x z, qW x z l → z < c.2.1 := by
   rcases List.eq_nil_or_concat l with h | ⟨j, c, h⟩
   ·exact absurd h hne
   ·rw [List.concat_eq_append] at h
    subst h
    refine ⟨c, ?_, fun x z h => inhi hc h⟩
    have e1 : bG ((((j ++ [c]).map toP).length : Int) - 1) = ((j.map toP).length : Int) := by
     rw [bU (by first | (simp; done) | (simp; omega)) (by simp at hlen ⊢; omega)]; simp
    rw [e1, List.map_append]
    exact jE _ [] _
  obtain ⟨b, b1, b2⟩ := h1
  obtain ⟨c, c1, c2⟩ := h2
  exact ⟨b, c, b1, c1, fun x z h => ⟨b2 x z h, c2 x z h⟩⟩
 unfold pM
 have hz : bG (((A.map toP).length : Int) + ((B.map toP).length : Int)) = (A.length : Int) + (B.length : Int) := by rw [bU (by simp; omega) (by simp; omega)]; simp
 rw [hz]
 by_cases h0 : A.length + B.length = 0
 ·have eA : A = [] := List.eq_nil_of_length_eq_zero (by omega)
  have eB : B = [] := List.eq_nil_of_length_eq_zero (by omega)
  subst eA eB
  rw [if_pos (by simp)]
  exact ⟨[], rfl, ⟨⟨0, trivial⟩, by simp⟩, fun x z => ⟨fun h => absurd h gI, fun h => absurd h (hnot gI gI)⟩, by simp, by simp⟩
 ·rw [if_neg (by simp; omega)]
  obtain ⟨m, hm⟩ : ∃ k, N = k + 3 := ⟨N - 3, by omega⟩
  have hfu : eH N (A.map toP) (B.map toP) f N 0 0 [A.map toP, B.map toP] 0 = eH N (A.map toP) (B.map toP) f (m + 3) 0 0 [A.map toP, B.map toP] 0 := congrArg (fun z => eH N (A.map toP) (B.map toP) f z 0 0 [A.map toP, B.map toP] 0) hm
  rw [hfu, eH.eq_2, if_pos (by decide), show idx [A.map toP, B.map toP] 0 = some (A.map toP) from rfl, Option.bind_some, show bG (0 + 1) = 1 from rfl]
  by_cases hA0 : A = []
  ·have hB0 : B ≠ [] := fun h => h0 (by rw [hA0, h]; rfl)
   obtain ⟨b, c, b1, b2, b3⟩ := two hB0 hB (by omega)
   rw [if_neg (by rw [hA0]; simp), eH.eq_2, if_pos (by decide), show idx [A.map toP, B.map toP] 1 = some (B.map toP) from rfl, Option.bind_some, if_pos (by have := List.length_pos_iff.2 hB0; simp; omega), if_pos (by rw [hA0]; rfl), b1, Option.bind_some, b2, Option.bind_some]
   unfold kI
   rw [b1, Option.bind_some, b2, Option.bind_some, show bG (1 + 1) = 2 from rfl, eH.eq_2, if_neg (by decide)]
   exact go _ _ (fun x z h => by rw [hA0] at h; exact absurd h gI) (fun x z h => by have := b3 x z h; show min b.1 b.1 ≤ z ∧ z < max c.2.1 c.2.1; omega)
  ·obtain ⟨b, c, b1, b2, b3⟩ := two hA0 hA (by omega)
   rw [if_pos (by have := List.length_pos_iff.2 hA0; simp; omega), if_pos (by rfl), b1, Option.bind_some, b2, Option.bind_some]
   unfold kI
   rw [b1, Option.bind_some, b2, Option.bind_some, show bG (0 + 1) = 1 from rfl, eH.eq_2, if_pos (by decide), show idx [A.map toP, B.map toP] 1 = some (B.map toP) from rfl, Option.bind_some]
   by_cases hB0 : B = []
   ·rw [if_neg (by rw [hB0]; simp), show bG (1 + 1) = 2 from rfl, eH.eq_2, if_neg (by decide)]
    exact go _ _ (fun x z h => by have := b3 x z h; show min b.1 b.1 ≤ z ∧ z < max c.2.1 c.2.1; omega) (fun x z h => by rw [hB0] at h; exact absurd h gI)
   ·obtain ⟨d, g, d1, d2, d3⟩ := two hB0 hB (by omega)
    have hAl := List.length_pos_iff.2 hA0
    rw [if_pos (by have := List.length_pos_iff.2 hB0; simp; omega), if_neg (by simp; exact hA0)]
    unfold kI
    rw [d1, Option.bind_some, d2, Option.bind_some, show bG (1 + 1) = 2 from rfl, eH.eq_2, if_neg (by decide)]
    exact go _ _ (fun x z h => by have := b3 x z h; show min (min b.1 b.1) d.1 ≤ z ∧ z < max (max c.2.1 c.2.1) g.2.1; omega) (fun x z h => by have := d3 x z h; show min (min b.1 b.1) d.1 ≤ z ∧ z < max (max c.2.1 c.2.1) g.2.1; omega)
def Deep (n : Int) (S : Int → Int → Prop) (x y : Int) : Prop := ∀ u v, (x - n ≤ u ∧ u ≤ x + n) → (y - n ≤ v ∧ v ≤ y + n) → S u v
theorem Pw {C : List Bd} (h : ∀ b ∈ C, b.2.2 ≠ []) : C.length ≤ (fI C).length := by
 induction C with
 | nil => simp
 | cons b l ih =>
  rw [oD, List.length_append, qh, List.length_cons]
  have := ih fun c hc => h c (by simp [hc])
  have := List.length_pos_iff.2 (h b (by simp))
  omega
theorem yw.le {C : List Bd} (h : yw C) : C.length ≤ (fI C).length := by
 obtain ⟨lo, hc⟩ := h.can
 exact Pw fun b hb => (hc.mem b hb).2.2
theorem Kj {C : List Bd} (h : yw C) {m : Int} (hx : ∀ x y, qW x y C → (-m ≤ x ∧ x < m) ∧ (-m ≤ y ∧ y < m)) : ∀ r ∈ fI C, (-m ≤ r.X0 ∧ r.X0 < r.X1 ∧ r.X1 ≤ m) ∧ (-m ≤ r.Y0 ∧ r.Y0 < r.Y1 ∧ r.Y1 ≤ m) := fun r hr => by
 have hne := BO h r hr
 have h1 := hx r.X0 r.Y0 ((xQ h _ _).1 ⟨r, hr, ⟨Int.le_refl _, hne.1⟩, ⟨Int.le_refl _, hne.2⟩⟩)
 have h2 := hx (r.X1 - 1) (r.Y1 - 1) ((xQ h _ _).1 ⟨r, hr, ⟨by omega, by omega⟩, ⟨by omega, by omega⟩⟩)
 omega
section
variable {N : Nat} (hN : 10000000000 ≤ N) {n : Int} (hn : 0 ≤ n ∧ n ≤ 100000)
include hN hn
end
structure MI (S : Int → Int → Prop) (r : aQ) : Prop where
 all : ∀ x y, S x y → (r.X0 ≤ x ∧ x < r.X1) ∧ (r.Y0 ≤ y ∧ y < r.Y1)
 x0 : ∃ y, S r.X0 y
 x1 : ∃ y, S (r.X1 - 1) y
 y0 : ∃ x, S x r.Y0
 y1 : ∃ x, S x (r.Y1 - 1)
theorem MI.uniq {S T : Int → Int → Prop} {r q : aQ} (h1 : MI S r) (h2 : MI T q) (h : ∀ x y, S x y ↔ T x y) : r = q := by
 obtain ⟨a, ha⟩ := h1.x0
 obtain ⟨b, hb⟩ := h1.x1
 obtain ⟨c, hc⟩ := h1.y0
 obtain ⟨d, hd⟩ := h1.y1
 obtain ⟨a', ha'⟩ := h2.x0
 obtain ⟨b', hb'⟩ := h2.x1
 obtain ⟨c', hc'⟩ := h2.y0
 obtain ⟨d', hd'⟩ := h2.y1
 have e1 := h2.all _ _ ((h _ _).1 ha)
 have e2 := h2.all _ _ ((h _ _).1 hb)
 have e3 := h2.all _ _ ((h _ _).1 hc)
 have e4 := h2.all _ _ ((h _ _).1 hd)
 have f1 := h1.all _ _ ((h _ _).2 ha')
 have f2 := h1.all _ _ ((h _ _).2 hb')
 have f3 := h1.all _ _ ((h _ _).2 hc')
 have f4 := h1.all _ _ ((h _ _).2 hd')
 obtain ⟨x0, y0, x1, y1⟩ := r
 obtain ⟨x0', y0', x1', y1'⟩ := q
 simp only at *
 congr 1 <;> omega
theorem nV.init : ∀ {l : List Bd} {b : Bd} {lo : Int}, nV lo (l ++ [b]) → ∀ c ∈ l, c.2.1 ≤ b.1
 | [], _, _, _, c, hc => by simp at hc
 | d :: l, b, lo, h, c, hc => by
  have h' : nV d.2.1 (l ++ [b]) := h.2.2.2.2
  rcases List.mem_cons.1 hc with rfl | hc
  ·exact (h'.mem b (by simp)).1
  ·exact h'.init c hc
theorem KD {l : List (Int × Int)} {q : Int × Int} (hl : l.length ≤ 1000000000) : idx (dm (l ++ [q])) (bG (((dm (l ++ [q])).length : Int) - 1)) = some q.2 := by
 have e : dm (l ++ [q]) = (dm l ++ [q.1]) ++ q.2 :: [] := by rw [oJ]; simp [dm]
 have e2 : bG (((dm (l ++ [q])).length : Int) - 1) = ((dm l ++ [q.1]).length : Int) := by
  rw [bU (by rw [gK]; simp; omega) (by rw [gK]; simp; omega), gK]; simp [gK]; omega
 rw [e2, e]
 exact jE _ [] _
theorem Ny {l : List Bd} (h : yw l) (hne : l ≠ []) (hl : l.length ≤ 1000000000) (hr : ∀ b ∈ l, b.2.2.length ≤ 1000000000) : ∃ r, mf (l.map toP) = some r ∧ MI (fun x y => qW x y l) r := by
 obtain ⟨lo, hc⟩ := h.can
 have loop : ∀ (f g : aV) (suf : List Bd) (i : Nat) (u v : Int), (∀ b ∈ suf, b ∈ l) → ∃ u' v', iq f g (suf.map toP) i u v = some ⟨u', f.Y0, v', g.Y1⟩ ∧ u' ≤ u ∧ v ≤ v' ∧ (u' = u ∨ ∃ b ∈ suf, ∃ p ∈ b.2.2, u' = p.1) ∧ (v' = v ∨ ∃ b ∈ suf, ∃ p ∈ b.2.2, v' = p.2) ∧ ∀ b ∈ suf, ∀ p ∈ b.2.2, u' ≤ p.1 ∧ p.2 ≤ v' := by
  intro f g suf
  induction suf with
  | nil => intro i u v _; exact ⟨u, v, rfl, Int.le_refl _, Int.le_refl _, .inl rfl, .inl rfl, by simp⟩
  | cons b suf ih =>
   intro i u v hb
   have hbl := hb b (by simp)
   have hbne := (hc.mem b hbl).2.2
   obtain ⟨lo', hcan⟩ := h.row b hbl
   have hlen := hr b hbl
   obtain ⟨p, t, hp⟩ : ∃ p t, b.2.2 = p :: t := by cases hx : b.2.2 with | nil => exact absurd hx hbne | cons p t => exact ⟨p, t, rfl⟩
   obtain ⟨j, q, hq⟩ : ∃ j q, b.2.2 = j ++ [q] := by
    rcases List.eq_nil_or_concat b.2.2 with hx | ⟨j, q, hx⟩
    ·exact absurd hx hbne
    ·exact ⟨j, q, by simpa using hx⟩
   have e1 : idx (toP b).Xs 0 = some p.1 := by show idx (dm b.2.2) 0 = _; rw [hp]; rfl
   have e2 : idx (toP b).Xs (bG (((toP b).Xs.length : Int) - 1)) = some q.2 := by
    show idx (dm b.2.2) (bG (((dm b.2.2).length : Int) - 1)) = _
    rw [hq]
    exact KD (by rw [hq] at hlen; simp at hlen; omega)
   obtain ⟨u', v', i1, i2, i3, i4, i5, i6⟩ := ih (i + 1) (min u p.1) (max v q.2) (fun c hc => hb c (by simp [hc]))
   have hfirst : ∀ r ∈ b.2.2, p.1 ≤ r.1 := fun r hr => by
    rw [hp] at hr hcan
    rcases List.mem_cons.1 hr with rfl | hr
    ·exact Int.le_refl _
    ·have := hcan.2.2.mem r hr; have := hcan.2.1; omega
   have hlast : ∀ r ∈ b.2.2, r.2 ≤ q.2 := fun r hr => by
    rw [hq] at hr hcan
    obtain ⟨_, c2, c3, c4⟩ := hcan.init
    rcases List.mem_append.1 hr with hr | hr
    ·have := c2 r hr; omega
    ·simp at hr; subst hr; exact Int.le_refl _
   refine ⟨u', v', ?_, Int.le_trans i2 (Int.min_le_left _ _), Int.le_trans (Int.le_max_left _ _) i3, ?_, ?_, fun c hcm r hrm => ?_⟩
   ·rw [List.map_cons, iq.eq_2, e1, Option.bind_some, e2, Option.bind_some]; exact i1
   ·rcases i4 with k | ⟨c, hc1, r, hr1, k⟩
    ·by_cases hu : u ≤ p.1
     ·exact .inl (k.trans (Int.min_eq_left hu))
     ·exact .inr ⟨b, by simp, p, by rw [hp]; simp, k.trans (Int.min_eq_right (by omega))⟩
    ·exact .inr ⟨c, by simp [hc1], r, hr1, k⟩
   ·rcases i5 with k | ⟨c, hc1, r, hr1, k⟩
    ·by_cases hv : q.2 ≤ v
     ·exact .inl (k.trans (Int.max_eq_left hv))
     ·exact .inr ⟨b, by simp, q, by rw [hq]; simp, k.trans (Int.max_eq_right (by omega))⟩
    ·exact .inr ⟨c, by simp [hc1], r, hr1, k⟩
   ·rcases List.mem_cons.1 hcm with rfl | hcm
    ·exact ⟨Int.le_trans i2 (Int.le_trans (Int.min_le_right _ _) (hfirst r hrm)), Int.le_trans (hlast r hrm) (Int.le_trans (Int.le_max_right _ _) i3)⟩
    ·exact i6 c hcm r hrm
 obtain ⟨b, t, hbt⟩ : ∃ b t, l = b :: t := by cases l with | nil => exact absurd rfl hne | cons b t => exact ⟨b, t, rfl⟩
 obtain ⟨j, c, hjc⟩ : ∃ j c, l = j ++ [c] := by
  rcases List.eq_nil_or_concat l with hx | ⟨j, q, hx⟩
  ·exact absurd hx hne
  ·exact ⟨j, q, by simpa using hx⟩
 have hbl : b ∈ l := by rw [hbt]; simp
 have hcl : c ∈ l := by rw [hjc]; simp
 have hbm := hc.mem b hbl
 have hcm := hc.mem c hcl
 obtain ⟨p, s, hp⟩ : ∃ p s, b.2.2 = p :: s := by cases hx : b.2.2 with | nil => exact absurd hx hbm.2.2 | cons p t => exact ⟨p, t, rfl⟩
 obtain ⟨p2, s2, hp2⟩ : ∃ p s, c.2.2 = p :: s := by cases hx : c.2.2 with | nil => exact absurd hx hcm.2.2 | cons p t => exact ⟨p, t, rfl⟩
 have e0 : idx (l.map toP) 0 = some (toP b) := by rw [hbt]; rfl
 have e1 : idx (toP b).Xs 0 = some p.1 := by show idx (dm b.2.2) 0 = _; rw [hp]; rfl
 have e2 : idx (toP b).Xs 1 = some p.2 := by show idx (dm b.2.2) 1 = _; rw [hp]; rfl
 have e3 : idx (l.map toP) (bG (((l.map toP).length : Int) - 1)) = some (toP c) := by
  have : bG (((l.map toP).length : Int) - 1) = ((j.map toP).length : Int) := by
   rw [bU (by simp; omega) (by simp; omega), hjc]; simp
  rw [this, hjc, List.map_append]
  exact jE _ [] _
 obtain ⟨u, v, k1, k2, k3, k4, k5, k6⟩ := loop (toP b) (toP c) l 0 p.1 p.2 (fun _ h => h)
 have inb : ∀ d ∈ l, ∀ r ∈ d.2.2, qW r.1 d.1 l ∧ qW (r.2 - 1) d.1 l ∧ qW r.1 (d.2.1 - 1) l := fun d hd r hr => by
  have hdm := hc.mem d hd
  obtain ⟨_, hcan⟩ := h.row d hd
  have hrm := hcan.mem r hr
  unfold qW
  rw [A9 hc hd (Int.le_refl _) hdm.2.1, A9 hc hd (y := d.2.1 - 1) (by omega) (by omega)]
  exact ⟨⟨r, hr, Int.le_refl _, hrm.2⟩, ⟨r, hr, by omega, by omega⟩, ⟨r, hr, Int.le_refl _, hrm.2⟩⟩
 refine ⟨⟨u, b.1, v, c.2.1⟩, ?_, fun x y hxy => ?_, ?_, ?_, ?_, ?_⟩
 ·unfold mf
  rw [e0, Option.bind_some, e1, Option.bind_some, Option.bind_some, Option.bind_some, e2, Option.bind_some, e3, Option.bind_some]
  exact k1
 ·have hxy : qW x y l := hxy
  unfold qW at hxy
  rcases zy (l := l) (y := y) with h1 | ⟨d, hd, h1, h2, h3⟩
  ·rw [h1] at hxy; exact absurd hxy gI
  ·rw [h3] at hxy
   obtain ⟨r, hr, hx⟩ := hxy
   have := k6 d hd r hr
   have hlo : b.1 ≤ d.1 := by
    have hc' := hc
    rw [hbt] at hd hc'
    rcases List.mem_cons.1 hd with rfl | hd
    ·exact Int.le_refl _
    ·have := hc'.2.2.2.2.mem d hd; have := hc'.2.1; omega
   have hhi : d.2.1 ≤ c.2.1 := by
    have hc' := hc
    rw [hjc] at hd hc'
    rcases List.mem_append.1 hd with hd | hd
    ·have := hc'.init d hd; omega
    ·simp at hd; subst hd; exact Int.le_refl _
   show (u ≤ x ∧ x < v) ∧ (b.1 ≤ y ∧ y < c.2.1)
   omega
 ·rcases k4 with k | ⟨d, hd, r, hr, k⟩
  ·rw [k]; exact ⟨b.1, (inb b hbl p (by rw [hp]; simp)).1⟩
  ·rw [k]; exact ⟨d.1, (inb d hd r hr).1⟩
 ·rcases k5 with k | ⟨d, hd, r, hr, k⟩
  ·show ∃ y, qW (v - 1) y l
   rw [k]; exact ⟨b.1, (inb b hbl p (by rw [hp]; simp)).2.1⟩
  ·show ∃ y, qW (v - 1) y l
   rw [k]; exact ⟨d.1, (inb d hd r hr).2.1⟩
 ·exact ⟨p.1, (inb b hbl p (by rw [hp]; simp)).1⟩
 ·exact ⟨p2.1, (inb c hcl p2 (by rw [hp2]; simp)).2.2⟩
def lim (r : aQ) : Bool := ((within r.X0 (-1000000) 1000000 && within r.Y0 (-1000000) 1000000) && within r.X1 (-1000000) 1000000) && within r.Y1 (-1000000) 1000000
theorem vV {r : aQ} : lim r = true ↔ ((((-1000000 ≤ r.X0 ∧ r.X0 ≤ 1000000) ∧ (-1000000 ≤ r.Y0 ∧ r.Y0 ≤ 1000000)) ∧ (-1000000 ≤ r.X1 ∧ r.X1 ≤ 1000000)) ∧ (-1000000 ≤ r.Y1 ∧ r.Y1 ≤ 1000000)) := by
 unfold lim
 rw [Bool.and_eq_true, Bool.and_eq_true, Bool.and_eq_true, within_iff, within_iff, within_iff, within_iff]
theorem Rq {L : List aQ} (hL : L.length ≤ 100000000) (hne : ∀ r ∈ L, r.X0 < r.X1 ∧ r.Y0 < r.Y1) : nH ((tL L).map toP) = some (L.all lim) := by
 unfold nH
 obtain ⟨c1, c2⟩ := CW hne
 obtain ⟨s1, s2⟩ := D5 L
 by_cases h : tL L = []
 ·have hnil : L = [] := by
   cases L with
   | nil => rfl
   | cons a l =>
    have ha := hne a (by simp)
    have := (c2 a.X0 a.Y0).2 ⟨a, by simp, ⟨by omega, by omega⟩, by omega, by omega⟩
    rw [h] at this
    exact absurd this gI
  subst hnil
  rw [h]; rfl
 ·have hlen := List.length_pos_iff.2 h
  obtain ⟨b, b1, b2⟩ := Ny c1 h (by omega) (fun c hc => by have := s2 c hc; omega)
  rw [if_neg (by simp; exact h), b1, Option.bind_some, F6, Option.bind_some, Option.bind_some]
  congr 1
  show lim b = L.all lim
  rw [Bool.eq_iff_iff, List.all_eq_true]
  constructor
  ·intro hb r hr
   have hr' := hne r hr
   have k1 := b2.all _ _ ((c2 r.X0 r.Y0).2 ⟨r, hr, ⟨by omega, by omega⟩, by omega, by omega⟩)
   have k2 := b2.all _ _ ((c2 (r.X1 - 1) (r.Y1 - 1)).2 ⟨r, hr, ⟨by omega, by omega⟩, by omega, by omega⟩)
   rw [vV] at hb ⊢
   omega
  ·intro hall
   obtain ⟨y, hx0⟩ := b2.x0
   obtain ⟨y', hx1⟩ := b2.x1
   obtain ⟨x, hy0⟩ := b2.y0
   obtain ⟨x', hy1⟩ := b2.y1
   obtain ⟨r1, m1, e1⟩ := (c2 _ _).1 hx0
   obtain ⟨r2, m2, e2⟩ := (c2 _ _).1 hx1
   obtain ⟨r3, m3, e3⟩ := (c2 _ _).1 hy0
   obtain ⟨r4, m4, e4⟩ := (c2 _ _).1 hy1
   have l1 := vV.1 (hall r1 m1)
   have l2 := vV.1 (hall r2 m2)
   have l3 := vV.1 (hall r3 m3)
   have l4 := vV.1 (hall r4 m4)
   rw [vV]
   omega
section
variable {N : Nat} (hN : 10000000000 ≤ N)
include hN
theorem SE {I S : List Bd} (hI : yw I) (hS : yw S) (h1 : ∀ b ∈ I, b.2.2.length ≤ 10000) (h2 : ∀ b ∈ S, b.2.2.length ≤ 10000) (h3 : I.length ≤ 100000) (h4 : S.length ≤ 100000) : ∃ C, mY N (I.map toP) (S.map toP) = some (C.map toP) ∧ yw C ∧ (∀ x y, qW x y C ↔ qW x y I ∨ qW x y S) ∧ (fI C).length ≤ 1000000000000 := by
 obtain ⟨C, c1, c2, c3, c4, c5⟩ := JP (k := fun p q => p || q) (f := fun z0 z1 => nE z0 z1) (fun _ _ => rfl) rfl hN (R1 := 10000) (R2 := 10000) hI hS h1 h2 (by omega) (by omega)
 have ht := xD (R := 20000) (l := C) fun c hc => by have := c5 c hc; omega
 refine ⟨C, by unfold mY; rw [c1]; rfl, c2, fun x y => ?_, by omega⟩
 rw [c3]
 constructor
 ·rintro ⟨p, q, hp, hq, h⟩
  rcases Bool.or_eq_true_iff.1 h with h | h
  ·exact .inl (hp.1 h)
  ·exact .inr (hq.1 h)
 ·intro h
  classical
  refine ⟨decide (qW x y I), decide (qW x y S), by simp, by simp, ?_⟩
  simpa using h
theorem OG {I S : List Bd} (hI : yw I) (hS : yw S) (h1 : ∀ b ∈ I, b.2.2.length ≤ 10000) (h2 : ∀ b ∈ S, b.2.2.length ≤ 10000) (h3 : I.length ≤ 100000) (h4 : S.length ≤ 100000) : ∃ C, lQ N (I.map toP) (S.map toP) = some (C.map toP) ∧ yw C ∧ (∀ x y, qW x y C ↔ qW x y I ∧ ¬ qW x y S) ∧ (fI C).length ≤ 1000000000000 := by
 obtain ⟨C, c1, c2, c3, c4, c5⟩ := JP (k := fun p q => p && !q) (f := fun z0 z1 => lY z0 z1) (fun _ _ => rfl) rfl hN (R1 := 10000) (R2 := 10000) hI hS h1 h2 (by omega) (by omega)
 have ht := xD (R := 20000) (l := C) fun c hc => by have := c5 c hc; omega
 refine ⟨C, by unfold lQ; rw [c1]; rfl, c2, fun x y => ?_, by omega⟩
 rw [c3]
 constructor
 ·rintro ⟨p, q, hp, hq, h⟩
  simp only [Bool.and_eq_true, Bool.not_eq_true'] at h
  exact ⟨hp.1 h.1, fun hh => by rw [hq.2 hh] at h; cases h.2⟩
 ·intro h
  classical
  refine ⟨decide (qW x y I), decide (qW x y S), by simp, by simp, ?_⟩
  simp [h.1, h.2]
end
theorem Qn (xs : List Int) (x : Int) : (Ld xs x).length ≤ xs.length + 1 := by
 unfold Ld
 split
 ·rw [List.length_dropLast]; omega
 ·simp
theorem CF : ∀ (l xs : List Int), (l.foldl Ld xs).length ≤ xs.length + l.length
 | [], xs => by simp
 | x :: l, xs => by
  have h1 := Qn xs x
  have h2 := CF l (Ld xs x)
  rw [List.foldl_cons, List.length_cons]; omega
theorem Pn (l : List Int) : (Jy l).length ≤ l.length := by
 have := CF l []
 unfold Jy
 simpa using this
theorem zi {ys : List Int} {out : List aV} {k : Nat} {K : List aV → Int → Option (List aV)} {a b : Int} (ha : idx ys (k : Int) = some a) (hb : idx ys (bG ((k : Int) + 1)) = some b) : ∀ (suf : List aQ) (i : Nat) (xs : List Int), xs.length + suf.length ≤ 1000000 →
  iw ys out (k : Int) K suf i xs = (gW out ⟨a, b, (rf suf a).foldl Ld xs⟩).bind fun y => K y (bG ((k : Int) + 1))
 | [], i, xs, _ => by
  rw [iw, ha, Option.bind_some, hb, Option.bind_some]; rfl
 | s :: l, i, xs, h => by
  simp at h
  rw [iw, ha, Option.bind_some]
  by_cases hc : s.Y0 ≤ a ∧ a < s.Y1
  ·have e1 : rf (s :: l) a = s.X0 :: rf l a := by
    unfold rf
    rw [List.filter_cons, if_pos (by simpa using hc)]; rfl
   rw [if_neg (by simp <;> omega), Option.bind_some, Option.bind_some, if_neg (by simp <;> omega), e1, List.foldl_cons]
   rcases List.eq_nil_or_concat xs with hx | ⟨zs, z, hx⟩
   ·subst hx
    rw [if_neg (by simp), Option.bind_some, if_neg (by simp), lU (by simp), Option.bind_some, zi ha hb l (i + 1) _ (by simp <;> omega)]
    rfl
   ·rw [List.concat_eq_append] at hx
    subst hx
    simp at h
    have hz : idx (zs ++ [z]) (bG (((zs ++ [z]).length : Int) - 1)) = some z := by
     rw [bU (by simp <;> omega) (by simp <;> omega), show ((zs ++ [z]).length : Int) - 1 = (zs.length : Int) by simp]
     exact jE zs [] z
    rw [if_pos (by simp), hz, Option.bind_some, Option.bind_some]
    by_cases he : z = s.X0
    ·have hp : pre (zs ++ [z]) (bG (((zs ++ [z]).length : Int) - 1)) = some zs := by
      rw [bU (by simp <;> omega) (by simp <;> omega), show ((zs ++ [z]).length : Int) - 1 = (zs.length : Int) by simp]
      unfold pre
      rw [if_pos ⟨by omega, by simp <;> omega⟩]
      simp
     rw [if_pos (by simpa using he), hp, Option.bind_some, zi ha hb l (i + 1) _ (by omega)]
     unfold Ld
     rw [if_pos (by simp [he]), List.dropLast_concat]
    ·rw [if_neg (by simpa using he), lU (by simp <;> omega), Option.bind_some, zi ha hb l (i + 1) _ (by simp <;> omega)]
     have : Ld (zs ++ [z]) s.X0 = zs ++ [z] ++ [s.X0] := by unfold Ld; rw [if_neg (by simp [he])]
     rw [this]
  ·have e1 : rf (s :: l) a = rf l a := by
    unfold rf
    rw [List.filter_cons, if_neg (by simpa using hc)]
   rw [e1]
   by_cases h0 : a < s.Y0
   ·rw [if_pos (decide_eq_true h0), Option.bind_some, if_pos rfl, zi ha hb l (i + 1) _ (by omega)]
   ·rw [if_neg (by simpa using h0), Option.bind_some, Option.bind_some, if_pos (by simp <;> omega), zi ha hb l (i + 1) _ (by omega)]
theorem EO {ys : List Int} {up : List aQ} (hy : ys.Pairwise fun x y => x < y) (hs : up.Pairwise fun a b => a.X0 ≤ b.X0) (hev : ∀ y, (rf up y).length % 2 = 0) (hl : ys.length ≤ 100000) (hu : up.length ≤ 100000) : ∀ (suf pre : List Int) (m : Nat) (out : List Bd), ys = pre ++ suf → suf.length < m → out.length + suf.length ≤ 1000000 →
  iy ys up m (out.map toP) (pre.length : Int) = some ((qj (fA up) suf out).map toP)
 | [], pre, m, out, he, hm, _ => by
  obtain ⟨m, rfl⟩ : ∃ k, m = k + 1 := ⟨m - 1, by omega⟩
  have hlen : ys.length = pre.length := by rw [he]; simp
  rw [iy, if_neg (by rw [bU (by omega) (by omega)]; simp; omega)]
  rfl
 | [a], pre, m, out, he, hm, _ => by
  obtain ⟨m, rfl⟩ : ∃ k, m = k + 1 := ⟨m - 1, by omega⟩
  have hlen : ys.length = pre.length + 1 := by rw [he]; simp
  rw [iy, if_neg (by rw [bU (by omega) (by omega)]; simp; omega)]
  rfl
 | a :: b :: l, pre, m, out, he, hm, ho => by
  obtain ⟨m, rfl⟩ : ∃ k, m = k + 1 := ⟨m - 1, by simp at hm; omega⟩
  simp at hm ho
  have hlen : ys.length = pre.length + (l.length + 2) := by rw [he]; simp
  have hab : a < b := by
   rw [he] at hy
   have := (List.pairwise_append.1 hy).2.1
   exact (List.pairwise_cons.1 this).1 b List.mem_cons_self
  have hia : idx ys (pre.length : Int) = some a := by rw [he]; exact jE _ _ _
  have hib : idx ys (bG ((pre.length : Int) + 1)) = some b := by
   rw [AP pre a (by omega), he, show pre ++ a :: b :: l = (pre ++ [a]) ++ b :: l by simp]; exact jE _ _ _
  rw [iy, if_pos (by rw [bU (by omega) (by omega)]; simp; omega), zi hia hib up 0 [] (by simp; omega)]
  have hpu := C9 (l := out) (b := (a, b, fA up a)) (by omega) hab
  have e : toP (a, b, fA up a) = ⟨a, b, (rf up a).foldl Ld []⟩ := by
   show (⟨a, b, dm (fA up a)⟩ : aV) = _
   rw [(Me hs hev a).1]; rfl
  rw [e] at hpu
  rw [hpu, Option.bind_some, AP pre a (by omega)]
  have hpl := wL out (a, b, fA up a)
  have := EO hy hs hev hl hu (b :: l) (pre ++ [a]) m (pushB out (a, b, fA up a)) (by rw [he]; simp) (by simp; omega) (by simp; omega)
  rw [this]; rfl
def AO (s : au × au) : Option aQ := if s.1.X = s.2.X then some ⟨s.1.X, min s.1.Y s.2.Y, 0, max s.1.Y s.2.Y⟩ else none
theorem yL (p0 x : au) (r : List au) : Fh p0 (x :: r) = (x, (r ++ [p0]).headD p0) :: Fh p0 r := by
 cases r with
 | nil => rfl
 | cons y r => rfl
theorem FV {pre r : List au} {x p0 : au} (h0 : (pre ++ x :: r).head? = some p0) : (pre ++ x :: r).getD ((pre.length + 1) % (pre ++ x :: r).length) ⟨0, 0⟩ = (r ++ [p0]).headD p0 := by
 cases r with
 | nil =>
  have : (pre.length + 1) % (pre ++ [x]).length = 0 := by simp
  rw [this]
  cases pre with
  | nil => simp at h0 ⊢; exact h0
  | cons z pre => simp at h0 ⊢; exact h0
 | cons y r =>
  have : (pre.length + 1) % (pre ++ x :: y :: r).length = pre.length + 1 := Nat.mod_eq_of_lt (by simp)
  rw [this]
  simp [List.getD]
theorem Aa {l : List au} {p0 : au} (h0 : l.head? = some p0) (hl : l.length ≤ 100000) {K : List Int → List aQ → Option (List aV)} : ∀ (suf pre : List au) (ys : List Int) (up : List aQ), l = pre ++ suf → ys.length ≤ pre.length → up.length ≤ pre.length →
  iP K l suf pre.length ys up = K (ys ++ suf.map (·.Y)) (up ++ (Fh p0 suf).filterMap AO)
 | [], pre, ys, up, he, hy, hu => by rw [iP]; simp [Fh]
 | x :: r, pre, ys, up, he, hy, hu => by
  have hlen : l.length = pre.length + (r.length + 1) := by rw [he]; simp
  have hnx : l.getD ((pre.length + 1) % l.length) ⟨0, 0⟩ = (r ++ [p0]).headD p0 := by
   have := FV (pre := pre) (r := r) (x := x) (p0 := p0) (by rw [← he]; exact h0)
   rw [he]; exact this
  rw [iP, Ei (by omega) (by omega), hnx, lU (by simp; omega), Option.bind_some, yL]
  by_cases hx : x.X = ((r ++ [p0]).headD p0).X
  ·have hv : AO (x, (r ++ [p0]).headD p0) = some ⟨x.X, min x.Y ((r ++ [p0]).headD p0).Y, 0, max x.Y ((r ++ [p0]).headD p0).Y⟩ := if_pos hx
   rw [if_pos (by simpa using hx), lU (by simp; omega), Option.bind_some, List.filterMap_cons_some hv]
   have := Aa h0 hl (K := K) r (pre ++ [x]) (ys ++ [x.Y]) (up ++ [⟨x.X, min x.Y ((r ++ [p0]).headD p0).Y, 0, max x.Y ((r ++ [p0]).headD p0).Y⟩]) (by rw [he]; simp) (by simp; omega) (by simp; omega)
   rw [show (pre ++ [x]).length = pre.length + 1 by simp] at this
   rw [this]; simp
  ·have hv : AO (x, (r ++ [p0]).headD p0) = none := if_neg hx
   rw [if_neg (by simpa using hx), List.filterMap_cons_none hv]
   have := Aa h0 hl (K := K) r (pre ++ [x]) (ys ++ [x.Y]) up (by rw [he]; simp) (by simp; omega) (by simp; omega)
   rw [show (pre ++ [x]).length = pre.length + 1 by simp] at this
   rw [this]; simp
theorem Dw (y : Int) : ∀ (S : List (au × au)), ((S.filterMap AO).filter fun s => decide (s.Y0 ≤ y) && decide (y < s.Y1)).map (·.X0) = (rR y S).map (·.1.X)
 | [] => rfl
 | s :: S => by
  have ih := Dw y S
  unfold rR at ih ⊢
  by_cases hx : s.1.X = s.2.X
  ·have hv : AO s = some ⟨s.1.X, min s.1.Y s.2.Y, 0, max s.1.Y s.2.Y⟩ := if_pos hx
   rw [List.filterMap_cons_some hv, List.filter_cons, List.filter_cons, decide_eq_true hx, Bool.true_and]
   by_cases hc : (decide (min s.1.Y s.2.Y ≤ y) && decide (y < max s.1.Y s.2.Y)) = true
   ·rw [if_pos hc, if_pos hc, List.map_cons, List.map_cons, ih]
   ·rw [if_neg hc, if_neg hc, ih]
  ·have hv : AO s = none := if_neg hx
   rw [List.filterMap_cons_none hv, List.filter_cons, decide_eq_false hx, Bool.false_and, if_neg (by simp), ih]
theorem LB (p0 : au) : ∀ (l : List au), (Fh p0 l).length = l.length
 | [] => rfl
 | x :: r => by rw [yL, List.length_cons, List.length_cons, LB p0 r]
theorem G6 {p0 : au} : ∀ {l : List au} {s : au × au}, s ∈ Fh p0 l → s.1 ∈ l ∧ (s.2 ∈ l ∨ s.2 = p0)
 | [], s, h => by cases h
 | x :: r, s, h => by
  rw [yL] at h
  rcases List.mem_cons.1 h with rfl | h
  ·refine ⟨List.mem_cons_self, ?_⟩
   cases r with
   | nil => exact .inr rfl
   | cons y r => exact .inl (by simp)
  ·obtain ⟨h1, h2⟩ := G6 h
   exact ⟨List.mem_cons_of_mem _ h1, h2.imp (List.mem_cons_of_mem _) id⟩
def Je (l : List au) (x y : Int) : Prop := Dm x ((rR y (ru l)).map (·.1.X)) % 2 = 1
theorem EQ {f : Int → List (Int × Int)} {R : Nat} (hf : ∀ y, (f y).length ≤ R) : ∀ (ys : List Int) (out : List Bd), (∀ c ∈ out, c.2.2.length ≤ R) → (qj f ys out).length ≤ out.length + ys.length ∧ ∀ c ∈ qj f ys out, c.2.2.length ≤ R
 | [], out, h => ⟨by simp [qj], h⟩
 | [a], out, h => ⟨by simp [qj], h⟩
 | a :: b :: ys, out, h => by
  have h1 := wL out (a, b, f a)
  obtain ⟨h2, h3⟩ := EQ hf (b :: ys) (pushB out (a, b, f a)) (FQ h (hf a))
  rw [qj]
  exact ⟨by simp at h2 ⊢; omega, h3⟩
theorem K9 {N : Nat} (hN : 10000000000 ≤ N) {l : List au} (hne : l ≠ []) (hl : l.length ≤ 2000) (hb : ∀ p ∈ l, -1000000000 ≤ p.X ∧ p.X ≤ 1000000000) (hax : TE (ru l)) :
  ∃ A, qw N [l] = some (A.map toP) ∧ yw A ∧ A.length ≤ 2000 ∧ (∀ b ∈ A, b.2.2.length ≤ 2000) ∧ ∀ x y, qW x y A ↔ Je l x y := by
 obtain ⟨p0, r0, rfl⟩ : ∃ p0 r, l = p0 :: r := by
  cases l with
  | nil => exact absurd rfl hne
  | cons p r => exact ⟨p, r, rfl⟩
 obtain ⟨V, hV⟩ : ∃ V, V = (ru (p0 :: r0)).filterMap AO := ⟨_, rfl⟩
 have hVm : ∀ v ∈ V, (v.X0 ∈ (p0 :: r0).map (·.X)) ∧ v.Y0 ∈ (p0 :: r0).map (·.Y) ∧ v.Y1 ∈ (p0 :: r0).map (·.Y) := fun v hv => by
  rw [hV] at hv
  obtain ⟨s, hs, hsv⟩ := List.mem_filterMap.1 hv
  obtain ⟨s1, s2⟩ := G6 (show s ∈ Fh p0 (p0 :: r0) from hs)
  have s2' : s.2 ∈ p0 :: r0 := s2.elim id fun e => e ▸ List.mem_cons_self
  unfold AO at hsv
  split at hsv
  ·cases Option.some.inj hsv
   refine ⟨List.mem_map.2 ⟨s.1, s1, rfl⟩, ?_, ?_⟩
   ·show min s.1.Y s.2.Y ∈ _
    rcases (show min s.1.Y s.2.Y = s.1.Y ∨ min s.1.Y s.2.Y = s.2.Y by omega) with e | e <;> rw [e]
    ·exact List.mem_map.2 ⟨s.1, s1, rfl⟩
    ·exact List.mem_map.2 ⟨s.2, s2', rfl⟩
   ·show max s.1.Y s.2.Y ∈ _
    rcases (show max s.1.Y s.2.Y = s.2.Y ∨ max s.1.Y s.2.Y = s.1.Y by omega) with e | e <;> rw [e]
    ·exact List.mem_map.2 ⟨s.2, s2', rfl⟩
    ·exact List.mem_map.2 ⟨s.1, s1, rfl⟩
  ·cases hsv
 have hVl : V.length ≤ 2000 := by
  rw [hV]
  refine Nat.le_trans (List.length_filterMap_le _ _) ?_
  have := LB p0 (p0 :: r0)
  show (Fh p0 (p0 :: r0)).length ≤ 2000
  omega
 have hVx : ∀ v ∈ V, -1000000000 ≤ v.X0 ∧ v.X0 ≤ 1000000000 := fun v hv => by
  obtain ⟨p, hp, e⟩ := List.mem_map.1 (hVm v hv).1
  have := hb p hp
  omega
 obtain ⟨U, u1, u2, u3⟩ := DU (c := fun z0 z1 => mG z0 z1) (k := fun r => r.X0) (l := V) (by omega) (fun x hx y hy => by
  have a := hVx x hx; have b := hVx y hy
  unfold mG
  rw [bU (by omega) (by omega)])
 have hxs : ∀ y, (rf U y).Perm ((rR y (ru (p0 :: r0))).map (·.1.X)) := fun y => by
  rw [← Dw, ← hV]
  exact (u2.filter _).map _
 have hev : ∀ y, (rf U y).length % 2 = 0 := fun y => by
  rw [(hxs y).length_eq, List.length_map]; exact EH y hax
 have hcle : ∀ x y, Dm x (rf U y) = Dm x ((rR y (ru (p0 :: r0))).map (·.1.X)) := fun x y => ((hxs y).filter _).length_eq
 obtain ⟨ys, hys⟩ : ∃ ys, ys = wz ((p0 :: r0).map (·.Y)) := ⟨_, rfl⟩
 have hysl : ys.length ≤ 2000 := by rw [hys]; exact Nat.le_trans (DR _) (by simpa using hl)
 obtain ⟨b1, b2⟩ := O4 (up := U) (ys := ys) (by rw [hys]; exact rD _) u3 hev (fun s hs => by
  have := hVm s (u2.subset hs)
  rw [hys, tJ, tJ]; exact this.2)
 have hUl : U.length ≤ 2000 := by rw [u2.length_eq]; exact hVl
 have hrow : ∀ y, (fA U y).length ≤ 2000 := fun y => by
  have h1 := gK (fA U y)
  rw [(Me u3 hev y).1] at h1
  have h2 := Pn (rf U y)
  have h3 : (rf U y).length ≤ U.length := by unfold rf; rw [List.length_map]; exact List.length_filter_le _ _
  omega
 obtain ⟨c1, c2⟩ := EQ hrow ys [] (fun c hc => by cases hc)
 refine ⟨qj (fA U) ys [], ?_, b1, by simp at c1; omega, c2, fun x y => by rw [b2, hcle]; rfl⟩
 unfold qw
 rw [iA]
 have hsl := Aa (l := p0 :: r0) (p0 := p0) rfl (by omega) (K := iA N [] (0 + 1)) (p0 :: r0) [] [] [] rfl (by simp) (by simp)
 rw [show ([] : List au).length = 0 from rfl] at hsl
 rw [hsl, List.nil_append, List.nil_append, iA]
 have hso := Lf (l := (p0 :: r0).map (·.Y)) (by rw [List.length_map]; omega)
 rw [GH (by rw [List.length_map]; omega), Option.bind_some] at hso ⊢
 rw [hso, Option.bind_some, show (Fh p0 (p0 :: r0)).filterMap AO = V from hV.symm, u1, Option.bind_some, ← hys]
 exact EO (by rw [hys]; exact rD _) u3 hev (by omega) (by omega) ys [] N [] rfl (by omega) (by simp; omega)
open PX
theorem LA (z : Int × Int) : ∀ l : List (Int × Int), Fh (ig z) (l.map ig) = (FT z l).map fun s => (ig s.1, ig s.2)
 | [] => rfl
 | x :: r => by
  have e : FT z (x :: r) = (x, r.headD z) :: FT z r := rfl
  rw [List.map_cons, yL, LA z r, e, List.map_cons]
  congr 1
  cases r <;> rfl
theorem J4 {l : List (Int × Int)} : ru (l.map ig) = (FT (l.headD (0, 0)) l).map fun s => (ig s.1, ig s.2) := by
 cases l with
 | nil => rfl
 | cons x r => exact LA x (x :: r)
theorem KJ (y : Int) (l : List (Int × Int)) : (rR y (ru (l.map ig))).map (·.1.X) = Ux y l := by
 rw [J4]
 unfold rR Ux
 rw [List.filter_map, List.map_map]
 rfl
theorem Lp {l : List au} {p0 : au} (h0 : l.head? = some p0) : ∀ (suf pre : List au), l = pre ++ suf → Fe l suf pre.length = true → TE (Fh p0 suf)
 | [], _, _, _ => fun s hs => by cases hs
 | x :: r, pre, he, h => by
  have hnx : l.getD ((pre.length + 1) % l.length) ⟨0, 0⟩ = (r ++ [p0]).headD p0 := by
   have := FV (pre := pre) (r := r) (x := x) (p0 := p0) (by rw [← he]; exact h0)
   rw [he]; exact this
  rw [Fe, hnx] at h
  split at h
  ·cases h
  rename_i hne
  have ih := Lp h0 r (pre ++ [x]) (by rw [he]; simp) (by rw [List.length_append]; exact h)
  rw [yL]
  intro s hs
  rcases List.mem_cons.1 hs with rfl | hs
  ·intro hc
   refine hne ?_
   simp only at hc
   rw [beq_iff_eq, Bool.eq_iff_iff, beq_iff_eq, beq_iff_eq]
   rw [hc]
  ·exact ih s hs
theorem Ol {l : List au} (h : Fe l l 0 = true) : TE (ru l) := by
 cases l with
 | nil => intro s hs; cases hs
 | cons p r => exact Lp (p0 := p) rfl (p :: r) [] rfl h
theorem J5 {l : List au} {s : au × au} (h : s ∈ ru l) : s.1 ∈ l ∧ s.2 ∈ l := by
 cases l with
 | nil => cases h
 | cons p r =>
  obtain ⟨h1, h2⟩ := G6 (show s ∈ Fh p (p :: r) from h)
  exact ⟨h1, h2.elim id fun e => e ▸ List.mem_cons_self⟩
theorem Ph {x : Int} {l : List Int} (h : ∀ z ∈ l, x < z) : Dm x l = 0 := by
 unfold Dm
 rw [List.length_eq_zero_iff, List.filter_eq_nil_iff]
 intro z hz
 have := h z hz
 simp; omega
theorem Q9 {x : Int} {l : List Int} (h : ∀ z ∈ l, z ≤ x) : Dm x l = l.length := by
 unfold Dm
 rw [List.filter_eq_self.2]
 intro z hz
 simpa using h z hz
theorem Nf {l : List au} (hax : TE (ru l)) (hp : ∀ q ∈ l, (-1000000 ≤ q.X ∧ q.X ≤ 1000000) ∧ (-1000000 ≤ q.Y ∧ q.Y ≤ 1000000)) {x y : Int} (h : Je l x y) : (-1000000 ≤ x ∧ x < 1000000) ∧ (-1000000 ≤ y ∧ y < 1000000) := by
 unfold Je at h
 have hm : ∀ z ∈ (rR y (ru l)).map (·.1.X), (-1000000 ≤ z ∧ z ≤ 1000000) ∧ (-1000000 ≤ y ∧ y < 1000000) := by
  intro z hz
  obtain ⟨s, hs, rfl⟩ := List.mem_map.1 hz
  unfold rR at hs
  obtain ⟨h1, h2⟩ := List.mem_filter.1 hs
  obtain ⟨m1, m2⟩ := J5 h1
  have p1 := hp _ m1
  have p2 := hp _ m2
  simp only [Bool.and_eq_true, decide_eq_true_eq] at h2
  omega
 have hlo : -1000000 ≤ x := by
  apply Classical.byContradiction
  intro hx
  rw [Ph fun z hz => by have := hm z hz; omega] at h
  omega
 have hhi : x < 1000000 := by
  apply Classical.byContradiction
  intro hx
  rw [Q9 fun z hz => by have := hm z hz; omega, List.length_map, EH y hax] at h
  omega
 refine ⟨⟨hlo, hhi⟩, ?_⟩
 cases hc : (rR y (ru l)).map (·.1.X) with
 | nil =>
  rw [hc] at h
  have e : Dm x [] = 0 := rfl
  rw [e] at h
  omega
 | cons z t => exact (hm z (by rw [hc]; exact List.mem_cons_self)).2
theorem LG {a b : Int} (ha : -1000000 ≤ a ∧ a ≤ 1000000) (hb : -1000000 ≤ b ∧ b ≤ 1000000) : -1000000000000 ≤ a * b ∧ a * b ≤ 1000000000000 := by
 have h : (a * b).natAbs ≤ 1000000 * 1000000 := by
  rw [Int.natAbs_mul]
  exact Nat.mul_le_mul (by omega) (by omega)
 omega
theorem Mx {l : List (Int × Int)} {z : Int × Int} (h0 : l.head? = some z) (hl : l.length ≤ 2000) (hp : ∀ q ∈ l, (-1000000 ≤ q.1 ∧ q.1 ≤ 1000000) ∧ (-1000000 ≤ q.2 ∧ q.2 ≤ 1000000)) : ∀ (suf pre : List (Int × Int)) (x : Int), l = pre ++ suf →
  (-(2000000000000 * (pre.length : Int)) ≤ x ∧ x ≤ 2000000000000 * (pre.length : Int)) →
  Qc (l.map ig) (suf.map ig) pre.length x = x + ((FT z suf).map yV).sum ∧ (-(2000000000000 * (l.length : Int)) ≤ x + ((FT z suf).map yV).sum ∧ x + ((FT z suf).map yV).sum ≤ 2000000000000 * (l.length : Int))
 | [], pre, x, he, hx => by
  have : l.length = pre.length := by rw [he]; simp
  show x = x + 0 ∧ (_ ≤ x + 0 ∧ x + 0 ≤ _)
  omega
 | q :: r, pre, x, he, hx => by
  have hlen : l.length = pre.length + r.length + 1 := by rw [he]; simp; omega
  have hnx : (l.map ig).getD ((pre.length + 1) % (l.map ig).length) ⟨0, 0⟩ = ig (r.headD z) := by
   rw [List.length_map]
   cases r with
   | nil =>
    rw [hlen, List.length_nil, Nat.add_zero, Nat.mod_self]
    cases l with
    | nil => cases h0
    | cons y t => cases h0; rfl
   | cons y t =>
    rw [Nat.mod_eq_of_lt (by rw [hlen]; simp), List.getD_eq_getElem?_getD, List.getElem?_map, he, List.getElem?_append_right (by omega)]
    simp
  have hq := hp q (by rw [he]; simp)
  have hn : (-1000000 ≤ (r.headD z).1 ∧ (r.headD z).1 ≤ 1000000) ∧ (-1000000 ≤ (r.headD z).2 ∧ (r.headD z).2 ≤ 1000000) := by
   cases r with
   | nil =>
    apply hp
    cases l with
    | nil => cases h0
    | cons y t => cases h0; exact List.mem_cons_self
   | cons y t => exact hp y (by rw [he]; simp)
  have m1 := LG hq.1 hn.2
  have m2 := LG hn.1 hq.2
  rw [List.map_cons, Qc, hnx]
  show Qc (l.map ig) (r.map ig) (pre.length + 1) (bG (x + bG (bG (q.1 * (r.headD z).2) - bG ((r.headD z).1 * q.2)))) = x + (yV (q, r.headD z) + ((FT z r).map yV).sum) ∧ (_ ≤ x + (yV (q, r.headD z) + ((FT z r).map yV).sum) ∧ x + (yV (q, r.headD z) + ((FT z r).map yV).sum) ≤ _)
  have ec : yV (q, r.headD z) = q.1 * (r.headD z).2 - (r.headD z).1 * q.2 := rfl
  rw [ec]
  generalize q.1 * (r.headD z).2 = A at m1
  generalize (r.headD z).1 * q.2 = B at m2
  rw [bU (x := A) (by omega) (by omega), bU (x := B) (by omega) (by omega), bU (x := A - B) (by omega) (by omega), bU (x := x + (A - B)) (by omega) (by omega)]
  have ih := Mx h0 hl hp r (pre ++ [q]) (x + (A - B)) (by rw [he]; simp) (by rw [List.length_append, List.length_singleton]; omega)
  rw [List.length_append, List.length_singleton] at ih
  rw [ih.1]
  omega
theorem PD {l : List (Int × Int)} (hl : l.length ≤ 2000) (hp : ∀ q ∈ l, (-1000000 ≤ q.1 ∧ q.1 ≤ 1000000) ∧ (-1000000 ≤ q.2 ∧ q.2 ≤ 1000000)) : Qc (l.map ig) (l.map ig) 0 0 = J6 l ∧ (-4000000000000000 ≤ J6 l ∧ J6 l ≤ 4000000000000000) := by
 cases l with
 | nil => exact ⟨rfl, by decide, by decide⟩
 | cons z t =>
  have h := Mx (l := z :: t) (z := z) rfl hl hp (z :: t) [] 0 rfl (by simp)
  have e : J6 (z :: t) = ((FT z (z :: t)).map yV).sum := rfl
  rw [← e, Int.zero_add] at h
  refine ⟨h.1, ?_⟩
  omega
def Fg (q : au) : Int × Int := (q.X, q.Y)
theorem Oo (o : List (List au)) : (o.map (List.map Fg)).map (List.map ig) = o := by
 rw [List.map_map]
 conv => rhs; rw [← List.map_id o]
 apply List.map_congr_left
 intro l _
 show (l.map Fg).map ig = l
 rw [List.map_map]
 conv => rhs; rw [← List.map_id l]
 apply List.map_congr_left
 intro q _
 rfl
theorem M8 (ls : List (List (Int × Int))) : (ls.map (List.map ig)).map (List.map Fg) = ls := by
 rw [List.map_map]
 conv => rhs; rw [← List.map_id ls]
 apply List.map_congr_left
 intro l _
 show (l.map ig).map Fg = l
 rw [List.map_map]
 conv => rhs; rw [← List.map_id l]
 apply List.map_congr_left
 intro q _
 rfl
structure Rl (l : List au) (W : List Ed) : Prop where
 good : xR l
 few : l.length ≤ 2000
 inn : ∀ x y, Je l x y ↔ wd W x y ≠ 0
 kind : mQ l = if ar W < 0 then 2 else 1
 size : KP l = -(2 * max (ar W) (-(ar W)))
theorem Kc {I : Sq} {ls : List (List (Int × Int))} (ho : yl I ls) (hf : ∃ B, vK I B) (hI : PW I) {o : List (List au)} (hB : uB (ls.map (List.map ig)) o) (hl : o.flatten.length ≤ 2000) :
  ∃ os : List (List au × List Ed), os.map (·.1) = o ∧ (∀ p ∈ os, Rl p.1 p.2) ∧ ∀ x y, ((os.map (·.2)).foldl yI fun _ _ => False) x y ↔ I x y = true := by
 have hg := FL ho hf hI
 obtain ⟨B, hfB⟩ := hf
 have hfin : ∀ y, ∃ lo, ∀ x, x ≤ lo → I x y = false := fun y => ⟨-1000001, fun x hx => by
  cases h : I x y with
  | false => rfl
  | true => have := (hI x y h).1; omega⟩
 obtain ⟨wf, w1, w2⟩ := GY hfB ho hfin
 have hperm : (o.map (List.map Fg)).Perm ls := by
  have := hB.len.map (List.map Fg)
  rwa [M8] at this
 have hback := Oo o
 have hlen : ∀ m ∈ o.map (List.map Fg), m.length ≤ 2000 := by
  intro m hm
  obtain ⟨l, hl2, rfl⟩ := List.mem_map.1 hm
  have := wN hl2
  rw [List.length_map]; omega
 have facts : ∀ m ∈ o.map (List.map Fg), Rl (m.map ig) (wf m) := by
  intro m hm
  have hml := hperm.mem_iff.1 hm
  have hgm := hg (m.map ig) (List.mem_map.2 ⟨m, hml, rfl⟩)
  obtain ⟨f1, f2⟩ := w1 m hml
  have hs := PD (hlen m hm) (fun q hq => hgm.2.1 (ig q) (List.mem_map.2 ⟨q, hq, rfl⟩))
  rw [f2] at hs
  refine ⟨hgm, by rw [List.length_map]; exact hlen m hm, fun x y => ?_, ?_, ?_⟩
  ·rw [← f1 x y]
   unfold Je
   rw [KJ]
   exact Iff.rfl
  ·unfold mQ
   rw [hs.1]
   by_cases c : ar (wf m) < 0
   ·rw [if_pos (by omega), if_pos c]
   ·rw [if_neg (by omega), if_neg c]
  ·unfold KP ST.KR rowOf
   simp only
   rw [hs.1, bU (by omega) (by omega)]
   omega
 refine ⟨(o.map (List.map Fg)).map fun m => (m.map ig, wf m), ?_, ?_, ?_⟩
 ·rw [List.map_map]
  exact hback
 ·intro p hp
  obtain ⟨m, hm, rfl⟩ := List.mem_map.1 hp
  exact facts m hm
 ·rw [List.map_map]
  refine w2 (o.map (List.map Fg)) hperm ?_
  have hpw := hB.1
  rw [← hback, List.pairwise_map] at hpw
  refine List.Pairwise.imp_of_mem ?_ hpw
  intro a b ha hb hab
  rw [(facts a ha).size, (facts b hb).size] at hab
  omega
def RD (q : au) : Bool := (decide (-1000000 ≤ q.X) && decide (q.X ≤ 1000000)) && (decide (-1000000 ≤ q.Y) && decide (q.Y ≤ 1000000))
theorem Qy {q : au} : RD q = true ↔ (-1000000 ≤ q.X ∧ q.X ≤ 1000000) ∧ (-1000000 ≤ q.Y ∧ q.Y ≤ 1000000) := by unfold RD; simp
theorem Rn (q : au) : pq q = some (RD q) := by
 unfold pq lu qo RD
 cases (decide (-1000000 ≤ q.X) && decide (q.X ≤ 1000000)) <;> rfl
def Nw (c : Bool) (I S : List Bd) (x y : Int) : Prop := if c then qW x y I ∧ ¬ qW x y S else qW x y I ∨ qW x y S
open Classical in
noncomputable def Mq (c : Bool) (I S : List Bd) : List Bd := if h : ∃ C, yw C ∧ ∀ x y, qW x y C ↔ Nw c I S x y then h.choose else []
theorem Pf {c : Bool} {I S C : List Bd} (h1 : yw C) (h2 : ∀ x y, qW x y C ↔ Nw c I S x y) : Mq c I S = C := by
 have h : ∃ C, yw C ∧ ∀ x y, qW x y C ↔ Nw c I S x y := ⟨C, h1, h2⟩
 unfold Mq
 rw [dif_pos h]
 exact h.choose_spec.1.uniq h1 fun x y => by rw [h.choose_spec.2, h2]
structure yg (I : List Bd) : Prop where
 ok : yw I
 few : (fI I).length ≤ 2000
 lim : (fI I).all lim = true
structure Gs (S : List Bd) : Prop where
 ok : yw S
 few : S.length ≤ 100000
 row : ∀ b ∈ S, b.2.2.length ≤ 10000
 tot : (fI S).length ≤ 100000000
theorem yg.JR {I : List Bd} (h : yg I) : Gs I := by
 have h1 := h.ok.le
 have h2 := h.few
 exact ⟨h.ok, by omega, fun b hb => by have := Ki hb; omega, by omega⟩
noncomputable def JR (c : Bool) (I S : List Bd) : Int × List Bd := if (fI S).all lim then (if 2000 < (fI (Mq c I S)).length then (2, Mq c I S) else (0, Mq c I S)) else (1, I)
theorem Da {I : List Bd} (h : yw I) : (fI I).all lim = true ↔ ∀ x y, qW x y I → (-1000000 ≤ x ∧ x < 1000000) ∧ (-1000000 ≤ y ∧ y < 1000000) := by
 rw [List.all_eq_true]
 constructor
 ·intro hl x y hx
  obtain ⟨r, hr, h1, h2⟩ := (xQ h x y).2 hx
  have := vV.1 (hl r hr)
  omega
 ·intro hp r hr
  have := Kj h (m := 1000000) hp r hr
  rw [vV]; omega
theorem KO {c : Bool} {I S : List Bd} (hI : Gs I) (hS : Gs S) {N : Nat} (hN : 10000000000 ≤ N) : (if c then lQ N (I.map toP) (S.map toP) else mY N (I.map toP) (S.map toP)) = some ((Mq c I S).map toP) ∧ yw (Mq c I S) ∧ (∀ x y, qW x y (Mq c I S) ↔ Nw c I S x y) ∧ (fI (Mq c I S)).length ≤ 1000000000000 := by
 cases c
 ·obtain ⟨C, c1, c2, c3, c4⟩ := SE hN hI.ok hS.ok hI.row hS.row hI.few hS.few
  have := Pf (c := false) c2 c3
  rw [this]
  exact ⟨c1, c2, c3, c4⟩
 ·obtain ⟨C, c1, c2, c3, c4⟩ := OG hN hI.ok hS.ok hI.row hS.row hI.few hS.few
  have := Pf (c := true) c2 c3
  rw [this]
  exact ⟨c1, c2, c3, c4⟩
theorem Q4 {c : Bool} {I S : List Bd} (hI : yg I) (hS : Gs S) (h : (JR c I S).1 = 0) : yg (JR c I S).2 := by
 obtain ⟨_, c2, c3, _⟩ := KO (c := c) hI.JR hS (Nat.le_refl _)
 unfold JR at h ⊢
 by_cases hl : (fI S).all lim = true
 ·rw [if_pos hl] at h ⊢
  by_cases hm : 2000 < (fI (Mq c I S)).length
  ·rw [if_pos hm] at h; cases h
  ·rw [if_neg hm]
   refine ⟨c2, Nat.le_of_not_lt hm, (Da c2).2 fun x y hx => ?_⟩
   have h1 := (Da hI.ok).1 hI.lim x y
   have h2 := (Da hS.ok).1 hl x y
   rw [c3] at hx
   unfold Nw at hx
   cases c
   ·rcases hx with hx | hx
    ·exact h1 hx
    ·exact h2 hx
   ·exact h1 hx.1
 ·rw [if_neg hl] at h; cases h
theorem Q5 {N : Nat} (hN : 10000000000 ≤ N) {m : eT} {I S : List Bd} (hI : yg I) (hm : m.image = I.map toP) (hS : Gs S) : lH N m (S.map toP) = some ((JR m.clear I S).1, (JR m.clear I S).2.map toP) := by
 obtain ⟨c1, c2, c3, c4⟩ := KO (c := m.clear) hI.JR hS hN
 have hf := Rq (L := fI S) hS.tot (BO hS.ok)
 rw [IE hS.ok] at hf
 unfold lH JR
 rw [hf, Option.bind_some]
 by_cases hl : (fI S).all lim = true
 ·rw [hl, if_neg (by simp), if_pos rfl]
  have hj : ∀ C : List Bd, (fI C).length ≤ 1000000000000 → iO (C.map toP) = some ((if 2000 < (fI C).length then ((2 : Int), C) else (0, C)).1, (if 2000 < (fI C).length then ((2 : Int), C) else (0, C)).2.map toP) := fun C hC => by
   unfold iO
   rw [MG (by omega), Option.bind_some]
   by_cases hm : 2000 < (fI C).length
   ·rw [if_pos (by simp; omega), if_pos hm]
   ·rw [if_neg (by simp; omega), if_neg hm]
  rw [hm]
  cases hc : m.clear
  ·rw [hc] at c1 c4
   simp only [Bool.false_eq_true, if_false] at c1 ⊢
   rw [c1, Option.bind_some, hj _ c4]
  ·rw [hc] at c1 c4
   simp only [if_true] at c1 ⊢
   rw [c1, Option.bind_some, hj _ c4]
 ·have hl' : (fI S).all lim = false := by simpa using hl
  rw [hl', if_pos (by rfl), if_neg (by simp), hm]
open PX
theorem Kw {m : eT} (hu : m.p.Unit = 1) {q : au} (hq : (-1000000 ≤ q.X ∧ q.X ≤ 1000000) ∧ (-1000000 ≤ q.Y ∧ q.Y ≤ 1000000)) : jY m q ⟨0, 0⟩ = some q := by
 unfold jY
 rw [hu, Int.mul_one, Int.mul_one, bU (x := q.X) (by omega) (by omega), bU (x := q.Y) (by omega) (by omega), Int.add_zero, Int.add_zero, bU (by omega) (by omega), bU (by omega) (by omega)]
theorem Py {l : List au} : dC l (fun z0 => iC z0) = some (l.any fun q => !RD q) := by
 have key : ∀ (l : List au) (i : Nat), dY (fun z0 => iC z0) l i = some (BZ (fun q => !RD q) l (i : Int)) := by
  intro l
  induction l with
  | nil => intro i; rfl
  | cons x r ih =>
   intro i
   rw [dY, BZ, ih]
   have e : iC x = some (!RD x) := by
    unfold iC
    rw [Rn]; rfl
   rw [e, Option.bind_some]
   split <;> rfl
 unfold dC ko
 rw [key, Option.bind_some]
 exact congrArg some (Er _ l 0 (by omega))
theorem Mw {N : Nat} {m : eT} (hu : m.p.Unit = 1) : ∀ (suf : List au) (i : Nat) (out : List au), out.length + suf.length ≤ 1000000 → (∀ q ∈ suf, (-1000000 ≤ q.X ∧ q.X ≤ 1000000) ∧ (-1000000 ≤ q.Y ∧ q.Y ≤ 1000000)) → fM N m ⟨0, 0⟩ suf i out = fM N m ⟨0, 0⟩ [] 0 (out ++ suf)
 | [], i, out, _, _ => by rw [List.append_nil]; rfl
 | x :: r, i, out, h, hq => by
  simp at h
  rw [fM.eq_2, Kw hu (hq x List.mem_cons_self), Option.bind_some, lU (by simp; omega), Option.bind_some, Mw hu r (i + 1) _ (by simp; omega) (fun q h => hq q (List.mem_cons_of_mem _ h))]
  simp
theorem Px {N : Nat} (hN : 10000000000 ≤ N) {m : eT} (hu : m.p.Unit = 1) {I : List Bd} (hI : yg I) (hm : m.image = I.map toP) {l : List au} {W : List Ed} (hr : Rl l W) (hc : m.clear = decide (ar W < 0)) {f : Int → Int → Prop} (hf : ∀ x y, qW x y I ↔ f x y) :
  ∃ e J, kM N m l ⟨0, 0⟩ = some (e, J.map toP) ∧ (e = 0 ∨ e = 2) ∧ (e = 0 → yg J ∧ ∀ x y, qW x y J ↔ yI f W x y) := by
 have hax := Ol hr.good.2.2
 obtain ⟨A, a1, a2, a3, a4, a5⟩ := K9 hN (l := l) (by
  intro h
  have := hr.good.1
  rw [h] at this; simp at this) hr.few (fun q hq => by have := hr.good.2.1 q hq; omega) hax
 have htot := xD a4
 have hD : Gs A := ⟨a2, by omega, fun b hb => by have := a4 b hb; omega, Nat.le_trans htot (by have := Nat.mul_le_mul_left 2000 a3; omega)⟩
 have hlim : (fI A).all lim = true := (Da a2).2 fun x y h => Nf hax hr.good.2.1 ((a5 x y).1 h)
 have hany : (l.any fun q => !RD q) = false := by
  rw [List.any_eq_false]
  intro q hq
  rw [Qy.2 (hr.good.2.1 q hq)]; decide
 unfold kM
 rw [Mw hu l 0 [] (by have := hr.few; simp; omega) hr.good.2.1, List.nil_append]
 rw [fM, a1, Option.bind_some, MG (by have := hD.tot; omega), Option.bind_some]
 by_cases hmany : 2000 < (fI A).length
 ·rw [if_pos (by simp; omega)]
  exact ⟨2, I, by rw [hm], .inr rfl, fun h => by cases h⟩
 ·rw [if_neg (by simp; omega), Py, Option.bind_some, hany, if_neg (by decide), Q5 hN hI hm hD, Option.bind_some]
  have hd : JR m.clear I A = if 2000 < (fI (Mq m.clear I A)).length then (2, Mq m.clear I A) else (0, Mq m.clear I A) := by unfold JR; rw [if_pos hlim]
  refine ⟨(JR m.clear I A).1, (JR m.clear I A).2, rfl, ?_, fun h => ⟨Q4 hI hD h, fun x y => ?_⟩⟩
  ·rw [hd]; split
   ·exact .inr rfl
   ·exact .inl rfl
  ·obtain ⟨_, _, c3, _⟩ := KO (c := m.clear) hI.JR hD hN
   have e2 : (JR m.clear I A).2 = Mq m.clear I A := by rw [hd]; split <;> rfl
   rw [e2, c3]
   unfold Nw yI
   rw [hc, hf, a5, hr.inn]
   by_cases c : ar W < 0
   ·rw [if_pos (by simp [c]), if_pos c, Classical.not_not]
   ·rw [if_neg (by simp [c]), if_neg c]
theorem NR {rec : eT → List av → au → Option (Int × Bool × List aV)} {N : Nat} {m : eT} (hu : m.p.Unit = 1) {k : Int} (hk : k = 1 ∨ k = 2) : jw rec N m (qG k) ⟨0, 0⟩ = some (0, k == 2, m.image) := by
 unfold jw
 rw [show (qG k).At = ⟨0, 0⟩ from rfl, Kw hu ⟨by decide, by decide⟩, Option.bind_some]
 rcases hk with rfl | rfl
 ·rw [if_pos (by show ((1 : Int) == 1) = true; decide)]; rfl
 ·rw [if_neg (by show ¬ ((2 : Int) == 1) = true; decide)]; rfl
theorem NS {rec : eT → List av → au → Option (Int × Bool × List aV)} {N : Nat} {m : eT} (hu : m.p.Unit = 1) {l : List au} : jw rec N m (nY l) ⟨0, 0⟩ = (kM N m l ⟨0, 0⟩).bind fun y => some (y.1, m.clear, y.2) := by
 unfold jw
 rw [show (nY l).At = ⟨0, 0⟩ from rfl, Kw hu ⟨by decide, by decide⟩, Option.bind_some, if_neg (by show ¬ ((7 : Int) == 1) = true; decide)]
 unfold jl
 rw [if_neg (by show ¬ ((7 : Int) == 2) = true; decide), if_neg (by show ¬ ((7 : Int) == 3) = true; decide), if_neg (by show ¬ ((7 : Int) == 4) = true; decide), if_neg (by show ¬ ((7 : Int) == 5) = true; decide), if_neg (by show ¬ ((7 : Int) == 6) = true; decide), if_pos (by show ((7 : Int) == 7) = true; decide)]
 rfl
theorem FI {N : Nat} (hN : 10000000000 ≤ N) {m : eT} (hu : m.p.Unit = 1) {rec : eT → List av → au → Option (Int × Bool × List aV)} : ∀ (os : List (List au × List Ed)) (i : Nat) (I : List Bd) (d : Int) (f : Int → Int → Prop), d = 1 ∨ d = 2 → yg I → (∀ x y, qW x y I ↔ f x y) → (∀ p ∈ os, Rl p.1 p.2) →
  ∃ e c J, gm N m ⟨0, 0⟩ rec (jr (os.map (·.1)) d) i (I.map toP) (d == 2) = some (e, c, J.map toP) ∧ (e = 0 ∨ e = 2) ∧ (e = 0 → yg J ∧ ∀ x y, qW x y J ↔ ((os.map (·.2)).foldl yI f) x y)
 | [], i, I, d, f, _, hI, hf, _ => ⟨0, d == 2, I, rfl, .inl rfl, fun _ => ⟨hI, hf⟩⟩
 | p :: t, i, I, d, f, hd, hI, hf, hr => by
  have hp := hr p List.mem_cons_self
  have hk : mQ p.1 = 1 ∨ mQ p.1 = 2 := by unfold mQ; split <;> simp
  have rest : ∀ j : Nat, ∃ e c J, gm N m ⟨0, 0⟩ rec (nY p.1 :: jr (t.map (·.1)) (mQ p.1)) j (I.map toP) (mQ p.1 == 2) = some (e, c, J.map toP) ∧ (e = 0 ∨ e = 2) ∧ (e = 0 → yg J ∧ ∀ x y, qW x y J ↔ (((p :: t).map (·.2)).foldl yI f) x y) := by
   intro j
   rw [gm.eq_2, NS (by exact hu)]
   obtain ⟨e, J, e1, e2, e3⟩ := Px hN (m := eT.mk m.p m.tools (I.map toP) (mQ p.1 == 2) m.tool m.place m.placed m.off m.on) hu hI rfl hp (by
    show (mQ p.1 == 2) = _
    rw [hp.kind]
    by_cases c : ar p.2 < 0
    ·rw [if_pos c]; simp [c]
    ·rw [if_neg c]; simp [c]) hf
   rw [e1, Option.bind_some, Option.bind_some]
   by_cases he : e = 0
   ·obtain ⟨j1, j2⟩ := e3 he
    rw [if_neg (by simpa using he)]
    obtain ⟨e', c', J', g1, g2, g3⟩ := FI hN hu (rec := rec) t (j + 1) J (mQ p.1) (yI f p.2) hk j1 j2 (fun q hq => hr q (List.mem_cons_of_mem _ hq))
    exact ⟨e', c', J', g1, g2, g3⟩
   ·rw [if_pos (by simpa using he)]
    exact ⟨e, mQ p.1 == 2, J, rfl, e2, fun h => absurd h he⟩
  rw [List.map_cons, jr]
  by_cases c : mQ p.1 = d
  ·rw [if_pos c]
   have := rest i
   rw [c] at this
   exact this
  ·rw [if_neg c, gm.eq_2, NR (by exact hu) hk, Option.bind_some, if_neg (by simp)]
   exact rest (i + 1)
theorem QO : yg [] := ⟨⟨⟨0, trivial⟩, fun b hb => by cases hb⟩, by simp [fI], by simp [fI]⟩
theorem Ng {I : List Bd} (h : yg I) : Small I := by
 have h1 := h.JR
 have h2 := h.few
 exact ⟨by have := h1.few; omega, fun b hb => by have := h1.row b hb; omega, by omega⟩
theorem P8 {N : Nat} (hN : 20000000000 ≤ N) {r : List aQ} (hr : mW r = 0) {ls : List (List (Int × Int))} {o : List (List au)} (ho : yl (Ca r) ls) (hf : ∃ B, vK (Ca r) B) (hB : uB (ls.map (List.map ig)) o) (hl : o.flatten.length ≤ 2000) (hC : jK N (iD o) = some 0) :
  qE N (iD o) = some (r, 0) ∨ qE N (iD o) = some ([], 2) := by
 obtain ⟨_, _, r3, r4⟩ := xC hr
 obtain ⟨os, o1, o2, o3⟩ := Kc ho hf (yH r3) hB hl
 obtain ⟨M, rfl⟩ : ∃ n, N = n + 1 := ⟨N - 1, by omega⟩
 have hnew : pY (iD o) = some ⟨iD o, [], [], false, -1, ⟨0, 0⟩, false, 0, 0⟩ := rfl
 obtain ⟨e, c, J, e1, e2, e3⟩ := FI (N := M) (by omega) (m := ⟨iD o, [], [], false, -1, ⟨0, 0⟩, false, 0, 0⟩) rfl (rec := lc M) os 0 [] 1 (fun _ _ => False) (.inl rfl) QO (fun x y => ⟨fun h => by simp [qW, rowAt, lL] at h, fun h => h.elim⟩) o2
 rw [o1] at e1
 have hrun : lc (M + 1) ⟨iD o, [], [], false, -1, ⟨0, 0⟩, false, 0, 0⟩ (iD o).Steps ⟨0, 0⟩ = some (e, c, J.map toP) := e1
 unfold qE sw uL
 rw [hC, Option.bind_some, if_neg (by decide), hnew, Option.bind_some, hrun, Option.bind_some, Option.bind_some]
 have hz := EY (N := M + 1) (by omega) (l := []) ⟨by simp, by simp, by simp [fI]⟩
 rw [List.map_nil] at hz
 rcases e2 with rfl | rfl
 ·left
  obtain ⟨j1, j2⟩ := e3 rfl
  rw [if_neg (by simp), Option.bind_some]
  show (kC (M + 1) (J.map toP)).bind _ = _
  rw [EY (by omega) (Ng j1), Option.bind_some]
  have hb := CW (l := r) (fun q hq => (NB.ne r3) q hq)
  have hJ : J = tL r := j1.ok.uniq hb.1 fun x y => by
   rw [j2, o3, Ew, hb.2]
  rw [hJ, r4]
 ·right
  rw [if_pos (by simp), Option.bind_some, hz]
  rfl
theorem AZ : ∀ (suf pre : List au) (m : Nat), suf.length < m → (pre ++ suf).length ≤ 9223372036854775807 → fH (pre ++ suf) (pre ++ suf) m (pre.length : Int) = some true
 | [], pre, m, hm, hl => by
  obtain ⟨m, rfl⟩ : ∃ k, m = k + 1 := ⟨m - 1, by omega⟩
  rw [fH, Oz, if_neg (by simp)]
 | q :: l, pre, m, hm, hl => by
  obtain ⟨m, rfl⟩ : ∃ k, m = k + 1 := ⟨m - 1, by simp at hm; omega⟩
  simp at hm hl
  rw [fH, Hf, if_pos rfl, jE, Option.bind_some, Option.bind_some, show gz q q = true from qC.2 rfl, if_neg (by simp), AP _ q (by omega), AV, AZ l (pre ++ [q]) m (by omega) (by simp; omega)]
theorem Ka {N : Nat} {l : List au} (hN : l.length < N) (hl : l.length ≤ 9223372036854775807) : jA N l l = some true := by
 unfold jA
 rw [if_neg (by simp)]
 exact AZ l [] N hN hl
theorem AY {N : Nat} {rec : List av → List av → Option Bool} : ∀ (suf pre : List av) (m : Nat), suf.length < m → (pre ++ suf).length ≤ 9223372036854775807 → (∀ x ∈ suf, x.Points.length < N ∧ x.Points.length ≤ 9223372036854775807 ∧ rec x.Steps x.Steps = some true) → fK N (pre ++ suf) (pre ++ suf) rec m (pre.length : Int) = some true
 | [], pre, m, hm, hl, h => by
  obtain ⟨m, rfl⟩ : ∃ k, m = k + 1 := ⟨m - 1, by omega⟩
  rw [fK, Oz, if_neg (by simp)]
 | x :: l, pre, m, hm, hl, h => by
  obtain ⟨m, rfl⟩ : ∃ k, m = k + 1 := ⟨m - 1, by simp at hm; omega⟩
  simp at hm hl
  obtain ⟨h1, h2, h3⟩ := h x List.mem_cons_self
  rw [fK, Hf, if_pos rfl, jE, Option.bind_some, Option.bind_some]
  simp only [bne_self_eq_false, CX.2 rfl, qC.2 rfl, Bool.not_true, Bool.or_self, Bool.false_eq_true, if_false, Ka h1 h2, h3, Option.bind_some]
  rw [AP _ x (by omega), AV, AY l (pre ++ [x]) m (by omega) (by simp; omega) (fun y hy => h y (List.mem_cons_of_mem _ hy))]
theorem D6 : ∀ (k : Nat) (l : List av) (N : Nat), nA l ≤ k → k + 5 ≤ N → l.length ≤ 9223372036854775807 → BV l → jP N l l = some true
 | k, l, N, hk, hN, hl, hA => by
  obtain ⟨N, rfl⟩ : ∃ n, N = n + 1 := ⟨N - 1, by omega⟩
  have hlen := Cu l
  show ji N _ l l = _
  unfold ji
  rw [if_neg (by simp)]
  exact AY l [] N (by omega) (by simpa using hl) (fun s hs => by
   have h1 := Ct hs
   have h2 := zm s
   have h3 := (LM s).1 (Jb hA hs)
   cases k with
   | zero => omega
   | succ k => exact ⟨by omega, h3.2.2.1.1, D6 k s.Steps N (by omega) (by omega) h3.2.2.2.2.1 h3.2.2.2.2.2⟩)
theorem Tj {o : List (List au)} {l : List au} (hg : xR l) (hl : l.length ≤ 2000) (d : Int) : kQ (iD o) (nY l) d = some 0 := by
 have hu : 1 ≤ (iD o).Unit ∧ (iD o).Unit ≤ 1000 := ⟨by show (1 : Int) ≤ 1; decide, by show (1 : Int) ≤ 1000; decide⟩
 have h1 : mE (nY l).Kind 1 8 = some true := rfl
 have h2 : pu (nY l).Kind = some ⟨false, false, true, false⟩ := rfl
 have h3 : lI (nY l).At (iD o).Unit = some true := by rw [Aj hu]; rfl
 have h4 : (l.any fun q => !EB q (iD o).Unit) = false := by
  rw [List.any_eq_false]
  intro q hq h
  have := hg.2.1 q hq
  have e : (iD o).Unit = 1 := rfl
  rw [e] at h
  unfold EB O1 at h
  simp only [Bool.not_eq_true', Bool.and_eq_false_iff, decide_eq_false_iff_not] at h
  omega
 have h5 : dC (nY l).Points (fun z0 => iI z0 (iD o)) = some false := by
  show dC l _ = _
  rw [CE hu, h4]
 have h6 : nQ (nY l).Points = some true := by
  show nQ l = _
  rw [P6 (by omega), if_neg (by have := hg.1; omega), hg.2.2]
 have hn : (AC (nY l).Name ByteArray.empty) = true := D7 _
 have ha : gz (nY l).At (au.mk 0 0) = true := qC.2 rfl
 have hp : decide (2000 < ((nY l).Points.length : Int)) = false := by
  show decide (2000 < (l.length : Int)) = false
  rw [decide_eq_false_iff_not]; omega
 have hs : (((nY l).NX != 0 || (nY l).NY != 0) || decide (0 < ((nY l).Steps.length : Int))) = false := rfl
 unfold kQ
 rw [h1, Option.bind_some, if_neg (by decide), h2, Option.bind_some]
 simp only [iL, hn, ha, h3, h5, h6, hp, hs, Option.bind_some, Bool.not_true, Bool.not_false, Bool.and_false, Bool.false_and, Bool.true_and, Bool.false_eq_true, if_false, if_true]
theorem Pj {o : List (List au)} {k : Int} (hk : k = 1 ∨ k = 2) (d : Int) : kQ (iD o) (qG k) d = some 0 := by
 have hu : 1 ≤ (iD o).Unit ∧ (iD o).Unit ≤ 1000 := ⟨by show (1 : Int) ≤ 1; decide, by show (1 : Int) ≤ 1000; decide⟩
 have h1 : mE (qG k).Kind 1 8 = some true := by rcases hk with rfl | rfl <;> rfl
 have h2 : pu (qG k).Kind = some ⟨false, false, false, false⟩ := by rcases hk with rfl | rfl <;> rfl
 have h3 : lI (qG k).At (iD o).Unit = some true := by rw [Aj hu]; rfl
 have h5 : dC (qG k).Points (fun z0 => iI z0 (iD o)) = some false := by
  show dC [] _ = _
  rw [CE hu]; rfl
 have hn : (AC (qG k).Name ByteArray.empty) = true := D7 _
 have ha : gz (qG k).At (au.mk 0 0) = true := qC.2 rfl
 have hp : decide (2000 < ((qG k).Points.length : Int)) = false := rfl
 have hq : decide (0 < ((qG k).Points.length : Int)) = false := rfl
 have hs : (((qG k).NX != 0 || (qG k).NY != 0) || decide (0 < ((qG k).Steps.length : Int))) = false := rfl
 unfold kQ
 rw [h1, Option.bind_some, if_neg (by decide), h2, Option.bind_some]
 simp only [iL, hn, ha, h3, h5, hp, hq, hs, Option.bind_some, Bool.not_true, Bool.not_false, Bool.and_false, Bool.false_and, Bool.true_and, Bool.false_eq_true, if_false, if_true]
theorem countP : ∀ (l : List av) (i n : Nat), (∀ x ∈ l, x.Steps = []) → n + l.length ≤ 1000 → jB l i (n : Int) = some ((n + l.length : Nat) : Int)
 | [], _, _, _, _ => rfl
 | x :: t, i, n, h, hl => by
  simp only [List.length_cons] at hl
  rw [jB, h x List.mem_cons_self, if_neg (by decide)]
  unfold pz
  rw [bU (by omega) (by omega), if_neg (by rw [decide_eq_true_eq]; omega), show (n : Int) + 1 = ((n + 1 : Nat) : Int) by omega, countP t (i + 1) (n + 1) (fun y hy => h y (List.mem_cons_of_mem _ hy)) (by omega), List.length_cons]
  congr 2; omega
theorem Pi {N : Nat} {p : gu} {d : Int} : ∀ (l : List av) (i : Nat), (∀ x ∈ l, x.Steps = [] ∧ kQ p x d = some 0) → iU p d (kY (N + 1)) l i = some 0
 | [], _, _ => rfl
 | x :: t, i, h => by
  obtain ⟨h1, h2⟩ := h x List.mem_cons_self
  have hz : ∀ e, kY (N + 1) p [] e = some 0 := fun e => rfl
  rw [iU, h2, Option.bind_some, if_neg (by decide), h1, hz, Option.bind_some, if_neg (by decide)]
  exact Pi t (i + 1) (fun y hy => h y (List.mem_cons_of_mem _ hy))
theorem Gt {N : Nat} {o : List (List au)} (hN : 20000000000 ≤ N) (hg : ∀ l ∈ o, xR l) (hf : o.flatten.length ≤ 2000) : jK N (iD o) = some 0 := by
 have h4 := De (fun l hl => (hg l hl).1)
 have h2 := tO o 1
 have hs : (iD o).Steps.length ≤ 1000 := by show (jr o 1).length ≤ _; omega
 obtain ⟨M, rfl⟩ : ∃ n, N = n + 2 := ⟨N - 2, by omega⟩
 have hw : mE (iD o).Unit 1 1000 = some true := rfl
 have hc : si (M + 2) (iD o).Steps = some ((0 + (iD o).Steps.length : Nat) : Int) :=
  countP (iD o).Steps 0 0 (fun x hx => (of_steps (o := o) hx).1) (by omega)
 have hk : kY (M + 2) (iD o) (iD o).Steps 0 = some 0 :=
  Pi (N := M) (iD o).Steps 0 (fun x hx => ⟨(of_steps (o := o) hx).1, by
   rcases vS hx with ⟨l, hl, rfl⟩ | rfl | rfl
   ·exact Tj (hg l hl) (by have := wN hl; omega) 0
   ·exact Pj (.inl rfl) 0
   ·exact Pj (.inr rfl) 0⟩)
 unfold jK
 rw [hw, Option.bind_some, if_neg (by decide), if_neg (by show ¬ decide (200 < ((0 : Nat) : Int)) = true; decide)]
 show jR (M + 2) (iD o) [] 0 = _
 rw [jR, hc, Option.bind_some, if_neg (by rw [decide_eq_true_eq]; omega), hk]
 rfl
theorem RN (q : au) : jO q = some q := rfl
theorem NU {α : Type} (pre suf : List α) (x y : α) : sets (pre ++ x :: suf) (pre.length : Int) y = some (pre ++ y :: suf) := by
 unfold sets
 rw [if_pos ⟨by omega, by simp⟩, Int.toNat_natCast, List.set_append_right _ _ (Nat.le_refl _)]
 simp
theorem Gg {y : au} : ∀ (suf pre : List au), bX y suf pre.length (pre ++ suf) = some (y.X, y.Y, pre ++ suf)
 | [], pre => by rw [bX]
 | q :: l, pre => by
  rw [bX, jE, Option.bind_some, RN, Option.bind_some, Option.bind_some, NU, Option.bind_some]
  have := Gg (y := y) l (pre ++ [q])
  rw [show (pre ++ [q]).length = pre.length + 1 by simp, ← AV] at this
  exact this
theorem Uz (x : av) : gJ x = some (x.At.X, x.At.Y, x.Points) := by
 unfold gJ
 rw [RN, Option.bind_some]
 exact Gg x.Points []
theorem set_mid {α : Type} (pre suf : List α) (x y : α) : (pre ++ x :: suf).set ((pre.length : Int).toNat) y = pre ++ y :: suf := by simp
theorem UK {α : Type} {l : List α} (h : l.length ≤ 4294967296) : yX ([] : List α) l = some l := by
 rw [lU (by simpa using h)]; simp
theorem Gh {rec : List av → Option (List av)} {l0 : List av} : ∀ (suf pre : List av) (m : Nat), (pre ++ suf).length = l0.length → l0.length ≤ 4000 →
  (∀ x ∈ suf, x.Points.length ≤ 2000 ∧ rec x.Steps = some x.Steps) → suf.length < m →
  bR rec l0 m (pre ++ suf) (pre.length : Int) = some (pre ++ suf)
 | [], pre, m, hl, h2, h, hm => by
  obtain ⟨m, rfl⟩ : ∃ k, m = k + 1 := ⟨m - 1, by omega⟩
  simp at hl
  rw [bR, if_neg (by simp; omega)]
 | x :: l, pre, m, hl, h2, h, hm => by
  obtain ⟨m, rfl⟩ : ∃ k, m = k + 1 := ⟨m - 1, by simp at hm; omega⟩
  simp at hm
  have hl' := hl
  simp at hl'
  obtain ⟨hx1, hx2⟩ := h x List.mem_cons_self
  have hcl : lC x.Points = some x.Points := by
   unfold lC
   rw [UK (by omega)]; rfl
  have hx : (⟨x.Kind, x.Name, x.At, x.Points, x.NX, x.NY, x.Steps⟩ : av) = x := by cases x; rfl
  rw [bR, if_pos (by simp; omega), jE, Option.bind_some, hcl, Option.bind_some, Option.bind_some, Option.bind_some, hx2, Option.bind_some, Option.bind_some, Option.bind_some, Uz, Option.bind_some, set_mid]
  have ih := Gh (rec := rec) l (pre ++ [x]) m (by simpa using hl) h2 (fun y hy => h y (List.mem_cons_of_mem _ hy)) (by omega)
  rw [← AV, ← AP _ x (by omega)] at ih
  rw [show (av.mk x.Kind x.Name (au.mk x.At.X x.At.Y) x.Points x.NX x.NY x.Steps) = x from hx]
  exact ih
theorem SC {N : Nat} {l : List av} (hN : 5000 ≤ N) (hl : l.length ≤ 4000) (h : ∀ x ∈ l, x.Points.length ≤ 2000 ∧ x.Steps = []) : eD N l = some l := by
 obtain ⟨N, rfl⟩ : ∃ n, N = n + 3 := ⟨N - 3, by omega⟩
 have hcl : kH l = some l := by
  unfold kH
  rw [UK (by omega)]; rfl
 show fF (N + 2) _ l = _
 unfold fF
 rw [hcl, Option.bind_some]
 refine Gh l [] (N + 2) rfl (by omega) (fun x hx => ⟨(h x hx).1, ?_⟩) (by omega)
 rw [(h x hx).2]; rfl
def W1 (l suf : List av) (i : Nat) (k : lw) : Option Int := jU l suf i k.dark k.tool k.place.X k.place.Y k.placed k.last.Kind k.last.Name k.last.At.X k.last.At.Y k.last.Points k.last.NX k.last.NY k.last.Steps
theorem MC {l pre suf : List av} {x : av} {k k' : lw} (he : l = pre ++ x :: suf) (hl : l.length ≤ 1000000) (h1 : lW x k suf = some false) (h2 : jy k x = some k') : W1 l (x :: suf) pre.length k = W1 l suf (pre.length + 1) k' := by
 have hlen : l.length = pre.length + (suf.length + 1) := by rw [he]; simp
 have c3 : cut l (bG ((pre.length : Int) + 1)) (l.length : Int) = some suf := by
  rw [bU (by omega) (by omega)]
  unfold cut
  rw [if_pos ⟨by omega, by omega, by omega⟩, Int.toNat_natCast, List.take_length, show ((pre.length : Int) + 1).toNat = pre.length + 1 by omega, he, show pre ++ x :: suf = (pre ++ [x]) ++ suf by simp, show pre.length + 1 = (pre ++ [x]).length by simp, List.drop_left]
 obtain ⟨a, b, c, d, e1, e2, e3, e4, e5, e6, e7⟩ := k
 unfold W1
 rw [jU, c3, Option.bind_some]
 have e : (av.mk e1 e2 (au.mk e3.X e3.Y) e4 e5 e6 e7) = ⟨e1, e2, e3, e4, e5, e6, e7⟩ := rfl
 have e' : (au.mk c.X c.Y) = c := rfl
 show ((lW x ⟨a, b, c, d, ⟨e1, e2, e3, e4, e5, e6, e7⟩⟩ suf).bind _) = _
 rw [h1, Option.bind_some, if_neg (by decide)]
 show ((jy ⟨a, b, c, d, ⟨e1, e2, e3, e4, e5, e6, e7⟩⟩ x).bind _) = _
 rw [h2, Option.bind_some]
theorem Ul (l : List au) (k : lw) (r : List av) : lW (nY l) k r = some false := rfl
theorem Vt (l : List au) (k : lw) : ∃ k', jy k (nY l) = some k' ∧ k'.dark = k.dark := ⟨_, rfl, rfl⟩
theorem Uk {c : Int} (hc : c = 1 ∨ c = 2) (l : List au) (k : lw) (h : c ≠ k.dark) (r : List av) : lW (qG c) k (nY l :: r) = some false := by
 have hn : wo (nY l :: r) [1, 2, 5, 6, 7, 8] = some 7 := rfl
 have hd : uK 7 = some true := rfl
 have e : (c == k.dark) = false := by simpa using h
 have hj : kD (qG c) k (nY l :: r) true = some false := by
  unfold kD
  rw [if_pos rfl, hn, Option.bind_some]
  show ((if (c == k.dark) = true then _ else _ : Option Bool).bind _) = _
  rw [e, if_neg (by decide), hd]
  rfl
 rcases hc with rfl | rfl <;> exact hj
theorem Vr {c : Int} (hc : c = 1 ∨ c = 2) (k : lw) : ∃ k', jy k (qG c) = some k' ∧ k'.dark = c := by
 rcases hc with rfl | rfl <;> exact ⟨_, rfl, rfl⟩
theorem Du {l : List av} (hl : l.length ≤ 1000000) : ∀ (o : List (List au)) (pre : List av) (d : Int) (k : lw), l = pre ++ jr o d → k.dark = d → W1 l (jr o d) pre.length k = some (-1)
 | [], _, _, _, _, _ => rfl
 | m :: t, pre, d, k, he, hk => by
  have hc : mQ m = 1 ∨ mQ m = 2 := by unfold mQ; split <;> simp
  have rest : ∀ (pre : List av) (k : lw), l = pre ++ nY m :: jr t (mQ m) → k.dark = mQ m → W1 l (nY m :: jr t (mQ m)) pre.length k = some (-1) := by
   intro pre k he hk
   obtain ⟨k', b1, b2⟩ := Vt m k
   rw [MC he hl (Ul m k _) b1]
   have := Du hl t (pre ++ [nY m]) (mQ m) k' (by rw [he]; simp) (b2.trans hk)
   rw [List.length_append, List.length_singleton] at this
   exact this
  rw [jr] at he ⊢
  by_cases c : mQ m = d
  ·rw [if_pos c] at he ⊢
   rw [← c] at he hk ⊢
   exact rest pre k he hk
  ·rw [if_neg c] at he ⊢
   obtain ⟨k', b1, b2⟩ := Vr hc k
   rw [MC he hl (Uk hc m k (by rw [hk]; exact c) _) b1]
   have := rest (pre ++ [qG (mQ m)]) k' (by rw [he]; simp) b2
   rw [List.length_append, List.length_singleton] at this
   exact this
theorem PU {N : Nat} {o : List (List au)} (hN : 20000000000 ≤ N) (hg : ∀ l ∈ o, xR l) (hf : o.flatten.length ≤ 2000) : su N (iD o) = some (iD o, 0) := by
 have h4 := De (fun l hl => (hg l hl).1)
 have h2 := tO o 1
 have hs : (iD o).Steps.length ≤ 1000 := by show (jr o 1).length ≤ _; omega
 have hown : eD N (iD o).Steps = some (iD o).Steps := SC (by omega) (by omega) fun x hx => by
  obtain ⟨h1, _, _, _, _, h7⟩ := of_steps (o := o) hx
  refine ⟨?_, h1⟩
  rcases h7 with h7 | h7
  ·rw [h7]; simp
  ·have := wN h7; omega
 obtain ⟨M, rfl⟩ : ∃ n, N = n + 1 := ⟨N - 1, by omega⟩
 have htl : iQ (M + 1) (iD o).Tools = some [] := rfl
 have hw : rY (iD o).Steps = some (-1) := Du (l := jr o 1) (by show (iD o).Steps.length ≤ _; omega) o [] 1 ⟨1, ⟨#[]⟩, ⟨0, 0⟩, false, ⟨0, ⟨#[]⟩, ⟨0, 0⟩, [], 0, 0, []⟩⟩ rfl rfl
 unfold su
 rw [Gt hN hg hf, Option.bind_some, if_neg (by decide)]
 unfold lS
 rw [htl, Option.bind_some, hown, Option.bind_some, Option.bind_some]
 show nk (iD o) (M + 1) = _
 rw [nk, hw, Option.bind_some, if_pos (by decide)]
theorem SQ : Es 7 = some ⟨#[55]⟩ := by
 unfold Es
 rw [if_pos (by decide)]
 have : Lib.decDigits (7 : Int).toNat = [55] := by
  unfold Lib.decDigits
  rw [dif_pos (by decide)]
  rfl
 rw [this]
theorem Nq {N : Nat} (hN : 10 ≤ N) : jg N = some true := by
 obtain ⟨N, rfl⟩ : ∃ n, N = n + 1 := ⟨N - 1, by omega⟩
 have h1 : jK (N + 1) ⟨7, [], []⟩ = some 0 := rfl
 have h2 : ul (N + 1) ⟨7, [], []⟩ = some (⟨#[117, 110, 105, 116, 32, 55, 10]⟩, 0) := by
  unfold ul
  rw [h1, Option.bind_some, if_neg (by decide)]
  show (Es 7).bind _ = _
  rw [SQ]
  rfl
 unfold jg
 rw [h2, Option.bind_some]
 simp [D7]
theorem Qt {N : Nat} {p : gu} (hN : nA p.Steps + 10 ≤ N) (ht : p.Tools = []) (hL : BV p.Steps) (hl : p.Steps.length ≤ 100000) : ku N p p = some true := by
 obtain ⟨M, rfl⟩ : ∃ n, N = n + 1 := ⟨N - 1, by omega⟩
 unfold ku
 rw [if_neg (by simp), D6 _ p.Steps (M + 1) (Nat.le_refl _) (by omega) (by omega) hL]
 simp only [Option.bind_some, Bool.not_true, Bool.false_eq_true, if_false]
 rw [jk, ht, if_neg (by decide)]
theorem KG (l : List aQ) : jd l l = some true := by
 obtain ⟨b, b1, b2⟩ := Gq l l
 rw [b1, b2.2 rfl]
theorem K7 {N : Nat} (hN : 20000000000 ≤ N) (r : List aQ) : iV N r = some true := by
 obtain ⟨y, y1, y2, y3⟩ := TA hN r
 have haw := Nq (N := N) (by omega)
 unfold iV
 by_cases h : y.2 = 0
 ·obtain ⟨hr, ls, o, l1, l2, l3, o1, o2, o3, o4⟩ := y3 h
  rw [l3] at o1
  have hC := Gt hN o2 o3
  have h4 := De (fun l hl => (o2 l hl).1)
  have h5 := tO o 1
  have h6 := Af o 1
  rw [o4, Option.bind_some, if_neg (by simp)]
  rcases P8 hN hr l1 l2 o1 o3 hC with hi | hi
  ·rw [hi, Option.bind_some, if_neg (by simp), PU hN o2 o3, Option.bind_some]
   simp only
   rw [KG, Option.bind_some, Qt (p := iD o) (by show nA (jr o 1) + 10 ≤ N; omega) rfl (QD o2 o3) (by show (jr o 1).length ≤ _; omega), haw]
   rfl
  ·rw [hi, Option.bind_some, if_pos (by decide), haw]
   rfl
 ·rw [y2 h, Option.bind_some, if_pos (by simpa using h), haw]
  rfl
theorem CP (l : List aQ) {X : Prop} (_ : X) : ∃ N, iV N l = some true := ⟨20000000000, K7 (Nat.le_refl _) l⟩
end Go.Proofs.YtcjeebkoafonpaaGreatDoor
