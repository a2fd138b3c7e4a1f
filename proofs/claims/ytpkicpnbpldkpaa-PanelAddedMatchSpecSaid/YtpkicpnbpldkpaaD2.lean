/- One board more on a panel: what the reference finds. Plain Lean about the plain functions. -/
import Derived.Test.YtpkicpnbpldkpaaD1
namespace Go.Proofs.Ytpkicpnbpldkpaa
/-- The order of slots: by Y, then X, then quarters. -/
def ltS (a b : TSlot) : Bool := if a.At.Y ≠ b.At.Y then decide (a.At.Y < b.At.Y) else if a.At.X ≠ b.At.X then decide (a.At.X < b.At.X) else decide (a.Quarters < b.Quarters)
theorem least_ok (a b : TSlot) : F_etchhouseref9_least a b = some (ltS a b) := by
  unfold F_etchhouseref9_least ltS
  by_cases h1 : a.At.Y = b.At.Y <;> by_cases h2 : a.At.X = b.At.X <;> simp [h1, h2]
/-- The better of what was found and a slot. -/
def better (p : TPanel) (o : Option TSlot) (s : TSlot) : Option TSlot :=
  match o with
  | none => if fitB p s then some s else none
  | some t => if ltS s t && fitB p s then some s else some t
def bestR (p : TPanel) (l : List TSlot) (o : Option TSlot) : Option TSlot := l.foldl (better p) o
/-- What is found, in the reference's words. -/
structure Rep (o : Option TSlot) (b : ByteArray) (q x y : Int) (f : Bool) : Prop where
  some : ∀ t, o = .some t → f = true ∧ t = ⟨b, q, ⟨x, y⟩⟩
  none : o = .none → f = false
def candY (b : ByteArray) (x : Int) (ys : List Int) : List TSlot := ys.flatMap fun y => [mkS b y x 0, mkS b y x 1]
def candR (b : ByteArray) (xs ys : List Int) : List TSlot := xs.flatMap fun x => candY b x ys
section
variable {N : Nat} {p : TPanel} {b : ByteArray} (hN : 20000000 ≤ N) (hB : PB p) (hk : kindIx p.Kinds b ≠ -1) (hs : ∀ s ∈ p.Slots, SlotOk p s) (hml : p.Marks.length ≤ 10) (hsl : p.Slots.length ≤ 500)
include hB hN hk hs hml hsl
omit hB hk hs hsl in
theorem marked_ok (c : TRect) : F_etchhouseref9_marked N p c = some (p.Marks.any fun m => inside c m) := by
  have key : ∀ (suf pre : List TPoint) (n : Nat), p.Marks = pre ++ suf → suf.length < n → F_etchhouseref9_marked_L1 p c n pre.length = some (suf.any fun m => inside c m) := by
    intro suf
    induction suf with
    | nil =>
      intro pre n h1 h2
      obtain ⟨n, rfl⟩ : ∃ m, n = m + 1 := ⟨n - 1, by omega⟩
      rw [F_etchhouseref9_marked_L1.eq_2, if_neg (by rw [h1]; simp)]; rfl
    | cons m suf ih =>
      intro pre n h1 h2
      obtain ⟨n, rfl⟩ : ∃ m, n = m + 1 := ⟨n - 1, by omega⟩
      have hl : pre.length ≤ 10 := by rw [h1] at hml; simp at hml; omega
      have hid : idx p.Marks (pre.length : Int) = some m := by rw [h1]; exact idx_mid pre suf m
      rw [F_etchhouseref9_marked_L1.eq_2, if_pos (by rw [h1]; exact lt_mid pre suf m), hid, Option.bind_some, List.any_cons, up_mid pre m (by omega), ih (pre ++ [m]) n (by rw [h1]; simp) (by simp at h2; omega)]
      show (if inside c m = true then some true else _) = _
      cases inside c m <;> rfl
  exact key p.Marks [] N rfl (by omega)
omit hml in
theorem fits_loop {s : TSlot} (hb : s.Board = b) (hx : Lim s.At.X) (hy : Lim s.At.Y) : ∀ (suf pre : List TSlot) (n : Nat), p.Slots = pre ++ suf → suf.length < n → F_etchhouseref9_fits_L1 N p s n pre.length = some (!((suf.map (cellOf p)).any fun d => !apart (cellOf p s) d p.Gap))
  | [], pre, n + 1, h1, _ => by rw [F_etchhouseref9_fits_L1.eq_2, if_neg (by rw [h1]; simp)]; rfl
  | t :: suf, pre, n + 1, h1, h2 => by
    have hkl := hB.klen
    have hks : kindIx p.Kinds s.Board ≠ -1 := by rw [hb]; exact hk
    have ht := hs t (by rw [h1]; simp)
    have htb := ht.bd hB
    have hl : pre.length ≤ 500 := by rw [h1] at hsl; simp at hsl; omega
    have hid : idx p.Slots (pre.length : Int) = some t := by rw [h1]; exact idx_mid pre suf t
    have hse : s = mkS s.Board s.At.Y s.At.X s.Quarters := rfl
    have hR : RB (cellOf p s) := by rw [hse]; exact (mk_cell hB hks hx hy).1
    unfold Lim at hx hy
    rw [F_etchhouseref9_fits_L1.eq_2, if_pos (by rw [h1]; exact lt_mid pre suf t), cellOfR_ok hB (by omega) hks (by omega) (by omega), Option.bind_some, hid, Option.bind_some, cellOfR_ok hB (by omega) ht.kind htb.1 htb.2.1, Option.bind_some,
      apartR_ok hR htb.2.2.1 hB.g0 hB.g1, Option.bind_some, up_mid pre t (by omega), fits_loop hb ⟨by omega, by omega⟩ ⟨by omega, by omega⟩ suf (pre ++ [t]) n (by rw [h1]; simp) (by simp at h2; omega), List.map_cons, List.any_cons]
    cases apart (cellOf p s) (cellOf p t) p.Gap <;> simp
theorem fits_ok {x y q : Int} (hx : Lim x) (hy : Lim y) : F_etchhouseref9_fits N p (mkS b y x q) = some (fitB p (mkS b y x q)) := by
  have hkl := hB.klen
  have hz := sizeWH hB hk q
  have b1 := hB.w1; have b2 := hB.h1; have b3 := hB.r0; have b4 := hB.r1; have b5 := hB.w0; have b6 := hB.h0
  have hix := hx; have hiy := hy
  unfold Lim at hix hiy
  rcases kindIx_lo p.Kinds b with h | ⟨h0, hi, _, _⟩
  · exact absurd h hk
  have hl : F_etchhouseref9_lies p (mkS b y x q).At (sizeW (kindOf p.Kinds b) q) (sizeH (kindOf p.Kinds b) q) = some (okAt p (mkS b y x q)) := by
    unfold F_etchhouseref9_lies okAt
    rw [withinR_ok, withinR_ok, Option.bind_some, Option.bind_some, w64_id (x := p.W - p.Rail) (by omega) (by omega), w64_id (x := p.H - p.Rail) (by omega) (by omega), w64_id (x := p.W - p.Rail - _) (by omega) (by omega), w64_id (x := p.H - p.Rail - _) (by omega) (by omega), eif, Option.bind_some]
    congr 1
    rw [Bool.eq_iff_iff]
    simp only [Bool.and_eq_true, decide_eq_true_eq, within_iff]
    unfold cellOf mkS
    dsimp only
    omega
  unfold F_etchhouseref9_fits
  rw [show (mkS b y x q).Board = b from rfl, kindR_ok b (by omega) (by omega), Option.bind_some, hi, Option.bind_some, show (mkS b y x q).Quarters = q from rfl, sizeOfR_ok, Option.bind_some, hl, Option.bind_some,
    cellOfR_ok hB (by omega) hk (by show _ ≤ x ∧ x ≤ _; omega) (by show _ ≤ y ∧ y ≤ _; omega), Option.bind_some, marked_ok hN hml, Option.bind_some]
  have := fits_loop hN hB hk hs hsl (s := mkS b y x q) rfl hx hy p.Slots [] N rfl (by omega)
  rw [show ((([] : List TSlot).length : Nat) : Int) = 0 from rfl] at this
  rw [this]
  unfold fitB
  cases okAt p (mkS b y x q) <;> cases (p.Marks.any fun m => inside (cellOf p (mkS b y x q)) m) <;> simp
/-- One step of the search. -/
theorem best_q {l131 l132 : List Int} {i j : Int} {x y q : Int} (hx : Lim x) (hy : Lim y) (hi : idx l131 i = some x) (hj : idx l132 j = some y) (hq : q < 2) (hq0 : 0 ≤ q) {K : ByteArray → Int → Int → Int → Bool → Int → Option (TPanel × Bool × Int)} (m : Nat) {o : Option TSlot} {b0 : ByteArray} {q0 x0 y0 : Int} {f0 : Bool} (ho : Rep o b0 q0 x0 y0 f0) :
    ∃ b1 q1 x1 y1 f1, F_etchhouseref9_Added_L14 N p b l131 l132 i j K (m + 1) b0 q0 x0 y0 f0 q = F_etchhouseref9_Added_L14 N p b l131 l132 i j K m b1 q1 x1 y1 f1 (q + 1) ∧ Rep (better p o (mkS b y x q)) b1 q1 x1 y1 f1 := by
  rw [F_etchhouseref9_Added_L14.eq_2, if_pos (by simpa using hq), hi, Option.bind_some, hj, Option.bind_some, least_ok, Option.bind_some, w64_id (x := q + 1) (by omega) (by omega)]
  have hf := fits_ok hN hB hk hs hml hsl (q := q) hx hy
  unfold mkS at hf
  rw [hf, Option.bind_some]
  cases o with
  | none =>
    have := ho.none rfl
    subst this
    simp only [Bool.not_false, if_true, Option.bind_some]
    cases hfb : fitB p ⟨b, q, ⟨x, y⟩⟩
    · simp only [Bool.false_eq_true, if_false]
      refine ⟨_, _, _, _, _, rfl, ?_⟩
      rw [show better p none (mkS b y x q) = none by unfold better mkS; simp [hfb]]
      exact ⟨fun t h => (nomatch h), fun _ => rfl⟩
    · simp only [if_true]
      refine ⟨_, _, _, _, _, rfl, ?_⟩
      rw [show better p none (mkS b y x q) = some ⟨b, q, ⟨x, y⟩⟩ by unfold better mkS; simp [hfb]]
      exact ⟨fun t h => ⟨rfl, (Option.some.inj h).symm⟩, fun h => nomatch h⟩
  | some t =>
    obtain ⟨rfl, ht⟩ := ho.some t rfl
    subst ht
    simp only [Bool.not_true, Bool.false_eq_true, if_false, Option.bind_some]
    cases hlt : ltS ⟨b, q, ⟨x, y⟩⟩ ⟨b0, q0, ⟨x0, y0⟩⟩
    · simp only [Bool.false_eq_true, if_false, Option.bind_some]
      refine ⟨_, _, _, _, _, rfl, ?_⟩
      rw [show better p (some ⟨b0, q0, ⟨x0, y0⟩⟩) (mkS b y x q) = some ⟨b0, q0, ⟨x0, y0⟩⟩ by unfold better mkS; simp [hlt]]
      exact ⟨fun t h => ⟨rfl, (Option.some.inj h).symm⟩, fun h => nomatch h⟩
    · cases hfb : fitB p ⟨b, q, ⟨x, y⟩⟩
      · simp only [Bool.false_eq_true, if_true, if_false, Option.bind_some]
        refine ⟨_, _, _, _, _, rfl, ?_⟩
        rw [show better p (some ⟨b0, q0, ⟨x0, y0⟩⟩) (mkS b y x q) = some ⟨b0, q0, ⟨x0, y0⟩⟩ by unfold better mkS; simp [hfb]]
        exact ⟨fun t h => ⟨rfl, (Option.some.inj h).symm⟩, fun h => nomatch h⟩
      · simp only [if_true, Option.bind_some]
        refine ⟨_, _, _, _, _, rfl, ?_⟩
        rw [show better p (some ⟨b0, q0, ⟨x0, y0⟩⟩) (mkS b y x q) = some ⟨b, q, ⟨x, y⟩⟩ by unfold better mkS; simp [hlt, hfb]]
        exact ⟨fun t h => ⟨rfl, (Option.some.inj h).symm⟩, fun h => nomatch h⟩
theorem best_y {l131 l132 : List Int} {i : Int} {x : Int} (hx : Lim x) (hi : idx l131 i = some x) (hi0 : 0 ≤ i ∧ i ≤ 1000) (hy : ∀ y ∈ l132, Lim y) (hl : l132.length ≤ 1000) {K : ByteArray → Int → Int → Int → Bool → Int → Option (TPanel × Bool × Int)} : ∀ (suf pre : List Int) (m : Nat) {o : Option TSlot} {b0 : ByteArray} {q0 x0 y0 : Int} {f0 : Bool}, l132 = pre ++ suf → suf.length < m → Rep o b0 q0 x0 y0 f0 →
    ∃ b1 q1 x1 y1 f1, F_etchhouseref9_Added_L13 N p b l131 l132 i K m b0 q0 x0 y0 f0 pre.length = K b1 q1 x1 y1 f1 (i + 1) ∧ Rep (bestR p (candY b x suf) o) b1 q1 x1 y1 f1
  | [], pre, m + 1, o, b0, q0, x0, y0, f0, h1, _, ho => by
    rw [F_etchhouseref9_Added_L13.eq_2, if_neg (by rw [h1]; simp), w64_id (x := i + 1) (by omega) (by omega)]
    exact ⟨_, _, _, _, _, rfl, ho⟩
  | y :: suf, pre, m + 1, o, b0, q0, x0, y0, f0, h1, h2, ho => by
    have hly := hy y (by rw [h1]; simp)
    have hpl : pre.length ≤ 1000 := by rw [h1] at hl; simp at hl; omega
    have hj : idx l132 (pre.length : Int) = some y := by rw [h1]; exact idx_mid pre suf y
    obtain ⟨n, hn⟩ : ∃ n, N = n + 3 := ⟨N - 3, by omega⟩
    rw [F_etchhouseref9_Added_L13.eq_2, if_pos (by rw [h1]; exact lt_mid pre suf y)]
    obtain ⟨b1, q1, x1, y1, f1, e1, r1⟩ := best_q hN hB hk hs hml hsl (K := F_etchhouseref9_Added_L13 N p b l131 l132 i K m) hx hly hi hj (q := 0) (by omega) (by omega) (n + 2) ho
    obtain ⟨b2, q2, x2, y2, f2, e2, r2⟩ := best_q hN hB hk hs hml hsl (K := F_etchhouseref9_Added_L13 N p b l131 l132 i K m) hx hly hi hj (q := 0 + 1) (by omega) (by omega) (n + 1) r1
    obtain ⟨b3, q3, x3, y3, f3, e3, r3⟩ := best_y hx hi hi0 hy hl (K := K) suf (pre ++ [y]) m (by rw [h1]; simp) (by simp at h2; omega) r2
    have hfu : F_etchhouseref9_Added_L14 N p b l131 l132 i pre.length (F_etchhouseref9_Added_L13 N p b l131 l132 i K m) N b0 q0 x0 y0 f0 0 = F_etchhouseref9_Added_L14 N p b l131 l132 i pre.length (F_etchhouseref9_Added_L13 N p b l131 l132 i K m) (n + 2 + 1) b0 q0 x0 y0 f0 0 := congrArg (fun z => F_etchhouseref9_Added_L14 N p b l131 l132 i pre.length (F_etchhouseref9_Added_L13 N p b l131 l132 i K m) z b0 q0 x0 y0 f0 0) hn
    rw [hfu, e1, e2, F_etchhouseref9_Added_L14.eq_2, if_neg (by simp), up_mid pre y (by omega), e3]
    exact ⟨_, _, _, _, _, rfl, r3⟩
/-- What the reference tells of what it found. -/
def tellR (N : Nat) (p : TPanel) (o : Option TSlot) : Option (TPanel × Bool × Int) :=
  match o with
  | none => some (p, false, 0)
  | some s => if p.Slots.length = 500 then some (zeroP, false, 2) else (F_etchhouseref9_laid N p (p.Slots ++ [s])).bind fun y => some (y.1, (y.2 == 0), y.2)
theorem best_x {l131 l132 : List Int} (hx : ∀ x ∈ l131, Lim x) (hy : ∀ y ∈ l132, Lim y) (hl1 : l131.length ≤ 1000) (hl : l132.length ≤ 1000) : ∀ (suf pre : List Int) (m : Nat) {o : Option TSlot} {b0 : ByteArray} {q0 x0 y0 : Int} {f0 : Bool}, l131 = pre ++ suf → suf.length < m → Rep o b0 q0 x0 y0 f0 →
    F_etchhouseref9_Added_L10 N p b l131 l132 m b0 q0 x0 y0 f0 pre.length = tellR N p (bestR p (candR b suf l132) o)
  | [], pre, m + 1, o, b0, q0, x0, y0, f0, h1, _, ho => by
    rw [F_etchhouseref9_Added_L10.eq_2, if_neg (by rw [h1]; simp)]
    show _ = tellR N p o
    unfold tellR
    cases o with
    | none => rw [ho.none rfl]; rfl
    | some t =>
      obtain ⟨rfl, ht⟩ := ho.some t rfl
      subst ht
      simp only [Bool.not_true, Bool.false_eq_true, if_false]
      by_cases h5 : p.Slots.length = 500
      · rw [if_pos (by simp; omega), if_pos h5]; rfl
      · rw [if_neg (by simp; omega), if_neg h5, apd_ok (by simp; omega), Option.bind_some, apd_ok (by simp; omega), Option.bind_some]
        rfl
  | x :: suf, pre, m + 1, o, b0, q0, x0, y0, f0, h1, h2, ho => by
    have hlx := hx x (by rw [h1]; simp)
    have hpl : pre.length ≤ 1000 := by rw [h1] at hl1; simp at hl1; omega
    have hi : idx l131 (pre.length : Int) = some x := by rw [h1]; exact idx_mid pre suf x
    rw [F_etchhouseref9_Added_L10.eq_2, if_pos (by rw [h1]; exact lt_mid pre suf x)]
    obtain ⟨b1, q1, x1, y1, f1, e1, r1⟩ := best_y hN hB hk hs hml hsl (K := F_etchhouseref9_Added_L10 N p b l131 l132 m) hlx hi ⟨by omega, by omega⟩ hy hl l132 [] N rfl (by omega) ho
    rw [show ((([] : List Int).length : Nat) : Int) = 0 from rfl] at e1
    have h3 := best_x hx hy hl1 hl suf (pre ++ [x]) m (by rw [h1]; simp) (by simp at h2; omega) r1
    rw [e1, show ((pre.length : Int) + 1) = ((pre ++ [x]).length : Int) by simp, h3]
    congr 1
    show bestR p (candR b suf l132) (bestR p (candY b x l132) o) = bestR p (candY b x l132 ++ candR b suf l132) o
    unfold bestR
    rw [List.foldl_append]
theorem addedR_l : ∀ (suf pre : List TSlot) (n : Nat) (l m : List Int), p.Slots = pre ++ suf → suf.length < n → l.length + suf.length ≤ 1000 → m.length + suf.length ≤ 1000 → l ++ (suf.map fun s => (cellOf p s).X1 + p.Gap) = xsOf p → m ++ (suf.map fun s => (cellOf p s).Y1 + p.Gap) = ysOf p →
    F_etchhouseref9_Added_L1 N p b (p.Slots.map (cellOf p)) n l m pre.length = tellR N p (bestR p (candR b (xsOf p) (ysOf p)) none)
  | [], pre, n + 1, l, m, h1, _, hl, hm, e1, e2 => by
    simp only [List.map_nil, List.append_nil] at e1 e2
    subst e1 e2
    simp at hl hm
    obtain ⟨l1, l2⟩ := lims hB hs
    rw [F_etchhouseref9_Added_L1.eq_2, if_neg (by rw [h1]; simp)]
    exact best_x hN hB hk hs hml hsl l1 l2 hl hm (xsOf p) [] N rfl (by omega) ⟨fun t h => (nomatch h), fun _ => rfl⟩
  | s :: suf, pre, n + 1, l, m, h1, h2, hl, hm2, e1, e2 => by
    have hb := (hs s (by rw [h1]; simp)).bd hB
    have b3 := hB.g0; have b4 := hB.g1
    have hpl : pre.length ≤ 500 := by rw [h1] at hsl; simp at hsl; omega
    simp only [List.length_cons] at hl hm2 h2
    have hid : idx (p.Slots.map (cellOf p)) (pre.length : Int) = some (cellOf p s) := by
      rw [idx_nat (by rw [h1]; simp)]
      simp [h1]
    rw [F_etchhouseref9_Added_L1.eq_2, if_pos (by rw [h1]; simp; omega), hid, Option.bind_some, w64_id (x := (cellOf p s).X1 + p.Gap) (by omega) (by omega), apd_ok (by simp; omega), Option.bind_some, Option.bind_some, w64_id (x := (cellOf p s).Y1 + p.Gap) (by omega) (by omega), apd_ok (by simp; omega), Option.bind_some, up_mid pre s (by omega)]
    exact addedR_l suf (pre ++ [s]) n _ _ (by rw [h1]; simp) (by omega) (by simp; omega) (by simp; omega) (by rw [← e1]; simp) (by rw [← e2]; simp)
omit hk hml in
theorem cellsR_ok : F_etchhouseref9_cells N p = some (p.Slots.map (cellOf p)) := by
  have key : ∀ (suf pre : List TSlot) (n : Nat), p.Slots = pre ++ suf → suf.length < n → F_etchhouseref9_cells_L1 N p n (pre.map (cellOf p)) pre.length = some (p.Slots.map (cellOf p)) := by
    intro suf
    induction suf with
    | nil =>
      intro pre n h1 h2
      obtain ⟨n, rfl⟩ : ∃ m, n = m + 1 := ⟨n - 1, by omega⟩
      rw [F_etchhouseref9_cells_L1.eq_2, if_neg (by rw [h1]; simp), h1]; simp
    | cons s suf ih =>
      intro pre n h1 h2
      obtain ⟨n, rfl⟩ : ∃ m, n = m + 1 := ⟨n - 1, by omega⟩
      have hkl := hB.klen
      have hsk := hs s (by rw [h1]; simp)
      have hl : pre.length ≤ 500 := by rw [h1] at hsl; simp at hsl; omega
      have hid : idx p.Slots (pre.length : Int) = some s := by rw [h1]; exact idx_mid pre suf s
      rw [F_etchhouseref9_cells_L1.eq_2, if_pos (by rw [h1]; exact lt_mid pre suf s), hid, Option.bind_some, cellOfR_ok hB (by omega) hsk.kind (hsk.bd hB).1 (hsk.bd hB).2.1, Option.bind_some, apd_ok (by simp; omega), Option.bind_some, up_mid pre s (by omega)]
      have := ih (pre ++ [s]) n (by rw [h1]; simp) (by simp at h2; omega)
      simpa using this
  exact key p.Slots [] N rfl (by omega)
end
/-- What the reference adds. -/
theorem AddedR_ok {N : Nat} {p : TPanel} (h : FuelP N p) (b : ByteArray) : F_etchhouseref9_Added N p b =
    if openErr p = 0 then if kindIx p.Kinds b = -1 then some (zeroP, false, 9) else tellR N p (bestR p (candR b (xsOf p) (ysOf p)) none) else some (zeroP, false, openErr p) := by
  have hN := h.big
  unfold F_etchhouseref9_Added
  rw [checkPanel_ok (by omega) h.kinds h.names, Option.bind_some]
  by_cases he : openErr p = 0
  · obtain ⟨hB, hsl, hml, hs⟩ := openErr_ok he
    have hkl := hB.klen
    rw [if_pos he, if_neg (by simpa using he), kindR_ok b (by omega) h.kinds, Option.bind_some]
    by_cases hk : kindIx p.Kinds b = -1
    · rw [if_pos (by simp [hk]), if_pos hk]; rfl
    · have h0 : 0 ≤ kindIx p.Kinds b := by rcases kindIx_lo p.Kinds b with h | h; exact absurd h hk; exact h.1
      rw [if_neg (by simp; omega), if_neg hk, cellsR_ok hN hB hs hsl, Option.bind_some]
      exact addedR_l hN hB hk hs hml hsl p.Slots [] N [p.Rail] [p.Rail] rfl (by omega) (by simp; omega) (by simp; omega) rfl rfl
  · rw [if_neg he, if_pos (by simpa using he)]; rfl
end Go.Proofs.Ytpkicpnbpldkpaa
