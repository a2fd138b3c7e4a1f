/- Plain words: counting loops over lists, numbers in range. No program. Conditions: none beyond each theorem's own. Rows of letters: what the library's functions over strings tell of letters below 128, and numerals. Plain Lean. Conditions: none beyond each theorem's own. Words and numerals: the program's and the reference's readers of them. Plain Lean about the plain functions. Words and numerals: the reference's readers of them. Plain Lean about the plain functions. The panel's check, as the program and the reference compute it: the same error. Plain Lean about the plain functions. The panel's check, ended: slots, marks, and the whole check of the program and of the reference. Plain Lean about the plain functions. A checked panel, with fuel. Plain Lean about the plain functions. A line of a panel's text, read: the program and the reference. Plain Lean about the plain functions. A line of a panel's text, read by the reference. Plain Lean about the plain functions. A panel's text, read whole: the program and the reference. Plain Lean about the plain functions. A panel's text, written: the program. Plain Lean about the plain functions. A panel's text, written by the reference; panels compared. Plain Lean about the plain functions. Words split and joined, lines cut, numerals read and written: each undoes the other. Plain Lean. Conditions: none beyond each theorem's own. A panel comes back from its text, and a text from its panel. Plain Lean about the plain functions. -/
import Derived.Test.YtmbjoffligicnaaGreatDoorJ2
import Derived.Lib.MapLaws
import Derived.Test.YtmbjoffligicnaaGreatDoorXF
import Derived.Lib.ItoaLen
namespace Go.Proofs.YtmbjoffligicnaaGreatDoor
theorem w64_id {x : Int} (h1 : -4611686018427387904 ≤ x) (h2 : x ≤ 4611686018427387904) : w64 x = x := w64_eq (by omega) (by omega)
theorem idx_mid {α : Type} (pre suf : List α) (x : α) : idx (pre ++ x :: suf) (pre.length : Int) = some x := by
  unfold idx
  rw [if_pos (by omega)]
  simp
theorem idx_nat {α : Type} {l : List α} {i : Nat} (h : i < l.length) : idx l (i : Int) = some l[i] := by
  unfold idx
  rw [if_pos (by omega)]
  simp [h]
theorem idx_lt {α : Type} {l : List α} {i : Int} (h0 : 0 ≤ i) (h : i < l.length) : ∃ x, idx l i = some x ∧ l[i.toNat]? = some x := by
  unfold idx
  rw [if_pos h0]
  exact ⟨l[i.toNat]'(by omega), by simp, by simp⟩
theorem lt_mid {α : Type} (pre suf : List α) (x : α) : decide ((pre.length : Int) < ((pre ++ x :: suf).length : Int)) = true := decide_eq_true (by simp; omega)
theorem lt_end {α : Type} (pre : List α) : decide ((pre.length : Int) < ((pre ++ []).length : Int)) = false := decide_eq_false (by simp)
theorem up_mid {α : Type} (pre : List α) (x : α) (h : pre.length ≤ 4611686018427387903) : w64 ((pre.length : Int) + 1) = ((pre ++ [x]).length : Int) := by
  rw [w64_id (by omega) (by omega)]; simp
theorem snoc_mid {α : Type} (pre suf : List α) (x : α) : pre ++ x :: suf = (pre ++ [x]) ++ suf := by simp
theorem apd_ok {α : Type} {l m : List α} (h : l.length + m.length ≤ 4294967296) : apd l m = some (l ++ m) := if_pos h
theorem cut_ok {α : Type} {l : List α} {n : Nat} (h : n ≤ l.length) : cut l 0 (n : Int) = some (l.take n) := by
  unfold cut
  rw [if_pos (by omega)]
  simp
theorem sEq_comm (s t : ByteArray) : sEq s t = sEq t s := by rw [sEq_dec, sEq_dec]; exact decide_eq_decide.2 eq_comm
def within (n lo hi : Int) : Bool := decide (lo ≤ n) && decide (n ≤ hi)
theorem within_iff {n lo hi : Int} : within n lo hi = true ↔ lo ≤ n ∧ n ≤ hi := by simp [within]
/-- The first place at which g holds, counted from i on; -1: none. -/
def ixOf {α : Type} (g : α → Bool) : List α → Int → Int
  | [], _ => -1
  | x :: l, i => if g x then i else ixOf g l (i + 1)
theorem ixOf_any {α : Type} (g : α → Bool) : ∀ (l : List α) (i : Int), 0 ≤ i → decide (0 ≤ ixOf g l i) = l.any g
  | [], _, _ => by simp [ixOf]
  | x :: l, i, hi => by
    unfold ixOf
    rw [List.any_cons]
    cases g x
    · simp [ixOf_any g l (i + 1) (by omega)]
    · simp [hi]
theorem ixOf_lo {α : Type} (g : α → Bool) : ∀ (l : List α) (i : Int), 0 ≤ i → (ixOf g l i = -1 ∧ l.any g = false) ∨ (i ≤ ixOf g l i ∧ ixOf g l i < i + l.length ∧ ∃ x, l[(ixOf g l i - i).toNat]? = some x ∧ g x = true)
  | [], _, _ => by simp [ixOf]
  | x :: l, i, hi => by
    have ih := ixOf_lo g l (i + 1) (by omega)
    unfold ixOf
    rw [List.any_cons]
    cases hg : g x
    · simp only [Bool.false_eq_true, if_false, Bool.false_or, List.length_cons]
      rcases ih with ih | ⟨h1, h2, y, h3, h4⟩
      · exact .inl ih
      · refine .inr ⟨by omega, by omega, y, ?_, h4⟩
        rw [show (ixOf g l (i + 1) - i).toNat = (ixOf g l (i + 1) - (i + 1)).toNat + 1 by omega]
        simpa using h3
    · right
      simp only [if_true, List.length_cons]
      exact ⟨by omega, by omega, x, by simp, hg⟩
end Go.Proofs.YtmbjoffligicnaaGreatDoor
namespace Go.Proofs.YtmbjoffligicnaaGreatDoor
/-- A string's letters. -/
def bs (s : ByteArray) : List UInt8 := s.data.toList
theorem bs_mk (l : List UInt8) : bs ⟨⟨l⟩⟩ = l := rfl
theorem bs_inj {s t : ByteArray} (h : bs s = bs t) : s = t := by
  obtain ⟨⟨l⟩⟩ := s
  obtain ⟨⟨m⟩⟩ := t
  have h : l = m := h
  rw [h]
theorem bs_size (s : ByteArray) : s.size = (bs s).length := Lib.size_eq s
theorem sEq_bs (s t : ByteArray) : sEq s t = decide (bs s = bs t) := by
  rw [sEq_dec]
  exact decide_eq_decide.2 ⟨fun h => by rw [h], bs_inj⟩
theorem bs_extract (s : ByteArray) (a b : Nat) : bs (s.extract a b) = ((bs s).drop a).take (b - a) := by
  have := Lib.extract_toList s a b
  rwa [Lib.toList_data] at this
theorem bs_app (s t : ByteArray) : bs (s ++ t) = bs s ++ bs t := by simp [bs]
theorem strCut_ok {s : ByteArray} {a b : Nat} (h1 : a ≤ b) (h2 : b ≤ s.size) : strCut s a b = some (s.extract a b) := by
  unfold strCut
  rw [if_pos ⟨by omega, by omega, by omega⟩]
  simp
theorem strAt_bs {s : ByteArray} {i : Nat} {c : UInt8} (h : (bs s)[i]? = some c) : strAt s i = some (c.toNat : Int) := by
  unfold strAt
  rw [if_pos (by omega)]
  have : s[(i : Int).toNat]? = some c := by
    obtain ⟨⟨l⟩⟩ := s
    have h : l[i]? = some c := h
    obtain ⟨hi, he⟩ := List.getElem?_eq_some_iff.1 h
    have hs : i < (ByteArray.mk ⟨l⟩).size := hi
    rw [Int.toNat_natCast, getElem?_pos (ByteArray.mk ⟨l⟩) i hs]
    have : (ByteArray.mk ⟨l⟩)[i] = l[i] := by simp [ByteArray.getElem_eq_getElem_data]
    rw [this, he]
  rw [this]; rfl
/-- Letters that stand for themselves. -/
theorem idx_bytes {p : Nat → Bool} (hp : ∀ x, 128 ≤ x → p x = true) (s : ByteArray) : ∀ (f pos : Nat), s.size - pos ≤ f → decide (0 ≤ Lib.idxFuncFrom p true s f pos) = ((bs s).drop pos).any fun b => p b.toNat
  | 0, pos, h => by
    have : (bs s).drop pos = [] := List.drop_eq_nil_of_le (by rw [← bs_size]; omega)
    rw [this]; rfl
  | f + 1, pos, h => by
    unfold Lib.idxFuncFrom
    by_cases hlt : pos < s.size
    · rw [if_pos hlt]
      have hl : pos < (bs s).length := by rw [← bs_size]; exact hlt
      rw [List.drop_eq_getElem_cons hl, List.any_cons]
      have hg : s.get! pos = (bs s)[pos] := by
        obtain ⟨⟨l⟩⟩ := s
        have hl : pos < l.length := hl
        show (Array.mk l)[pos]! = l[pos]
        simp [hl]
      rw [Lib.decode_at, hg]
      generalize (s.get! (pos + 1)).toNat = b1
      generalize (s.get! (pos + 2)).toNat = b2
      generalize (s.get! (pos + 3)).toNat = b3
      by_cases h0 : ((bs s)[pos]).toNat < 128
      · have hd : Lib.decodeN (s.size - pos) ((bs s)[pos]).toNat b1 b2 b3 = (((bs s)[pos]).toNat, 1) := by
          unfold Lib.decodeN; rw [if_pos h0]
        rw [hd]
        by_cases hpp : p ((bs s)[pos]).toNat = true
        · simp [hpp]
        · simp only [hpp, if_false, Bool.false_or, Bool.false_eq_true]
          exact idx_bytes hp s f (pos + 1) (by omega)
      · have hr : 128 ≤ (Lib.decodeN (s.size - pos) ((bs s)[pos]).toNat b1 b2 b3).1 := by
          rcases Lib.decodeN_shape (s.size - pos) ((bs s)[pos]).toNat b1 b2 b3 with ⟨h, _⟩ | ⟨_, _, _, h, e⟩ | ⟨_, _, _, _, h, _, e⟩ | ⟨_, _, _, _, _, h, _, e⟩ | e
          · exact absurd h h0
          · rw [e]; exact h
          · rw [e]; simp only; omega
          · rw [e]; simp only; omega
          · rw [e]; simp only; omega
        rw [if_pos (hp _ hr), hp _ (by omega)]
        simp
    · rw [if_neg hlt]
      have : (bs s).drop pos = [] := List.drop_eq_nil_of_le (by rw [← bs_size]; omega)
      rw [this]; rfl
/-- A letter that may stand in a row. -/
def rowC (b : UInt8) : Bool := decide (33 ≤ b.toNat) && decide (b.toNat ≤ 126)
theorem containsRow_ok (s : ByteArray) : containsF s (fun z => some ((decide (z < 33)) || (decide (126 < z)))) = some ((bs s).any fun b => !rowC b) := by
  unfold containsF
  rw [if_pos (show ∀ x : Nat, x < 1114112 → ((fun z : Int => some ((decide (z < 33)) || (decide (126 < z)))) (x : Int)).isSome = true from fun _ _ => rfl)]
  congr 1
  unfold Lib.idxFunc
  rw [idx_bytes (fun x hx => by simp; omega) s s.size 0 (by omega)]
  simp only [List.drop_zero]
  congr 1
  funext b
  simp only [Option.getD_some, rowC]
  by_cases h1 : b.toNat < 33
  · have : ¬ 33 ≤ b.toNat := by omega
    simp [this]; omega
  · by_cases h2 : b.toNat ≤ 126
    · simp [h2, show 33 ≤ b.toNat by omega]; omega
    · simp [h2]; omega
/-- A word. -/
def rowOk (s : ByteArray) : Bool := !(bs s).isEmpty && (bs s).all rowC
theorem any_not {α : Type} (g : α → Bool) : ∀ l : List α, (l.any fun x => !g x) = !l.all g
  | [] => rfl
  | x :: l => by rw [List.any_cons, List.all_cons, any_not g l]; cases g x <;> simp
/-! Numerals. -/
def isDig (b : UInt8) : Bool := decide (48 ≤ b.toNat) && decide (b.toNat ≤ 57)
theorem digs_ok (b : UInt8) : ([48, 49, 50, 51, 52, 53, 54, 55, 56, 57] : List UInt8).contains b = isDig b := by
  rw [Bool.eq_iff_iff]
  constructor
  · intro h
    simp at h
    rcases h with rfl | rfl | rfl | rfl | rfl | rfl | rfl | rfl | rfl | rfl <;> rfl
  · intro h
    simp [isDig] at h
    have h2 : b.toNat = 48 ∨ b.toNat = 49 ∨ b.toNat = 50 ∨ b.toNat = 51 ∨ b.toNat = 52 ∨ b.toNat = 53 ∨ b.toNat = 54 ∨ b.toNat = 55 ∨ b.toNat = 56 ∨ b.toNat = 57 := by omega
    have e : b = UInt8.ofNat b.toNat := by simp
    rcases h2 with h | h | h | h | h | h | h | h | h | h <;> (rw [e, h]; rfl)
theorem dw_head {α : Type} {c : α → Bool} {x : α} {t : List α} : ∀ {l : List α}, l.dropWhile c = x :: t → c x = false
  | [], h => by simp at h
  | y :: l, h => by
    rw [List.dropWhile_cons] at h
    split at h
    · exact dw_head h
    · rename_i hy
      have := (List.cons.inj h).1
      subst this; simpa using hy
theorem trimS_nil (l cs : List UInt8) : (Lib.trimS l cs = []) ↔ l.all (fun b => cs.contains b) = true := by
  unfold Lib.trimS Lib.trimLeftS Lib.trimRightS
  have hd : ∀ m : List UInt8, m.dropWhile (cs.contains ·) = [] ↔ ∀ x ∈ m, cs.contains x = true := fun m => by
    induction m with
    | nil => simp
    | cons y m ih =>
      rw [List.dropWhile_cons]
      cases hy : cs.contains y
      · simp only [Bool.false_eq_true, if_false]
        exact ⟨fun h => (by cases h), fun h => absurd (h y (by simp)) (by rw [hy]; decide)⟩
      · simp only [if_true]
        rw [ih]
        exact ⟨fun h x hx => by rcases List.mem_cons.1 hx with rfl | hx; exact hy; exact h x hx, fun h x hx => h x (by simp [hx])⟩
  rw [hd, List.all_eq_true]
  constructor
  · intro h
    cases hm : l.reverse.dropWhile (cs.contains ·) with
    | nil => intro x hx; exact (hd _).1 hm x (by simpa using hx)
    | cons y t =>
      have h1 := dw_head hm
      have h2 := h y (by rw [hm]; simp)
      rw [h1] at h2; cases h2
  · intro h x hx
    have : l.reverse.dropWhile (cs.contains ·) = [] := (hd _).2 fun x hx => h x (by simpa using hx)
    rw [this] at hx; simp at hx
theorem trimDigs {t : ByteArray} (h : t.size ≤ 9) : ∃ x, trimF t ⟨#[48, 49, 50, 51, 52, 53, 54, 55, 56, 57]⟩ = some x ∧ sEq x ⟨#[]⟩ = (bs t).all isDig := by
  unfold trimF
  rw [if_pos ⟨by omega, by decide, by decide⟩]
  refine ⟨_, rfl, ?_⟩
  rw [sEq_bs, Bool.eq_iff_iff, decide_eq_true_iff]
  have e : bs ⟨(Lib.trimS t.data.toList (ByteArray.mk #[48, 49, 50, 51, 52, 53, 54, 55, 56, 57]).data.toList).toArray⟩ = Lib.trimS (bs t) [48, 49, 50, 51, 52, 53, 54, 55, 56, 57] := by simp [bs]
  rw [e]
  have e2 : bs (ByteArray.mk #[]) = [] := rfl
  rw [e2, trimS_nil]
  have : (fun b => ([48, 49, 50, 51, 52, 53, 54, 55, 56, 57] : List UInt8).contains b) = isDig := funext digs_ok
  rw [this]
/-- The letters behind a sign. -/
def dgs : List UInt8 → List UInt8
  | 45 :: l => l
  | l => l
def neg : List UInt8 → Bool
  | 45 :: _ => true
  | _ => false
/-- A numeral's letters. -/
def numL (l : List UInt8) : Bool := ((decide (1 ≤ (dgs l).length) && decide ((dgs l).length ≤ 9)) && (dgs l).all isDig) && !(decide ((dgs l).head? = some 48) && !decide (l = [48]))
def numOk (s : ByteArray) : Bool := numL (bs s)
def numV (s : ByteArray) : Int := (Lib.atoi (bs s)).getD 0
theorem neg_dgs (l : List UInt8) : (neg l = true ∧ l = 45 :: dgs l) ∨ (neg l = false ∧ l = dgs l) := by
  unfold neg dgs
  split <;> simp_all
theorem isDig_val {b : UInt8} (h : isDig b = true) : ∃ d, Lib.digitVal b = some d := by
  simp [isDig] at h
  exact ⟨_, if_pos h⟩
theorem decFrom_dig : ∀ (l : List UInt8) (acc : Nat), l.all isDig = true → ∃ n, Lib.decFrom acc l = some n
  | [], acc, _ => ⟨acc, rfl⟩
  | b :: l, acc, h => by
    rw [List.all_cons, Bool.and_eq_true] at h
    obtain ⟨d, hd⟩ := isDig_val h.1
    unfold Lib.decFrom
    rw [hd]
    exact decFrom_dig l _ h.2
theorem atoi_dig {l : List UInt8} (h1 : 1 ≤ (dgs l).length) (h2 : (dgs l).all isDig = true) : ∃ v, Lib.atoi l = some v := by
  rcases neg_dgs l with ⟨_, h⟩ | ⟨hn, h⟩
  · rw [h]
    obtain ⟨n, hn⟩ := decFrom_dig (dgs l) 0 h2
    have : Lib.decNat (dgs l) = some n := by
      unfold Lib.decNat
      cases hd : dgs l with
      | nil => rw [hd] at h1; simp at h1
      | cons => rw [← hd]; simp [hd] at hn ⊢; exact hn
    simp [Lib.atoi, this]
  · cases hl : l with
    | nil => rw [← h, hl] at h1; simp at h1
    | cons b r =>
      have h3 := h2
      rw [← h, hl, List.all_cons, Bool.and_eq_true] at h3
      obtain ⟨n, hn⟩ := decFrom_dig (dgs l) 0 h2
      rw [← h, hl] at hn
      have hb : b ≠ 45 ∧ b ≠ 43 := by
        constructor
        · intro e; subst e; exact absurd h3.1 (by decide)
        · intro e; subst e; exact absurd h3.1 (by decide)
      have : Lib.decNat (b :: r) = some n := by simp [Lib.decNat]; exact hn
      simp [Lib.atoi, hb.1, hb.2, this]
theorem atoiF_ok {s : ByteArray} (h : numOk s = true) : atoiF s = some (numV s) := by
  unfold numOk numL at h
  simp only [Bool.and_eq_true, decide_eq_true_eq] at h
  obtain ⟨v, hv⟩ := atoi_dig h.1.1.1 h.1.2
  unfold atoiF
  have hs : s.size ≤ 18 := by
    rw [bs_size]
    rcases neg_dgs (bs s) with ⟨_, e⟩ | ⟨_, e⟩
    · rw [e, List.length_cons]; omega
    · rw [e]; omega
  rw [if_pos hs]
  unfold numV
  show Lib.atoi (bs s) = _
  rw [hv]; rfl
end Go.Proofs.YtmbjoffligicnaaGreatDoor
namespace Go.Proofs.YtmbjoffligicnaaGreatDoor
theorem sEq_nil (s : ByteArray) : sEq s ⟨#[]⟩ = (bs s).isEmpty := by
  rw [sEq_bs]
  show decide (bs s = []) = _
  cases bs s <;> simp
theorem IsRow_ok (s : ByteArray) : F_plot_IsRow s = some (rowOk s) := by
  unfold F_plot_IsRow rowOk
  rw [sEq_nil]
  cases h : (bs s).isEmpty
  · have hc : containsF s (fun z0 => F_plot_IsRow_1 z0) = some ((bs s).any fun b => !rowC b) := containsRow_ok s
    rw [hc, any_not]; simp
  · simp
theorem IndexS_ok {g : ByteArray → Bool} {f : ByteArray → Option Bool} : ∀ (l : List ByteArray) (i : Nat), (∀ x ∈ l, f x = some (g x)) → F_slices_IndexFunc_string_L1 f l i = some (ixOf g l i)
  | [], i, _ => rfl
  | x :: l, i, h => by
    unfold F_slices_IndexFunc_string_L1 ixOf
    rw [h x (by simp), Option.bind_some, IndexS_ok l (i + 1) (fun y hy => h y (by simp [hy]))]
    cases g x <;> simp
theorem ContainsS_ok {g : ByteArray → Bool} {f : ByteArray → Option Bool} {l : List ByteArray} (h : ∀ x ∈ l, f x = some (g x)) : F_slices_ContainsFunc_string l f = some (l.any g) := by
  unfold F_slices_ContainsFunc_string F_slices_IndexFunc_string
  have := IndexS_ok l 0 h
  rw [show ((0 : Nat) : Int) = 0 from rfl] at this
  rw [this, Option.bind_some, ixOf_any g l 0 (by omega)]
theorem hasMinus (s : ByteArray) : F_stringslite_HasPrefix s ⟨#[45]⟩ = some (neg (bs s)) := by
  unfold F_stringslite_HasPrefix
  have hp : (ByteArray.mk #[45]).size = 1 := rfl
  simp only [hp]
  cases hb : bs s with
  | nil =>
    have hs : s.size = 0 := by rw [bs_size, hb]; rfl
    rw [hs]; simp [neg]
  | cons b l =>
    have hs : 1 ≤ s.size := by rw [bs_size, hb]; simp
    have h1 : decide (((1 : Nat) : Int) ≤ (s.size : Int)) = true := decide_eq_true (by omega)
    rw [h1, if_pos rfl, show (0 : Int) = ((0 : Nat) : Int) from rfl, strCut_ok (by omega) hs]
    simp only [Option.bind_some]
    rw [sEq_bs, bs_extract, hb]
    show some (decide ([b] = [45])) = _
    by_cases h : b = 45
    · subst h; rfl
    · unfold neg
      split
      · rename_i e; exact absurd (List.cons.inj e).1 h
      · simp [h]
theorem trimMinus (s : ByteArray) : ∃ t, F_strings_TrimPrefix s ⟨#[45]⟩ = some t ∧ bs t = dgs (bs s) := by
  unfold F_strings_TrimPrefix F_stringslite_TrimPrefix
  rw [hasMinus, Option.bind_some]
  rcases neg_dgs (bs s) with ⟨hn, hd⟩ | ⟨hn, hd⟩
  · rw [hn, if_pos rfl]
    have hs : 1 ≤ s.size := by rw [bs_size, hd]; simp
    have hp : (ByteArray.mk #[45]).size = 1 := rfl
    rw [hp, strCut_ok hs (Nat.le_refl _)]
    refine ⟨_, rfl, ?_⟩
    rw [bs_extract, List.take_of_length_le (by rw [List.length_drop, bs_size]; omega)]
    conv => lhs; rw [hd]
    rfl
  · rw [hn]; exact ⟨s, rfl, hd⟩
theorem Number_ok (s : ByteArray) : F_plot_Number s = some (if numOk s then (numV s, true) else (0, false)) := by
  unfold F_plot_Number
  obtain ⟨t, ht, hb⟩ := trimMinus s
  have hsz : t.size = (dgs (bs s)).length := by rw [bs_size, hb]
  rw [ht, Option.bind_some]
  by_cases h1 : 1 ≤ (dgs (bs s)).length ∧ (dgs (bs s)).length ≤ 9
  · have c1 : (decide ((t.size : Int) < 1) || decide (9 < (t.size : Int))) = false := by
      simp only [Bool.or_eq_false_iff, decide_eq_false_iff_not]; omega
    obtain ⟨x, hx, hd⟩ := trimDigs (t := t) (by omega)
    rw [c1, if_neg (by decide), hx]
    simp only [Option.bind_some]
    rw [hd, hb]
    by_cases h2 : (dgs (bs s)).all isDig = true
    · obtain ⟨c, hc⟩ : ∃ c, (dgs (bs s))[0]? = some c := ⟨_, List.getElem?_eq_getElem (by omega)⟩
      have h3 := strAt_bs (s := t) (i := 0) (c := c) (by rw [hb]; exact hc)
      have h3 : strAt t 0 = some (c.toNat : Int) := h3
      have c3 : ((c.toNat : Int) == 48 && !sEq s ⟨#[48]⟩) = (decide ((dgs (bs s)).head? = some 48) && !decide (bs s = [48])) := by
        have e1 : ((c.toNat : Int) == 48) = decide ((dgs (bs s)).head? = some 48) := by
          rw [List.head?_eq_getElem?, hc, Bool.eq_iff_iff]
          simp only [beq_iff_eq, decide_eq_true_eq, Option.some.injEq]
          constructor
          · intro h; exact UInt8.toNat_inj.1 (by show c.toNat = 48; omega)
          · intro h; subst h; rfl
        rw [e1, sEq_bs]; rfl
      rw [h2]
      simp only [Bool.not_true, Bool.false_eq_true, if_false]
      rw [h3]
      simp only [Option.bind_some]
      rw [c3]
      cases hz : (decide ((dgs (bs s)).head? = some 48) && !decide (bs s = [48]))
      · have hn : numOk s = true := by
          unfold numOk numL; rw [hz, h2]; simp [h1]
        rw [atoiF_ok hn, hn]; rfl
      · have hn : numOk s = false := by
          unfold numOk numL; rw [hz]; simp
        rw [hn]; rfl
    · have h2 : (dgs (bs s)).all isDig = false := by simpa using h2
      have hn : numOk s = false := by unfold numOk numL; rw [h2]; simp
      rw [h2, hn]; rfl
  · have c1 : (decide ((t.size : Int) < 1) || decide (9 < (t.size : Int))) = true := by
      simp only [Bool.or_eq_true, decide_eq_true_eq]; omega
    have hn : numOk s = false := by
      unfold numOk numL
      have : (decide (1 ≤ (dgs (bs s)).length) && decide ((dgs (bs s)).length ≤ 9)) = false := by
        simp only [Bool.and_eq_false_iff, decide_eq_false_iff_not]; omega
      rw [this]; rfl
    rw [c1, hn]; rfl
/-- The numbers of words; none: some word is no numeral. -/
def nums (l : List ByteArray) : Option (List Int) := if l.all numOk then some (l.map numV) else none
def numsT (l : List ByteArray) : List Int × Bool := match nums l with | some m => (m, true) | none => ([], false)
theorem numsT_all {l : List ByteArray} (h : l.all numOk = true) : numsT l = (l.map numV, true) := by unfold numsT nums; rw [if_pos h]
theorem numsT_no {l : List ByteArray} (h : l.all numOk = false) : numsT l = ([], false) := by unfold numsT nums; rw [h]; rfl
theorem Numbers_loop : ∀ (l : List ByteArray) (i : Nat) (m : List Int), m.length + l.length ≤ 4294967296 → F_plot_Numbers_L1 l i m = some (if l.all numOk then (m ++ l.map numV, true) else ([], false))
  | [], i, m, _ => by simp [F_plot_Numbers_L1]
  | x :: l, i, m, h => by
    rw [List.length_cons] at h
    unfold F_plot_Numbers_L1
    rw [Number_ok, Option.bind_some, List.all_cons]
    cases hx : numOk x
    · rfl
    · simp only [if_true, Bool.not_true, Bool.false_eq_true, if_false, Bool.true_and]
      rw [apd_ok (by simp; omega), Option.bind_some, Numbers_loop l (i + 1) _ (by simp; omega)]
      cases l.all numOk <;> simp
theorem Numbers_ok {l : List ByteArray} (h : l.length ≤ 4294967296) : F_plot_Numbers l = some (numsT l) := by
  unfold F_plot_Numbers
  rw [Numbers_loop l 0 [] (by simpa using h)]
  cases hl : l.all numOk
  · rw [numsT_no hl]; rfl
  · rw [numsT_all hl]; simp
/-! The words of a line. -/
def words (s : ByteArray) : List ByteArray := Lib.splitB ⟨#[32]⟩ 0 (Lib.countB s ⟨#[32]⟩) s
theorem split_ok {s : ByteArray} (h : s.size < 4294967281) : splitF s ⟨#[32]⟩ = some (words s) := by
  unfold splitF
  rw [if_pos ⟨h, by decide⟩]; rfl
theorem words_len (s : ByteArray) : 1 ≤ (words s).length ∧ (words s).length ≤ s.size + 1 := by
  have h1 := Lib.splitB_all ⟨#[32]⟩ (by decide) 0 _ s rfl
  have h2 := Lib.countB_le ⟨#[32]⟩ (by decide) s.size s (Nat.le_refl _)
  unfold words
  omega
theorem splitB_size (sep : ByteArray) : ∀ (k : Nat) (s : ByteArray), ∀ x ∈ Lib.splitB sep 0 k s, x.size ≤ s.size
  | 0, s, x, hx => by
    rw [Lib.splitB_zero] at hx
    simp at hx; subst hx; exact Nat.le_refl _
  | k + 1, s, x, hx => by
    unfold Lib.splitB at hx
    split at hx
    · simp at hx; subst hx; exact Nat.le_refl _
    · rcases List.mem_cons.1 hx with rfl | hx
      · rw [bs_size, bs_extract, bs_size]
        simp only [List.length_take, List.length_drop]; omega
      · have := splitB_size sep k _ x hx
        refine Nat.le_trans this ?_
        rw [bs_size, bs_extract, bs_size]
        simp only [List.length_take, List.length_drop]; omega
theorem words_size {s x : ByteArray} (h : x ∈ words s) : x.size ≤ s.size := splitB_size _ _ _ x h
end Go.Proofs.YtmbjoffligicnaaGreatDoor
namespace Go.Proofs.YtmbjoffligicnaaGreatDoor
theorem cutMinus (s : ByteArray) : ∃ t, F_strings_CutPrefix s ⟨#[45]⟩ = some (t, neg (bs s)) ∧ bs t = dgs (bs s) := by
  unfold F_strings_CutPrefix F_stringslite_CutPrefix
  rw [hasMinus, Option.bind_some]
  rcases neg_dgs (bs s) with ⟨hn, hd⟩ | ⟨hn, hd⟩
  · rw [hn]
    have hs : 1 ≤ s.size := by rw [bs_size, hd]; simp
    have hp : (ByteArray.mk #[45]).size = 1 := rfl
    simp only [Bool.not_true, Bool.false_eq_true, if_false]
    rw [hp, strCut_ok hs (Nat.le_refl _)]
    refine ⟨_, rfl, ?_⟩
    rw [bs_extract, List.take_of_length_le (by rw [List.length_drop, bs_size]; omega)]
    conv => lhs; rw [hd]
    rfl
  · rw [hn]; exact ⟨s, rfl, hd⟩
theorem NumberR_loop {p : ByteArray} {y : ByteArray × Bool} : ∀ (suf pre : List UInt8) (m : Nat), bs y.1 = pre ++ suf → (bs y.1).length ≤ 9 → suf.length < m →
    F_etchhouseref3_Number_L1 p y m pre.length = if suf.all isDig then (atoiF p).bind fun v => some (v, true) else some (0, false)
  | suf, pre, 0, _, _, h => absurd h (by omega)
  | [], pre, m + 1, hb, hl, _ => by
    unfold F_etchhouseref3_Number_L1
    have : decide ((pre.length : Int) < (y.1.size : Int)) = false := decide_eq_false (by rw [bs_size, hb]; simp)
    rw [this]; rfl
  | c :: suf, pre, m + 1, hb, hl, hm => by
    have hlen : (bs y.1).length = pre.length + (suf.length + 1) := by rw [hb]; simp
    unfold F_etchhouseref3_Number_L1
    have : decide ((pre.length : Int) < (y.1.size : Int)) = true := decide_eq_true (by rw [bs_size]; omega)
    rw [this, if_pos rfl]
    have hc : strAt y.1 (pre.length : Int) = some (c.toNat : Int) := strAt_bs (by rw [hb]; simp)
    rw [hc]
    simp only [Option.bind_some]
    have hg : (if decide ((c.toNat : Int) < 48) = true then some true else some (decide (57 < (c.toNat : Int)))) = some (!isDig c) := by
      unfold isDig
      by_cases h1 : c.toNat < 48
      · rw [if_pos (by simp; omega)]
        have : ¬ 48 ≤ c.toNat := by omega
        simp [this]
      · rw [if_neg (by simp; omega)]
        have : 48 ≤ c.toNat := by omega
        simp only [this, decide_true, Bool.true_and]
        congr 1
        by_cases h2 : c.toNat ≤ 57
        · simp [h2]; omega
        · simp [h2]; omega
    rw [hg, Option.bind_some, List.all_cons]
    cases hd : isDig c
    · rfl
    · simp only [Bool.not_true, Bool.false_eq_true, if_false, Bool.true_and]
      have e : w64 ((pre.length : Int) + 1) = ((pre ++ [c]).length : Int) := up_mid pre c (by omega)
      rw [e]
      exact NumberR_loop suf (pre ++ [c]) m (by rw [hb]; simp) hl (by simp at hm; omega)
theorem NumberR_ok {N : Nat} (hN : 20 ≤ N) (s : ByteArray) : F_etchhouseref3_Number N s = some (if numOk s then (numV s, true) else (0, false)) := by
  unfold F_etchhouseref3_Number
  obtain ⟨t, ht, hb⟩ := cutMinus s
  have hsz : t.size = (dgs (bs s)).length := by rw [bs_size, hb]
  rw [ht, Option.bind_some]
  have hw : F_etchhouseref3_within (t.size : Int) 1 9 = some (within t.size 1 9) := rfl
  simp only
  rw [hw, Option.bind_some]
  by_cases h1 : 1 ≤ (dgs (bs s)).length ∧ (dgs (bs s)).length ≤ 9
  · have c1 : within (t.size : Int) 1 9 = true := within_iff.2 (by omega)
    obtain ⟨c, hc⟩ : ∃ c, (dgs (bs s))[0]? = some c := ⟨_, List.getElem?_eq_getElem (by omega)⟩
    have h3 := strAt_bs (s := t) (i := 0) (c := c) (by rw [hb]; exact hc)
    have h3 : strAt t 0 = some (c.toNat : Int) := h3
    rw [c1, h3]
    simp only [Bool.not_true, Bool.false_eq_true, if_false, Option.bind_some]
    have c3 : ((c.toNat : Int) == 48 && (decide (1 < (t.size : Int)) || neg (bs s))) = (decide ((dgs (bs s)).head? = some 48) && !decide (bs s = [48])) := by
      have e1 : ((c.toNat : Int) == 48) = decide ((dgs (bs s)).head? = some 48) := by
        rw [List.head?_eq_getElem?, hc, Bool.eq_iff_iff]
        simp only [beq_iff_eq, decide_eq_true_eq, Option.some.injEq]
        constructor
        · intro h; exact UInt8.toNat_inj.1 (by show c.toNat = 48; omega)
        · intro h; subst h; rfl
      rw [e1]
      by_cases hh : (dgs (bs s)).head? = some 48
      · have e2 : (decide (1 < (t.size : Int)) || neg (bs s)) = !decide (bs s = [48]) := by
          rcases neg_dgs (bs s) with ⟨hn, hd⟩ | ⟨hn, hd⟩
          · rw [hn, hd]; simp
          · rw [hn, hsz]
            rw [← hd] at hh ⊢
            clear hd hc h3 e1 hsz hb ht
            cases hl : bs s with
            | nil => rw [hl] at hh; cases hh
            | cons b r =>
              rw [hl] at hh
              have hh : b = 48 := Option.some.inj hh
              subst hh
              cases r with
              | nil => rfl
              | cons a r => 
                have h1 : decide (1 < (((48 :: a :: r : List UInt8).length : Nat) : Int)) = true := decide_eq_true (by simp only [List.length_cons]; omega)
                have h2 : decide ((48 :: a :: r : List UInt8) = [48]) = false := decide_eq_false (by simp)
                rw [h1, h2]; rfl
        rw [e2]
      · simp [hh]
    rw [c3]
    cases hz : (decide ((dgs (bs s)).head? = some 48) && !decide (bs s = [48]))
    · simp only [Bool.false_eq_true, if_false]
      have := NumberR_loop (p := s) (y := (t, neg (bs s))) (bs t) [] N rfl (by rw [← bs_size]; show t.size ≤ 9; omega) (by rw [← bs_size]; omega)
      rw [show ((([] : List UInt8).length : Nat) : Int) = 0 from rfl] at this
      rw [this, hb]
      by_cases h2 : (dgs (bs s)).all isDig = true
      · have hn : numOk s = true := by
          unfold numOk numL; rw [hz, h2]; simp [h1]
        rw [h2, atoiF_ok hn, hn]; rfl
      · have h2 : (dgs (bs s)).all isDig = false := by simpa using h2
        have hn : numOk s = false := by unfold numOk numL; rw [h2]; simp
        rw [h2, hn]; rfl
    · have hn : numOk s = false := by
        unfold numOk numL; rw [hz]; simp
      rw [hn]; rfl
  · have c1 : within (t.size : Int) 1 9 = false := by
      rw [Bool.eq_false_iff]; intro h; have := within_iff.1 h; omega
    have hn : numOk s = false := by
      unfold numOk numL
      have : (decide (1 ≤ (dgs (bs s)).length) && decide ((dgs (bs s)).length ≤ 9)) = false := by
        simp only [Bool.and_eq_false_iff, decide_eq_false_iff_not]; omega
      rw [this]; rfl
    rw [c1, hn]; rfl
theorem NumbersR_loop {N : Nat} (hN : 20 ≤ N) {l : List ByteArray} (hl : l.length ≤ 4294967296) : ∀ (suf pre : List ByteArray) (m : Nat), l = pre ++ suf → suf.length < m → pre.all numOk = true →
    F_etchhouseref3_Numbers_L1 N l m (pre.map numV) pre.length = some (if suf.all numOk then (l.map numV, true) else ([], false))
  | suf, pre, 0, _, h, _ => absurd h (by omega)
  | [], pre, m + 1, hb, _, _ => by
    unfold F_etchhouseref3_Numbers_L1
    rw [hb, lt_end pre]; simp
  | x :: suf, pre, m + 1, hb, hm, hp => by
    have hlen : l.length = pre.length + (suf.length + 1) := by rw [hb]; simp
    unfold F_etchhouseref3_Numbers_L1
    have h1 : decide ((pre.length : Int) < (l.length : Int)) = true := decide_eq_true (by omega)
    have h2 : idx l (pre.length : Int) = some x := by rw [hb]; exact idx_mid pre suf x
    rw [h1, if_pos rfl, h2, Option.bind_some, NumberR_ok hN, Option.bind_some, List.all_cons]
    cases hx : numOk x
    · rfl
    · simp only [if_true, Bool.not_true, Bool.false_eq_true, if_false, Bool.true_and]
      rw [apd_ok (by simp; omega), Option.bind_some, up_mid pre x (by omega)]
      have := NumbersR_loop hN hl suf (pre ++ [x]) m (by rw [hb]; simp) (by simp at hm; omega) (by simp [hp, hx])
      rw [List.map_append] at this
      exact this
theorem NumbersR_ok {N : Nat} (hN : 20 ≤ N) {l : List ByteArray} (hl : l.length ≤ 4294967296) (hm : l.length < N) : F_etchhouseref3_Numbers N l = some (numsT l) := by
  unfold F_etchhouseref3_Numbers
  have := NumbersR_loop hN hl l [] N rfl hm rfl
  rw [show ((([] : List ByteArray).length : Nat) : Int) = 0 from rfl] at this
  rw [show (([] : List ByteArray).map numV) = ([] : List Int) from rfl] at this
  rw [this]
  cases h : l.all numOk
  · rw [numsT_no h]; rfl
  · rw [numsT_all h]; rfl
theorem Words4_loop {l : List ByteArray} {x : Nat} {w : ByteArray} {K : Int → Option (List ByteArray × Bool)} (hw : idx l (x : Int) = some w) (hs : w.size ≤ 4294967296) : ∀ (suf pre : List UInt8) (m : Nat), bs w = pre ++ suf → suf.length < m →
    F_etchhouseref3_Words_L4 l x K m pre.length = if suf.all rowC then K (w64 ((x : Int) + 1)) else some ([], false)
  | suf, pre, 0, _, h => absurd h (by omega)
  | [], pre, m + 1, hb, _ => by
    unfold F_etchhouseref3_Words_L4
    rw [hw, Option.bind_some]
    have : decide ((pre.length : Int) < (w.size : Int)) = false := decide_eq_false (by rw [bs_size, hb]; simp)
    rw [this]; rfl
  | c :: suf, pre, m + 1, hb, hm => by
    have hlen : w.size = pre.length + (suf.length + 1) := by rw [bs_size, hb]; simp
    unfold F_etchhouseref3_Words_L4
    have h1 : decide ((pre.length : Int) < (w.size : Int)) = true := decide_eq_true (by omega)
    have hc : strAt w (pre.length : Int) = some (c.toNat : Int) := strAt_bs (by rw [hb]; simp)
    simp only [hw, Option.bind_some, hc, h1, if_true]
    have hg : (if decide ((c.toNat : Int) < 33) = true then some true else some (decide (126 < (c.toNat : Int)))) = some (!rowC c) := by
      unfold rowC
      by_cases h1 : c.toNat < 33
      · rw [if_pos (by simp; omega)]
        have : ¬ 33 ≤ c.toNat := by omega
        simp [this]
      · rw [if_neg (by simp; omega)]
        have : 33 ≤ c.toNat := by omega
        simp only [this, decide_true, Bool.true_and]
        congr 1
        by_cases h2 : c.toNat ≤ 126
        · simp [h2]; omega
        · simp [h2]; omega
    rw [hg, Option.bind_some, List.all_cons]
    cases hd : rowC c
    · rfl
    · simp only [Bool.not_true, Bool.false_eq_true, if_false, Bool.true_and]
      rw [up_mid pre c (by omega)]
      exact Words4_loop hw hs suf (pre ++ [c]) m (by rw [hb]; simp) (by simp at hm; omega)
theorem Words3_loop {N : Nat} {l : List ByteArray} (hl : l.length ≤ 4294967296) (hs : ∀ w ∈ l, w.size ≤ 4294967296 ∧ w.size < N) : ∀ (suf pre : List ByteArray) (m : Nat), l = pre ++ suf → suf.length < m →
    F_etchhouseref3_Words_L3 N l m pre.length = some (if suf.all rowOk then (l, true) else ([], false))
  | suf, pre, 0, _, h => absurd h (by omega)
  | [], pre, m + 1, hb, _ => by
    unfold F_etchhouseref3_Words_L3
    have : decide ((pre.length : Int) < (l.length : Int)) = false := by rw [hb]; exact lt_end pre
    rw [this]; rfl
  | w :: suf, pre, m + 1, hb, hm => by
    have hlen : l.length = pre.length + (suf.length + 1) := by rw [hb]; simp
    unfold F_etchhouseref3_Words_L3
    have h1 : decide ((pre.length : Int) < (l.length : Int)) = true := decide_eq_true (by omega)
    have h2 : idx l (pre.length : Int) = some w := by rw [hb]; exact idx_mid pre suf w
    obtain ⟨k1, k2⟩ := hs w (by rw [hb]; simp)
    rw [h1, if_pos rfl, h2, Option.bind_some, sEq_nil, List.all_cons]
    unfold rowOk
    cases he : (bs w).isEmpty
    · have := Words4_loop (K := F_etchhouseref3_Words_L3 N l m) h2 k1 (bs w) [] N rfl (by rw [← bs_size]; exact k2)
      rw [show ((([] : List UInt8).length : Nat) : Int) = 0 from rfl] at this
      simp only [Bool.false_eq_true, if_false, Bool.not_false, Bool.true_and]
      rw [this]
      cases hr : (bs w).all rowC
      · rfl
      · simp only [if_true, Bool.true_and]
        rw [up_mid pre w (by omega)]
        exact Words3_loop hl hs suf (pre ++ [w]) m (by rw [hb]; simp) (by simp at hm; omega)
    · rfl
theorem Words_ok {N : Nat} {s : ByteArray} (h : s.size ≤ 200000) (hN : 200010 ≤ N) : F_etchhouseref3_Words N s = some (if (words s).all rowOk then (words s, true) else ([], false)) := by
  unfold F_etchhouseref3_Words
  rw [split_ok (by omega), Option.bind_some]
  have hl := words_len s
  have := Words3_loop (N := N) (l := words s) (by omega) (fun w hw => by have := words_size hw; omega) (words s) [] N rfl (by omega)
  rw [show ((([] : List ByteArray).length : Nat) : Int) = 0 from rfl] at this
  exact this
end Go.Proofs.YtmbjoffligicnaaGreatDoor
namespace Go.Proofs.YtmbjoffligicnaaGreatDoor
/-- Fuel that is enough for a panel. -/
structure Fuel (N : Nat) (p : TPanel) : Prop where
  big : 20000000 ≤ N
  kinds : p.Kinds.length < N
  slots : p.Slots.length < N
  marks : p.Marks.length < N
  names : ∀ k ∈ p.Kinds, k.Name.size < N
/-- What is known of an argument's lists. -/
structure Arg (p : TPanel) : Prop where
  kinds : p.Kinds.length ≤ 4611686018427387903
  slots : p.Slots.length ≤ 4611686018427387903
  marks : p.Marks.length ≤ 4611686018427387903
  names : ∀ k ∈ p.Kinds, k.Name.size ≤ 9223372036854775807
-- names
theorem strAt_ok {s : ByteArray} {i : Int} (h0 : 0 ≤ i) (h : i < s.size) : ∃ c, strAt s i = some c := by
  unfold strAt
  rw [if_pos h0]
  have : i.toNat < s.size := by omega
  exact ⟨_, by rw [getElem?_pos s i.toNat this]; rfl⟩
theorem IsName_some (s : ByteArray) (hs : s.size ≤ 9223372036854775807) : ∀ (r m : Nat) (x : Int), 0 ≤ x → x ≤ s.size → (s.size : Int) - x = r → r < m → ∃ b, F_plot_IsName_L1 s m x = some b ∧ ∀ m', r < m' → F_plot_IsName_L1 s m' x = some b
  | 0, m + 1, x, h0, h1, h2, _ => by
    have : x = s.size := by omega
    subst this
    refine ⟨_, by rw [F_plot_IsName_L1.eq_2, if_neg (by simp)], fun m' hm' => ?_⟩
    cases m' with
    | zero => omega
    | succ m' => rw [F_plot_IsName_L1.eq_2, if_neg (by simp)]
  | r + 1, m + 1, x, h0, h1, h2, h3 => by
    have hlt : x < s.size := by omega
    obtain ⟨c, hc⟩ := strAt_ok h0 hlt
    obtain ⟨b, hb, hb'⟩ := IsName_some s hs r m (x + 1) (by omega) (by omega) (by omega) (by omega)
    have hw : w64 (x + 1) = x + 1 := w64_eq (by omega) (by omega)
    have key : ∀ m', r + 1 < m' + 1 → F_plot_IsName_L1 s (m' + 1) x = if ((!(((decide (97 ≤ c)) && (decide (c ≤ 122))) || ((decide (65 ≤ c)) && (decide (c ≤ 90))))) && ((x == 0) || ((((decide (c < 48)) || (decide (57 < c))) && (c != 95)) && (c != 45)))) then some false else some b := fun m' hm' => by
      rw [F_plot_IsName_L1.eq_2, if_pos (by simpa using hlt), hc, Option.bind_some, hw, hb' m' (by omega)]
    generalize ((!(((decide (97 ≤ c)) && (decide (c ≤ 122))) || ((decide (65 ≤ c)) && (decide (c ≤ 90))))) && ((x == 0) || ((((decide (c < 48)) || (decide (57 < c))) && (c != 95)) && (c != 45)))) = g at key
    cases g
    · refine ⟨b, by rw [key m (by omega)]; rfl, fun m' hm' => ?_⟩
      obtain ⟨m2, rfl⟩ : ∃ m2, m' = m2 + 1 := ⟨m' - 1, by omega⟩
      rw [key m2 (by omega)]; rfl
    · refine ⟨false, by rw [key m (by omega)]; rfl, fun m' hm' => ?_⟩
      obtain ⟨m2, rfl⟩ : ∃ m2, m' = m2 + 1 := ⟨m' - 1, by omega⟩
      rw [key m2 (by omega)]; rfl
theorem IsName_same (s : ByteArray) : ∀ (m : Nat) (x : Int), F_etchhouseref3_IsName_L1 s m x = F_plot_IsName_L1 s m x
  | 0, _ => rfl
  | m + 1, x => by
    rw [F_etchhouseref3_IsName_L1.eq_2, F_plot_IsName_L1.eq_2]
    split
    · congr 1
      funext c
      rw [IsName_same s m]
      have : ((!(((decide (97 ≤ c)) && (decide (c ≤ 122))) || ((decide (65 ≤ c)) && (decide (c ≤ 90))))) && ((x == 0) || (((c != 95) && (c != 45)) && (!((decide (48 ≤ c)) && (decide (c ≤ 57))))))) = ((!(((decide (97 ≤ c)) && (decide (c ≤ 122))) || ((decide (65 ≤ c)) && (decide (c ≤ 90))))) && ((x == 0) || ((((decide (c < 48)) || (decide (57 < c))) && (c != 95)) && (c != 45)))) := by
        rw [Bool.eq_iff_iff]
        simp only [Bool.and_eq_true, Bool.or_eq_true, Bool.not_eq_true', bne_iff_ne, beq_iff_eq, decide_eq_true_eq, decide_eq_false_iff_not, Bool.and_eq_false_iff, Bool.or_eq_false_iff]
        omega
      rw [this]
    · rfl
/-- Is this a name? -/
def nameOk (s : ByteArray) : Bool := (F_plot_IsName_L1 s (s.size + 1) 0).getD false
theorem IsName_ok {s : ByteArray} {N : Nat} (hs : s.size ≤ 9223372036854775807) (hN : s.size < N) : F_plot_IsName N s = some (nameOk s) := by
  obtain ⟨b, hb, hb'⟩ := IsName_some s hs s.size (s.size + 1) 0 (by omega) (by omega) (by omega) (by omega)
  unfold F_plot_IsName nameOk
  rw [hb, hb' N hN]; rfl
theorem IsNameR_ok {s : ByteArray} {N : Nat} (hs : s.size ≤ 9223372036854775807) (hN : s.size < N) : F_etchhouseref3_IsName N s = some (nameOk s) := by
  unfold F_etchhouseref3_IsName
  rw [IsName_same]; exact IsName_ok hs hN
theorem within_ok (n lo hi : Int) : F_panel_within n lo hi = some (within n lo hi) := rfl
theorem withinR_ok (n lo hi : Int) : F_etchhouseref9_within n lo hi = some (within n lo hi) := rfl
-- kinds
/-- The error of the kinds, the name before known. -/
def kindsErr : Option ByteArray → List TBoardKind → Int
  | _, [] => 0
  | prev, k :: rest => if nameOk k.Name = false then 5 else if within k.W 1 1000000 = false ∨ within k.H 1 1000000 = false then 1
      else if (prev.any fun q => sLt k.Name q || sEq k.Name q) = true then 8 else kindsErr (some k.Name) rest
def checkKinds (l : List TBoardKind) : Int := if 50 < l.length then 2 else kindsErr none l
def prevOf (pre : List TBoardKind) : Option ByteArray := pre.getLast?.map (·.Name)
theorem kinds_loop {N : Nat} : ∀ (suf pre : List TBoardKind), (pre ++ suf).length ≤ 50 → (∀ k ∈ suf, k.Name.size ≤ 9223372036854775807 ∧ k.Name.size < N) → F_panel_checkKinds_L1 N (pre ++ suf) suf pre.length = some (kindsErr (prevOf pre) suf)
  | [], pre, _, _ => by rw [F_panel_checkKinds_L1.eq_1]; rfl
  | k :: suf, pre, hl, hn => by
    have ih := kinds_loop (N := N) suf (pre ++ [k]) (by simpa using hl) (fun k' hk' => hn k' (by simp [hk']))
    obtain ⟨h1, h2⟩ := hn k (by simp)
    have hpr : prevOf (pre ++ [k]) = some k.Name := by simp [prevOf]
    rw [hpr, ← snoc_mid, show (pre ++ [k]).length = pre.length + 1 by simp] at ih
    rw [F_panel_checkKinds_L1.eq_2, IsName_ok h1 h2, Option.bind_some]
    unfold kindsErr
    cases nameOk k.Name
    · rfl
    simp only [Bool.not_true, Bool.false_eq_true, if_false, reduceCtorEq, within_ok, Option.bind_some]
    cases hW : within k.W 1 1000000
    · simp
    cases hH : within k.H 1 1000000
    · simp
    simp only [Bool.not_true, Bool.false_eq_true, if_false, Option.bind_some, or_self, reduceCtorEq]
    rcases List.eq_nil_or_concat pre with rfl | ⟨pre', q, rfl⟩
    · simp only [List.length_nil, prevOf, List.getLast?_nil, Option.map_none, Option.any_none, Bool.false_eq_true, if_false]
      rw [if_neg (by simp), Option.bind_some]
      simp only [Bool.false_eq_true, if_false]
      simpa using ih
    · rw [List.concat_eq_append] at hl ih ⊢
      have hq : prevOf (pre' ++ [q]) = some q.Name := by simp [prevOf]
      rw [hq, if_pos (by simp), w64_id (by simp <;> omega) (by simp at hl ⊢ <;> omega), show (((pre' ++ [q]).length : Int) - 1) = (pre'.length : Int) by simp, List.append_assoc, List.singleton_append, idx_mid, Option.bind_some, Option.bind_some]
      rw [List.append_assoc, List.singleton_append] at ih
      simp only [Option.any_some]
      rw [ih]
      split <;> rfl
theorem checkKinds_ok {N : Nat} {l : List TBoardKind} (hn : ∀ k ∈ l, k.Name.size ≤ 9223372036854775807 ∧ k.Name.size < N) : F_panel_checkKinds N l = some (checkKinds l) := by
  unfold F_panel_checkKinds checkKinds
  by_cases h : 50 < l.length
  · rw [if_pos (by simp; omega), if_pos h]
  · rw [if_neg (by simp; omega), if_neg h]
    have := kinds_loop (N := N) l [] (by simp; omega) hn
    simpa [prevOf] using this
-- the same of the reference
theorem kindsR_loop {N : Nat} {p : TPanel} {K : Option Int} : ∀ (suf pre : List TBoardKind) (m : Nat), p.Kinds = pre ++ suf → p.Kinds.length ≤ 50 → (∀ k ∈ suf, k.Name.size ≤ 9223372036854775807 ∧ k.Name.size < N) → suf.length < m →
    (if decide (500 < (p.Slots.length : Int)) then some 2 else F_etchhouseref9_CheckPanel_L2 N p N 0) = K →
    F_etchhouseref9_CheckPanel_L1 N p m pre.length = if kindsErr (prevOf pre) suf = 0 then K else some (kindsErr (prevOf pre) suf)
  | [], pre, m + 1, hp, hl, _, _, hK => by
    rw [F_etchhouseref9_CheckPanel_L1.eq_2, hp, lt_end, if_neg (by simp), hK]
    simp [kindsErr]
  | k :: suf, pre, m + 1, hp, hl, hn, hm, hK => by
    have hpl : pre.length ≤ 50 := by rw [hp] at hl; simp at hl; omega
    have ih := kindsR_loop (N := N) suf (pre ++ [k]) m (by rw [hp]; simp) hl (fun k' hk' => hn k' (by simp [hk'])) (by simp at hm; omega) hK
    obtain ⟨h1, h2⟩ := hn k (by simp)
    have hpr : prevOf (pre ++ [k]) = some k.Name := by simp [prevOf]
    rw [hpr] at ih
    rw [F_etchhouseref9_CheckPanel_L1.eq_2, hp, lt_mid, if_pos rfl, idx_mid, Option.bind_some, IsNameR_ok h1 h2, Option.bind_some, up_mid _ k (by omega), ih]
    rw [kindsErr]
    cases nameOk k.Name
    · rfl
    simp only [Bool.not_true, Bool.false_eq_true, if_false, reduceCtorEq, withinR_ok, Option.bind_some]
    cases hW : within k.W 1 1000000
    · simp
    cases hH : within k.H 1 1000000
    · simp
    simp only [Bool.not_true, Bool.false_eq_true, if_false, Option.bind_some, or_self, reduceCtorEq]
    rcases List.eq_nil_or_concat pre with rfl | ⟨pre', q, rfl⟩
    · simp only [List.length_nil, prevOf, List.getLast?_nil, Option.map_none, Option.any_none, Bool.false_eq_true, if_false]
      rw [if_neg (by simp), Option.bind_some]
      simp only [Bool.false_eq_true, if_false]
    · rw [List.concat_eq_append] at hpl ⊢
      have hq : prevOf (pre' ++ [q]) = some q.Name := by simp [prevOf]
      rw [hq, if_pos (by simp), w64_id (by simp <;> omega) (by simp at hpl ⊢ <;> omega), show (((pre' ++ [q]).length : Int) - 1) = (pre'.length : Int) by simp, List.append_assoc, List.singleton_append, idx_mid, Option.bind_some, Option.bind_some]
      simp only [Option.any_some]
      split <;> simp
-- a kind by its name
def kindIx (l : List TBoardKind) (nm : ByteArray) : Int := ixOf (fun k => sEq k.Name nm) l 0
theorem IndexK_ok {g : TBoardKind → Bool} {f : TBoardKind → Option Bool} : ∀ (l : List TBoardKind) (i : Nat), (∀ x ∈ l, f x = some (g x)) → F_slices_IndexFunc_BoardKind_L1 f l i = some (ixOf g l i)
  | [], i, _ => rfl
  | x :: l, i, h => by
    rw [F_slices_IndexFunc_BoardKind_L1.eq_2, h x (by simp), Option.bind_some, IndexK_ok l (i + 1) (fun y hy => h y (by simp [hy])), ixOf, show ((i + 1 : Nat) : Int) = (i : Int) + 1 by omega]
    cases g x <;> rfl
theorem kindAt_ok (p : TPanel) (nm : ByteArray) : F_panel_kindAt p nm = some (kindIx p.Kinds nm) := by
  unfold F_panel_kindAt F_slices_IndexFunc_BoardKind
  rw [IndexK_ok (f := fun z0 => F_panel_kindAt_1 z0 nm) (g := fun k => sEq k.Name nm) p.Kinds 0 (fun x _ => rfl)]
  rfl
theorem kindR_loop {p : TPanel} {nm : ByteArray} : ∀ (suf pre : List TBoardKind) (m : Nat), p.Kinds = pre ++ suf → p.Kinds.length ≤ 4611686018427387903 → suf.length < m → F_etchhouseref9_kind_L1 p nm m pre.length = some (ixOf (fun k => sEq k.Name nm) suf pre.length)
  | [], pre, m + 1, hp, _, _ => by
    rw [F_etchhouseref9_kind_L1.eq_2, hp, lt_end]; rfl
  | k :: suf, pre, m + 1, hp, hl, hm => by
    have ih := kindR_loop (nm := nm) suf (pre ++ [k]) m (by rw [hp]; simp) hl (by simp at hm; omega)
    have hpl : pre.length ≤ 4611686018427387903 := by rw [hp] at hl; simp at hl; omega
    rw [F_etchhouseref9_kind_L1.eq_2, hp, lt_mid, if_pos rfl, idx_mid, Option.bind_some, up_mid _ k hpl, ih]
    rw [ixOf]
    cases sEq k.Name nm
    · simp
    · simp
theorem kindR_ok {N : Nat} {p : TPanel} (nm : ByteArray) (hl : p.Kinds.length ≤ 4611686018427387903) (hN : p.Kinds.length < N) : F_etchhouseref9_kind N p nm = some (kindIx p.Kinds nm) := by
  unfold F_etchhouseref9_kind kindIx
  simpa using kindR_loop (nm := nm) p.Kinds [] N rfl hl hN
-- sizes and cells
def sizeW (k : TBoardKind) (q : Int) : Int := if Int.tmod q 2 = 1 then k.H else k.W
def sizeH (k : TBoardKind) (q : Int) : Int := if Int.tmod q 2 = 1 then k.W else k.H
theorem sizeOf_ok (k : TBoardKind) (q : Int) : F_panel_sizeOf k q = some (sizeW k q, sizeH k q) := by
  unfold F_panel_sizeOf sizeW sizeH
  by_cases h : Int.tmod q 2 = 1 <;> simp [h]
theorem sizeOfR_ok (k : TBoardKind) (q : Int) : F_etchhouseref9_sizeOf k q = some (sizeW k q, sizeH k q) := sizeOf_ok k q
def kindAtI (l : List TBoardKind) (i : Int) : TBoardKind := (l[i.toNat]?).getD ⟨ByteArray.empty, 0, 0⟩
def kindOf (l : List TBoardKind) (nm : ByteArray) : TBoardKind := kindAtI l (kindIx l nm)
theorem kindIx_lo (l : List TBoardKind) (nm : ByteArray) : (kindIx l nm = -1) ∨ (0 ≤ kindIx l nm ∧ idx l (kindIx l nm) = some (kindOf l nm) ∧ kindOf l nm ∈ l ∧ (kindOf l nm).Name = nm) := by
  rcases ixOf_lo (fun k : TBoardKind => sEq k.Name nm) l 0 (by omega) with ⟨h, _⟩ | ⟨h1, h2, x, h3, h4⟩
  · exact .inl h
  · right
    have h3' : l[(kindIx l nm).toNat]? = some x := by
      have : (ixOf (fun k : TBoardKind => sEq k.Name nm) l 0 - 0).toNat = (kindIx l nm).toNat := by unfold kindIx; omega
      rw [← this]; exact h3
    have hk : kindOf l nm = x := by unfold kindOf kindAtI; rw [h3']; rfl
    have h1' : 0 ≤ kindIx l nm := h1
    refine ⟨h1', ?_, ?_, ?_⟩
    · unfold idx; rw [if_pos h1', h3', hk]
    · rw [hk]; exact List.mem_of_getElem? h3'
    · rw [hk]; exact sEq_iff.1 h4
/-- The cell of a slot (in whole numbers). -/
def cellOf (p : TPanel) (s : TSlot) : TRect := ⟨s.At.X, s.At.Y, s.At.X + sizeW (kindOf p.Kinds s.Board) s.Quarters, s.At.Y + sizeH (kindOf p.Kinds s.Board) s.Quarters⟩
/-- The bounds that a checked panel's numbers have. -/
structure PB (p : TPanel) : Prop where
  w0 : 1 ≤ p.W
  w1 : p.W ≤ 1000000
  h0 : 1 ≤ p.H
  h1 : p.H ≤ 1000000
  r0 : 0 ≤ p.Rail
  r1 : p.Rail ≤ 1000000
  g0 : 0 ≤ p.Gap
  g1 : p.Gap ≤ 1000000
  kinds : ∀ k ∈ p.Kinds, 1 ≤ k.W ∧ k.W ≤ 1000000 ∧ 1 ≤ k.H ∧ k.H ≤ 1000000
  klen : p.Kinds.length ≤ 50
theorem kindsErr_ok : ∀ {l : List TBoardKind} {q : Option ByteArray}, kindsErr q l = 0 → ∀ k ∈ l, 1 ≤ k.W ∧ k.W ≤ 1000000 ∧ 1 ≤ k.H ∧ k.H ≤ 1000000
  | [], _, _, k, hk => by cases hk
  | a :: l, q, h, k, hk => by
    unfold kindsErr at h
    split at h
    · omega
    · split at h
      · omega
      · rename_i h2
        split at h
        · omega
        · rcases List.mem_cons.1 hk with rfl | hk
          · have a1 : within k.W 1 1000000 = true := by cases hh : within k.W 1 1000000 <;> simp_all
            have a2 : within k.H 1 1000000 = true := by cases hh : within k.H 1 1000000 <;> simp_all
            have := within_iff.1 a1; have := within_iff.1 a2
            omega
          · exact kindsErr_ok h k hk
theorem sizeWH {p : TPanel} (hB : PB p) {nm : ByteArray} (h : kindIx p.Kinds nm ≠ -1) (q : Int) : 1 ≤ sizeW (kindOf p.Kinds nm) q ∧ sizeW (kindOf p.Kinds nm) q ≤ 1000000 ∧ 1 ≤ sizeH (kindOf p.Kinds nm) q ∧ sizeH (kindOf p.Kinds nm) q ≤ 1000000 := by
  rcases kindIx_lo p.Kinds nm with h' | ⟨_, _, hm, _⟩
  · exact absurd h' h
  · have := hB.kinds _ hm
    unfold sizeW sizeH
    split <;> omega
theorem cellOf_ok {p : TPanel} {s : TSlot} (hB : PB p) (hk : kindIx p.Kinds s.Board ≠ -1) (hx : -1000000000 ≤ s.At.X ∧ s.At.X ≤ 1000000000) (hy : -1000000000 ≤ s.At.Y ∧ s.At.Y ≤ 1000000000) : F_panel_cellOf p s = some (cellOf p s) := by
  have hs := sizeWH hB hk s.Quarters
  rcases kindIx_lo p.Kinds s.Board with h' | ⟨_, hi, _, _⟩
  · exact absurd h' hk
  · unfold F_panel_cellOf cellOf
    rw [kindAt_ok, Option.bind_some, hi, Option.bind_some, sizeOf_ok, Option.bind_some]
    simp only [w64_id (x := s.At.X + sizeW (kindOf p.Kinds s.Board) s.Quarters) (by omega) (by omega), w64_id (x := s.At.Y + sizeH (kindOf p.Kinds s.Board) s.Quarters) (by omega) (by omega)]
theorem cellOfR_ok {N : Nat} {p : TPanel} {s : TSlot} (hB : PB p) (hN : p.Kinds.length < N) (hk : kindIx p.Kinds s.Board ≠ -1) (hx : -1000000000 ≤ s.At.X ∧ s.At.X ≤ 1000000000) (hy : -1000000000 ≤ s.At.Y ∧ s.At.Y ≤ 1000000000) : F_etchhouseref9_cellOf N p s = some (cellOf p s) := by
  have hs := sizeWH hB hk s.Quarters
  rcases kindIx_lo p.Kinds s.Board with h' | ⟨_, hi, _, _⟩
  · exact absurd h' hk
  · unfold F_etchhouseref9_cellOf cellOf
    rw [kindR_ok _ (by have := hB.klen; omega) hN, Option.bind_some, hi, Option.bind_some, sizeOfR_ok, Option.bind_some]
    simp only [w64_id (x := s.At.X + sizeW (kindOf p.Kinds s.Board) s.Quarters) (by omega) (by omega), w64_id (x := s.At.Y + sizeH (kindOf p.Kinds s.Board) s.Quarters) (by omega) (by omega)]
-- slots
def apart (a b : TRect) (gap : Int) : Bool := ((decide (a.X1 + gap ≤ b.X0) || decide (b.X1 + gap ≤ a.X0)) || decide (a.Y1 + gap ≤ b.Y0)) || decide (b.Y1 + gap ≤ a.Y0)
def RB (r : TRect) : Prop := (-1000000000 ≤ r.X0 ∧ r.X0 ≤ 1000000000) ∧ (-1000000000 ≤ r.Y0 ∧ r.Y0 ≤ 1000000000) ∧ (-1000000000 ≤ r.X1 ∧ r.X1 ≤ 1000000000) ∧ (-1000000000 ≤ r.Y1 ∧ r.Y1 ≤ 1000000000)
theorem apart_ok {a b : TRect} {gap : Int} (ha : RB a) (hb : RB b) (h0 : 0 ≤ gap) (h1 : gap ≤ 1000000) : F_panel_isApart a b gap = some (apart a b gap) := by
  unfold RB at ha hb
  unfold F_panel_isApart apart
  rw [w64_id (x := a.X1 + gap) (by omega) (by omega), w64_id (x := b.X1 + gap) (by omega) (by omega), w64_id (x := a.Y1 + gap) (by omega) (by omega), w64_id (x := b.Y1 + gap) (by omega) (by omega)]
theorem apartR_ok {a b : TRect} {gap : Int} (ha : RB a) (hb : RB b) (h0 : 0 ≤ gap) (h1 : gap ≤ 1000000) : F_etchhouseref9_apart a b gap = some (apart a b gap) := apart_ok ha hb h0 h1
/-- Does the cell lie within the rail? -/
def okAt (p : TPanel) (s : TSlot) : Bool := (decide (p.Rail ≤ s.At.X) && decide ((cellOf p s).X1 ≤ p.W - p.Rail)) && (decide (p.Rail ≤ s.At.Y) && decide ((cellOf p s).Y1 ≤ p.H - p.Rail))
def slotErr (p : TPanel) (prev : List TRect) (s : TSlot) : Int :=
  if kindIx p.Kinds s.Board = -1 then 5 else if within s.Quarters 0 3 = false then 1 else if okAt p s = false then 1 else if (prev.any fun d => !apart (cellOf p s) d p.Gap) = true then 12 else 0
def slotsErr (p : TPanel) : List TRect → List TSlot → Int
  | _, [] => 0
  | prev, s :: rest => if slotErr p prev s = 0 then slotsErr p (prev ++ [cellOf p s]) rest else slotErr p prev s
structure SlotOk (p : TPanel) (s : TSlot) : Prop where
  kind : kindIx p.Kinds s.Board ≠ -1
  q0 : 0 ≤ s.Quarters
  q1 : s.Quarters ≤ 3
  x0 : p.Rail ≤ s.At.X
  y0 : p.Rail ≤ s.At.Y
  x1 : (cellOf p s).X1 ≤ p.W - p.Rail
  y1 : (cellOf p s).Y1 ≤ p.H - p.Rail
theorem slotErr_ok {p : TPanel} {prev : List TRect} {s : TSlot} (h : slotErr p prev s = 0) : SlotOk p s := by
  unfold slotErr at h
  split at h
  · omega
  · rename_i h1
    split at h
    · omega
    · rename_i h2
      split at h
      · omega
      · rename_i h3
        have a1 : within s.Quarters 0 3 = true := by cases hh : within s.Quarters 0 3 <;> simp_all
        have a2 : okAt p s = true := by cases hh : okAt p s <;> simp_all
        have b1 := within_iff.1 a1
        unfold okAt at a2
        simp only [Bool.and_eq_true, decide_eq_true_eq] at a2
        exact ⟨h1, b1.1, b1.2, a2.1.1, a2.2.1, a2.1.2, a2.2.2⟩
theorem SlotOk.bd {p : TPanel} {s : TSlot} (hB : PB p) (h : SlotOk p s) : (-1000000000 ≤ s.At.X ∧ s.At.X ≤ 1000000000) ∧ (-1000000000 ≤ s.At.Y ∧ s.At.Y ≤ 1000000000) ∧ RB (cellOf p s) ∧ (cellOf p s).X0 < (cellOf p s).X1 ∧ (cellOf p s).Y0 < (cellOf p s).Y1 ∧ 0 ≤ (cellOf p s).X0 ∧ 0 ≤ (cellOf p s).Y0 ∧ (cellOf p s).X1 ≤ 1000000 ∧ (cellOf p s).Y1 ≤ 1000000 := by
  obtain ⟨h1, h2, h3, h4, h5, h6, h7⟩ := h
  have hs := sizeWH hB h1 s.Quarters
  have b1 := hB.w1; have b2 := hB.h1; have b3 := hB.r0; have b4 := hB.r1
  unfold RB
  unfold cellOf at *
  dsimp only at *
  omega
theorem ContainsR_ok {g : TRect → Bool} {f : TRect → Option Bool} {l : List TRect} (h : ∀ x ∈ l, f x = some (g x)) : F_slices_ContainsFunc_Rect l f = some (l.any g) := by
  have key : ∀ (l : List TRect) (i : Nat), (∀ x ∈ l, f x = some (g x)) → F_slices_IndexFunc_Rect_L1 f l i = some (ixOf g l i) := by
    intro l
    induction l with
    | nil => intro i _; rfl
    | cons x l ih =>
      intro i h
      rw [F_slices_IndexFunc_Rect_L1.eq_2, h x (by simp), Option.bind_some, ih (i + 1) (fun y hy => h y (by simp [hy])), ixOf, show ((i + 1 : Nat) : Int) = (i : Int) + 1 by omega]
      cases g x <;> rfl
  unfold F_slices_ContainsFunc_Rect F_slices_IndexFunc_Rect
  rw [key l 0 h, Option.bind_some, show ((0 : Nat) : Int) = 0 from rfl, ixOf_any g l 0 (by omega)]
theorem slot_step {p : TPanel} (hB : PB p) {prev : List TRect} {s : TSlot} (hprev : ∀ r ∈ prev, RB r) {K : List TRect → Option (List TRect × Int)} :
    ((F_panel_kindAt p s.Board).bind fun y34 =>
    if (decide (y34 < 0)) then
      some (([] : List TRect), 5)
    else
      (F_panel_within s.Quarters 0 3).bind fun y35 =>
      (if (!y35) then some true else (F_panel_within s.At.X 0 p.W).bind fun y38 => some (!y38)).bind fun g37 =>
      (if g37 then some true else (F_panel_within s.At.Y 0 p.H).bind fun y41 => some (!y41)).bind fun g40 =>
      if g40 then
        some (([] : List TRect), 1)
      else
        (F_panel_cellOf p s).bind fun y42 =>
        (F_panel_isOn p y42).bind fun y43 =>
        if (!y43) then
          some (([] : List TRect), 1)
        else
          (F_slices_ContainsFunc_Rect prev (fun z0 => F_panel_cells_1 z0 y42 p)).bind fun y44 =>
          if y44 then
            some (([] : List TRect), 12)
          else
            (apd prev [y42]).bind fun l45 => K l45) =
    if slotErr p prev s = 0 then (apd prev [cellOf p s]).bind K else some ([], slotErr p prev s) := by
  have b1 := hB.w0; have b2 := hB.w1; have b3 := hB.h0; have b4 := hB.h1; have b5 := hB.r0; have b6 := hB.r1
  rw [kindAt_ok, Option.bind_some]
  unfold slotErr
  rcases kindIx_lo p.Kinds s.Board with hk | ⟨hk, _, _, _⟩
  · rw [if_pos hk, hk]; simp
  have hk1 : kindIx p.Kinds s.Board ≠ -1 := by omega
  rw [if_neg (by simpa using hk), if_neg hk1]
  simp only [within_ok, Option.bind_some]
  cases hQ : within s.Quarters 0 3
  · simp
  have hsz := sizeWH hB hk1 s.Quarters
  simp only [Bool.not_true, Bool.false_eq_true, if_false, Option.bind_some, reduceCtorEq]
  by_cases hat : within s.At.X 0 p.W = true ∧ within s.At.Y 0 p.H = true
  · obtain ⟨hX, hY⟩ := hat
    have wx := within_iff.1 hX; have wy := within_iff.1 hY
    rw [hX, hY]
    simp only [Bool.not_true, Bool.false_eq_true, if_false, Option.bind_some]
    rw [cellOf_ok hB hk1 (by omega) (by omega), Option.bind_some]
    unfold F_panel_isOn
    rw [Option.bind_some, w64_id (x := p.W - p.Rail) (by omega) (by omega), w64_id (x := p.H - p.Rail) (by omega) (by omega)]
    have hon : ((((((decide (p.Rail ≤ (cellOf p s).X0)) && (decide (p.Rail ≤ (cellOf p s).Y0))) && (decide ((cellOf p s).X0 ≤ p.W))) && (decide ((cellOf p s).Y0 ≤ p.H))) && (decide ((cellOf p s).X1 ≤ p.W - p.Rail))) && (decide ((cellOf p s).Y1 ≤ p.H - p.Rail))) = okAt p s := by
      unfold okAt cellOf
      rw [Bool.eq_iff_iff]
      simp only [Bool.and_eq_true, decide_eq_true_eq]
      omega
    rw [hon]
    cases hO : okAt p s
    · simp
    have hsl : SlotOk p s := by
      have a2 := hO
      unfold okAt at a2
      simp only [Bool.and_eq_true, decide_eq_true_eq] at a2
      exact ⟨hk1, (within_iff.1 hQ).1, (within_iff.1 hQ).2, a2.1.1, a2.2.1, a2.1.2, a2.2.2⟩
    have hrb := (hsl.bd hB).2.2.1
    rw [ContainsR_ok (g := fun d => !apart (cellOf p s) d p.Gap) (fun d hd => by
      unfold F_panel_cells_1
      rw [apart_ok hrb (hprev d hd) hB.g0 hB.g1]; rfl)]
    simp only [Bool.not_true, Bool.false_eq_true, if_false, Option.bind_some, reduceCtorEq]
    cases hA : (prev.any fun d => !apart (cellOf p s) d p.Gap)
    · simp
    · simp
  · have hO : okAt p s = false := by
      rw [Bool.eq_false_iff]
      intro hO
      unfold okAt cellOf at hO
      simp only [Bool.and_eq_true, decide_eq_true_eq] at hO
      refine hat ⟨within_iff.2 (by omega), within_iff.2 (by omega)⟩
    rw [hO]
    cases hX : within s.At.X 0 p.W
    · simp
    cases hY : within s.At.Y 0 p.H
    · simp
    · exact absurd ⟨hX, hY⟩ hat
theorem cells_loop {p : TPanel} (hB : PB p) : ∀ (suf : List TSlot) (i : Nat) (prev : List TRect), prev.length + suf.length ≤ 500 → (∀ r ∈ prev, RB r) →
    F_panel_cells_L1 p suf i prev = some (if slotsErr p prev suf = 0 then (prev ++ suf.map (cellOf p), 0) else ([], slotsErr p prev suf))
  | [], i, prev, _, _ => by rw [F_panel_cells_L1.eq_1]; simp [slotsErr]
  | s :: suf, i, prev, hl, hr => by
    rw [F_panel_cells_L1.eq_2, slot_step hB hr, slotsErr]
    by_cases he : slotErr p prev s = 0
    · have hok := slotErr_ok he
      rw [if_pos he, if_pos he, apd_ok (by simp at hl ⊢; omega), Option.bind_some, cells_loop hB suf (i + 1) (prev ++ [cellOf p s]) (by simp at hl ⊢; omega) (fun r hr' => by
        rcases List.mem_append.1 hr' with h | h
        · exact hr r h
        · simp at h; subst h; exact (hok.bd hB).2.2.1)]
      simp
    · rw [if_neg he, if_neg he, if_neg he]
def cellsErr (p : TPanel) : Int := if 500 < p.Slots.length then 2 else slotsErr p [] p.Slots
theorem cells_ok {p : TPanel} (hB : PB p) : F_panel_cells p = some (if cellsErr p = 0 then (p.Slots.map (cellOf p), 0) else ([], cellsErr p)) := by
  unfold F_panel_cells cellsErr
  by_cases h : 500 < p.Slots.length
  · rw [if_pos (by simp; omega), if_pos h]; rfl
  · rw [if_neg (by simp; omega), if_neg h, cells_loop hB p.Slots 0 [] (by simp; omega) (fun r hr => by cases hr)]
    simp
theorem slotsErr_ok {p : TPanel} : ∀ {l : List TSlot} {prev : List TRect}, slotsErr p prev l = 0 → ∀ s ∈ l, SlotOk p s
  | [], _, _, s, hs => by cases hs
  | a :: l, prev, h, s, hs => by
    unfold slotsErr at h
    split at h
    · rename_i h1
      rcases List.mem_cons.1 hs with rfl | hs
      · exact slotErr_ok h1
      · exact slotsErr_ok h s hs
    · rename_i h1; exact absurd h h1
end Go.Proofs.YtmbjoffligicnaaGreatDoor
namespace Go.Proofs.YtmbjoffligicnaaGreatDoor
theorem checkSlot_loop {N : Nat} {p : TPanel} (hB : PB p) (hN : p.Kinds.length < N) (hl : p.Slots.length ≤ 500) {s : TSlot} (hs : SlotOk p s) {suf : List TSlot} : ∀ (q2 q1 : List TSlot) (m : Nat), p.Slots = q1 ++ (q2 ++ s :: suf) → (∀ t ∈ q2, SlotOk p t) → q2.length < m →
    F_etchhouseref9_checkSlot_L1 N p ((q1.length + q2.length : Nat) : Int) s m q1.length = some (if ((q2.map (cellOf p)).any fun d => !apart (cellOf p s) d p.Gap) = true then 12 else 0)
  | [], q1, m + 1, hp, _, _ => by
    rw [F_etchhouseref9_checkSlot_L1.eq_2, if_neg (by simp)]; simp
  | t :: q2, q1, m + 1, hp, hq, hm => by
    have ih := checkSlot_loop (suf := suf) hB hN hl hs q2 (q1 ++ [t]) m (by rw [hp]; simp) (fun u hu => hq u (by simp [hu])) (by simp at hm; omega)
    have ht := hq t (by simp)
    have hql : q1.length ≤ 500 := by rw [hp] at hl; simp at hl; omega
    rw [show (q1 ++ [t]).length + q2.length = q1.length + (t :: q2).length by simp; omega] at ih
    rw [F_etchhouseref9_checkSlot_L1.eq_2, if_pos (by simp; omega), cellOfR_ok hB hN hs.kind (hs.bd hB).1 (hs.bd hB).2.1, Option.bind_some]
    rw [show idx p.Slots (q1.length : Int) = some t by rw [hp]; exact idx_mid _ _ _, Option.bind_some, cellOfR_ok hB hN ht.kind (ht.bd hB).1 (ht.bd hB).2.1, Option.bind_some, apartR_ok (hs.bd hB).2.2.1 (ht.bd hB).2.2.1 hB.g0 hB.g1, Option.bind_some, up_mid _ t (by omega), ih]
    rw [List.map_cons, List.any_cons]
    cases apart (cellOf p s) (cellOf p t) p.Gap <;> simp
theorem checkSlot_ok {N : Nat} {p : TPanel} (hB : PB p) (hN : p.Kinds.length < N) (hl : p.Slots.length ≤ 500) (hM : 500 < N) {s : TSlot} {pre suf : List TSlot} (hp : p.Slots = pre ++ s :: suf) (hpre : ∀ t ∈ pre, SlotOk p t) :
    F_etchhouseref9_checkSlot N p pre.length = some (slotErr p (pre.map (cellOf p)) s) := by
  have b1 := hB.w0; have b2 := hB.w1; have b3 := hB.h0; have b4 := hB.h1; have b5 := hB.r0; have b6 := hB.r1
  have hpl : pre.length ≤ 500 := by rw [hp] at hl; simp at hl; omega
  unfold F_etchhouseref9_checkSlot slotErr
  rw [show idx p.Slots (pre.length : Int) = some s by rw [hp]; exact idx_mid _ _ _, Option.bind_some, kindR_ok _ (by have := hB.klen; omega) hN, Option.bind_some]
  rcases kindIx_lo p.Kinds s.Board with hk | ⟨hk, hki, _, _⟩
  · rw [if_pos hk, hk]; simp
  have hk1 : kindIx p.Kinds s.Board ≠ -1 := by omega
  have hsz := sizeWH hB hk1 s.Quarters
  rw [if_neg (by simpa using hk), if_neg hk1, withinR_ok, Option.bind_some]
  cases hQ : within s.Quarters 0 3
  · simp
  rw [hki, Option.bind_some, sizeOfR_ok, Option.bind_some]
  unfold F_etchhouseref9_lies
  have hlies : (within s.At.X p.Rail (p.W - p.Rail - sizeW (kindOf p.Kinds s.Board) s.Quarters) && within s.At.Y p.Rail (p.H - p.Rail - sizeH (kindOf p.Kinds s.Board) s.Quarters)) = okAt p s := by
    unfold okAt within cellOf
    rw [Bool.eq_iff_iff]
    simp only [Bool.and_eq_true, decide_eq_true_eq]
    omega
  simp only [w64_id (x := p.W - p.Rail) (by omega) (by omega), w64_id (x := p.H - p.Rail) (by omega) (by omega), w64_id (x := p.W - p.Rail - sizeW (kindOf p.Kinds s.Board) s.Quarters) (by omega) (by omega), w64_id (x := p.H - p.Rail - sizeH (kindOf p.Kinds s.Board) s.Quarters) (by omega) (by omega), withinR_ok, Option.bind_some, Bool.not_true, Bool.false_eq_true, if_false, reduceCtorEq]
  have e2 : ∀ a b : Bool, ((if a = true then some b else some false).bind fun g3 => some g3) = some (a && b) := by intro a b; cases a <;> rfl
  rw [e2, hlies, Option.bind_some]
  cases hO : okAt p s
  · rfl
  have hsl : SlotOk p s := by
    have a2 := hO
    unfold okAt at a2
    simp only [Bool.and_eq_true, decide_eq_true_eq] at a2
    exact ⟨hk1, (within_iff.1 hQ).1, (within_iff.1 hQ).2, a2.1.1, a2.2.1, a2.1.2, a2.2.2⟩
  have := checkSlot_loop hB hN hl hsl pre [] N (by simpa using hp) hpre (by omega)
  simpa using this
-- marks
instance : DecidableEq TPoint := fun _ _ => decidable_of_iff _ eqTPoint_iff
def inside (r : TRect) (m : TPoint) : Bool := (((decide (r.X0 < m.X)) && (decide (m.X < r.X1))) && (decide (r.Y0 < m.Y))) && (decide (m.Y < r.Y1))
def markErr (p : TPanel) (prev : List TPoint) (m : TPoint) : Int :=
  if within m.X 0 p.W = false ∨ within m.Y 0 p.H = false then 1 else if ((p.Slots.map (cellOf p)).any fun r => inside r m) = true then 12 else if m ∈ prev then 7 else 0
def marksErr (p : TPanel) : List TPoint → List TPoint → Int
  | _, [] => 0
  | prev, m :: rest => if markErr p prev m = 0 then marksErr p (prev ++ [m]) rest else markErr p prev m
theorem eqP {a b : TPoint} : eqTPoint a b = decide (a = b) := by
  by_cases h : a = b
  · rw [eqTPoint_iff.2 h, decide_eq_true h]
  · rw [decide_eq_false h, Bool.eq_false_iff]; exact fun h' => h (eqTPoint_iff.1 h')
theorem ContainsP_ok (l : List TPoint) (m : TPoint) : F_slices_Contains_Point l m = some (decide (m ∈ l)) := by
  have key : ∀ (l : List TPoint) (i : Nat), F_slices_Index_Point_L1 m l i = some (ixOf (fun x => eqTPoint m x) l i) := by
    intro l
    induction l with
    | nil => intro i; rfl
    | cons x l ih =>
      intro i
      rw [F_slices_Index_Point_L1.eq_2, ih (i + 1), ixOf, show ((i + 1 : Nat) : Int) = (i : Int) + 1 by omega]
      cases eqTPoint m x <;> rfl
  unfold F_slices_Contains_Point F_slices_Index_Point
  rw [key l 0, Option.bind_some, show ((0 : Nat) : Int) = 0 from rfl, ixOf_any _ l 0 (by omega)]
  congr 1
  rw [Bool.eq_iff_iff]
  simp [eqTPoint_iff]
theorem marks_loop {p : TPanel} {y : List TRect × Int} (hy : y.1 = p.Slots.map (cellOf p)) : ∀ (suf pre : List TPoint), p.Marks = pre ++ suf → 
    F_panel_open_L1 p y suf pre.length = some (if marksErr p pre suf = 0 then (p.Slots.map (cellOf p), 0) else ([], marksErr p pre suf))
  | [], pre, hp => by rw [F_panel_open_L1.eq_1, hy]; simp [marksErr]
  | m :: suf, pre, hp => by
    have ih := marks_loop hy suf (pre ++ [m]) (by rw [hp]; simp)
    rw [show (pre ++ [m]).length = pre.length + 1 by simp] at ih
    rw [F_panel_open_L1.eq_2, ih, marksErr, markErr, hy]
    unfold F_panel_isOnPanel
    simp only [within_ok, Option.bind_some]
    cases hX : within m.X 0 p.W
    · simp
    cases hY : within m.Y 0 p.H
    · simp
    have hc : F_slices_ContainsFunc_Rect (p.Slots.map (cellOf p)) (fun z0 => F_panel_open_1 z0 m) = some ((p.Slots.map (cellOf p)).any fun r => inside r m) := ContainsR_ok (fun r _ => rfl)
    rw [hc, show Proofs.YtmbjoffligicnaaGreatDoor.pre p.Marks (pre.length : Int) = some pre by rw [hp]; unfold Proofs.YtmbjoffligicnaaGreatDoor.pre; rw [if_pos ⟨by omega, by simp; omega⟩]; simp]
    simp only [if_true, Bool.not_true, Bool.false_eq_true, if_false, Option.bind_some, or_self, reduceCtorEq, ContainsP_ok, decide_eq_true_eq]
    cases ((p.Slots.map (cellOf p)).any fun r => inside r m)
    · by_cases hm : m ∈ pre <;> simp [hm]
    · simp
/-- The panel's error. -/
def openErr (p : TPanel) : Int :=
  if within p.W 1 1000000 = false ∨ within p.H 1 1000000 = false ∨ within p.Rail 0 1000000 = false ∨ within p.Gap 0 1000000 = false then 1
  else if checkKinds p.Kinds = 0 then
    if cellsErr p = 0 then if 10 < p.Marks.length then 2 else marksErr p [] p.Marks
    else cellsErr p
  else checkKinds p.Kinds
theorem PB_of {p : TPanel} (h : ¬ (within p.W 1 1000000 = false ∨ within p.H 1 1000000 = false ∨ within p.Rail 0 1000000 = false ∨ within p.Gap 0 1000000 = false)) (hk : checkKinds p.Kinds = 0) : PB p := by
  simp only [not_or, Bool.not_eq_false] at h
  obtain ⟨h1, h2, h3, h4⟩ := h
  have h1 := within_iff.1 h1; have h2 := within_iff.1 h2; have h3 := within_iff.1 h3; have h4 := within_iff.1 h4
  unfold checkKinds at hk
  split at hk
  · omega
  · exact ⟨h1.1, h1.2, h2.1, h2.2, h3.1, h3.2, h4.1, h4.2, kindsErr_ok hk, by omega⟩
theorem open_ok {N : Nat} {p : TPanel} (hn : ∀ k ∈ p.Kinds, k.Name.size ≤ 9223372036854775807 ∧ k.Name.size < N) : F_panel_open N p = some (if openErr p = 0 then (p.Slots.map (cellOf p), 0) else ([], openErr p)) := by
  unfold F_panel_open openErr
  simp only [within_ok, Option.bind_some]
  by_cases h : within p.W 1 1000000 = false ∨ within p.H 1 1000000 = false ∨ within p.Rail 0 1000000 = false ∨ within p.Gap 0 1000000 = false
  · rw [if_pos h]
    generalize within p.W 1 1000000 = a at *
    generalize within p.H 1 1000000 = b at *
    generalize within p.Rail 0 1000000 = c at *
    generalize within p.Gap 0 1000000 = d at *
    cases a <;> cases b <;> cases c <;> cases d <;> first | rfl | exact absurd h (by decide)
  · rw [if_neg h]
    have h' := h
    simp only [not_or, Bool.not_eq_false] at h'
    obtain ⟨h1, h2, h3, h4⟩ := h'
    rw [h1, h2, h3, h4, checkKinds_ok hn]
    simp only [Bool.not_true, Bool.false_eq_true, if_false, Option.bind_some]
    by_cases hk : checkKinds p.Kinds = 0
    · have hB := PB_of h hk
      rw [hk, cells_ok hB]
      simp only [Option.bind_some, if_true, bne_self_eq_false, Bool.false_eq_true, if_false]
      by_cases hc : cellsErr p = 0
      · simp only [if_pos hc]
        simp only [bne_self_eq_false, Bool.false_eq_true, if_false]
        by_cases hm : 10 < p.Marks.length
        · simp only [if_pos hm]; rw [if_pos (by simp; omega)]; rfl
        · simp only [if_neg hm]; rw [if_neg (by simp; omega)]
          exact marks_loop rfl p.Marks [] rfl
      · simp only [if_neg hc]
        rw [if_pos (by simpa using hc)]
    · rw [if_pos (by simpa using hk), if_neg hk, if_neg hk]
-- the reference's marks
theorem checkMark2_ok {p : TPanel} {m : TPoint} (hl : p.Marks.length ≤ 10) {suf : List TPoint} : ∀ (q2 q1 : List TPoint) (n : Nat), p.Marks = q1 ++ (q2 ++ m :: suf) → q2.length < n →
    F_etchhouseref9_checkMark_L2 p ((q1.length + q2.length : Nat) : Int) m n q1.length = some (if m ∈ q2 then 7 else 0)
  | [], q1, n + 1, hp, _ => by rw [F_etchhouseref9_checkMark_L2.eq_2, if_neg (by simp)]; simp
  | t :: q2, q1, n + 1, hp, hn => by
    have ih := checkMark2_ok (m := m) (suf := suf) hl q2 (q1 ++ [t]) n (by rw [hp]; simp) (by simp at hn; omega)
    have hql : q1.length ≤ 10 := by rw [hp] at hl; simp at hl; omega
    rw [show (q1 ++ [t]).length + q2.length = q1.length + (t :: q2).length by simp; omega] at ih
    rw [F_etchhouseref9_checkMark_L2.eq_2, if_pos (by simp; omega), show idx p.Marks (q1.length : Int) = some t by rw [hp]; exact idx_mid _ _ _, Option.bind_some, up_mid _ t (by omega), ih, eqP]
    by_cases h : t = m
    · simp [h]
    · simp [h, Ne.symm h]
theorem checkMark1_ok {N : Nat} {p : TPanel} {i : Int} {m : TPoint} {e : Int} (hB : PB p) (hN : p.Kinds.length < N) (hl : p.Slots.length ≤ 500) (hm : F_etchhouseref9_checkMark_L2 p i m N 0 = some e) : ∀ (suf pre : List TSlot) (n : Nat), p.Slots = pre ++ suf → (∀ t ∈ suf, SlotOk p t) → suf.length < n →
    F_etchhouseref9_checkMark_L1 N p i m n pre.length = some (if ((suf.map (cellOf p)).any fun r => inside r m) = true then 12 else e)
  | [], pre, n + 1, hp, _, _ => by
    rw [F_etchhouseref9_checkMark_L1.eq_2, hp, lt_end, if_neg (by simp), hm]; simp
  | s :: suf, pre, n + 1, hp, hs, hn => by
    have ih := checkMark1_ok hB hN hl hm suf (pre ++ [s]) n (by rw [hp]; simp) (fun t ht => hs t (by simp [ht])) (by simp at hn; omega)
    have hk := hs s (by simp)
    have hql : pre.length ≤ 500 := by rw [hp] at hl; simp at hl; omega
    rw [F_etchhouseref9_checkMark_L1.eq_2, if_pos (by rw [hp]; exact lt_mid _ _ _), show idx p.Slots (pre.length : Int) = some s by rw [hp]; exact idx_mid _ _ _, Option.bind_some, cellOfR_ok hB hN hk.kind (hk.bd hB).1 (hk.bd hB).2.1, Option.bind_some, up_mid _ s (by omega), ih, List.map_cons, List.any_cons]
    show (if inside (cellOf p s) m = true then _ else _) = _
    cases inside (cellOf p s) m <;> simp
theorem checkMark_ok {N : Nat} {p : TPanel} (hB : PB p) (hN : p.Kinds.length < N) (hl : p.Slots.length ≤ 500) (hM : 500 < N) (hml : p.Marks.length ≤ 10) (hs : ∀ s ∈ p.Slots, SlotOk p s) {m : TPoint} {pre suf : List TPoint} (hp : p.Marks = pre ++ m :: suf) :
    F_etchhouseref9_checkMark N p pre.length = some (markErr p pre m) := by
  have hpl : pre.length ≤ 10 := by rw [hp] at hml; simp at hml; omega
  unfold F_etchhouseref9_checkMark markErr
  rw [show idx p.Marks (pre.length : Int) = some m by rw [hp]; exact idx_mid _ _ _, Option.bind_some]
  simp only [withinR_ok, Option.bind_some]
  cases hX : within m.X 0 p.W
  · simp
  cases hY : within m.Y 0 p.H
  · simp
  have h2 := checkMark2_ok hml (m := m) (suf := suf) pre [] N (by simpa using hp) (by omega)
  rw [show (([] : List TPoint).length + pre.length) = pre.length by simp, show (([] : List TPoint).length : Int) = 0 from rfl] at h2
  have h1 := checkMark1_ok hB hN hl h2 p.Slots [] N rfl hs (by omega)
  rw [show (([] : List TSlot).length : Int) = 0 from rfl] at h1
  simp only [Bool.not_true, Bool.false_eq_true, if_false, Option.bind_some, or_self, reduceCtorEq, h1]
theorem check3_ok {N : Nat} {p : TPanel} (hB : PB p) (hN : p.Kinds.length < N) (hl : p.Slots.length ≤ 500) (hM : 500 < N) (hml : p.Marks.length ≤ 10) (hs : ∀ s ∈ p.Slots, SlotOk p s) : ∀ (suf pre : List TPoint) (n : Nat), p.Marks = pre ++ suf → suf.length < n →
    F_etchhouseref9_CheckPanel_L3 N p n pre.length = some (marksErr p pre suf)
  | [], pre, n + 1, hp, _ => by rw [F_etchhouseref9_CheckPanel_L3.eq_2, hp, lt_end, if_neg (by simp)]; rfl
  | m :: suf, pre, n + 1, hp, hn => by
    have ih := check3_ok hB hN hl hM hml hs suf (pre ++ [m]) n (by rw [hp]; simp) (by simp at hn; omega)
    have hql : pre.length ≤ 10 := by rw [hp] at hml; simp at hml; omega
    rw [F_etchhouseref9_CheckPanel_L3.eq_2, if_pos (by rw [hp]; exact lt_mid _ _ _), checkMark_ok hB hN hl hM hml hs hp, Option.bind_some, up_mid _ m (by omega), ih, marksErr]
    by_cases h : markErr p pre m = 0 <;> simp [h]
theorem check2_ok {N : Nat} {p : TPanel} {e : Int} (hB : PB p) (hN : p.Kinds.length < N) (hl : p.Slots.length ≤ 500) (hM : 500 < N) (he : (∀ s ∈ p.Slots, SlotOk p s) → (if decide (10 < (p.Marks.length : Int)) then some 2 else F_etchhouseref9_CheckPanel_L3 N p N 0) = some e) : ∀ (suf pre : List TSlot) (n : Nat), p.Slots = pre ++ suf → (∀ t ∈ pre, SlotOk p t) → suf.length < n →
    F_etchhouseref9_CheckPanel_L2 N p n pre.length = some (if slotsErr p (pre.map (cellOf p)) suf = 0 then e else slotsErr p (pre.map (cellOf p)) suf)
  | [], pre, n + 1, hp, hpre, _ => by
    rw [F_etchhouseref9_CheckPanel_L2.eq_2, if_neg (by rw [hp, lt_end]; simp), he (by rw [hp]; simpa using hpre)]
    simp [slotsErr]
  | s :: suf, pre, n + 1, hp, hpre, hn => by
    have hql : pre.length ≤ 500 := by rw [hp] at hl; simp at hl; omega
    rw [F_etchhouseref9_CheckPanel_L2.eq_2, if_pos (by rw [hp]; exact lt_mid _ _ _), checkSlot_ok hB hN hl hM hp hpre, Option.bind_some, up_mid _ s (by omega), slotsErr]
    by_cases h : slotErr p (pre.map (cellOf p)) s = 0
    · have ih := check2_ok hB hN hl hM he suf (pre ++ [s]) n (by rw [hp]; simp) (fun t ht => by
        rcases List.mem_append.1 ht with ht | ht
        · exact hpre t ht
        · simp at ht; subst ht; exact slotErr_ok h) (by simp at hn; omega)
      rw [ih, h, List.map_append]
      simp
    · simp [h]
theorem checkPanel_ok {N : Nat} {p : TPanel} (hM : 500 < N) (hN : p.Kinds.length < N) (hn : ∀ k ∈ p.Kinds, k.Name.size ≤ 9223372036854775807 ∧ k.Name.size < N) : F_etchhouseref9_CheckPanel N p = some (openErr p) := by
  unfold F_etchhouseref9_CheckPanel openErr
  simp only [withinR_ok, Option.bind_some]
  by_cases h : within p.W 1 1000000 = false ∨ within p.H 1 1000000 = false ∨ within p.Rail 0 1000000 = false ∨ within p.Gap 0 1000000 = false
  · rw [if_pos h]
    generalize within p.W 1 1000000 = a at *
    generalize within p.H 1 1000000 = b at *
    generalize within p.Rail 0 1000000 = c at *
    generalize within p.Gap 0 1000000 = d at *
    cases a <;> cases b <;> cases c <;> cases d <;> first | rfl | exact absurd h (by decide)
  · rw [if_neg h]
    have h' := h
    simp only [not_or, Bool.not_eq_false] at h'
    obtain ⟨h1, h2, h3, h4⟩ := h'
    rw [h1, h2, h3, h4]
    simp only [Bool.not_true, Bool.false_eq_true, if_false, Option.bind_some]
    by_cases hk50 : 50 < p.Kinds.length
    · rw [if_pos (by simp; omega)]
      simp [checkKinds, hk50]
    rw [if_neg (by simp; omega)]
    have hck : checkKinds p.Kinds = kindsErr (prevOf []) p.Kinds := by simp [checkKinds, hk50, prevOf]
    have := kindsR_loop (N := N) (p := p) p.Kinds [] N rfl (by omega) hn hN rfl
    rw [show (([] : List TBoardKind).length : Int) = 0 from rfl] at this
    rw [this, ← hck]
    by_cases hk : checkKinds p.Kinds = 0
    · have hB := PB_of h hk
      rw [if_pos hk, if_pos hk]
      unfold cellsErr
      by_cases hs : 500 < p.Slots.length
      · rw [if_pos (by simp; omega), if_pos hs]; simp
      rw [if_neg (by simp; omega), if_neg hs]
      have := check2_ok (e := if 10 < p.Marks.length then 2 else marksErr p [] p.Marks) hB hN (by omega) hM (fun hsl => by
        by_cases hm : 10 < p.Marks.length
        · rw [if_pos (by simp; omega), if_pos hm]
        · rw [if_neg (by simp; omega), if_neg hm]
          exact check3_ok hB hN (by omega) hM (by omega) hsl p.Marks [] N rfl (by omega)) p.Slots [] N rfl (by simp) (by omega)
      simpa using this
    · rw [if_neg hk, if_neg hk]
theorem openErr_ok {p : TPanel} (h : openErr p = 0) : PB p ∧ p.Slots.length ≤ 500 ∧ p.Marks.length ≤ 10 ∧ (∀ s ∈ p.Slots, SlotOk p s) := by
  unfold openErr at h
  split at h
  · omega
  · rename_i h0
    split at h
    · rename_i hk
      have hB := PB_of h0 hk
      split at h
      · rename_i hc
        unfold cellsErr at hc
        split at hc
        · omega
        · split at h
          · omega
          · exact ⟨hB, by omega, by omega, slotsErr_ok hc⟩
      · rename_i hc; exact absurd h hc
    · rename_i hk; exact absurd h hk
end Go.Proofs.YtmbjoffligicnaaGreatDoor
namespace Go.Proofs.YtmbjoffligicnaaGreatDoor
structure FuelP (N : Nat) (p : TPanel) : Prop where
  big : 20000000 ≤ N
  kinds : p.Kinds.length < N
  names : ∀ k ∈ p.Kinds, k.Name.size ≤ 9223372036854775807 ∧ k.Name.size < N
theorem checkPanelP_ok {N : Nat} {p : TPanel} (h : FuelP N p) : F_panel_CheckPanel N p = some (openErr p) := by
  unfold F_panel_CheckPanel
  rw [open_ok h.names, Option.bind_some]
  by_cases he : openErr p = 0 <;> simp [he]
theorem eif (a b : Bool) : (if a = true then some b else some false) = some (a && b) := by cases a <;> rfl
theorem awakeP_ok {N : Nat} (hN : 3 ≤ N) : F_etchhouselaw9_awake N = some true := by
  obtain ⟨m, rfl⟩ : ∃ m, N = m + 3 := ⟨N - 3, by omega⟩
  rfl
end Go.Proofs.YtmbjoffligicnaaGreatDoor
namespace Go.Proofs.YtmbjoffligicnaaGreatDoor
abbrev wPanel : ByteArray := ⟨#[112, 97, 110, 101, 108]⟩
abbrev wBoard : ByteArray := ⟨#[98, 111, 97, 114, 100]⟩
abbrev wSlot : ByteArray := ⟨#[115, 108, 111, 116]⟩
abbrev wMark : ByteArray := ⟨#[109, 97, 114, 107]⟩
def lineP (p : TPanel) : Option (List Int) → Option TPanel
  | some [a, b, c, d] => some ⟨a, b, c, d, p.Kinds, p.Slots, p.Marks⟩
  | _ => none
def lineB2 (p : TPanel) (nm : ByteArray) : Option (List Int) → Option TPanel
  | some [a, b] => if (p.Slots.length : Int) + (p.Marks.length : Int) = 0 then some ⟨p.W, p.H, p.Rail, p.Gap, p.Kinds ++ [⟨nm, a, b⟩], p.Slots, p.Marks⟩ else none
  | _ => none
def lineB (p : TPanel) : List ByteArray → Option TPanel
  | nm :: r => lineB2 p nm (nums r)
  | [] => none
def lineS2 (p : TPanel) (nm : ByteArray) : Option (List Int) → Option TPanel
  | some [a, b, c] => if (p.Marks.length : Int) = 0 then some ⟨p.W, p.H, p.Rail, p.Gap, p.Kinds, p.Slots ++ [⟨nm, a, ⟨b, c⟩⟩], p.Marks⟩ else none
  | _ => none
def lineS (p : TPanel) : List ByteArray → Option TPanel
  | nm :: r => lineS2 p nm (nums r)
  | [] => none
def lineM (p : TPanel) : Option (List Int) → Option TPanel
  | some [a, b] => some ⟨p.W, p.H, p.Rail, p.Gap, p.Kinds, p.Slots, p.Marks ++ [⟨a, b⟩]⟩
  | _ => none
/-- What a line of these words makes of a panel; none: it cannot stand there. -/
def lineOf (p : TPanel) (i : Int) (w : List ByteArray) : Option TPanel :=
  if w.all rowOk = false then none else
  match w with
  | [] => none
  | k :: r =>
    if sEq k wPanel = true then (if i = 0 then lineP p (nums r) else none)
    else if i = 0 then none
    else if sEq k wBoard = true then lineB p r
    else if sEq k wSlot = true then lineS p r
    else if sEq k wMark = true then lineM p (nums r)
    else none
def ofL (p : TPanel) : Option TPanel → Bool × Int × Int × Int × Int × List TBoardKind × List TSlot × List TPoint
  | none => (false, p.W, p.H, p.Rail, p.Gap, p.Kinds, p.Slots, p.Marks)
  | some q => (true, q.W, q.H, q.Rail, q.Gap, q.Kinds, q.Slots, q.Marks)
/-- A panel of few things. -/
structure SmallP (p : TPanel) : Prop where
  k : p.Kinds.length ≤ 300000
  s : p.Slots.length ≤ 300000
  m : p.Marks.length ≤ 300000
theorem nums_len {l : List ByteArray} {m : List Int} (h : nums l = some m) : m.length = l.length := by
  unfold nums at h
  split at h
  · have := Option.some.inj h; subst this; simp
  · cases h
theorem cutTo {α : Type} {w : List α} {n : Nat} (h : n ≤ w.length) : cut w (n : Int) (w.length : Int) = some (w.drop n) := by
  unfold cut
  rw [if_pos ⟨by omega, by omega, by omega⟩]
  congr 1
  simp only [Int.toNat_natCast]
  rw [List.take_of_length_le (by simp)]
theorem numsT_none {l : List ByteArray} (h : nums l = none) : numsT l = ([], false) := by unfold numsT; rw [h]
theorem numsT_some {l : List ByteArray} {m : List Int} (h : nums l = some m) : numsT l = (m, true) := by unfold numsT; rw [h]
theorem kinds5 (k : ByteArray) : k = wPanel ∨ k = wBoard ∨ k = wSlot ∨ k = wMark ∨ (sEq k wPanel = false ∧ sEq k wBoard = false ∧ sEq k wSlot = false ∧ sEq k wMark = false) := by
  by_cases h1 : k = wPanel
  · exact .inl h1
  by_cases h2 : k = wBoard
  · exact .inr (.inl h2)
  by_cases h3 : k = wSlot
  · exact .inr (.inr (.inl h3))
  by_cases h4 : k = wMark
  · exact .inr (.inr (.inr (.inl h4)))
  · exact .inr (.inr (.inr (.inr ⟨by rw [sEq_dec]; simpa using h1, by rw [sEq_dec]; simpa using h2, by rw [sEq_dec]; simpa using h3, by rw [sEq_dec]; simpa using h4⟩)))
theorem eqTab : sEq wPanel wPanel = true ∧ sEq wPanel wBoard = false ∧ sEq wPanel wSlot = false ∧ sEq wPanel wMark = false ∧ sEq wBoard wPanel = false ∧ sEq wBoard wBoard = true ∧ sEq wBoard wSlot = false ∧ sEq wBoard wMark = false ∧ sEq wSlot wPanel = false ∧ sEq wSlot wBoard = false ∧ sEq wSlot wSlot = true ∧ sEq wSlot wMark = false ∧ sEq wMark wPanel = false ∧ sEq wMark wBoard = false ∧ sEq wMark wSlot = false ∧ sEq wMark wMark = true := by
  simp only [sEq_bs]
  decide
theorem w64_small {p : TPanel} (h : SmallP p) : w64 ((p.Slots.length : Int) + (p.Marks.length : Int)) = (p.Slots.length : Int) + (p.Marks.length : Int) := by
  have := h.s; have := h.m
  exact w64_id (by omega) (by omega)
theorem l4 {α : Type} {m : List α} (h : m.length = 4) : ∃ a b c d, m = [a, b, c, d] := by
  match m, h with
  | [a, b, c, d], _ => exact ⟨a, b, c, d, rfl⟩
theorem l3 {α : Type} {m : List α} (h : m.length = 3) : ∃ a b c, m = [a, b, c] := by
  match m, h with
  | [a, b, c], _ => exact ⟨a, b, c, rfl⟩
theorem l2 {α : Type} {m : List α} (h : m.length = 2) : ∃ a b, m = [a, b] := by
  match m, h with
  | [a, b], _ => exact ⟨a, b, rfl⟩
theorem lineP_no {p : TPanel} {m : List Int} (h : m.length ≠ 4) : lineP p (some m) = none := by
  unfold lineP
  split
  · rename_i e; obtain rfl := Option.some.inj e; exact absurd rfl h
  · rfl
theorem lineM_no {p : TPanel} {m : List Int} (h : m.length ≠ 2) : lineM p (some m) = none := by
  unfold lineM
  split
  · rename_i e; obtain rfl := Option.some.inj e; exact absurd rfl h
  · rfl
theorem lineB_no {p : TPanel} {nm : ByteArray} {r : List ByteArray} {m : List Int} (hn : nums r = some m) (h : m.length ≠ 2) : lineB p (nm :: r) = none := by
  unfold lineB
  simp only [hn]
  unfold lineB2
  split
  · rename_i e; obtain rfl := Option.some.inj e; exact absurd rfl h
  · rfl
theorem lineS_no {p : TPanel} {nm : ByteArray} {r : List ByteArray} {m : List Int} (hn : nums r = some m) (h : m.length ≠ 3) : lineS p (nm :: r) = none := by
  unfold lineS
  simp only [hn]
  unfold lineS2
  split
  · rename_i e; obtain rfl := Option.some.inj e; exact absurd rfl h
  · rfl
theorem lineB_none {p : TPanel} {nm : ByteArray} {r : List ByteArray} (hn : nums r = none) : lineB p (nm :: r) = none := by
  unfold lineB; simp only [hn]; rfl
theorem lineS_none {p : TPanel} {nm : ByteArray} {r : List ByteArray} (hn : nums r = none) : lineS p (nm :: r) = none := by
  unfold lineS; simp only [hn]; rfl
theorem idx0 {α : Type} {k : α} {r : List α} : idx (k :: r) 0 = some k := rfl
theorem idx1 {α : Type} {k a : α} {r : List α} : idx (k :: a :: r) 1 = some a := rfl
theorem idx2 {α : Type} {k a b : α} {r : List α} : idx (k :: a :: b :: r) 2 = some b := rfl
theorem idx3 {α : Type} {k a b c : α} {r : List α} : idx (k :: a :: b :: c :: r) 3 = some c := rfl
theorem lineOf_all {p : TPanel} {i : Int} {k : ByteArray} {r : List ByteArray} (hall : (k :: r).all rowOk = true) : lineOf p i (k :: r) =
    (if sEq k wPanel = true then (if i = 0 then lineP p (nums r) else none)
    else if i = 0 then none
    else if sEq k wBoard = true then lineB p r
    else if sEq k wSlot = true then lineS p r
    else if sEq k wMark = true then lineM p (nums r)
    else none) := by
  unfold lineOf
  rw [if_neg (by rw [hall]; decide)]
/-- The program, behind the skipped words. -/
theorem J2_ok {p : TPanel} (hp : SmallP p) {i : Int} {k : ByteArray} {r : List ByteArray} (hall : (k :: r).all rowOk = true) (hl : r.length ≤ 300000) {sk : Nat} (hsk : sk = if sEq k wBoard = true ∨ sEq k wSlot = true then 2 else 1) :
    F_panel_readLine_J2 p i (k :: r) (sk : Int) = some (ofL p (lineOf p i (k :: r))) := by
  obtain ⟨q1, q2, q3, q4, q5, q6, q7, q8, q9, q10, q11, q12, q13, q14, q15, q16⟩ := eqTab
  have hP := hp.k; have hS := hp.s; have hM := hp.m
  unfold F_panel_readLine_J2
  have hmin : min (sk : Int) ((k :: r).length : Int) = ((min sk (k :: r).length : Nat) : Int) := by omega
  rw [hmin, cutTo (Nat.min_le_right _ _), Option.bind_some]
  have hdrop : (k :: r).drop (min sk (k :: r).length) = (k :: r).drop sk := by
    by_cases h : sk ≤ (k :: r).length
    · rw [Nat.min_eq_left h]
    · rw [Nat.min_eq_right (by omega), List.drop_of_length_le (Nat.le_refl _), List.drop_of_length_le (by omega)]
  rw [hdrop, Numbers_ok (by rw [List.length_drop, List.length_cons]; omega), Option.bind_some]
  rw [lineOf_all hall]
  simp only [idx0, Option.bind_some]
  cases hn : nums ((k :: r).drop sk) with
  | none =>
    rw [numsT_none hn]
    simp only [Bool.not_false, if_true, Option.bind_some]
    rcases kinds5 k with rfl | rfl | rfl | rfl | ⟨e1, e2, e3, e4⟩
    · simp only [q2, q3, Bool.false_eq_true, or_self, if_false] at hsk
      subst hsk
      simp only [List.drop_succ_cons, List.drop_zero] at hn
      simp only [q1, if_true, hn]
      split <;> rfl
    · simp only [q6, true_or, if_true] at hsk
      subst hsk
      cases r with
      | nil => simp [nums] at hn
      | cons nm r =>
        simp only [List.drop_succ_cons, List.drop_zero] at hn
        simp only [q5, q6, if_true, Bool.false_eq_true, if_false, lineB_none hn]
        split <;> rfl
    · simp only [q11, or_true, if_true] at hsk
      subst hsk
      cases r with
      | nil => simp [nums] at hn
      | cons nm r =>
        simp only [List.drop_succ_cons, List.drop_zero] at hn
        simp only [q9, q10, q11, if_true, Bool.false_eq_true, if_false, lineS_none hn]
        split <;> rfl
    · simp only [q14, q15, Bool.false_eq_true, or_self, if_false] at hsk
      subst hsk
      simp only [List.drop_succ_cons, List.drop_zero] at hn
      simp only [q13, q14, q15, q16, if_true, Bool.false_eq_true, if_false, hn]
      split <;> rfl
    · simp only [e1, e2, e3, e4, Bool.false_eq_true, if_false]
      split <;> rfl
  | some m =>
    rw [numsT_some hn]
    have hml := nums_len hn
    simp only [Bool.not_true, Bool.false_eq_true, if_false, Option.bind_some]
    rcases kinds5 k with rfl | rfl | rfl | rfl | ⟨e1, e2, e3, e4⟩
    · simp only [q2, q3, Bool.false_eq_true, or_self, if_false] at hsk
      subst hsk
      simp only [List.drop_succ_cons, List.drop_zero] at hn hml
      simp only [q1, q2, q3, q4, if_true, Bool.false_and, Bool.false_eq_true, if_false, Bool.true_and]
      by_cases hi : i = 0
      · subst hi
        simp only [beq_self_eq_true, bne_self_eq_false, Bool.false_eq_true, if_false, if_true, hn]
        by_cases h4 : m.length = 4
        · obtain ⟨a, b, c, d, rfl⟩ := l4 h4
          have h5 : ((((wPanel :: r).length : Nat) : Int) == 5) = true := by simp only [List.length_cons, beq_iff_eq]; omega
          rw [h5]
          simp only [if_true, idx0, idx1, idx2, idx3, Option.bind_some, F_panel_readLine_J1]
          rfl
        · have h5 : ((((wPanel :: r).length : Nat) : Int) == 5) = false := by
            rw [Bool.eq_false_iff]; simp only [List.length_cons, ne_eq, beq_iff_eq]; omega
          rw [h5, lineP_no h4]
          simp only [Bool.false_eq_true, if_false]
          rfl
      · have : (i == 0) = false := by simpa using hi
        rw [this, if_neg hi]
        rfl
    · simp only [q6, true_or, if_true] at hsk
      subst hsk
      simp only [q5, q6, q7, q8, if_true, Bool.false_and, Bool.false_eq_true, if_false, Bool.true_and]
      by_cases hi : i = 0
      · subst hi
        simp only [beq_self_eq_true, if_true]
        rfl
      · have : (i == 0) = false := by simpa using hi
        rw [this, if_neg hi]
        simp only [bne_self_eq_false, Bool.false_eq_true, if_false]
        rw [w64_small hp]
        cases r with
        | nil => rfl
        | cons nm r =>
          simp only [List.drop_succ_cons, List.drop_zero] at hn hml
          by_cases h4 : m.length = 2
          · obtain ⟨a, b, rfl⟩ := l2 h4
            have h5 : ((((wBoard :: nm :: r).length : Nat) : Int) == 4) = true := by simp only [List.length_cons, beq_iff_eq]; simp at hml; omega
            rw [h5]
            unfold lineB
            simp only [hn, lineB2]
            by_cases hz : (p.Slots.length : Int) + (p.Marks.length : Int) = 0
            · have hz' : ((p.Slots.length : Int) + (p.Marks.length : Int) == 0) = true := by simpa using hz
              simp only [hz', Bool.and_self, if_true, idx0, idx1, Option.bind_some, F_panel_readLine_J1]
              rw [apd_ok (by simp; omega), Option.bind_some, if_pos hz]
              rfl
            · have hz' : ((p.Slots.length : Int) + (p.Marks.length : Int) == 0) = false := by simpa using hz
              simp only [hz', Bool.and_false, Bool.false_eq_true, if_false]
              rw [if_neg hz]
              rfl
          · have h5 : ((((wBoard :: nm :: r).length : Nat) : Int) == 4) = false := by
              rw [Bool.eq_false_iff]; simp only [List.length_cons, ne_eq, beq_iff_eq]; omega
            rw [h5, lineB_no hn h4]
            simp only [Bool.false_and, Bool.false_eq_true, if_false]
            rfl
    · simp only [q11, or_true, if_true] at hsk
      subst hsk
      simp only [q9, q10, q11, q12, if_true, Bool.false_and, Bool.false_eq_true, if_false, Bool.true_and]
      by_cases hi : i = 0
      · subst hi
        simp only [beq_self_eq_true, if_true]
        rfl
      · have : (i == 0) = false := by simpa using hi
        rw [this, if_neg hi]
        simp only [bne_self_eq_false, Bool.false_eq_true, if_false]
        cases r with
        | nil => rfl
        | cons nm r =>
          simp only [List.drop_succ_cons, List.drop_zero] at hn hml
          by_cases h4 : m.length = 3
          · obtain ⟨a, b, c, rfl⟩ := l3 h4
            have h5 : ((((wSlot :: nm :: r).length : Nat) : Int) == 5) = true := by simp only [List.length_cons, beq_iff_eq]; simp at hml; omega
            rw [h5]
            unfold lineS
            simp only [hn, lineS2]
            by_cases hz : (p.Marks.length : Int) = 0
            · have hz' : ((p.Marks.length : Int) == 0) = true := by simpa using hz
              simp only [hz', Bool.and_self, if_true, idx0, idx1, idx2, Option.bind_some, F_panel_readLine_J1]
              rw [apd_ok (by simp; omega), Option.bind_some, if_pos hz]
              rfl
            · have hz' : ((p.Marks.length : Int) == 0) = false := by simpa using hz
              simp only [hz', Bool.and_false, Bool.false_eq_true, if_false]
              rw [if_neg hz]
              rfl
          · have h5 : ((((wSlot :: nm :: r).length : Nat) : Int) == 5) = false := by
              rw [Bool.eq_false_iff]; simp only [List.length_cons, ne_eq, beq_iff_eq]; omega
            rw [h5, lineS_no hn h4]
            simp only [Bool.false_and, Bool.false_eq_true, if_false]
            rfl
    · simp only [q14, q15, Bool.false_eq_true, or_self, if_false] at hsk
      subst hsk
      simp only [List.drop_succ_cons, List.drop_zero] at hn hml
      simp only [q13, q14, q15, q16, if_true, Bool.false_and, Bool.false_eq_true, if_false, Bool.true_and]
      by_cases hi : i = 0
      · subst hi
        simp only [beq_self_eq_true, if_true]
        rfl
      · have : (i == 0) = false := by simpa using hi
        rw [this, if_neg hi]
        simp only [bne_self_eq_false, Bool.false_eq_true, if_false, hn]
        by_cases h4 : m.length = 2
        · obtain ⟨a, b, rfl⟩ := l2 h4
          have h5 : ((((wMark :: r).length : Nat) : Int) == 3) = true := by simp only [List.length_cons, beq_iff_eq]; simp at hml; omega
          rw [h5]
          simp only [if_true, idx0, idx1, Option.bind_some, F_panel_readLine_J1]
          rw [apd_ok (by simp; omega), Option.bind_some]
          rfl
        · have h5 : ((((wMark :: r).length : Nat) : Int) == 3) = false := by
            rw [Bool.eq_false_iff]; simp only [List.length_cons, ne_eq, beq_iff_eq]; omega
          rw [h5, lineM_no h4]
          simp only [Bool.false_eq_true, if_false]
          rfl
    · simp only [e1, e2, e3, e4, Bool.false_and, Bool.false_eq_true, if_false]
      by_cases hi : i = 0
      · subst hi; rfl
      · have : (i == 0) = false := by simpa using hi
        rw [this, if_neg hi]
        rfl
theorem readLine_ok {p : TPanel} (hp : SmallP p) {i : Int} {s : ByteArray} (hs : s.size ≤ 200000) : F_panel_readLine p i s = some (ofL p (lineOf p i (words s))) := by
  have hl := words_len s
  unfold F_panel_readLine
  rw [split_ok (by omega), Option.bind_some, ContainsS_ok (g := fun x => !rowOk x) (fun x _ => by unfold F_panel_readLine_1; rw [IsRow_ok]; rfl), Option.bind_some, any_not]
  cases hall : (words s).all rowOk
  · simp only [Bool.not_false, if_true]
    unfold lineOf
    rw [if_pos hall]; rfl
  · simp only [Bool.not_true, Bool.false_eq_true, if_false]
    cases hw : words s with
    | nil => rw [hw] at hl; simp at hl
    | cons k r =>
      rw [hw] at hall hl
      simp only [idx0, Option.bind_some]
      have hrl : r.length ≤ 300000 := by simp at hl; omega
      cases h1 : sEq k wBoard
      · cases h2 : sEq k wSlot
        · simp only [Bool.false_eq_true, if_false, Option.bind_some]
          exact J2_ok hp hall hrl (sk := 1) (by rw [h1, h2]; rfl)
        · simp only [Bool.false_eq_true, if_false, Option.bind_some, if_true]
          exact J2_ok hp hall hrl (sk := 2) (by rw [h1, h2]; rfl)
      · simp only [if_true, Option.bind_some]
        exact J2_ok hp hall hrl (sk := 2) (by rw [h1]; simp)
end Go.Proofs.YtmbjoffligicnaaGreatDoor
namespace Go.Proofs.YtmbjoffligicnaaGreatDoor
theorem rowOk_ne {s : ByteArray} (h : rowOk s = true) : sEq s ⟨#[]⟩ = false := by
  unfold rowOk at h
  rw [sEq_nil]
  simp at h
  simp [h.1]
theorem sEq_none : sEq (⟨#[]⟩ : ByteArray) ⟨#[]⟩ = true := by rw [sEq_nil]; rfl
set_option maxHeartbeats 1000000 in
theorem J2R_ok {N : Nat} (hN : 400000 ≤ N) {p : TPanel} (hp : SmallP p) {i : Int} {k : ByteArray} {r : List ByteArray} (hall : (k :: r).all rowOk = true) (hl : r.length ≤ 300000) {x : ByteArray} {l : List ByteArray}
    (hx : ((sEq k wBoard = true ∨ sEq k wSlot = true) ∧ r = x :: l) ∨ (((sEq k wBoard = false ∧ sEq k wSlot = false) ∨ r = []) ∧ x = ⟨#[]⟩ ∧ l = r)) :
    F_etchhouseref9_line_J2 N p i (k :: r) x l = some (ofL p (lineOf p i (k :: r))) := by
  obtain ⟨q1, q2, q3, q4, q5, q6, q7, q8, q9, q10, q11, q12, q13, q14, q15, q16⟩ := eqTab
  have hP := hp.k; have hS := hp.s; have hM := hp.m
  have hll : l.length ≤ 300000 := by
    rcases hx with ⟨_, rfl⟩ | ⟨_, _, rfl⟩
    · simp at hl; omega
    · exact hl
  unfold F_etchhouseref9_line_J2
  rw [lineOf_all hall, NumbersR_ok (by omega) (by omega) (by omega), Option.bind_some]
  simp only [idx0, Option.bind_some]
  cases hn : nums l with
  | none =>
    rw [numsT_none hn]
    simp only [Bool.not_false, if_true, Option.bind_some]
    rcases kinds5 k with rfl | rfl | rfl | rfl | ⟨e1, e2, e3, e4⟩
    · have hlr : l = r := by
        rcases hx with ⟨h | h, _⟩ | ⟨_, _, h⟩
        · rw [q2] at h; cases h
        · rw [q3] at h; cases h
        · exact h
      subst hlr
      simp only [q1, if_true, hn]
      split <;> rfl
    · rcases hx with ⟨_, rfl⟩ | ⟨h, _, rfl⟩
      · simp only [q5, q6, if_true, Bool.false_eq_true, if_false, lineB_none hn]
        split <;> rfl
      · rcases h with ⟨h, _⟩ | rfl
        · rw [q6] at h; cases h
        · simp [nums] at hn
    · rcases hx with ⟨_, rfl⟩ | ⟨h, _, rfl⟩
      · simp only [q9, q10, q11, if_true, Bool.false_eq_true, if_false, lineS_none hn]
        split <;> rfl
      · rcases h with ⟨_, h⟩ | rfl
        · rw [q11] at h; cases h
        · simp [nums] at hn
    · have hlr : l = r := by
        rcases hx with ⟨h | h, _⟩ | ⟨_, _, h⟩
        · rw [q14] at h; cases h
        · rw [q15] at h; cases h
        · exact h
      subst hlr
      simp only [q13, q14, q15, q16, if_true, Bool.false_eq_true, if_false, hn]
      split <;> rfl
    · simp only [e1, e2, e3, e4, Bool.false_eq_true, if_false]
      split <;> rfl
  | some m =>
    rw [numsT_some hn]
    simp only [Bool.not_true, Bool.false_eq_true, if_false, Option.bind_some]
    rcases kinds5 k with rfl | rfl | rfl | rfl | ⟨e1, e2, e3, e4⟩
    · have hlr : l = r := by
        rcases hx with ⟨h | h, _⟩ | ⟨_, _, h⟩
        · rw [q2] at h; cases h
        · rw [q3] at h; cases h
        · exact h
      subst hlr
      simp only [q1, q2, q3, q4, if_true, Bool.false_and, Bool.false_eq_true, if_false, Bool.true_and]
      by_cases hi : i = 0
      · subst hi
        simp only [beq_self_eq_true, bne_self_eq_false, Bool.false_eq_true, if_false, if_true, hn]
        by_cases h4 : m.length = 4
        · obtain ⟨a, b, c, d, rfl⟩ := l4 h4
          simp only [List.length_cons, List.length_nil]
          rfl
        · have h5 : (((m.length : Nat) : Int) == 4) = false := by
            rw [Bool.eq_false_iff]; simp only [ne_eq, beq_iff_eq]; omega
          rw [h5, lineP_no h4]
          simp only [Bool.false_eq_true, if_false]
          rfl
      · have : (i == 0) = false := by simpa using hi
        rw [this, if_neg hi]
        rfl
    · simp only [q5, q6, q7, q8, if_true, Bool.false_and, Bool.false_eq_true, if_false, Bool.true_and]
      by_cases hi : i = 0
      · subst hi
        simp only [beq_self_eq_true, if_true]
        rfl
      · have : (i == 0) = false := by simpa using hi
        rw [this, if_neg hi]
        simp only [bne_self_eq_false, Bool.false_eq_true, if_false]
        rw [w64_small hp]
        rcases hx with ⟨_, rfl⟩ | ⟨h, rfl, rfl⟩
        · have hrx : rowOk x = true := by simp at hall; exact hall.2.1
          rw [rowOk_ne hrx]
          by_cases h4 : m.length = 2
          · obtain ⟨a, b, rfl⟩ := l2 h4
            unfold lineB
            simp only [hn, lineB2]
            have h5 : (((([a, b] : List Int).length : Nat) : Int) == 2) = true := rfl
            rw [h5]
            by_cases hz : (p.Slots.length : Int) + (p.Marks.length : Int) = 0
            · have hz' : ((p.Slots.length : Int) + (p.Marks.length : Int) == 0) = true := by simpa using hz
              simp only [hz', Bool.not_false, Bool.and_self, if_true, idx0, idx1, Option.bind_some, F_etchhouseref9_line_J1]
              rw [apd_ok (by simp; omega), Option.bind_some, if_pos hz]
              rfl
            · have hz' : ((p.Slots.length : Int) + (p.Marks.length : Int) == 0) = false := by simpa using hz
              simp only [hz', Bool.and_false, Bool.false_eq_true, if_false]
              rw [if_neg hz]
              rfl
          · have h5 : (((m.length : Nat) : Int) == 2) = false := by
              rw [Bool.eq_false_iff]; simp only [ne_eq, beq_iff_eq]; omega
            rw [h5, lineB_no hn h4]
            simp only [Bool.and_false, Bool.false_and, Bool.false_eq_true, if_false]
            rfl
        · rcases h with ⟨h, _⟩ | rfl
          · rw [q6] at h; cases h
          · rw [sEq_none]
            simp only [Bool.not_true, Bool.false_and, Bool.false_eq_true, if_false]
            rfl
    · simp only [q9, q10, q11, q12, if_true, Bool.false_and, Bool.false_eq_true, if_false, Bool.true_and]
      by_cases hi : i = 0
      · subst hi
        simp only [beq_self_eq_true, if_true]
        rfl
      · have : (i == 0) = false := by simpa using hi
        rw [this, if_neg hi]
        simp only [bne_self_eq_false, Bool.false_eq_true, if_false]
        rcases hx with ⟨_, rfl⟩ | ⟨h, rfl, rfl⟩
        · have hrx : rowOk x = true := by simp at hall; exact hall.2.1
          rw [rowOk_ne hrx]
          by_cases h4 : m.length = 3
          · obtain ⟨a, b, c, rfl⟩ := l3 h4
            unfold lineS
            simp only [hn, lineS2]
            have h5 : (((([a, b, c] : List Int).length : Nat) : Int) == 3) = true := rfl
            rw [h5]
            by_cases hz : (p.Marks.length : Int) = 0
            · have hz' : ((p.Marks.length : Int) == 0) = true := by simpa using hz
              simp only [hz', Bool.not_false, Bool.and_self, if_true, idx0, idx1, idx2, Option.bind_some, F_etchhouseref9_line_J1]
              rw [apd_ok (by simp; omega), Option.bind_some, if_pos hz]
              rfl
            · have hz' : ((p.Marks.length : Int) == 0) = false := by simpa using hz
              simp only [hz', Bool.and_false, Bool.false_eq_true, if_false]
              rw [if_neg hz]
              rfl
          · have h5 : (((m.length : Nat) : Int) == 3) = false := by
              rw [Bool.eq_false_iff]; simp only [ne_eq, beq_iff_eq]; omega
            rw [h5, lineS_no hn h4]
            simp only [Bool.and_false, Bool.false_and, Bool.false_eq_true, if_false]
            rfl
        · rcases h with ⟨_, h⟩ | rfl
          · rw [q11] at h; cases h
          · rw [sEq_none]
            simp only [Bool.not_true, Bool.false_and, Bool.false_eq_true, if_false]
            rfl
    · have hlr : l = r := by
        rcases hx with ⟨h | h, _⟩ | ⟨_, _, h⟩
        · rw [q14] at h; cases h
        · rw [q15] at h; cases h
        · exact h
      subst hlr
      simp only [q13, q14, q15, q16, if_true, Bool.false_and, Bool.false_eq_true, if_false, Bool.true_and]
      by_cases hi : i = 0
      · subst hi
        simp only [beq_self_eq_true, if_true]
        rfl
      · have : (i == 0) = false := by simpa using hi
        rw [this, if_neg hi]
        simp only [bne_self_eq_false, Bool.false_eq_true, if_false, hn]
        by_cases h4 : m.length = 2
        · obtain ⟨a, b, rfl⟩ := l2 h4
          have h5 : (((([a, b] : List Int).length : Nat) : Int) == 2) = true := rfl
          rw [h5]
          simp only [if_true, idx0, idx1, Option.bind_some, F_etchhouseref9_line_J1]
          rw [apd_ok (by simp; omega), Option.bind_some]
          rfl
        · have h5 : (((m.length : Nat) : Int) == 2) = false := by
            rw [Bool.eq_false_iff]; simp only [ne_eq, beq_iff_eq]; omega
          rw [h5, lineM_no h4]
          simp only [Bool.false_eq_true, if_false]
          rfl
    · simp only [e1, e2, e3, e4, Bool.false_and, Bool.false_eq_true, if_false]
      by_cases hi : i = 0
      · subst hi; rfl
      · have : (i == 0) = false := by simpa using hi
        rw [this, if_neg hi]
        rfl
theorem lineR_ok {N : Nat} (hN : 400000 ≤ N) {p : TPanel} (hp : SmallP p) {i : Int} {s : ByteArray} (hs : s.size ≤ 200000) : F_etchhouseref9_line N p s i = some (ofL p (lineOf p i (words s))) := by
  have hl := words_len s
  unfold F_etchhouseref9_line
  rw [Words_ok hs (by omega), Option.bind_some]
  cases hall : (words s).all rowOk
  · simp only [Bool.false_eq_true, if_false, Bool.not_false, if_true]
    unfold lineOf
    rw [if_pos hall]; rfl
  · simp only [if_true, Bool.not_true, Bool.false_eq_true, if_false]
    cases hw : words s with
    | nil => rw [hw] at hl; simp at hl
    | cons k r =>
      rw [hw] at hall hl
      have hrl : r.length ≤ 300000 := by simp at hl; omega
      rw [show (1 : Int) = ((1 : Nat) : Int) from rfl, cutTo (by simp), Option.bind_some]
      simp only [idx0, Option.bind_some, List.drop_succ_cons, List.drop_zero]
      have hg : (if sEq k wBoard = true then some true else some (sEq k wSlot)) = some (sEq k wBoard || sEq k wSlot) := by cases sEq k wBoard <;> rfl
      have hg' : (if sEq k (⟨#[98, 111, 97, 114, 100]⟩) = true then some true else some (sEq k (⟨#[115, 108, 111, 116]⟩))) = some (sEq k wBoard || sEq k wSlot) := hg
      rw [hg', Option.bind_some]
      cases r with
      | nil =>
        have : ((sEq k wBoard || sEq k wSlot) && decide (0 < ((([] : List ByteArray).length : Nat) : Int))) = false := by simp
        rw [this]
        simp only [Bool.false_eq_true, if_false]
        exact J2R_ok hN hp hall (by simp) (.inr ⟨.inr rfl, rfl, rfl⟩)
      | cons a r =>
        have h0 : decide (0 < (((a :: r).length : Nat) : Int)) = true := decide_eq_true (by simp only [List.length_cons]; omega)
        rw [h0, Bool.and_true]
        by_cases hb : (sEq k wBoard || sEq k wSlot) = true
        · rw [if_pos hb]
          simp only [idx0, Option.bind_some]
          rw [cutTo (by simp), Option.bind_some]
          simp only [List.drop_succ_cons, List.drop_zero]
          exact J2R_ok hN hp hall hrl (.inl ⟨by simpa using hb, rfl⟩)
        · rw [if_neg hb]
          exact J2R_ok hN hp hall hrl (.inr ⟨.inl (by simpa using hb), rfl, rfl⟩)
end Go.Proofs.YtmbjoffligicnaaGreatDoor
namespace Go.Proofs.YtmbjoffligicnaaGreatDoor
abbrev zeroP : TPanel := ⟨0, 0, 0, 0, [], [], []⟩
/-- The first line, what is behind it, whether it ends. -/
def lineCut (s : ByteArray) : ByteArray × ByteArray × Bool := (⟨(Lib.cut (bs s) [10]).1.toArray⟩, ⟨(Lib.cut (bs s) [10]).2.1.toArray⟩, (Lib.cut (bs s) [10]).2.2)
theorem cut_line {s : ByteArray} (h : s.size ≤ 200000) : cutF s ⟨#[10]⟩ = some (lineCut s) := by
  unfold cutF
  rw [if_pos (by omega)]; rfl
theorem lineCut_sz (s : ByteArray) : (lineCut s).1.size ≤ s.size ∧ ((lineCut s).2.2 = true → (lineCut s).2.1.size + 1 ≤ s.size) := by
  have e : ∀ l : List UInt8, (ByteArray.mk l.toArray).size = l.length := fun l => by rw [bs_size]; simp [bs]
  rw [bs_size s]
  unfold lineCut
  simp only [e]
  unfold Lib.cut
  split
  · rename_i h
    refine ⟨by simp only [List.length_take]; omega, fun _ => ?_⟩
    simp only [List.length_drop, List.length_cons, List.length_nil]
    cases hb : bs s with
    | nil => rw [hb] at h; exact absurd h (by decide)
    | cons b l => simp only [List.length_cons]; omega
  · exact ⟨Nat.le_refl _, fun h => by cases h⟩
def sizeP (p : TPanel) : Nat := p.Kinds.length + p.Slots.length + p.Marks.length
theorem lineOf_inv {p q : TPanel} {i : Int} {w : List ByteArray} {B : Nat} (h : lineOf p i w = some q) (hw : ∀ x ∈ w, x.size ≤ B) (hk : ∀ k ∈ p.Kinds, k.Name.size ≤ B) : sizeP q ≤ sizeP p + 1 ∧ ∀ k ∈ q.Kinds, k.Name.size ≤ B := by
  unfold lineOf at h
  split at h
  · cases h
  cases w with
  | nil => cases h
  | cons k r =>
    simp only at h
    split at h
    · split at h
      · unfold lineP at h
        split at h
        · obtain rfl := Option.some.inj h
          exact ⟨by unfold sizeP; simp, hk⟩
        · cases h
      · cases h
    split at h
    · cases h
    split at h
    · unfold lineB at h
      cases r with
      | nil => cases h
      | cons nm r =>
        simp only at h
        unfold lineB2 at h
        split at h
        · split at h
          · obtain rfl := Option.some.inj h
            refine ⟨by unfold sizeP; simp; omega, fun k hk' => ?_⟩
            rcases List.mem_append.1 hk' with h1 | h1
            · exact hk k h1
            · simp at h1; subst h1; exact hw nm (by simp)
          · cases h
        · cases h
    split at h
    · unfold lineS at h
      cases r with
      | nil => cases h
      | cons nm r =>
        simp only at h
        unfold lineS2 at h
        split at h
        · split at h
          · obtain rfl := Option.some.inj h
            exact ⟨by unfold sizeP; simp; omega, hk⟩
          · cases h
        · cases h
    split at h
    · unfold lineM at h
      split at h
      · obtain rfl := Option.some.inj h
        exact ⟨by unfold sizeP; simp; omega, hk⟩
      · cases h
    · cases h
/-- What is read. -/
def readF : Nat → TPanel → ByteArray → Int → TPanel × Int × Int
  | 0, p, _, _ => (p, 0, 0)
  | n + 1, p, t, i =>
    if ((i == 0) || !sEq t ⟨#[]⟩) = true then
      (if (lineCut t).2.2 = true then
        match lineOf p i (words (lineCut t).1) with
        | none => (zeroP, i + 1, 10)
        | some q => readF n q (lineCut t).2.1 (i + 1)
      else (zeroP, i + 1, 10))
    else if openErr p = 0 then (p, 0, 0) else (zeroP, 0, openErr p)
/-- How far one is. -/
structure JR (p : TPanel) (t : ByteArray) (i : Int) : Prop where
  i0 : 0 ≤ i
  it : i + t.size ≤ 200000
  sz : (sizeP p : Int) ≤ i
  nm : ∀ k ∈ p.Kinds, k.Name.size ≤ 200000
theorem JR.small {p : TPanel} {t : ByteArray} {i : Int} (h : JR p t i) : SmallP p := by
  have := h.sz; have := h.it; unfold sizeP at this
  constructor <;> (have := h.sz; unfold sizeP at this; omega)
theorem JR.fuel {p : TPanel} {t : ByteArray} {i : Int} {N : Nat} (hN : 20000000 ≤ N) (h : JR p t i) : FuelP N p :=
  ⟨hN, by have := h.small.k; omega, fun k hk => by have := h.nm k hk; omega⟩
theorem JR.next {p q : TPanel} {t : ByteArray} {i : Int} (h : JR p t i) (hc : (lineCut t).2.2 = true) (hq : lineOf p i (words (lineCut t).1) = some q) : JR q (lineCut t).2.1 (i + 1) := by
  obtain ⟨h1, h2⟩ := lineCut_sz t
  have h2 := h2 hc
  have hi := h.i0; have ht := h.it; have hs := h.sz
  obtain ⟨h3, h4⟩ := lineOf_inv (B := 200000) hq (fun x hx => by have := words_size hx; omega) h.nm
  exact ⟨by omega, by omega, by omega, h4⟩
theorem readP_loop {N : Nat} (hN : 20000000 ≤ N) : ∀ (n m : Nat) (p : TPanel) (t : ByteArray) (i : Int), t.size < n → n ≤ m → JR p t i →
    F_panel_Read_L1 N m p.W p.H p.Rail p.Gap p.Kinds p.Slots p.Marks t i = some (readF n p t i)
  | 0, _, _, _, _, h, _, _ => absurd h (by omega)
  | n + 1, 0, _, _, _, _, h, _ => absurd h (by omega)
  | n + 1, m + 1, p, t, i, hn, hm, hJ => by
    have hi := hJ.i0; have ht := hJ.it
    unfold F_panel_Read_L1 readF
    by_cases hc : ((i == 0) || !sEq t ⟨#[]⟩) = true
    · rw [if_pos hc, if_pos hc, cut_line (by omega), Option.bind_some, w64_id (by omega) (by omega)]
      cases hk : (lineCut t).2.2
      · rfl
      · simp only [Bool.not_true, Bool.false_eq_true, if_false, if_true]
        obtain ⟨z1, z2⟩ := lineCut_sz t
        have z2 := z2 hk
        have := readLine_ok (p := p) hJ.small (i := i) (s := (lineCut t).1) (by omega)
        rw [this, Option.bind_some]
        cases hq : lineOf p i (words (lineCut t).1) with
        | none => rfl
        | some q =>
          simp only [ofL, Bool.not_true, Bool.false_eq_true, if_false]
          exact readP_loop hN n m q _ (i + 1) (by omega) (by omega) (hJ.next hk hq)
    · rw [if_neg hc, if_neg hc]
      have := checkPanelP_ok (hJ.fuel hN)
      rw [this, Option.bind_some]
      by_cases he : openErr p = 0
      · rw [if_pos he, he]; rfl
      · rw [if_neg he, if_pos (by simpa using he)]
theorem readR_loop {N : Nat} (hN : 20000000 ≤ N) : ∀ (n m : Nat) (p : TPanel) (t : ByteArray) (i : Int), t.size < n → n ≤ m → JR p t i →
    F_etchhouseref9_Read_L1 N m p.W p.H p.Rail p.Gap p.Kinds p.Slots p.Marks t i = some (readF n p t i)
  | 0, _, _, _, _, h, _, _ => absurd h (by omega)
  | n + 1, 0, _, _, _, _, h, _ => absurd h (by omega)
  | n + 1, m + 1, p, t, i, hn, hm, hJ => by
    have hi := hJ.i0; have ht := hJ.it
    unfold F_etchhouseref9_Read_L1 readF
    rw [Bool.or_comm]
    by_cases hc : ((i == 0) || !sEq t ⟨#[]⟩) = true
    · rw [if_pos hc, if_pos hc, cut_line (by omega), Option.bind_some, w64_id (by omega) (by omega)]
      cases hk : (lineCut t).2.2
      · rfl
      · simp only [Bool.not_true, Bool.false_eq_true, if_false, if_true]
        obtain ⟨z1, z2⟩ := lineCut_sz t
        have z2 := z2 hk
        have := lineR_ok (N := N) (by omega) (p := p) hJ.small (i := i) (s := (lineCut t).1) (by omega)
        rw [this, Option.bind_some]
        cases hq : lineOf p i (words (lineCut t).1) with
        | none => rfl
        | some q =>
          simp only [ofL, Bool.not_true, Bool.false_eq_true, if_false]
          exact readR_loop hN n m q _ (i + 1) (by omega) (by omega) (hJ.next hk hq)
    · rw [if_neg hc, if_neg hc]
      have hf := hJ.fuel hN
      have := checkPanel_ok (N := N) (p := p) (by omega) hf.kinds hf.names
      rw [this, Option.bind_some]
      by_cases he : openErr p = 0
      · rw [if_pos he, he]; rfl
      · rw [if_neg he, if_pos (by simpa using he)]
def readT (t : ByteArray) : TPanel × Int × Int := if 200000 < t.size then (zeroP, 0, 2) else readF (t.size + 1) zeroP t 0
theorem JR.first {t : ByteArray} (h : t.size ≤ 200000) : JR zeroP t 0 := ⟨Int.le_refl _, by omega, by decide, fun k hk => by cases hk⟩
theorem readP_ok {N : Nat} (hN : 20000000 ≤ N) (t : ByteArray) : F_panel_Read N t = some (readT t) := by
  unfold F_panel_Read readT
  by_cases h : 200000 < t.size
  · rw [if_pos (decide_eq_true (by omega)), if_pos h]
  · rw [if_neg (by simp; omega), if_neg h]
    exact readP_loop hN _ N zeroP t 0 (by omega) (by omega) (JR.first (by omega))
theorem readR_ok {N : Nat} (hN : 20000000 ≤ N) (t : ByteArray) : F_etchhouseref9_Read N t = some (readT t) := by
  unfold F_etchhouseref9_Read readT
  by_cases h : 200000 < t.size
  · rw [if_pos (decide_eq_true (by omega)), if_pos h]
  · rw [if_neg (by simp; omega), if_neg h]
    exact readR_loop hN _ N zeroP t 0 (by omega) (by omega) (JR.first (by omega))
/-- What is read is small. -/
theorem readF_small : ∀ (n : Nat) (p : TPanel) (t : ByteArray) (i : Int), JR p t i → SmallP (readF n p t i).1 ∧ ∀ k ∈ (readF n p t i).1.Kinds, k.Name.size ≤ 200000
  | 0, p, t, i, h => ⟨h.small, h.nm⟩
  | n + 1, p, t, i, h => by
    have hz : SmallP zeroP ∧ ∀ k ∈ zeroP.Kinds, k.Name.size ≤ 200000 := ⟨⟨by decide, by decide, by decide⟩, fun k hk => by cases hk⟩
    unfold readF
    split
    · split
      · rename_i hk
        cases hq : lineOf p i (words (lineCut t).1) with
        | none => exact hz
        | some q => exact readF_small n q _ (i + 1) (h.next hk hq)
      · exact hz
    · split
      · exact ⟨h.small, h.nm⟩
      · exact hz
theorem readT_small (t : ByteArray) : SmallP (readT t).1 ∧ ∀ k ∈ (readT t).1.Kinds, k.Name.size ≤ 200000 := by
  unfold readT
  split
  · exact ⟨⟨by decide, by decide, by decide⟩, fun k hk => by cases hk⟩
  · exact readF_small _ _ _ _ (JR.first (by omega))
end Go.Proofs.YtmbjoffligicnaaGreatDoor
namespace Go.Proofs.YtmbjoffligicnaaGreatDoor
def mkB (l : List UInt8) : ByteArray := ⟨l.toArray⟩
theorem bs_mkB (l : List UInt8) : bs (mkB l) = l := by simp [bs, mkB]
theorem mkB_bs (s : ByteArray) : mkB (bs s) = s := bs_inj (bs_mkB _)
theorem mkB_size (l : List UInt8) : (mkB l).size = l.length := by rw [bs_size, bs_mkB]
theorem mkB_app (a b : List UInt8) : mkB a ++ mkB b = mkB (a ++ b) := bs_inj (by rw [bs_app, bs_mkB, bs_mkB, bs_mkB])
theorem catS_mk {a b : List UInt8} (h : a.length + b.length ≤ 9223372036854775807) : catS (mkB a) (mkB b) = some (mkB (a ++ b)) := by
  unfold catS
  rw [if_pos (by rw [mkB_size, mkB_size]; exact h), mkB_app]
theorem sbW_mk {a b : List UInt8} (h : a.length + b.length ≤ 140737488355328) : sbW (mkB a) (mkB b) = some (mkB (a ++ b)) := by
  unfold sbW
  rw [if_pos (by rw [mkB_size, mkB_size]; exact h), mkB_app]
def it (n : Int) : List UInt8 := Lib.itoa n
def NB (n : Int) : Prop := -1000000000 ≤ n ∧ n ≤ 1000000000
theorem it_len {n : Int} (h : NB n) : (it n).length ≤ 21 := Lib.itoa_length_le n (by have := h.1; omega) (by have := h.2; omega)
theorem it_ok {n : Int} (h : NB n) : itoaF n = some (mkB (it n)) := if_pos ⟨by have := h.1; omega, by have := h.2; omega⟩
/-- A line: a word, others behind blanks. -/
def lineL (w : List UInt8) (r : List (List UInt8)) : List UInt8 := w ++ ((r.map (32 :: ·)).flatten ++ [10])
theorem join_lineL (w : List UInt8) (r : List (List UInt8)) : Lib.join (w :: r) [32] ++ [10] = lineL w r := by
  rw [Lib.join_cons]
  unfold lineL Lib.joinTail
  rw [List.append_assoc]
  rfl
theorem text1 {w : ByteArray} {r : List ByteArray} {m : List UInt8} (hr : r.length ≤ 10) (h : m.length + (lineL (bs w) (r.map bs)).length ≤ 1000000) : F_panel_Text_1 (w :: r) (mkB m) = some (mkB (m ++ lineL (bs w) (r.map bs))) := by
  have e : ((w :: r).map fun x : ByteArray => x.data.toList) = bs w :: r.map bs := rfl
  have hl : (Lib.join (bs w :: r.map bs) [32]).length + 1 = (lineL (bs w) (r.map bs)).length := by rw [← join_lineL]; simp
  have hj : joinF (w :: r) ⟨#[32]⟩ = some (mkB (Lib.join (bs w :: r.map bs) [32])) := by
    unfold joinF
    rw [e, if_pos ⟨by simp; omega, by show (Lib.join (bs w :: r.map bs) [32]).length ≤ _; omega⟩]
    rfl
  unfold F_panel_Text_1
  rw [hj, Option.bind_some]
  have hc : catS (mkB (Lib.join (bs w :: r.map bs) [32])) ⟨#[10]⟩ = some (mkB (lineL (bs w) (r.map bs))) := by
    have := catS_mk (a := Lib.join (bs w :: r.map bs) [32]) (b := [10]) (by simp; omega)
    rw [join_lineL] at this; exact this
  rw [hc, Option.bind_some, sbW_mk (by omega)]
  rfl
def kindL (k : TBoardKind) : List UInt8 := lineL (bs wBoard) [bs k.Name, it k.W, it k.H]
def slotL (s : TSlot) : List UInt8 := lineL (bs wSlot) [bs s.Board, it s.Quarters, it s.At.X, it s.At.Y]
def markL (q : TPoint) : List UInt8 := lineL (bs wMark) [it q.X, it q.Y]
def headL (p : TPanel) : List UInt8 := lineL (bs wPanel) [it p.W, it p.H, it p.Rail, it p.Gap]
/-- A panel's text. -/
def textL (p : TPanel) : List UInt8 := headL p ++ ((p.Kinds.map kindL).flatten ++ ((p.Slots.map slotL).flatten ++ (p.Marks.map markL).flatten))
/-- Numbers and names within bounds. -/
structure TxOk (p : TPanel) : Prop where
  head : NB p.W ∧ NB p.H ∧ NB p.Rail ∧ NB p.Gap
  kinds : ∀ k ∈ p.Kinds, NB k.W ∧ NB k.H ∧ (bs k.Name).length ≤ 40
  slots : ∀ s ∈ p.Slots, NB s.Quarters ∧ NB s.At.X ∧ NB s.At.Y ∧ (bs s.Board).length ≤ 40
  marks : ∀ q ∈ p.Marks, NB q.X ∧ NB q.Y
  kl : p.Kinds.length ≤ 50
  sl : p.Slots.length ≤ 500
  ml : p.Marks.length ≤ 10
theorem flatLen {α : Type} {f : α → List UInt8} {c : Nat} : ∀ {l : List α}, (∀ x ∈ l, (f x).length ≤ c) → ((l.map f).flatten).length ≤ c * l.length
  | [], _ => by simp
  | x :: l, h => by
    have h1 := h x (by simp)
    have h2 := flatLen (l := l) (fun y hy => h y (by simp [hy]))
    simp only [List.map_cons, List.flatten_cons, List.length_append, List.length_cons, Nat.mul_add]
    omega
theorem TxOk.lens {p : TPanel} (h : TxOk p) : (headL p).length ≤ 200 ∧ ((p.Kinds.map kindL).flatten).length ≤ 200 * p.Kinds.length ∧ ((p.Slots.map slotL).flatten).length ≤ 200 * p.Slots.length ∧ ((p.Marks.map markL).flatten).length ≤ 200 * p.Marks.length := by
  refine ⟨?_, flatLen fun k hk => ?_, flatLen fun s hs => ?_, flatLen fun q hq => ?_⟩
  · obtain ⟨h1, h2, h3, h4⟩ := h.head
    have := it_len h1; have := it_len h2; have := it_len h3; have := it_len h4
    unfold headL lineL
    have hw : (bs wPanel).length = 5 := rfl
    simp only [List.map_cons, List.map_nil, List.flatten_cons, List.flatten_nil, List.length_append, List.length_cons, List.length_nil, hw]
    omega
  · obtain ⟨h1, h2, h3⟩ := h.kinds k hk
    have := it_len h1; have := it_len h2
    unfold kindL lineL
    have hw : (bs wBoard).length = 5 := rfl
    simp only [List.map_cons, List.map_nil, List.flatten_cons, List.flatten_nil, List.length_append, List.length_cons, List.length_nil, hw]
    omega
  · obtain ⟨h1, h2, h3, h4⟩ := h.slots s hs
    have := it_len h1; have := it_len h2; have := it_len h3
    unfold slotL lineL
    have hw : (bs wSlot).length = 4 := rfl
    simp only [List.map_cons, List.map_nil, List.flatten_cons, List.flatten_nil, List.length_append, List.length_cons, List.length_nil, hw]
    omega
  · obtain ⟨h1, h2⟩ := h.marks q hq
    have := it_len h1; have := it_len h2
    unfold markL lineL
    have hw : (bs wMark).length = 4 := rfl
    simp only [List.map_cons, List.map_nil, List.flatten_cons, List.flatten_nil, List.length_append, List.length_cons, List.length_nil, hw]
    omega
theorem textP3 : ∀ (l : List TPoint) (i : Nat) (m : List UInt8), (∀ q ∈ l, NB q.X ∧ NB q.Y) → m ≠ [] → m.length + ((l.map markL).flatten).length ≤ 1000000 → F_panel_Text_L3 l i (mkB m) = some (mkB (m ++ (l.map markL).flatten), 0)
  | [], i, m, _, hm, _ => by
    unfold F_panel_Text_L3 sbS
    have : (mkB m).size ≠ 0 := by
      rw [mkB_size]
      cases m with
      | nil => exact absurd rfl hm
      | cons _ _ => simp
    rw [if_pos this]; simp
  | q :: l, i, m, hq, hm, hl => by
    obtain ⟨h1, h2⟩ := hq q (by simp)
    simp only [List.map_cons, List.flatten_cons, List.length_append] at hl
    unfold F_panel_Text_L3
    rw [it_ok h1, Option.bind_some, it_ok h2, Option.bind_some]
    have hk : lineL (bs wMark) ([mkB (it q.X), mkB (it q.Y)].map bs) = markL q := by simp only [List.map_cons, List.map_nil, bs_mkB]; rfl
    have := text1 (w := wMark) (r := [mkB (it q.X), mkB (it q.Y)]) (m := m) (by simp) (by rw [hk]; omega)
    rw [hk] at this
    rw [this, Option.bind_some, textP3 l (i + 1) _ (fun y hy => hq y (by simp [hy])) (by simp [hm]) (by rw [List.length_append]; omega)]
    simp
theorem textP2 {p : TPanel} (hp : TxOk p) : ∀ (l : List TSlot) (i : Nat) (m : List UInt8), (∀ s ∈ l, NB s.Quarters ∧ NB s.At.X ∧ NB s.At.Y ∧ (bs s.Board).length ≤ 40) → m ≠ [] → m.length + ((l.map slotL).flatten).length ≤ 900000 →
    F_panel_Text_L2 p l i (mkB m) = some (mkB (m ++ ((l.map slotL).flatten ++ (p.Marks.map markL).flatten)), 0)
  | [], i, m, _, hm, hl => by
    unfold F_panel_Text_L2
    have := hp.lens.2.2.2; have := hp.ml
    rw [textP3 _ _ _ hp.marks hm (by simp at hl; omega)]
    simp
  | s :: l, i, m, hq, hm, hl => by
    obtain ⟨h1, h2, h3, h4⟩ := hq s (by simp)
    simp only [List.map_cons, List.flatten_cons, List.length_append] at hl
    unfold F_panel_Text_L2
    rw [it_ok h1, Option.bind_some, it_ok h2, Option.bind_some, it_ok h3, Option.bind_some]
    have hk : lineL (bs wSlot) ([s.Board, mkB (it s.Quarters), mkB (it s.At.X), mkB (it s.At.Y)].map bs) = slotL s := by simp only [List.map_cons, List.map_nil, bs_mkB]; rfl
    have := text1 (w := wSlot) (r := [s.Board, mkB (it s.Quarters), mkB (it s.At.X), mkB (it s.At.Y)]) (m := m) (by simp) (by rw [hk]; omega)
    rw [hk] at this
    rw [this, Option.bind_some, textP2 hp l (i + 1) _ (fun y hy => hq y (by simp [hy])) (by simp [hm]) (by rw [List.length_append]; omega)]
    simp
theorem textP1 {p : TPanel} (hp : TxOk p) : ∀ (l : List TBoardKind) (i : Nat) (m : List UInt8), (∀ k ∈ l, NB k.W ∧ NB k.H ∧ (bs k.Name).length ≤ 40) → m ≠ [] → m.length + ((l.map kindL).flatten).length ≤ 500000 →
    F_panel_Text_L1 p l i (mkB m) = some (mkB (m ++ ((l.map kindL).flatten ++ ((p.Slots.map slotL).flatten ++ (p.Marks.map markL).flatten))), 0)
  | [], i, m, _, hm, hl => by
    unfold F_panel_Text_L1
    have := hp.lens.2.2.1; have := hp.sl
    rw [textP2 hp _ _ _ hp.slots hm (by simp at hl; omega)]
    simp
  | k :: l, i, m, hq, hm, hl => by
    obtain ⟨h1, h2, h3⟩ := hq k (by simp)
    simp only [List.map_cons, List.flatten_cons, List.length_append] at hl
    unfold F_panel_Text_L1
    rw [it_ok h1, Option.bind_some, it_ok h2, Option.bind_some]
    have hk : lineL (bs wBoard) ([k.Name, mkB (it k.W), mkB (it k.H)].map bs) = kindL k := by simp only [List.map_cons, List.map_nil, bs_mkB]; rfl
    have := text1 (w := wBoard) (r := [k.Name, mkB (it k.W), mkB (it k.H)]) (m := m) (by simp) (by rw [hk]; omega)
    rw [hk] at this
    rw [this, Option.bind_some, textP1 hp l (i + 1) _ (fun y hy => hq y (by simp [hy])) (by simp [hm]) (by rw [List.length_append]; omega)]
    simp
/-- A name is a row of letters, of at most forty. -/
theorem name_loop (s : ByteArray) : ∀ (m : Nat) (pre suf : List UInt8), bs s = pre ++ suf → pre.all rowC = true → (bs s).length ≤ 9223372036854775807 → F_plot_IsName_L1 s m pre.length = some true → ((bs s).all rowC = true ∧ 1 ≤ (bs s).length ∧ (bs s).length ≤ 40)
  | 0, _, _, _, _, _, h => by cases h
  | m + 1, pre, [], hb, hp, hl, h => by
    unfold F_plot_IsName_L1 at h
    have : decide ((pre.length : Int) < (s.size : Int)) = false := decide_eq_false (by rw [bs_size, hb]; simp)
    rw [this] at h
    simp only [Bool.false_eq_true, if_false, Option.some.injEq, Bool.and_eq_true, decide_eq_true_eq] at h
    rw [bs_size] at h
    exact ⟨by rw [hb]; simpa using hp, by omega, by omega⟩
  | m + 1, pre, c :: suf, hb, hp, hl, h => by
    have hlen : (bs s).length = pre.length + (suf.length + 1) := by rw [hb]; simp
    unfold F_plot_IsName_L1 at h
    have h1 : decide ((pre.length : Int) < (s.size : Int)) = true := decide_eq_true (by rw [bs_size]; omega)
    have hc : strAt s (pre.length : Int) = some (c.toNat : Int) := strAt_bs (by rw [hb]; simp)
    rw [h1, if_pos rfl, hc, Option.bind_some] at h
    split at h
    · cases h
    · rename_i hn
      have hr : rowC c = true := by
        unfold rowC
        simp only [Bool.and_eq_true, Bool.or_eq_true, Bool.not_eq_true', Bool.or_eq_false_iff, Bool.and_eq_false_iff, decide_eq_true_eq, decide_eq_false_iff_not, bne_iff_ne, ne_eq, beq_iff_eq] at hn
        simp only [Bool.and_eq_true, decide_eq_true_eq]
        omega
      have e : w64 ((pre.length : Int) + 1) = ((pre ++ [c]).length : Int) := by
        rw [w64_eq (by omega) (by omega)]; simp
      rw [e] at h
      exact name_loop s m (pre ++ [c]) suf (by rw [hb]; simp) (by simp [hp, hr]) hl h
theorem nameOk_row {s : ByteArray} (hs : s.size ≤ 9223372036854775807) (h : nameOk s = true) : (bs s).all rowC = true ∧ 1 ≤ (bs s).length ∧ (bs s).length ≤ 40 := by
  unfold nameOk at h
  cases hx : F_plot_IsName_L1 s (s.size + 1) 0 with
  | none => rw [hx] at h; cases h
  | some b =>
    rw [hx] at h
    have h : b = true := h
    subst h
    exact name_loop s (s.size + 1) [] (bs s) rfl rfl (by rw [← bs_size]; exact hs) hx
theorem kindsErr_names : ∀ {l : List TBoardKind} {q : Option ByteArray}, kindsErr q l = 0 → ∀ k ∈ l, nameOk k.Name = true
  | [], _, _, k, hk => by cases hk
  | a :: l, q, h, k, hk => by
    unfold kindsErr at h
    split at h
    · omega
    · rename_i h1
      split at h
      · omega
      · split at h
        · omega
        · rcases List.mem_cons.1 hk with rfl | hk
          · simpa using h1
          · exact kindsErr_names h k hk
theorem marksErr_ok {p : TPanel} : ∀ {l : List TPoint} {prev : List TPoint}, marksErr p prev l = 0 → ∀ m ∈ l, (0 ≤ m.X ∧ m.X ≤ p.W) ∧ (0 ≤ m.Y ∧ m.Y ≤ p.H)
  | [], _, _, m, hm => by cases hm
  | a :: l, prev, h, m, hm => by
    unfold marksErr at h
    split at h
    · rename_i h0
      rcases List.mem_cons.1 hm with rfl | hm
      · unfold markErr at h0
        split at h0
        · omega
        · rename_i h1
          simp only [not_or, Bool.not_eq_false] at h1
          exact ⟨within_iff.1 h1.1, within_iff.1 h1.2⟩
      · exact marksErr_ok h m hm
    · rename_i h0; exact absurd h h0
theorem openErr_names {p : TPanel} (h : openErr p = 0) : (∀ k ∈ p.Kinds, nameOk k.Name = true) ∧ ∀ m ∈ p.Marks, (0 ≤ m.X ∧ m.X ≤ p.W) ∧ (0 ≤ m.Y ∧ m.Y ≤ p.H) := by
  unfold openErr at h
  split at h
  · omega
  · split at h
    · rename_i hk
      have hk2 : kindsErr none p.Kinds = 0 := by
        unfold checkKinds at hk
        split at hk
        · omega
        · exact hk
      split at h
      · split at h
        · omega
        · exact ⟨kindsErr_names hk2, marksErr_ok h⟩
      · rename_i hc; exact absurd h hc
    · rename_i hk; exact absurd h hk
/-- Names are of any size that strings have. -/
def Nm (p : TPanel) : Prop := ∀ k ∈ p.Kinds, k.Name.size ≤ 9223372036854775807
theorem board_row {p : TPanel} (hn : Nm p) (h : openErr p = 0) {s : TSlot} (hs : s ∈ p.Slots) : (bs s.Board).all rowC = true ∧ 1 ≤ (bs s.Board).length ∧ (bs s.Board).length ≤ 40 := by
  obtain ⟨hB, _, _, hsl⟩ := openErr_ok h
  have hk := (hsl s hs).kind
  rcases kindIx_lo p.Kinds s.Board with h' | ⟨_, _, hm, he⟩
  · exact absurd h' hk
  · have := nameOk_row (hn _ hm) ((openErr_names h).1 _ hm)
    rwa [he] at this
theorem txOk_of {p : TPanel} (hn : Nm p) (h : openErr p = 0) : TxOk p := by
  obtain ⟨hB, h1, h2, hsl⟩ := openErr_ok h
  obtain ⟨g1, g2⟩ := openErr_names h
  have b0 := hB.w0; have b1 := hB.w1; have b2 := hB.h0; have b3 := hB.h1; have b4 := hB.r0; have b5 := hB.r1; have b6 := hB.g0; have b7 := hB.g1
  refine ⟨⟨⟨by omega, by omega⟩, ⟨by omega, by omega⟩, ⟨by omega, by omega⟩, ⟨by omega, by omega⟩⟩, fun k hk => ?_, fun s hs => ?_, fun q hq => ?_, hB.klen, h1, h2⟩
  · have := hB.kinds k hk
    exact ⟨⟨by omega, by omega⟩, ⟨by omega, by omega⟩, (nameOk_row (hn k hk) (g1 k hk)).2.2⟩
  · have hk := hsl s hs
    have hbd := hk.bd hB
    have := hk.q0; have := hk.q1
    exact ⟨⟨by omega, by omega⟩, hbd.1, hbd.2.1, (board_row hn h hs).2.2⟩
  · have := g2 q hq
    exact ⟨⟨by omega, by omega⟩, ⟨by omega, by omega⟩⟩
theorem textP_ok {N : Nat} {p : TPanel} (hf : FuelP N p) (hn : Nm p) : F_panel_Text N p = some (if openErr p = 0 then (mkB (textL p), 0) else (⟨#[]⟩, openErr p)) := by
  unfold F_panel_Text
  rw [checkPanelP_ok hf, Option.bind_some]
  by_cases he : openErr p = 0
  · have ht := txOk_of hn he
    obtain ⟨h1, h2, h3, h4⟩ := ht.head
    obtain ⟨l1, l2, l3, l4⟩ := ht.lens
    have := ht.kl
    rw [if_neg (by rw [he]; decide), if_pos he, it_ok h1, Option.bind_some, it_ok h2, Option.bind_some, it_ok h3, Option.bind_some, it_ok h4, Option.bind_some]
    have hk : lineL (bs wPanel) ([mkB (it p.W), mkB (it p.H), mkB (it p.Rail), mkB (it p.Gap)].map bs) = headL p := by simp only [List.map_cons, List.map_nil, bs_mkB]; rfl
    have := text1 (w := wPanel) (r := [mkB (it p.W), mkB (it p.H), mkB (it p.Rail), mkB (it p.Gap)]) (m := []) (by simp) (by rw [hk]; simp; omega)
    rw [hk] at this
    have this : F_panel_Text_1 [wPanel, mkB (it p.W), mkB (it p.H), mkB (it p.Rail), mkB (it p.Gap)] ⟨#[]⟩ = some (mkB (headL p)) := this
    have e0 : ByteArray.empty = ⟨#[]⟩ := rfl
    rw [e0, this, Option.bind_some, textP1 ht _ _ _ ht.kinds (by unfold headL lineL; simp) (by omega)]
    rfl
  · rw [if_pos (by simpa using he), if_neg he]
end Go.Proofs.YtmbjoffligicnaaGreatDoor
namespace Go.Proofs.YtmbjoffligicnaaGreatDoor
def spc (l : List Int) : List UInt8 := (l.map fun n => 32 :: it n).flatten
theorem spc_cons (n : Int) (l : List Int) : spc (n :: l) = 32 :: it n ++ spc l := by simp [spc]
theorem spc_len : ∀ {l : List Int}, (∀ n ∈ l, NB n) → (spc l).length ≤ 22 * l.length
  | [], _ => by simp [spc]
  | n :: l, h => by
    have := it_len (h n (by simp))
    have := spc_len (l := l) (fun m hm => h m (by simp [hm]))
    rw [spc_cons]
    simp only [List.length_append, List.length_cons]
    omega
theorem spaced_loop {l : List Int} (hl : l.length ≤ 10) : ∀ (suf pre : List Int) (m : Nat) (acc : List UInt8), l = pre ++ suf → suf.length < m → (∀ n ∈ suf, NB n) → acc.length ≤ 100000 - 100 * suf.length →
    F_etchhouseref9_spaced_L1 l m (mkB acc) pre.length = some (mkB (acc ++ spc suf))
  | suf, pre, 0, _, _, h, _, _ => absurd h (by omega)
  | [], pre, m + 1, acc, hb, _, _, _ => by
    unfold F_etchhouseref9_spaced_L1
    have : decide ((pre.length : Int) < (l.length : Int)) = false := by rw [hb]; exact lt_end pre
    rw [this]; simp [spc]
  | n :: suf, pre, m + 1, acc, hb, hm, hn, ha => by
    have hlen : l.length = pre.length + (suf.length + 1) := by rw [hb]; simp
    have h0 := hn n (by simp)
    have h1 : decide ((pre.length : Int) < (l.length : Int)) = true := decide_eq_true (by omega)
    have h2 : idx l (pre.length : Int) = some n := by rw [hb]; exact idx_mid pre suf n
    have hi := it_len h0
    unfold F_etchhouseref9_spaced_L1
    rw [h1, if_pos rfl, h2, Option.bind_some, it_ok h0, Option.bind_some]
    have c1 : catS ⟨#[32]⟩ (mkB (it n)) = some (mkB (32 :: it n)) := catS_mk (a := [32]) (b := it n) (by simp; omega)
    rw [List.length_cons] at ha
    rw [c1, Option.bind_some, catS_mk (by simp only [List.length_cons]; omega), Option.bind_some, up_mid pre n (by omega),
      spaced_loop hl suf (pre ++ [n]) m _ (by rw [hb]; simp) (by simp at hm; omega) (fun k hk => hn k (by simp [hk])) (by simp only [List.length_append, List.length_cons]; omega), spc_cons]
    simp
theorem spaced_ok {N : Nat} (hN : 20 ≤ N) {l : List Int} (hl : l.length ≤ 10) (hn : ∀ n ∈ l, NB n) : F_etchhouseref9_spaced N l = some (mkB (spc l)) := by
  unfold F_etchhouseref9_spaced
  have := spaced_loop hl l [] N [] rfl (by omega) hn (by simp)
  rw [show ((([] : List Int).length : Nat) : Int) = 0 from rfl] at this
  exact this
theorem catN {a : List UInt8} {s : ByteArray} (h : a.length + (bs s).length ≤ 9223372036854775807) : catS (mkB a) s = some (mkB (a ++ bs s)) := by
  have := catS_mk h
  rwa [mkB_bs] at this
theorem mark_len {q : TPoint} (h : NB q.X ∧ NB q.Y) : (markL q).length ≤ 200 := by
  have := it_len h.1; have := it_len h.2
  unfold markL lineL
  have hw : (bs wMark).length = 4 := rfl
  simp only [List.map_cons, List.map_nil, List.flatten_cons, List.flatten_nil, List.length_append, List.length_cons, List.length_nil, hw]
  omega
theorem slot_len {s : TSlot} (h : NB s.Quarters ∧ NB s.At.X ∧ NB s.At.Y ∧ (bs s.Board).length ≤ 40) : (slotL s).length ≤ 200 := by
  obtain ⟨h1, h2, h3, h4⟩ := h
  have := it_len h1; have := it_len h2; have := it_len h3
  unfold slotL lineL
  have hw : (bs wSlot).length = 4 := rfl
  simp only [List.map_cons, List.map_nil, List.flatten_cons, List.flatten_nil, List.length_append, List.length_cons, List.length_nil, hw]
  omega
theorem kind_len {k : TBoardKind} (h : NB k.W ∧ NB k.H ∧ (bs k.Name).length ≤ 40) : (kindL k).length ≤ 200 := by
  obtain ⟨h1, h2, h3⟩ := h
  have := it_len h1; have := it_len h2
  unfold kindL lineL
  have hw : (bs wBoard).length = 5 := rfl
  simp only [List.map_cons, List.map_nil, List.flatten_cons, List.flatten_nil, List.length_append, List.length_cons, List.length_nil, hw]
  omega
theorem textR3 {N : Nat} (hN : 20 ≤ N) {p : TPanel} (hp : TxOk p) : ∀ (suf pre : List TPoint) (m : Nat) (acc : List UInt8), p.Marks = pre ++ suf → suf.length < m → acc.length + 200 * suf.length ≤ 1000000 →
    F_etchhouseref9_Text_L3 N p m (mkB acc) pre.length = some (mkB (acc ++ (suf.map markL).flatten), 0)
  | suf, pre, 0, _, _, h, _ => absurd h (by omega)
  | [], pre, m + 1, acc, hb, _, _ => by
    unfold F_etchhouseref9_Text_L3
    have : decide ((pre.length : Int) < (p.Marks.length : Int)) = false := by rw [hb]; exact lt_end pre
    rw [this]; simp
  | q :: suf, pre, m + 1, acc, hb, hm, ha => by
    have hlen : p.Marks.length = pre.length + (suf.length + 1) := by rw [hb]; simp
    have hml := hp.ml
    have hq := hp.marks q (by rw [hb]; simp)
    have hk := mark_len hq
    obtain ⟨n1, n2⟩ := hq
    have h1 : decide ((pre.length : Int) < (p.Marks.length : Int)) = true := decide_eq_true (by omega)
    have h2 : idx p.Marks (pre.length : Int) = some q := by rw [hb]; exact idx_mid pre suf q
    have hs := spc_len (l := [q.X, q.Y]) (by simp; exact ⟨n1, n2⟩)
    simp only [List.length_cons, List.length_nil] at hs ha
    unfold F_etchhouseref9_Text_L3
    rw [h1, if_pos rfl, h2]
    simp only [Option.bind_some]
    rw [spaced_ok hN (by simp) (by simp; exact ⟨n1, n2⟩), Option.bind_some]
    have c1 : catS ⟨#[109, 97, 114, 107]⟩ (mkB (spc [q.X, q.Y])) = some (mkB ([109, 97, 114, 107] ++ spc [q.X, q.Y])) := catS_mk (by simp only [List.length_cons, List.length_nil]; omega)
    have c2 : catS (mkB ([109, 97, 114, 107] ++ spc [q.X, q.Y])) ⟨#[10]⟩ = some (mkB (([109, 97, 114, 107] ++ spc [q.X, q.Y]) ++ [10])) := catS_mk (by simp only [List.length_append, List.length_cons, List.length_nil]; omega)
    have e : ([109, 97, 114, 107] ++ spc [q.X, q.Y]) ++ [10] = markL q := by
      unfold markL lineL
      have : bs wMark = [109, 97, 114, 107] := rfl
      rw [this]; simp [spc]
    rw [c1, Option.bind_some, c2, Option.bind_some, e, catS_mk (by omega), Option.bind_some, up_mid pre q (by omega),
      textR3 hN hp suf (pre ++ [q]) m _ (by rw [hb]; simp) (by simp at hm; omega) (by rw [List.length_append]; omega)]
    simp
theorem textR2 {N : Nat} (hN : 600 ≤ N) {p : TPanel} (hp : TxOk p) : ∀ (suf pre : List TSlot) (m : Nat) (acc : List UInt8), p.Slots = pre ++ suf → suf.length < m → acc.length + 200 * suf.length ≤ 900000 →
    F_etchhouseref9_Text_L2 N p m (mkB acc) pre.length = some (mkB (acc ++ ((suf.map slotL).flatten ++ (p.Marks.map markL).flatten)), 0)
  | suf, pre, 0, _, _, h, _ => absurd h (by omega)
  | [], pre, m + 1, acc, hb, _, ha => by
    unfold F_etchhouseref9_Text_L2
    have : decide ((pre.length : Int) < (p.Slots.length : Int)) = false := by rw [hb]; exact lt_end pre
    have hml := hp.ml
    simp only [List.length_nil] at ha
    have h3 := textR3 (N := N) (by omega) hp p.Marks [] N acc rfl (by omega) (by omega)
    rw [show ((([] : List TPoint).length : Nat) : Int) = 0 from rfl] at h3
    rw [this, if_neg (by decide), h3]; simp
  | s :: suf, pre, m + 1, acc, hb, hm, ha => by
    have hlen : p.Slots.length = pre.length + (suf.length + 1) := by rw [hb]; simp
    have hml := hp.sl
    have hq := hp.slots s (by rw [hb]; simp)
    have hk := slot_len hq
    obtain ⟨n1, n2, n3, n4⟩ := hq
    have h1 : decide ((pre.length : Int) < (p.Slots.length : Int)) = true := decide_eq_true (by omega)
    have h2 : idx p.Slots (pre.length : Int) = some s := by rw [hb]; exact idx_mid pre suf s
    have hs := spc_len (l := [s.Quarters, s.At.X, s.At.Y]) (by simp; exact ⟨n1, n2, n3⟩)
    simp only [List.length_cons, List.length_nil] at hs ha
    unfold F_etchhouseref9_Text_L2
    have c0 : catS ⟨#[115, 108, 111, 116, 32]⟩ s.Board = some (mkB ([115, 108, 111, 116, 32] ++ bs s.Board)) := catN (by simp only [List.length_cons, List.length_nil]; omega)
    rw [h1, if_pos rfl, h2, Option.bind_some, c0]
    simp only [Option.bind_some]
    rw [spaced_ok (by omega) (by simp) (by simp; exact ⟨n1, n2, n3⟩), Option.bind_some]
    have c1 : catS (mkB ([115, 108, 111, 116, 32] ++ bs s.Board)) (mkB (spc [s.Quarters, s.At.X, s.At.Y])) = some (mkB (([115, 108, 111, 116, 32] ++ bs s.Board) ++ spc [s.Quarters, s.At.X, s.At.Y])) := catS_mk (by simp only [List.length_append, List.length_cons, List.length_nil]; omega)
    have c2 : catS (mkB (([115, 108, 111, 116, 32] ++ bs s.Board) ++ spc [s.Quarters, s.At.X, s.At.Y])) ⟨#[10]⟩ = some (mkB ((([115, 108, 111, 116, 32] ++ bs s.Board) ++ spc [s.Quarters, s.At.X, s.At.Y]) ++ [10])) := catS_mk (by simp only [List.length_append, List.length_cons, List.length_nil]; omega)
    have e : (([115, 108, 111, 116, 32] ++ bs s.Board) ++ spc [s.Quarters, s.At.X, s.At.Y]) ++ [10] = slotL s := by
      unfold slotL lineL
      have : bs wSlot = [115, 108, 111, 116] := rfl
      rw [this]; simp [spc]
    rw [c1, Option.bind_some, c2, Option.bind_some, e, catS_mk (by omega), Option.bind_some, up_mid pre s (by omega),
      textR2 hN hp suf (pre ++ [s]) m _ (by rw [hb]; simp) (by simp at hm; omega) (by rw [List.length_append]; omega)]
    simp
theorem textR1 {N : Nat} (hN : 600 ≤ N) {p : TPanel} (hp : TxOk p) : ∀ (suf pre : List TBoardKind) (m : Nat) (acc : List UInt8), p.Kinds = pre ++ suf → suf.length < m → acc.length + 200 * suf.length ≤ 500000 →
    F_etchhouseref9_Text_L1 N p m (mkB acc) pre.length = some (mkB (acc ++ ((suf.map kindL).flatten ++ ((p.Slots.map slotL).flatten ++ (p.Marks.map markL).flatten))), 0)
  | suf, pre, 0, _, _, h, _ => absurd h (by omega)
  | [], pre, m + 1, acc, hb, _, ha => by
    unfold F_etchhouseref9_Text_L1
    have : decide ((pre.length : Int) < (p.Kinds.length : Int)) = false := by rw [hb]; exact lt_end pre
    have hml := hp.sl
    simp only [List.length_nil] at ha
    have h3 := textR2 hN hp p.Slots [] N acc rfl (by omega) (by omega)
    rw [show ((([] : List TSlot).length : Nat) : Int) = 0 from rfl] at h3
    rw [this, if_neg (by decide), h3]; simp
  | k :: suf, pre, m + 1, acc, hb, hm, ha => by
    have hlen : p.Kinds.length = pre.length + (suf.length + 1) := by rw [hb]; simp
    have hml := hp.kl
    have hq := hp.kinds k (by rw [hb]; simp)
    have hk := kind_len hq
    obtain ⟨n1, n2, n3⟩ := hq
    have h1 : decide ((pre.length : Int) < (p.Kinds.length : Int)) = true := decide_eq_true (by omega)
    have h2 : idx p.Kinds (pre.length : Int) = some k := by rw [hb]; exact idx_mid pre suf k
    have hs := spc_len (l := [k.W, k.H]) (by simp; exact ⟨n1, n2⟩)
    simp only [List.length_cons, List.length_nil] at hs ha
    unfold F_etchhouseref9_Text_L1
    have c0 : catS ⟨#[98, 111, 97, 114, 100, 32]⟩ k.Name = some (mkB ([98, 111, 97, 114, 100, 32] ++ bs k.Name)) := catN (by simp only [List.length_cons, List.length_nil]; omega)
    rw [h1, if_pos rfl, h2, Option.bind_some, c0]
    simp only [Option.bind_some]
    rw [spaced_ok (by omega) (by simp) (by simp; exact ⟨n1, n2⟩), Option.bind_some]
    have c1 : catS (mkB ([98, 111, 97, 114, 100, 32] ++ bs k.Name)) (mkB (spc [k.W, k.H])) = some (mkB (([98, 111, 97, 114, 100, 32] ++ bs k.Name) ++ spc [k.W, k.H])) := catS_mk (by simp only [List.length_append, List.length_cons, List.length_nil]; omega)
    have c2 : catS (mkB (([98, 111, 97, 114, 100, 32] ++ bs k.Name) ++ spc [k.W, k.H])) ⟨#[10]⟩ = some (mkB ((([98, 111, 97, 114, 100, 32] ++ bs k.Name) ++ spc [k.W, k.H]) ++ [10])) := catS_mk (by simp only [List.length_append, List.length_cons, List.length_nil]; omega)
    have e : (([98, 111, 97, 114, 100, 32] ++ bs k.Name) ++ spc [k.W, k.H]) ++ [10] = kindL k := by
      unfold kindL lineL
      have : bs wBoard = [98, 111, 97, 114, 100] := rfl
      rw [this]; simp [spc]
    rw [c1, Option.bind_some, c2, Option.bind_some, e, catS_mk (by omega), Option.bind_some, up_mid pre k (by omega),
      textR1 hN hp suf (pre ++ [k]) m _ (by rw [hb]; simp) (by simp at hm; omega) (by rw [List.length_append]; omega)]
    simp
theorem textR_ok {N : Nat} {p : TPanel} (hf : FuelP N p) (hn : Nm p) : F_etchhouseref9_Text N p = some (if openErr p = 0 then (mkB (textL p), 0) else (⟨#[]⟩, openErr p)) := by
  have hbig := hf.big
  unfold F_etchhouseref9_Text
  rw [checkPanel_ok (by omega) hf.kinds hf.names, Option.bind_some]
  by_cases he : openErr p = 0
  · have ht := txOk_of hn he
    obtain ⟨h1, h2, h3, h4⟩ := ht.head
    obtain ⟨l1, l2, l3, l4⟩ := ht.lens
    have hkl := ht.kl
    have hs := spc_len (l := [p.W, p.H, p.Rail, p.Gap]) (by simp; exact ⟨h1, h2, h3, h4⟩)
    simp only [List.length_cons, List.length_nil] at hs
    rw [if_neg (by rw [he]; decide), if_pos he, spaced_ok (by omega) (by simp) (by simp; exact ⟨h1, h2, h3, h4⟩), Option.bind_some]
    have c1 : catS ⟨#[112, 97, 110, 101, 108]⟩ (mkB (spc [p.W, p.H, p.Rail, p.Gap])) = some (mkB ([112, 97, 110, 101, 108] ++ spc [p.W, p.H, p.Rail, p.Gap])) := catS_mk (by simp only [List.length_cons, List.length_nil]; omega)
    have c2 : catS (mkB ([112, 97, 110, 101, 108] ++ spc [p.W, p.H, p.Rail, p.Gap])) ⟨#[10]⟩ = some (mkB (([112, 97, 110, 101, 108] ++ spc [p.W, p.H, p.Rail, p.Gap]) ++ [10])) := catS_mk (by simp only [List.length_append, List.length_cons, List.length_nil]; omega)
    have e : ([112, 97, 110, 101, 108] ++ spc [p.W, p.H, p.Rail, p.Gap]) ++ [10] = headL p := by
      unfold headL lineL
      have : bs wPanel = [112, 97, 110, 101, 108] := rfl
      rw [this]; simp [spc]
    have h5 := textR1 (N := N) (by omega) ht p.Kinds [] N (headL p) rfl (by omega) (by omega)
    rw [show ((([] : List TBoardKind).length : Nat) : Int) = 0 from rfl] at h5
    rw [c1, Option.bind_some, c2, Option.bind_some, e, h5]
    rfl
  · rw [if_pos (by simpa using he), if_neg he]
/-! Panels compared. -/
theorem eqK (a : TBoardKind) : eqTBoardKind a a = true := eqTBoardKind_iff.2 rfl
theorem eqS (a : TSlot) : eqTSlot a a = true := eqTSlot_iff.2 rfl
theorem same3 {p : TPanel} (hp : SmallP p) : ∀ (suf pre : List TPoint) (m : Nat), p.Marks = pre ++ suf → suf.length < m → F_etchhouseref9_Same_L3 p p m pre.length = some true
  | suf, pre, 0, _, h => absurd h (by omega)
  | [], pre, m + 1, hb, _ => by
    unfold F_etchhouseref9_Same_L3
    have : decide ((pre.length : Int) < (p.Marks.length : Int)) = false := by rw [hb]; exact lt_end pre
    rw [this]; rfl
  | q :: suf, pre, m + 1, hb, hm => by
    have hlen : p.Marks.length = pre.length + (suf.length + 1) := by rw [hb]; simp
    have := hp.m
    have h1 : decide ((pre.length : Int) < (p.Marks.length : Int)) = true := decide_eq_true (by omega)
    have h2 : idx p.Marks (pre.length : Int) = some q := by rw [hb]; exact idx_mid pre suf q
    unfold F_etchhouseref9_Same_L3
    rw [h1, if_pos rfl, h2]
    simp only [Option.bind_some]
    rw [eqTPoint_iff.2 rfl, if_neg (by decide), up_mid pre q (by omega)]
    exact same3 hp suf (pre ++ [q]) m (by rw [hb]; simp) (by simp at hm; omega)
theorem same2 {N : Nat} (hN : 400000 ≤ N) {p : TPanel} (hp : SmallP p) : ∀ (suf pre : List TSlot) (m : Nat), p.Slots = pre ++ suf → suf.length < m → F_etchhouseref9_Same_L2 N p p m pre.length = some true
  | suf, pre, 0, _, h => absurd h (by omega)
  | [], pre, m + 1, hb, _ => by
    unfold F_etchhouseref9_Same_L2
    have hd : decide ((pre.length : Int) < (p.Slots.length : Int)) = false := by rw [hb]; exact lt_end pre
    have := hp.m
    have h3 := same3 hp p.Marks [] N rfl (by omega)
    rw [show ((([] : List TPoint).length : Nat) : Int) = 0 from rfl] at h3
    rw [hd, if_neg (by decide), h3]
  | q :: suf, pre, m + 1, hb, hm => by
    have hlen : p.Slots.length = pre.length + (suf.length + 1) := by rw [hb]; simp
    have := hp.s
    have h1 : decide ((pre.length : Int) < (p.Slots.length : Int)) = true := decide_eq_true (by omega)
    have h2 : idx p.Slots (pre.length : Int) = some q := by rw [hb]; exact idx_mid pre suf q
    unfold F_etchhouseref9_Same_L2
    rw [h1, if_pos rfl, h2]
    simp only [Option.bind_some]
    rw [eqS, if_neg (by decide), up_mid pre q (by omega)]
    exact same2 hN hp suf (pre ++ [q]) m (by rw [hb]; simp) (by simp at hm; omega)
theorem same1 {N : Nat} (hN : 400000 ≤ N) {p : TPanel} (hp : SmallP p) : ∀ (suf pre : List TBoardKind) (m : Nat), p.Kinds = pre ++ suf → suf.length < m → F_etchhouseref9_Same_L1 N p p m pre.length = some true
  | suf, pre, 0, _, h => absurd h (by omega)
  | [], pre, m + 1, hb, _ => by
    unfold F_etchhouseref9_Same_L1
    have hd : decide ((pre.length : Int) < (p.Kinds.length : Int)) = false := by rw [hb]; exact lt_end pre
    have := hp.s
    have h3 := same2 hN hp p.Slots [] N rfl (by omega)
    rw [show ((([] : List TSlot).length : Nat) : Int) = 0 from rfl] at h3
    rw [hd, if_neg (by decide), h3]
  | q :: suf, pre, m + 1, hb, hm => by
    have hlen : p.Kinds.length = pre.length + (suf.length + 1) := by rw [hb]; simp
    have := hp.k
    have h1 : decide ((pre.length : Int) < (p.Kinds.length : Int)) = true := decide_eq_true (by omega)
    have h2 : idx p.Kinds (pre.length : Int) = some q := by rw [hb]; exact idx_mid pre suf q
    unfold F_etchhouseref9_Same_L1
    rw [h1, if_pos rfl, h2]
    simp only [Option.bind_some]
    rw [eqK, if_neg (by decide), up_mid pre q (by omega)]
    exact same1 hN hp suf (pre ++ [q]) m (by rw [hb]; simp) (by simp at hm; omega)
theorem sameSelf {N : Nat} (hN : 400000 ≤ N) {p : TPanel} (hp : SmallP p) : F_etchhouseref9_Same N p p = some true := by
  unfold F_etchhouseref9_Same
  have := hp.k
  have h3 := same1 hN hp p.Kinds [] N rfl (by omega)
  rw [show ((([] : List TBoardKind).length : Nat) : Int) = 0 from rfl] at h3
  simp only [bne_self_eq_false, Bool.or_self, Bool.false_eq_true, if_false, h3]
end Go.Proofs.YtmbjoffligicnaaGreatDoor
namespace Go.Proofs.YtmbjoffligicnaaGreatDoor
theorem index_here (c : UInt8) : ∀ (a b : List UInt8), c ∉ a → Lib.index (a ++ c :: b) [c] = (a.length : Int)
  | [], b, _ => by rw [List.nil_append, Lib.index]; simp [List.isPrefixOf]
  | x :: a, b, h => by
    simp only [List.mem_cons, not_or] at h
    have hx : ([c] : List UInt8).isPrefixOf (x :: (a ++ c :: b)) = false := by simp [List.isPrefixOf, h.1]
    rw [List.cons_append, Lib.index, hx, index_here c a b h.2]
    have : ((a.length : Int) == -1) = false := by rw [Bool.eq_false_iff]; simp only [ne_eq, beq_iff_eq]; omega
    rw [this]
    simp
theorem index_no (c : UInt8) : ∀ (l : List UInt8), c ∉ l → Lib.index l [c] = -1
  | [], _ => rfl
  | x :: a, h => by
    simp only [List.mem_cons, not_or] at h
    have hx : ([c] : List UInt8).isPrefixOf (x :: a) = false := by simp [List.isPrefixOf, h.1]
    rw [Lib.index, hx, index_no c a h.2]
    rfl
theorem splitK_hit (c : UInt8) (k : Nat) {a b : List UInt8} (h : c ∉ a) : Lib.splitK [c] 0 (k + 1) (a ++ c :: b) = a :: Lib.splitK [c] 0 k b := by
  rw [Lib.splitK, index_here c a b h]
  have : ((a.length : Int) == -1) = false := by rw [Bool.eq_false_iff]; simp only [ne_eq, beq_iff_eq]; omega
  rw [this]
  simp
theorem join_two (w x : List UInt8) (r : List (List UInt8)) : Lib.join (w :: x :: r) [32] = w ++ 32 :: Lib.join (x :: r) [32] := by
  rw [Lib.join_cons, Lib.join_cons]
  simp [Lib.joinTail]
theorem join_count : ∀ (r : List (List UInt8)) (w : List UInt8), (∀ x ∈ w :: r, (32 : UInt8) ∉ x) → (Lib.join (w :: r) [32]).count 32 = r.length
  | [], w, h => by rw [Lib.join_one]; exact List.count_eq_zero.2 (h w (by simp))
  | x :: r, w, h => by
    rw [join_two, List.count_append, List.count_cons_self, join_count r x (fun y hy => h y (by simp [List.mem_cons.1 hy])), List.count_eq_zero.2 (h w (by simp))]
    simp
theorem splitK_join : ∀ (r : List (List UInt8)) (w : List UInt8), (∀ x ∈ w :: r, (32 : UInt8) ∉ x) → Lib.splitK [32] 0 r.length (Lib.join (w :: r) [32]) = w :: r
  | [], w, h => by rw [Lib.join_one]; rfl
  | x :: r, w, h => by
    rw [join_two, List.length_cons, splitK_hit 32 _ (h w (by simp)), splitK_join r x (fun y hy => h y (by simp [List.mem_cons.1 hy]))]
theorem splitK_ne (k : Nat) (s : List UInt8) : Lib.splitK [32] 0 k s ≠ [] := by
  cases k with
  | zero => simp [Lib.splitK]
  | succ k => unfold Lib.splitK; split <;> simp
theorem join_splitK : ∀ (k : Nat) (s : List UInt8), s.count 32 = k → Lib.join (Lib.splitK [32] 0 k s) [32] = s
  | 0, s, _ => by rw [Lib.splitK, Lib.join_one]
  | k + 1, s, h => by
    have hm : (32 : UInt8) ∈ s := List.count_pos_iff.1 (by omega)
    obtain ⟨a, b, rfl, ha⟩ := List.eq_append_cons_of_mem hm
    rw [splitK_hit 32 k ha]
    rw [List.count_append, List.count_cons_self, List.count_eq_zero.2 ha] at h
    have ih := join_splitK k b (by omega)
    cases hs : Lib.splitK [32] 0 k b with
    | nil => exact absurd hs (splitK_ne _ _)
    | cons x r => rw [hs] at ih; rw [join_two, ih]
theorem words_bs (s : ByteArray) : (words s).map bs = Lib.splitK [32] 0 ((bs s).count 32) (bs s) := by
  unfold words
  have := Lib.splitB_data ⟨#[32]⟩ 0 (Lib.countB s ⟨#[32]⟩) s
  have e : Lib.countB s ⟨#[32]⟩ = (bs s).count 32 := Lib.count_one 32 (bs s)
  rw [e] at this ⊢
  exact this
theorem words_join (s : ByteArray) : Lib.join ((words s).map bs) [32] = bs s := by
  rw [words_bs]; exact join_splitK _ _ rfl
theorem map_bs_inj : ∀ {l m : List ByteArray}, l.map bs = m.map bs → l = m
  | [], [], _ => rfl
  | [], _ :: _, h => by simp at h
  | _ :: _, [], h => by simp at h
  | x :: l, y :: m, h => by
    simp only [List.map_cons, List.cons.injEq] at h
    rw [bs_inj h.1, map_bs_inj h.2]
theorem words_of {s : ByteArray} {w : ByteArray} {r : List ByteArray} (h : bs s = Lib.join ((w :: r).map bs) [32]) (hn : ∀ x ∈ w :: r, (32 : UInt8) ∉ bs x) : words s = w :: r := by
  apply map_bs_inj
  have hn' : ∀ x ∈ bs w :: r.map bs, (32 : UInt8) ∉ x := fun x hx => by
    rcases List.mem_cons.1 hx with rfl | hx
    · exact hn w (by simp)
    · obtain ⟨y, hy, rfl⟩ := List.mem_map.1 hx
      exact hn y (by simp [hy])
  rw [words_bs, h, List.map_cons, join_count _ _ hn', splitK_join _ _ hn']
theorem cut_at {a b : List UInt8} (h : (10 : UInt8) ∉ a) : lineCut (mkB (a ++ 10 :: b)) = (mkB a, mkB b, true) := by
  unfold lineCut
  rw [bs_mkB]
  have : Lib.cut (a ++ 10 :: b) [10] = (a, b, true) := by
    unfold Lib.cut
    rw [index_here 10 a b h, if_pos (by omega)]
    simp
  rw [this]; rfl
theorem cut_inv {t : ByteArray} (h : (lineCut t).2.2 = true) : bs t = bs (lineCut t).1 ++ 10 :: bs (lineCut t).2.1 := by
  have e1 : bs (lineCut t).1 = (Lib.cut (bs t) [10]).1 := bs_mkB _
  have e2 : bs (lineCut t).2.1 = (Lib.cut (bs t) [10]).2.1 := bs_mkB _
  have e3 : (Lib.cut (bs t) [10]).2.2 = true := h
  rw [e1, e2]
  by_cases hm : (10 : UInt8) ∈ bs t
  · obtain ⟨a, b, he, ha⟩ := List.eq_append_cons_of_mem hm
    have : Lib.cut (bs t) [10] = (a, b, true) := by
      rw [he]
      unfold Lib.cut
      rw [index_here 10 a b ha, if_pos (by omega)]
      simp
    rw [this]; exact he
  · have : Lib.cut (bs t) [10] = (bs t, [], false) := by
      unfold Lib.cut
      rw [index_no 10 _ hm]; rfl
    rw [this] at e3; cases e3
/-! Numerals. -/
def dvl (b : UInt8) : Nat := b.toNat - 48
def valA : List UInt8 → Nat → Nat
  | [], acc => acc
  | b :: l, acc => valA l (acc * 10 + dvl b)
def val (acc : Nat) (l : List UInt8) : Nat := valA l acc
theorem val_nil (acc : Nat) : val acc [] = acc := rfl
theorem val_cons (acc : Nat) (b : UInt8) (l : List UInt8) : val acc (b :: l) = val (acc * 10 + (b.toNat - 48)) l := by
  rw [show b.toNat - 48 = dvl b from rfl]
  unfold val
  rw [valA]
theorem decFrom_val : ∀ (l : List UInt8) (acc : Nat), l.all isDig = true → Lib.decFrom acc l = some (val acc l)
  | [], acc, _ => by rw [val_nil]; rfl
  | b :: l, acc, h => by
    rw [List.all_cons, Bool.and_eq_true] at h
    have hb := h.1
    simp [isDig] at hb
    have : Lib.digitVal b = some (b.toNat - 48) := if_pos hb
    rw [val_cons, ← decFrom_val l _ h.2, Lib.decFrom, this]
theorem val_snoc : ∀ (l : List UInt8) (acc : Nat) (b : UInt8), val acc (l ++ [b]) = val acc l * 10 + (b.toNat - 48)
  | [], acc, b => by rw [List.nil_append, val_cons, val_nil, val_nil]
  | x :: l, acc, b => by
    rw [List.cons_append, val_cons, val_cons, val_snoc l]
theorem val_ge : ∀ (l : List UInt8) (acc : Nat), acc ≤ val acc l
  | [], acc => by rw [val_nil]; exact Nat.le_refl _
  | x :: l, acc => by
    rw [val_cons]
    have h := val_ge l (acc * 10 + (x.toNat - 48))
    omega
theorem val_pos {x : UInt8} {t : List UInt8} (h1 : isDig x = true) (h2 : x ≠ 48) : 1 ≤ val 0 (x :: t) := by
  simp [isDig] at h1
  have hx2 : x.toNat ≠ 48 := fun e => h2 (UInt8.toNat_inj.1 e)
  rw [val_cons]
  have h := val_ge t (0 * 10 + (x.toNat - 48))
  omega
theorem ofNat_dig {b : UInt8} (h : isDig b = true) : UInt8.ofNat (48 + (b.toNat - 48)) = b := by
  simp [isDig] at h
  rw [show 48 + (b.toNat - 48) = b.toNat by omega]; simp
theorem decDigits_big {u : Nat} (h : ¬ u < 10) : Lib.decDigits u = Lib.decDigits (u / 10) ++ [UInt8.ofNat (48 + u % 10)] := by
  conv => lhs; rw [Lib.decDigits]
  rw [dif_neg h]
/-- A numeral without a needless nought is what its value is written as. -/
theorem dec_val : ∀ (n : Nat) (l : List UInt8), l.length = n → l ≠ [] → l.all isDig = true → (l.head? ≠ some 48 ∨ l = [48]) → Lib.decDigits (val 0 l) = l
  | 0, l, hl, hne, _, _ => absurd (List.eq_nil_of_length_eq_zero hl) hne
  | n + 1, l, hl, hne, hd, hh => by
    obtain ⟨l', b, rfl⟩ : ∃ l' b, l = l' ++ [b] := ⟨l.dropLast, l.getLast hne, (List.dropLast_concat_getLast hne).symm⟩
    rw [List.all_append, Bool.and_eq_true] at hd
    have hb : isDig b = true := by simpa using hd.2
    have hb' := hb
    simp [isDig] at hb'
    rw [val_snoc]
    cases hl' : l' with
    | nil =>
      rw [val_nil, Nat.zero_mul, Nat.zero_add, Lib.decDigits_one (by omega), ofNat_dig hb]
      rfl
    | cons x t =>
      have hx : x ≠ 48 := by
        rcases hh with hh | hh
        · rw [hl'] at hh; intro e; subst e; exact hh rfl
        · rw [hl'] at hh; simp at hh
      have hxd : isDig x = true := by
        have := hd.1
        rw [hl', List.all_cons, Bool.and_eq_true] at this; exact this.1
      have hv : 1 ≤ val 0 l' := by rw [hl']; exact val_pos hxd hx
      have ih := dec_val n l' (by simpa using hl) (by rw [hl']; simp) hd.1 (.inl (by rw [hl']; simpa using hx))
      rw [← hl', decDigits_big (by omega)]
      rw [show (val 0 l' * 10 + (b.toNat - 48)) / 10 = val 0 l' by omega, show (val 0 l' * 10 + (b.toNat - 48)) % 10 = b.toNat - 48 by omega, ih, ofNat_dig hb]
theorem isDig_ofNat {k : Nat} (h : k < 10) : isDig (UInt8.ofNat (48 + k)) = true ∧ (UInt8.ofNat (48 + k)).toNat = 48 + k := by
  have : (UInt8.ofNat (48 + k)).toNat = 48 + k := by
    rw [UInt8.toNat_ofNat']; omega
  exact ⟨by unfold isDig; rw [this]; simp; omega, this⟩
/-- What a number is written as. -/
theorem dec_facts : ∀ (k n : Nat), n < 10 ^ (k + 1) → (Lib.decDigits n).all isDig = true ∧ val 0 (Lib.decDigits n) = n ∧ 1 ≤ (Lib.decDigits n).length ∧ (Lib.decDigits n).length ≤ k + 1 ∧ ((Lib.decDigits n).head? ≠ some 48 ∨ n = 0)
  | 0, n, h => by
    have h : n < 10 := by simpa using h
    obtain ⟨h1, h2⟩ := isDig_ofNat h
    rw [Lib.decDigits_one h]
    refine ⟨by rw [List.all_cons, h1]; rfl, by rw [val_cons, val_nil, h2]; omega, by simp, by simp, ?_⟩
    by_cases h0 : n = 0
    · exact .inr h0
    · left
      simp only [List.head?_cons, ne_eq, Option.some.injEq]
      intro e
      have : (UInt8.ofNat (48 + n)).toNat = 48 := by rw [e]; rfl
      omega
  | k + 1, n, h => by
    by_cases hn : n < 10
    · have := dec_facts 0 n (by simpa using hn)
      refine ⟨this.1, this.2.1, this.2.2.1, by have := this.2.2.2.1; omega, this.2.2.2.2⟩
    · obtain ⟨i1, i2, i3, i4, i5⟩ := dec_facts k (n / 10) (by rw [Nat.pow_succ] at h; omega)
      obtain ⟨h1, h2⟩ := isDig_ofNat (k := n % 10) (by omega)
      rw [decDigits_big hn]
      refine ⟨by rw [List.all_append, i1, List.all_cons, h1]; rfl, by rw [val_snoc, i2, h2]; omega, by simp, by simp; omega, ?_⟩
      left
      cases hd : Lib.decDigits (n / 10) with
      | nil => rw [hd] at i3; simp at i3
      | cons x t =>
        rw [hd] at i5
        rcases i5 with i5 | i5
        · simpa using i5
        · omega
theorem dig_ne {l : List UInt8} (h : l.all isDig = true) : neg l = false ∧ dgs l = l := by
  rcases neg_dgs l with ⟨_, h2⟩ | ⟨h1, h2⟩
  · rw [h2] at h; simp at h; exact absurd h.1 (by decide)
  · exact ⟨h1, h2.symm⟩
theorem decNat_val {l : List UInt8} (h1 : 1 ≤ l.length) (h : l.all isDig = true) : Lib.decNat l = some (val 0 l) := by
  unfold Lib.decNat
  rw [decFrom_val l 0 h]
  cases l with
  | nil => simp at h1
  | cons => rfl
/-- A numeral is what its number is written as. -/
theorem it_numV {x : ByteArray} (h : numOk x = true) : it (numV x) = bs x := by
  unfold numOk numL at h
  simp only [Bool.and_eq_true, decide_eq_true_eq, Bool.not_eq_true', Bool.and_eq_false_iff, Bool.not_eq_false', decide_eq_false_iff_not] at h
  obtain ⟨⟨⟨h1, h2⟩, h3⟩, h4⟩ := h
  have hne : dgs (bs x) ≠ [] := fun e => by rw [e] at h1; simp at h1
  unfold it numV
  rcases neg_dgs (bs x) with ⟨hn, hd⟩ | ⟨hn, hd⟩
  · have h5 : (dgs (bs x)).head? ≠ some 48 := by
      rcases h4 with h4 | h4
      · exact h4
      · rw [h4] at hd; simp [dgs] at hd
    have hv := dec_val _ (dgs (bs x)) rfl hne h3 (.inl h5)
    have hpos : 1 ≤ val 0 (dgs (bs x)) := by
      cases hx : dgs (bs x) with
      | nil => exact absurd hx hne
      | cons b t =>
        rw [hx] at h5 h3
        rw [List.all_cons, Bool.and_eq_true] at h3
        exact val_pos h3.1 (fun e => h5 (by rw [e]; rfl))
    have ha : Lib.atoi (bs x) = some (-((val 0 (dgs (bs x)) : Nat) : Int)) := by
      conv => lhs; rw [hd]
      simp [Lib.atoi, decNat_val h1 h3]
    rw [ha]
    show Lib.itoa (-((val 0 (dgs (bs x)) : Nat) : Int)) = _
    rw [Lib.itoa_neg _ hpos, hv, ← hd]
  · have h5 : (dgs (bs x)).head? ≠ some 48 ∨ dgs (bs x) = [48] := by
      rcases h4 with h4 | h4
      · exact .inl h4
      · exact .inr (hd.symm.trans h4)
    have hv := dec_val _ (dgs (bs x)) rfl hne h3 h5
    have ha : Lib.atoi (bs x) = some ((val 0 (dgs (bs x)) : Nat) : Int) := by
      have hdn := decNat_val h1 h3
      cases hx : bs x with
      | nil => rw [← hd, hx] at hne; exact absurd rfl hne
      | cons b r =>
        rw [← hd, hx] at h3 hdn
        rw [hx] at hd
        rw [← hd]
        have hb : b ≠ 45 ∧ b ≠ 43 := by
          rw [List.all_cons, Bool.and_eq_true] at h3
          constructor
          · intro e; subst e; exact absurd h3.1 (by decide)
          · intro e; subst e; exact absurd h3.1 (by decide)
        simp [Lib.atoi, hb.1, hb.2, hdn]
    rw [ha]
    show Lib.itoa ((val 0 (dgs (bs x)) : Nat) : Int) = _
    rw [Lib.itoa_nonneg, hv, ← hd]
/-- A number of nine digits at most, written, is a numeral, and its own. -/
theorem num_it {n : Int} (h : -1000000 ≤ n ∧ n ≤ 1000000) : numOk (mkB (it n)) = true ∧ numV (mkB (it n)) = n ∧ rowOk (mkB (it n)) = true := by
  obtain ⟨i1, i2, i3, i4, i5⟩ := dec_facts 8 n.natAbs (by have : (10 : Nat) ^ 9 = 1000000000 := rfl; omega)
  have hrow : ∀ b : UInt8, isDig b = true → rowC b = true := fun b hb => by
    simp [isDig] at hb; simp [rowC]; omega
  have hra : (Lib.decDigits n.natAbs).all rowC = true := List.all_eq_true.2 fun b hb => hrow b (List.all_eq_true.1 i1 b hb)
  unfold numOk numV rowOk
  simp only [bs_mkB]
  by_cases hn : n < 0
  · have e : it n = 45 :: Lib.decDigits n.natAbs := by unfold it Lib.itoa; rw [if_pos hn]
    have h0 : (Lib.decDigits n.natAbs).head? ≠ some 48 := by
      rcases i5 with i5 | i5
      · exact i5
      · omega
    rw [e]
    refine ⟨?_, ?_, ?_⟩
    · unfold numL
      simp only [dgs]
      simp [i1, i3, i4, h0]
    · simp [Lib.atoi, decNat_val i3 i1, i2]; omega
    · rw [List.all_cons, hra]; rfl
  · have e : it n = Lib.decDigits n.natAbs := by
      unfold it Lib.itoa; rw [if_neg hn]; congr 1; omega
    obtain ⟨d1, d2⟩ := dig_ne i1
    rw [e]
    refine ⟨?_, ?_, ?_⟩
    · unfold numL
      rw [d2]
      have h4 : (decide ((Lib.decDigits n.natAbs).head? = some 48) && !decide (Lib.decDigits n.natAbs = [48])) = false := by
        rcases i5 with i5 | i5
        · simp [i5]
        · rw [i5]
          have : Lib.decDigits 0 = [48] := Lib.decDigits_one (by omega)
          rw [this]; simp
      rw [h4]
      simp [i1, i3, i4]
    · have hdn := decNat_val i3 i1
      cases hx : Lib.decDigits n.natAbs with
      | nil => rw [hx] at i3; simp at i3
      | cons b r =>
        rw [hx] at hdn i1 i2
        have hb : b ≠ 45 ∧ b ≠ 43 := by
          rw [List.all_cons, Bool.and_eq_true] at i1
          constructor
          · intro e; subst e; exact absurd i1.1 (by decide)
          · intro e; subst e; exact absurd i1.1 (by decide)
        simp [Lib.atoi, hb.1, hb.2, hdn, i2]; omega
    · rw [hra]
      cases hx : Lib.decDigits n.natAbs with
      | nil => rw [hx] at i3; simp at i3
      | cons b r => rfl
end Go.Proofs.YtmbjoffligicnaaGreatDoor
namespace Go.Proofs.YtmbjoffligicnaaGreatDoor
theorem nums_it : ∀ {l : List ByteArray} {m : List Int}, nums l = some m → l.map bs = m.map it := fun {l m} h => by
  unfold nums at h
  split at h
  · rename_i ha
    have := Option.some.inj h
    subst this
    rw [List.map_map]
    exact List.map_congr_left fun x hx => (it_numV (List.all_eq_true.1 ha x hx)).symm
  · cases h
theorem words_line {s k : ByteArray} {r : List ByteArray} (h : words s = k :: r) : bs s ++ [10] = lineL (bs k) (r.map bs) := by
  have := words_join s
  rw [h, List.map_cons] at this
  rw [← join_lineL, this]
/-- What a line says is what it is written as. -/
theorem line_back {p q : TPanel} {i : Int} {s : ByteArray} (hi : i = 0 → p = zeroP) (h : lineOf p i (words s) = some q) : textL q = (if i = 0 then [] else textL p) ++ (bs s ++ [10]) := by
  unfold lineOf at h
  split at h
  · cases h
  cases hw : words s with
  | nil => rw [hw] at h; cases h
  | cons k r =>
    rw [hw] at h
    rw [words_line hw]
    simp only at h
    split at h
    · rename_i hk
      obtain rfl := sEq_iff.1 hk
      split at h
      · rename_i h0
        rw [if_pos h0]
        have hp := hi h0
        subst hp
        unfold lineP at h
        split at h
        · rename_i a b c d hn
          obtain rfl := Option.some.inj h
          rw [nums_it hn]
          simp [textL, headL]
        · cases h
      · cases h
    split at h
    · cases h
    rename_i h0
    rw [if_neg h0]
    split at h
    · rename_i hk
      obtain rfl := sEq_iff.1 hk
      unfold lineB at h
      cases r with
      | nil => cases h
      | cons nm r =>
        simp only at h
        unfold lineB2 at h
        split at h
        · rename_i a b hn
          split at h
          · rename_i hz
            obtain rfl := Option.some.inj h
            have z1 : p.Slots = [] := List.eq_nil_of_length_eq_zero (by omega)
            have z2 : p.Marks = [] := List.eq_nil_of_length_eq_zero (by omega)
            rw [List.map_cons, nums_it hn]
            unfold textL headL
            simp [z1, z2, kindL]
          · cases h
        · cases h
    split at h
    · rename_i hk
      obtain rfl := sEq_iff.1 hk
      unfold lineS at h
      cases r with
      | nil => cases h
      | cons nm r =>
        simp only at h
        unfold lineS2 at h
        split at h
        · rename_i a b c hn
          split at h
          · rename_i hz
            obtain rfl := Option.some.inj h
            have z2 : p.Marks = [] := List.eq_nil_of_length_eq_zero (by omega)
            rw [List.map_cons, nums_it hn]
            unfold textL headL
            simp [z2, slotL]
          · cases h
        · cases h
    split at h
    · rename_i hk
      obtain rfl := sEq_iff.1 hk
      unfold lineM at h
      split at h
      · rename_i a b hn
        obtain rfl := Option.some.inj h
        rw [nums_it hn]
        unfold textL headL
        simp [markL]
      · cases h
    · cases h
theorem readF_back : ∀ (n : Nat) (p : TPanel) (t : ByteArray) (i : Int), t.size < n → 0 ≤ i → (i = 0 → p = zeroP) → (readF n p t i).2.2 = 0 → openErr (readF n p t i).1 = 0 ∧ textL (readF n p t i).1 = (if i = 0 then [] else textL p) ++ bs t
  | 0, _, _, _, h, _, _, _ => absurd h (by omega)
  | n + 1, p, t, i, hn, h0, hi, h => by
    unfold readF at h ⊢
    by_cases hc : ((i == 0) || !sEq t ⟨#[]⟩) = true
    · rw [if_pos hc] at h ⊢
      cases hk : (lineCut t).2.2
      · rw [hk] at h; simp at h
      · rw [hk] at h
        simp only [if_true] at h ⊢
        cases hq : lineOf p i (words (lineCut t).1) with
        | none => rw [hq] at h; simp at h
        | some q =>
          rw [hq] at h
          simp only at h ⊢
          obtain ⟨_, z2⟩ := lineCut_sz t
          have z2 := z2 hk
          obtain ⟨g1, g2⟩ := readF_back n q (lineCut t).2.1 (i + 1) (by omega) (by omega) (fun e => by omega) h
          refine ⟨g1, ?_⟩
          rw [g2, if_neg (by omega), line_back hi hq, cut_inv hk]
          simp
    · rw [if_neg hc] at h ⊢
      simp only [Bool.not_eq_true, Bool.or_eq_false_iff, Bool.not_eq_false'] at hc
      have hi0 : i ≠ 0 := by simpa using hc.1
      have ht : bs t = [] := by
        have := hc.2
        rw [sEq_nil] at this
        simpa using this
      by_cases he : openErr p = 0
      · rw [if_pos he] at h ⊢
        exact ⟨he, by rw [if_neg hi0, ht]; simp⟩
      · rw [if_neg he] at h
        exact absurd h he
theorem readT_back {t : ByteArray} (h : (readT t).2.2 = 0) : openErr (readT t).1 = 0 ∧ mkB (textL (readT t).1) = t := by
  unfold readT at h ⊢
  split at h
  · simp at h
  · rename_i hs
    rw [if_neg hs]
    obtain ⟨h1, h2⟩ := readF_back _ _ _ _ (by omega) (Int.le_refl _) (fun _ => rfl) h
    refine ⟨h1, ?_⟩
    rw [h2, if_pos rfl, List.nil_append, mkB_bs]
/-! A panel comes back. -/
theorem row_ne {s : ByteArray} (h : rowOk s = true) : (32 : UInt8) ∉ bs s ∧ (10 : UInt8) ∉ bs s := by
  unfold rowOk at h
  rw [Bool.and_eq_true] at h
  have h2 := List.all_eq_true.1 h.2
  exact ⟨fun hm => absurd (h2 _ hm) (by decide), fun hm => absurd (h2 _ hm) (by decide)⟩
theorem join_no10 : ∀ (r : List ByteArray) (w : ByteArray), (w :: r).all rowOk = true → (10 : UInt8) ∉ Lib.join ((w :: r).map bs) [32]
  | [], w, h => by
    rw [List.map_cons, List.map_nil, Lib.join_one]
    simp at h
    exact (row_ne h).2
  | x :: r, w, h => by
    rw [List.all_cons, Bool.and_eq_true] at h
    rw [List.map_cons, List.map_cons, join_two]
    have := join_no10 r x h.2
    rw [List.map_cons] at this
    simp only [List.mem_append, List.mem_cons, not_or]
    exact ⟨(row_ne h.1).2, by decide, this⟩
theorem read_line {n : Nat} {p q : TPanel} {i : Int} {w : ByteArray} {r : List ByteArray} {rest : List UInt8} (hw : (w :: r).all rowOk = true) (hq : lineOf p i (w :: r) = some q) :
    readF (n + 1) p (mkB (lineL (bs w) (r.map bs) ++ rest)) i = readF n q (mkB rest) (i + 1) := by
  have e : lineL (bs w) (r.map bs) ++ rest = Lib.join ((w :: r).map bs) [32] ++ 10 :: rest := by
    rw [← join_lineL]; simp
  have hcut := cut_at (a := Lib.join ((w :: r).map bs) [32]) (b := rest) (join_no10 r w hw)
  have hwords : words (mkB (Lib.join ((w :: r).map bs) [32])) = w :: r := words_of (bs_mkB _) (fun x hx => (row_ne (List.all_eq_true.1 hw x hx)).1)
  conv => lhs; unfold readF
  have hc : ((i == 0) || !sEq (mkB (lineL (bs w) (r.map bs) ++ rest)) ⟨#[]⟩) = true := by
    rw [sEq_nil, bs_mkB, e]; simp
  rw [if_pos hc, e, hcut]
  simp only [if_true]
  rw [hwords, hq]
theorem nums_some {l : List Int} (h : ∀ n ∈ l, -1000000 ≤ n ∧ n ≤ 1000000) : nums (l.map fun n => mkB (it n)) = some l := by
  unfold nums
  have h1 : (l.map fun n => mkB (it n)).all numOk = true := by
    rw [List.all_eq_true]
    intro x hx
    obtain ⟨n, hn, rfl⟩ := List.mem_map.1 hx
    exact (num_it (h n hn)).1
  rw [if_pos h1, List.map_map]
  congr 1
  have : ∀ m : List Int, (∀ n ∈ m, -1000000 ≤ n ∧ n ≤ 1000000) → m.map (numV ∘ fun n => mkB (it n)) = m := fun m hm => by
    induction m with
    | nil => rfl
    | cons a m ih =>
      rw [List.map_cons, ih fun n hn => hm n (by simp [hn])]
      congr 1
      exact (num_it (hm a (by simp))).2.1
  exact this l h
def MB (n : Int) : Prop := -1000000 ≤ n ∧ n ≤ 1000000
theorem rowI {n : Int} (h : MB n) : rowOk (mkB (it n)) = true := (num_it h).2.2
theorem wordRows : rowOk wPanel = true ∧ rowOk wBoard = true ∧ rowOk wSlot = true ∧ rowOk wMark = true := by decide
/-- Numbers and names of a panel that comes back. -/
structure BackOk (p : TPanel) : Prop where
  head : MB p.W ∧ MB p.H ∧ MB p.Rail ∧ MB p.Gap
  kinds : ∀ k ∈ p.Kinds, MB k.W ∧ MB k.H ∧ rowOk k.Name = true
  slots : ∀ s ∈ p.Slots, MB s.Quarters ∧ MB s.At.X ∧ MB s.At.Y ∧ rowOk s.Board = true
  marks : ∀ q ∈ p.Marks, MB q.X ∧ MB q.Y
theorem rowOk_of {s : ByteArray} (h : (bs s).all rowC = true ∧ 1 ≤ (bs s).length ∧ (bs s).length ≤ 40) : rowOk s = true := by
  unfold rowOk
  rw [h.1]
  cases hb : bs s with
  | nil => rw [hb] at h; simp at h
  | cons => rfl
theorem backOk_of {p : TPanel} (hn : Nm p) (h : openErr p = 0) : BackOk p := by
  obtain ⟨hB, h1, h2, hsl⟩ := openErr_ok h
  obtain ⟨g1, g2⟩ := openErr_names h
  have b0 := hB.w0; have b1 := hB.w1; have b2 := hB.h0; have b3 := hB.h1; have b4 := hB.r0; have b5 := hB.r1; have b6 := hB.g0; have b7 := hB.g1
  refine ⟨⟨⟨by omega, by omega⟩, ⟨by omega, by omega⟩, ⟨by omega, by omega⟩, ⟨by omega, by omega⟩⟩, fun k hk => ?_, fun s hs => ?_, fun q hq => ?_⟩
  · have := hB.kinds k hk
    exact ⟨⟨by omega, by omega⟩, ⟨by omega, by omega⟩, rowOk_of (nameOk_row (hn k hk) (g1 k hk))⟩
  · have hk := hsl s hs
    obtain ⟨c1, c2, c3, c4, c5, c6, c7, c8, c9⟩ := hk.bd hB
    have := hk.q0; have := hk.q1
    have e1 : (cellOf p s).X0 = s.At.X := rfl
    have e2 : (cellOf p s).Y0 = s.At.Y := rfl
    exact ⟨⟨by omega, by omega⟩, ⟨by omega, by omega⟩, ⟨by omega, by omega⟩, rowOk_of (board_row hn h hs)⟩
  · have := g2 q hq
    exact ⟨⟨by omega, by omega⟩, ⟨by omega, by omega⟩⟩
theorem fwdM {W H R G : Int} {K : List TBoardKind} {S : List TSlot} (n : Nat) : ∀ (suf pre : List TPoint) (i : Int), 1 ≤ i → (∀ q ∈ suf, MB q.X ∧ MB q.Y) →
    readF (n + suf.length) ⟨W, H, R, G, K, S, pre⟩ (mkB ((suf.map markL).flatten)) i = readF n ⟨W, H, R, G, K, S, pre ++ suf⟩ (mkB []) (i + suf.length)
  | [], pre, i, _, _ => by simp
  | q :: suf, pre, i, hi, h => by
    obtain ⟨q1, q2, q3, q4, q5, q6, q7, q8, q9, q10, q11, q12, q13, q14, q15, q16⟩ := eqTab
    obtain ⟨m1, m2⟩ := h q (by simp)
    have hall : (wMark :: [q.X, q.Y].map fun n => mkB (it n)).all rowOk = true := by
      simp [rowI m1, rowI m2, wordRows.2.2.2]
    have hq : lineOf ⟨W, H, R, G, K, S, pre⟩ i (wMark :: [q.X, q.Y].map fun n => mkB (it n)) = some ⟨W, H, R, G, K, S, pre ++ [q]⟩ := by
      rw [lineOf_all hall]
      simp only [q13, q14, q15, q16, Bool.false_eq_true, if_false, if_true]
      rw [if_neg (by omega), nums_some (by simp; exact ⟨m1, m2⟩)]
      rfl
    have := read_line (n := n + suf.length) (rest := (suf.map markL).flatten) hall hq
    have e : lineL (bs wMark) (([q.X, q.Y].map fun n => mkB (it n)).map bs) = markL q := by simp only [List.map_cons, List.map_nil, bs_mkB]; rfl
    rw [e] at this
    rw [List.map_cons, List.flatten_cons, List.length_cons, ← Nat.add_assoc, this, fwdM n suf (pre ++ [q]) (i + 1) (by omega) (fun y hy => h y (by simp [hy]))]
    simp only [List.append_assoc, List.singleton_append]
    congr 1
    omega
theorem fwdS {W H R G : Int} {K : List TBoardKind} {tail : List UInt8} (n : Nat) : ∀ (suf pre : List TSlot) (i : Int), 1 ≤ i → (∀ s ∈ suf, MB s.Quarters ∧ MB s.At.X ∧ MB s.At.Y ∧ rowOk s.Board = true) →
    readF (n + suf.length) ⟨W, H, R, G, K, pre, []⟩ (mkB ((suf.map slotL).flatten ++ tail)) i = readF n ⟨W, H, R, G, K, pre ++ suf, []⟩ (mkB tail) (i + suf.length)
  | [], pre, i, _, _ => by simp
  | s :: suf, pre, i, hi, h => by
    obtain ⟨q1, q2, q3, q4, q5, q6, q7, q8, q9, q10, q11, q12, q13, q14, q15, q16⟩ := eqTab
    obtain ⟨m1, m2, m3, m4⟩ := h s (by simp)
    have hall : (wSlot :: s.Board :: [s.Quarters, s.At.X, s.At.Y].map fun n => mkB (it n)).all rowOk = true := by
      simp [rowI m1, rowI m2, rowI m3, m4, wordRows.2.2.1]
    have hq : lineOf ⟨W, H, R, G, K, pre, []⟩ i (wSlot :: s.Board :: [s.Quarters, s.At.X, s.At.Y].map fun n => mkB (it n)) = some ⟨W, H, R, G, K, pre ++ [s], []⟩ := by
      rw [lineOf_all hall]
      simp only [q9, q10, q11, q12, Bool.false_eq_true, if_false, if_true]
      rw [if_neg (by omega)]
      unfold lineS
      simp only
      rw [nums_some (by simp; exact ⟨m1, m2, m3⟩)]
      rfl
    have := read_line (n := n + suf.length) (rest := (suf.map slotL).flatten ++ tail) hall hq
    have e : lineL (bs wSlot) ((s.Board :: [s.Quarters, s.At.X, s.At.Y].map fun n => mkB (it n)).map bs) = slotL s := by simp only [List.map_cons, List.map_nil, bs_mkB]; rfl
    rw [e] at this
    rw [List.map_cons, List.flatten_cons, List.append_assoc, List.length_cons, ← Nat.add_assoc, this, fwdS n suf (pre ++ [s]) (i + 1) (by omega) (fun y hy => h y (by simp [hy]))]
    simp only [List.append_assoc, List.singleton_append]
    congr 1
    omega
theorem fwdK {W H R G : Int} {tail : List UInt8} (n : Nat) : ∀ (suf pre : List TBoardKind) (i : Int), 1 ≤ i → (∀ k ∈ suf, MB k.W ∧ MB k.H ∧ rowOk k.Name = true) →
    readF (n + suf.length) ⟨W, H, R, G, pre, [], []⟩ (mkB ((suf.map kindL).flatten ++ tail)) i = readF n ⟨W, H, R, G, pre ++ suf, [], []⟩ (mkB tail) (i + suf.length)
  | [], pre, i, _, _ => by simp
  | s :: suf, pre, i, hi, h => by
    obtain ⟨q1, q2, q3, q4, q5, q6, q7, q8, q9, q10, q11, q12, q13, q14, q15, q16⟩ := eqTab
    obtain ⟨m1, m2, m4⟩ := h s (by simp)
    have hall : (wBoard :: s.Name :: [s.W, s.H].map fun n => mkB (it n)).all rowOk = true := by
      simp [rowI m1, rowI m2, m4, wordRows.2.1]
    have hq : lineOf ⟨W, H, R, G, pre, [], []⟩ i (wBoard :: s.Name :: [s.W, s.H].map fun n => mkB (it n)) = some ⟨W, H, R, G, pre ++ [s], [], []⟩ := by
      rw [lineOf_all hall]
      simp only [q5, q6, q7, q8, Bool.false_eq_true, if_false, if_true]
      rw [if_neg (by omega)]
      unfold lineB
      simp only
      rw [nums_some (by simp; exact ⟨m1, m2⟩)]
      rfl
    have := read_line (n := n + suf.length) (rest := (suf.map kindL).flatten ++ tail) hall hq
    have e : lineL (bs wBoard) ((s.Name :: [s.W, s.H].map fun n => mkB (it n)).map bs) = kindL s := by simp only [List.map_cons, List.map_nil, bs_mkB]; rfl
    rw [e] at this
    rw [List.map_cons, List.flatten_cons, List.append_assoc, List.length_cons, ← Nat.add_assoc, this, fwdK n suf (pre ++ [s]) (i + 1) (by omega) (fun y hy => h y (by simp [hy]))]
    simp only [List.append_assoc, List.singleton_append]
    congr 1
    omega
theorem flat_ge {α : Type} {f : α → List UInt8} : ∀ {l : List α}, (∀ x, 1 ≤ (f x).length) → l.length ≤ ((l.map f).flatten).length
  | [], _ => by simp
  | x :: l, h => by
    have h1 := h x
    have h2 := flat_ge (l := l) h
    simp only [List.map_cons, List.flatten_cons, List.length_append, List.length_cons]
    omega
theorem lineL_pos (w : List UInt8) (r : List (List UInt8)) : 1 ≤ (lineL w r).length := by unfold lineL; simp; omega
theorem readT_text {p : TPanel} (hn : Nm p) (h : openErr p = 0) : (mkB (textL p)).size ≤ 200000 ∧ readT (mkB (textL p)) = (p, 0, 0) := by
  have hb := backOk_of hn h
  have ht := txOk_of hn h
  obtain ⟨l1, l2, l3, l4⟩ := ht.lens
  have k1 := ht.kl; have k2 := ht.sl; have k3 := ht.ml
  have hlen : (textL p).length ≤ 200000 := by
    unfold textL
    simp only [List.length_append]
    omega
  have hge : 1 + p.Kinds.length + p.Slots.length + p.Marks.length ≤ (textL p).length := by
    have g0 : 1 ≤ (headL p).length := lineL_pos _ _
    have g1 := flat_ge (f := kindL) (l := p.Kinds) (fun _ => lineL_pos _ _)
    have g2 := flat_ge (f := slotL) (l := p.Slots) (fun _ => lineL_pos _ _)
    have g3 := flat_ge (f := markL) (l := p.Marks) (fun _ => lineL_pos _ _)
    unfold textL
    simp only [List.length_append]
    omega
  refine ⟨by rw [mkB_size]; exact hlen, ?_⟩
  unfold readT
  rw [mkB_size, if_neg (by omega)]
  obtain ⟨n, hn2⟩ : ∃ n, (textL p).length + 1 = (((n + 1 + p.Marks.length) + p.Slots.length) + p.Kinds.length) + 1 := ⟨(textL p).length - (1 + p.Kinds.length + p.Slots.length + p.Marks.length) + 0, by omega⟩
  rw [hn2]
  obtain ⟨q1, q2, q3, q4, q5, q6, q7, q8, q9, q10, q11, q12, q13, q14, q15, q16⟩ := eqTab
  obtain ⟨m1, m2, m3, m4⟩ := hb.head
  have hall : (wPanel :: [p.W, p.H, p.Rail, p.Gap].map fun n => mkB (it n)).all rowOk = true := by
    simp [rowI m1, rowI m2, rowI m3, rowI m4, wordRows.1]
  have hq : lineOf zeroP 0 (wPanel :: [p.W, p.H, p.Rail, p.Gap].map fun n => mkB (it n)) = some ⟨p.W, p.H, p.Rail, p.Gap, [], [], []⟩ := by
    rw [lineOf_all hall]
    simp only [q1, if_true]
    rw [nums_some (by simp; exact ⟨m1, m2, m3, m4⟩)]
    rfl
  have hr := read_line (n := ((n + 1 + p.Marks.length) + p.Slots.length) + p.Kinds.length) (rest := (p.Kinds.map kindL).flatten ++ ((p.Slots.map slotL).flatten ++ (p.Marks.map markL).flatten)) hall hq
  have e : lineL (bs wPanel) (([p.W, p.H, p.Rail, p.Gap].map fun n => mkB (it n)).map bs) = headL p := by simp only [List.map_cons, List.map_nil, bs_mkB]; rfl
  rw [e] at hr
  have hr : readF (((n + 1 + p.Marks.length) + p.Slots.length) + p.Kinds.length + 1) zeroP (mkB (textL p)) 0 = _ := hr
  rw [hr, fwdK _ _ _ _ (by omega) hb.kinds, fwdS _ _ _ _ (by omega) hb.slots, fwdM _ _ _ _ (by omega) hb.marks]
  unfold readF
  have hc : (((0 : Int) + 1 + (p.Kinds.length : Int) + (p.Slots.length : Int) + (p.Marks.length : Int) == 0) || !sEq (mkB []) ⟨#[]⟩) = false := by
    rw [sEq_nil, bs_mkB]
    have : ((0 : Int) + 1 + (p.Kinds.length : Int) + (p.Slots.length : Int) + (p.Marks.length : Int) == 0) = false := by
      rw [Bool.eq_false_iff]; simp only [ne_eq, beq_iff_eq]; omega
    rw [this]; rfl
  rw [hc, if_neg (by decide)]
  simp only [List.nil_append]
  have hp : (⟨p.W, p.H, p.Rail, p.Gap, p.Kinds, p.Slots, p.Marks⟩ : TPanel) = p := rfl
  rw [hp, if_pos h]
theorem comeJ_ok {N : Nat} (hN : 20000000 ≤ N) (t : ByteArray) : F_etchhouselaw9_PanelsComeBack_J1 N t = some true := by
  unfold F_etchhouselaw9_PanelsComeBack_J1
  rw [readP_ok hN, Option.bind_some, awakeP_ok (by omega)]
  by_cases h : (readT t).2.2 = 0
  · obtain ⟨h1, h2⟩ := readT_back h
    obtain ⟨s1, s2⟩ := readT_small t
    have hf : FuelP N (readT t).1 := ⟨hN, by have := s1.k; omega, fun k hk => by have := s2 k hk; omega⟩
    have hn : Nm (readT t).1 := fun k hk => by have := s2 k hk; omega
    rw [if_neg (by rw [h]; decide), textP_ok hf hn, Option.bind_some, if_pos h1, h2]
    have e : sEq t t = true := by rw [sEq_dec]; exact decide_eq_true rfl
    simp [e]
  · rw [if_pos (by simpa using h)]
    have hw : (readT t).1.W = 0 := by
      have : ∀ (n : Nat) (p : TPanel) (t : ByteArray) (i : Int), (readF n p t i).2.2 ≠ 0 → (readF n p t i).1.W = 0 := by
        intro n
        induction n with
        | zero => intro p t i h; exact absurd rfl h
        | succ n ih =>
          intro p t i h
          unfold readF at h ⊢
          split at h
          · rename_i hc
            rw [if_pos hc]
            split at h
            · rename_i hk
              rw [if_pos hk]
              cases hq : lineOf p i (words (lineCut t).1) with
              | none => rfl
              | some q => rw [hq] at h; exact ih _ _ _ h
            · rename_i hk; rw [if_neg hk]
          · rename_i hc
            rw [if_neg hc]
            split at h
            · exact absurd rfl h
            · rename_i he; rw [if_neg he]
      unfold readT at h ⊢
      split at h
      · rename_i hs; rw [if_pos hs]
      · rename_i hs; rw [if_neg hs]; exact this _ _ _ _ h
    rw [hw]; rfl
theorem panelsComeBack_ok {N : Nat} {p : TPanel} (hf : FuelP N p) (hn : Nm p) (t : ByteArray) : F_etchhouselaw9_PanelsComeBack N p t = some true := by
  have hbig := hf.big
  unfold F_etchhouselaw9_PanelsComeBack
  rw [textP_ok hf hn, Option.bind_some]
  by_cases he : openErr p = 0
  · obtain ⟨h1, h2⟩ := readT_text hn he
    have ht := txOk_of hn he
    have hs : SmallP p := ⟨by have := ht.kl; omega, by have := ht.sl; omega, by have := ht.ml; omega⟩
    rw [if_pos he]
    have hc : ((0 : Int) == 0 && decide (((mkB (textL p)).size : Int) ≤ 200000)) = true := by
      simp; omega
    simp only
    rw [hc, if_pos rfl, readP_ok hbig, Option.bind_some, h2, sameSelf (by omega) hs, comeJ_ok hbig]
    rfl
  · rw [if_neg he]
    have hc : (openErr p == 0 && decide (((ByteArray.mk #[]).size : Int) ≤ 200000)) = false := by
      simp [he]
    simp only
    rw [hc, if_neg (by decide), comeJ_ok hbig]
end Go.Proofs.YtmbjoffligicnaaGreatDoor
