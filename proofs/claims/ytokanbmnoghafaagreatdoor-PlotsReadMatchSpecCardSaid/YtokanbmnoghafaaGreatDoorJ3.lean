/- Plain words: counting loops over lists, numbers in range. No program. Conditions: none beyond each theorem's own. Rows of letters: what the library's functions over strings tell of letters below 128, and numerals. Plain Lean. Conditions: none beyond each theorem's own. Words and numerals: the program's and the reference's readers of them. Plain Lean about the plain functions. Words and numerals: the reference's readers of them. Plain Lean about the plain functions. Lines cut. Plain Lean about the plain functions. Conditions: none beyond each theorem's own. Words split and joined: each undoes the other. Plain Lean. Conditions: none beyond each theorem's own. Lines of a plot: what they say. Plain Lean about the plain functions. Conditions: none beyond each theorem's own. Lines of a plot: the program's reader. Plain Lean about the plain functions. Conditions: none beyond each theorem's own. Lines of a plot: what the program's reader does with a line. Plain Lean about the plain functions. Conditions: none beyond each theorem's own. Lines of a plot: what the reference takes a line for. Plain Lean about the plain functions. Conditions: none beyond each theorem's own. Lines of a plot: the reference's reader at a line. Plain Lean about the plain functions. Conditions: none beyond each theorem's own. Steps of a plot: what the reference reads of lines. Plain Lean about the plain functions. Conditions: none beyond each theorem's own. Steps of a plot: the reference's reader. Plain Lean about the plain functions. Conditions: none beyond each theorem's own. A plot's text, by the reference. Plain Lean about the plain functions. Conditions: none beyond each theorem's own. A plot's text, by the reference and by the program. Plain Lean about the plain functions. Conditions: none beyond each theorem's own. A plot's text, by the program. Plain Lean about the plain functions. Conditions: none beyond each theorem's own. A plot's text: program and reference read alike. Plain Lean about the plain functions. Conditions: none beyond each theorem's own. Plots: names, places, numbers written: the program's and the reference's answer alike. Plain. Conditions: none beyond each theorem's own. Plots: the error of a step by itself: the program's and the reference's alike. Plain. Conditions: none beyond each theorem's own. Plots: how many steps are done, and the error of all steps: the program's and the reference's alike. Plain. Conditions: none beyond each theorem's own. Plots: CheckPlot: the program's and the reference's alike. Plain. Conditions: none beyond each theorem's own. Plots: a plot is the same as itself. Plain. Conditions: none beyond each theorem's own. A plot's text: numbers and lengths of what was read. Plain Lean about the plain functions. Conditions: none beyond each theorem's own. -/
import Derived.Test.YtokanbmnoghafaaGreatDoorJ2
import Derived.Lib.MapLaws
import Derived.Test.YtokanbmnoghafaaGreatDoorXF
import Derived.Lib.ItoaLen
import Derived.Lib.AtoiBound
namespace Go.Proofs.YtokanbmnoghafaaGreatDoor
theorem Ka {x : Int} (h1 : -4611686018427387904 ≤ x) (h2 : x ≤ 4611686018427387904) : w64 x = x := zJW (by omega) (by omega)
theorem Vb {α : Type} (pre suf : List α) (x : α) : idx (pre ++ x :: suf) (pre.length : Int) = some x := by
  unfold idx
  rw [if_pos (by omega)]
  simp
theorem idx_nat {α : Type} {l : List α} {i : Nat} (h : i < l.length) : idx l (i : Int) = some l[i] := by
  unfold idx
  rw [if_pos (by omega)]
  simp [h]
theorem idx_lt {α : Type} {l : List α} {i : Int} (h0 : 0 ≤ i) (h : i < l.length) : ∃ x, idx l i = some x ∧ l[i.toNat]? = some x := by
  unfold idx
  rw [if_pos h0]
  exact ⟨l[i.toNat]'(by omega), by simp, by simp⟩
theorem zGb {α : Type} (pre suf : List α) (x : α) : decide ((pre.length : Int) < ((pre ++ x :: suf).length : Int)) = true := decide_eq_true (by simp; omega)
theorem zEu {α : Type} (pre : List α) : decide ((pre.length : Int) < ((pre ++ []).length : Int)) = false := decide_eq_false (by simp)
theorem zHp {α : Type} (pre : List α) (x : α) (h : pre.length ≤ 4611686018427387903) : w64 ((pre.length : Int) + 1) = ((pre ++ [x]).length : Int) := by
  rw [Ka (by omega) (by omega)]; simp
theorem zEJ {α : Type} (pre suf : List α) (x : α) : pre ++ x :: suf = (pre ++ [x]) ++ suf := by simp
theorem zCD {α : Type} {l m : List α} (h : l.length + m.length ≤ 4294967296) : apd l m = some (l ++ m) := if_pos h
def within (n lo hi : Int) : Bool := decide (lo ≤ n) && decide (n ≤ hi)
theorem within_iff {n lo hi : Int} : within n lo hi = true ↔ lo ≤ n ∧ n ≤ hi := by simp [within]
def zG8 {α : Type} (g : α → Bool) : List α → Int → Int
  | [], _ => -1
  | x :: l, i => if g x then i else zG8 g l (i + 1)
theorem ixOf_any {α : Type} (g : α → Bool) : ∀ (l : List α) (i : Int), 0 ≤ i → decide (0 ≤ zG8 g l i) = l.any g
  | [], _, _ => by simp [zG8]
  | x :: l, i, hi => by
    unfold zG8
    rw [List.any_cons]
    cases g x
    · simp [ixOf_any g l (i + 1) (by omega)]
    · simp [hi]
def bs (s : ByteArray) : List UInt8 := s.data.toList
theorem bs_inj {s t : ByteArray} (h : bs s = bs t) : s = t := by
  obtain ⟨⟨l⟩⟩ := s
  obtain ⟨⟨m⟩⟩ := t
  have h : l = m := h
  rw [h]
theorem Kr (s : ByteArray) : s.size = (bs s).length := Lib.size_eq s
theorem zGZ (s t : ByteArray) : sEq s t = decide (bs s = bs t) := by
  rw [sEq_dec]
  exact decide_eq_decide.2 ⟨fun h => by rw [h], bs_inj⟩
theorem zDW (s : ByteArray) (a b : Nat) : bs (s.extract a b) = ((bs s).drop a).take (b - a) := by
  have := Lib.extract_toList s a b
  rwa [Lib.toList_data] at this
theorem zHr {s : ByteArray} {a b : Nat} (h1 : a ≤ b) (h2 : b ≤ s.size) : zEn s a b = some (s.extract a b) := by
  unfold zEn
  rw [if_pos ⟨by omega, by omega, by omega⟩]
  simp
theorem zGr {s : ByteArray} {i : Nat} {c : UInt8} (h : (bs s)[i]? = some c) : zCN s i = some (c.toNat : Int) := by
  unfold zCN
  rw [if_pos (by omega)]
  have : s[(i : Int).toNat]? = some c := by
    obtain ⟨⟨l⟩⟩ := s
    have h : l[i]? = some c := h
    obtain ⟨hi, he⟩ := List.getElem?_eq_some_iff.1 h
    have hs : i < (ByteArray.mk ⟨l⟩).size := hi
    rw [Int.toNat_natCast, getElem?_pos (ByteArray.mk ⟨l⟩) i hs]
    have : (ByteArray.mk ⟨l⟩)[i] = l[i] := by simp [ByteArray.getElem_eq_getElem_data]
    rw [this, he]
  rw [this]; rfl
theorem idx_bytes {p : Nat → Bool} (hp : ∀ x, 128 ≤ x → p x = true) (s : ByteArray) : ∀ (f pos : Nat), s.size - pos ≤ f → decide (0 ≤ Lib.idxFuncFrom p true s f pos) = ((bs s).drop pos).any fun b => p b.toNat
  | 0, pos, h => by
    have : (bs s).drop pos = [] := List.drop_eq_nil_of_le (by rw [← Kr]; omega)
    rw [this]; rfl
  | f + 1, pos, h => by
    unfold Lib.idxFuncFrom
    by_cases hlt : pos < s.size
    · rw [if_pos hlt]
      have hl : pos < (bs s).length := by rw [← Kr]; exact hlt
      rw [List.drop_eq_getElem_cons hl, List.any_cons]
      have hg : s.get! pos = (bs s)[pos] := by
        obtain ⟨⟨l⟩⟩ := s
        have hl : pos < l.length := hl
        show (Array.mk l)[pos]! = l[pos]
        simp [hl]
      rw [Lib.decode_at, hg]
      generalize (s.get! (pos + 1)).toNat = b1
      generalize (s.get! (pos + 2)).toNat = b2
      generalize (s.get! (pos + 3)).toNat = b3
      by_cases h0 : ((bs s)[pos]).toNat < 128
      · have hd : Lib.decodeN (s.size - pos) ((bs s)[pos]).toNat b1 b2 b3 = (((bs s)[pos]).toNat, 1) := by
          unfold Lib.decodeN; rw [if_pos h0]
        rw [hd]
        by_cases hpp : p ((bs s)[pos]).toNat = true
        · simp [hpp]
        · simp only [hpp, if_false, Bool.false_or, Bool.false_eq_true]
          exact idx_bytes hp s f (pos + 1) (by omega)
      · have hr : 128 ≤ (Lib.decodeN (s.size - pos) ((bs s)[pos]).toNat b1 b2 b3).1 := by
          rcases Lib.decodeN_shape (s.size - pos) ((bs s)[pos]).toNat b1 b2 b3 with ⟨h, _⟩ | ⟨_, _, _, h, e⟩ | ⟨_, _, _, _, h, _, e⟩ | ⟨_, _, _, _, _, h, _, e⟩ | e
          · exact absurd h h0
          · rw [e]; exact h
          · rw [e]; simp only; omega
          · rw [e]; simp only; omega
          · rw [e]; simp only; omega
        rw [if_pos (hp _ hr), hp _ (by omega)]
        simp
    · rw [if_neg hlt]
      have : (bs s).drop pos = [] := List.drop_eq_nil_of_le (by rw [← Kr]; omega)
      rw [this]; rfl
def zJi (b : UInt8) : Bool := decide (33 ≤ b.toNat) && decide (b.toNat ≤ 126)
theorem containsRow_ok (s : ByteArray) : zCc s (fun z => some ((decide (z < 33)) || (decide (126 < z)))) = some ((bs s).any fun b => !zJi b) := by
  unfold zCc
  rw [if_pos (show ∀ x : Nat, x < 1114112 → ((fun z : Int => some ((decide (z < 33)) || (decide (126 < z)))) (x : Int)).isSome = true from fun _ _ => rfl)]
  congr 1
  unfold Lib.idxFunc
  rw [idx_bytes (fun x hx => by simp; omega) s s.size 0 (by omega)]
  simp only [List.drop_zero]
  congr 1
  funext b
  simp only [Option.getD_some, zJi]
  by_cases h1 : b.toNat < 33
  · have : ¬ 33 ≤ b.toNat := by omega
    simp [this]; omega
  · by_cases h2 : b.toNat ≤ 126
    · simp [h2, show 33 ≤ b.toNat by omega]; omega
    · simp [h2]; omega
def rowOk (s : ByteArray) : Bool := !(bs s).isEmpty && (bs s).all zJi
theorem any_not {α : Type} (g : α → Bool) : ∀ l : List α, (l.any fun x => !g x) = !l.all g
  | [] => rfl
  | x :: l => by rw [List.any_cons, List.all_cons, any_not g l]; cases g x <;> simp
def zCO (b : UInt8) : Bool := decide (48 ≤ b.toNat) && decide (b.toNat ≤ 57)
theorem digs_ok (b : UInt8) : ([48, 49, 50, 51, 52, 53, 54, 55, 56, 57] : List UInt8).contains b = zCO b := by
  rw [Bool.eq_iff_iff]
  constructor
  · intro h
    simp at h
    rcases h with rfl | rfl | rfl | rfl | rfl | rfl | rfl | rfl | rfl | rfl <;> rfl
  · intro h
    simp [zCO] at h
    have h2 : b.toNat = 48 ∨ b.toNat = 49 ∨ b.toNat = 50 ∨ b.toNat = 51 ∨ b.toNat = 52 ∨ b.toNat = 53 ∨ b.toNat = 54 ∨ b.toNat = 55 ∨ b.toNat = 56 ∨ b.toNat = 57 := by omega
    have e : b = UInt8.ofNat b.toNat := by simp
    rcases h2 with h | h | h | h | h | h | h | h | h | h <;> (rw [e, h]; rfl)
theorem dw_head {α : Type} {c : α → Bool} {x : α} {t : List α} : ∀ {l : List α}, l.dropWhile c = x :: t → c x = false
  | [], h => by simp at h
  | y :: l, h => by
    rw [List.dropWhile_cons] at h
    split at h
    · exact dw_head h
    · rename_i hy
      have := (List.cons.inj h).1
      subst this; simpa using hy
theorem trimS_nil (l cs : List UInt8) : (Lib.trimS l cs = []) ↔ l.all (fun b => cs.contains b) = true := by
  unfold Lib.trimS Lib.trimLeftS Lib.trimRightS
  have hd : ∀ m : List UInt8, m.dropWhile (cs.contains ·) = [] ↔ ∀ x ∈ m, cs.contains x = true := fun m => by
    induction m with
    | nil => simp
    | cons y m ih =>
      rw [List.dropWhile_cons]
      cases hy : cs.contains y
      · simp only [Bool.false_eq_true, if_false]
        exact ⟨fun h => (by cases h), fun h => absurd (h y (by simp)) (by rw [hy]; decide)⟩
      · simp only [if_true]
        rw [ih]
        exact ⟨fun h x hx => by rcases List.mem_cons.1 hx with rfl | hx; exact hy; exact h x hx, fun h x hx => h x (by simp [hx])⟩
  rw [hd, List.all_eq_true]
  constructor
  · intro h
    cases hm : l.reverse.dropWhile (cs.contains ·) with
    | nil => intro x hx; exact (hd _).1 hm x (by simpa using hx)
    | cons y t =>
      have h1 := dw_head hm
      have h2 := h y (by rw [hm]; simp)
      rw [h1] at h2; cases h2
  · intro h x hx
    have : l.reverse.dropWhile (cs.contains ·) = [] := (hd _).2 fun x hx => h x (by simpa using hx)
    rw [this] at hx; simp at hx
theorem trimDigs {t : ByteArray} (h : t.size ≤ 9) : ∃ x, trimF t ⟨#[48, 49, 50, 51, 52, 53, 54, 55, 56, 57]⟩ = some x ∧ sEq x ⟨#[]⟩ = (bs t).all zCO := by
  unfold trimF
  rw [if_pos ⟨by omega, by decide, by decide⟩]
  refine ⟨_, rfl, ?_⟩
  rw [zGZ, Bool.eq_iff_iff, decide_eq_true_iff]
  have e : bs ⟨(Lib.trimS t.data.toList (ByteArray.mk #[48, 49, 50, 51, 52, 53, 54, 55, 56, 57]).data.toList).toArray⟩ = Lib.trimS (bs t) [48, 49, 50, 51, 52, 53, 54, 55, 56, 57] := by simp [bs]
  rw [e]
  have e2 : bs (ByteArray.mk #[]) = [] := rfl
  rw [e2, trimS_nil]
  have : (fun b => ([48, 49, 50, 51, 52, 53, 54, 55, 56, 57] : List UInt8).contains b) = zCO := funext digs_ok
  rw [this]
def dgs : List UInt8 → List UInt8
  | 45 :: l => l
  | l => l
def neg : List UInt8 → Bool
  | 45 :: _ => true
  | _ => false
def zJp (l : List UInt8) : Bool := ((decide (1 ≤ (dgs l).length) && decide ((dgs l).length ≤ 9)) && (dgs l).all zCO) && !(decide ((dgs l).head? = some 48) && !decide (l = [48]))
def WC (s : ByteArray) : Bool := zJp (bs s)
def zIi (s : ByteArray) : Int := (Lib.atoi (bs s)).getD 0
theorem zF0 (l : List UInt8) : (neg l = true ∧ l = 45 :: dgs l) ∨ (neg l = false ∧ l = dgs l) := by
  unfold neg dgs
  split <;> simp_all
theorem isDig_val {b : UInt8} (h : zCO b = true) : ∃ d, Lib.digitVal b = some d := by
  simp [zCO] at h
  exact ⟨_, if_pos h⟩
theorem zFo : ∀ (l : List UInt8) (acc : Nat), l.all zCO = true → ∃ n, Lib.decFrom acc l = some n
  | [], acc, _ => ⟨acc, rfl⟩
  | b :: l, acc, h => by
    rw [List.all_cons, Bool.and_eq_true] at h
    obtain ⟨d, hd⟩ := isDig_val h.1
    unfold Lib.decFrom
    rw [hd]
    exact zFo l _ h.2
theorem atoi_dig {l : List UInt8} (h1 : 1 ≤ (dgs l).length) (h2 : (dgs l).all zCO = true) : ∃ v, Lib.atoi l = some v := by
  rcases zF0 l with ⟨_, h⟩ | ⟨hn, h⟩
  · rw [h]
    obtain ⟨n, hn⟩ := zFo (dgs l) 0 h2
    have : Lib.decNat (dgs l) = some n := by
      unfold Lib.decNat
      cases hd : dgs l with
      | nil => rw [hd] at h1; simp at h1
      | cons => rw [← hd]; simp [hd] at hn ⊢; exact hn
    simp [Lib.atoi, this]
  · cases hl : l with
    | nil => rw [← h, hl] at h1; simp at h1
    | cons b r =>
      have h3 := h2
      rw [← h, hl, List.all_cons, Bool.and_eq_true] at h3
      obtain ⟨n, hn⟩ := zFo (dgs l) 0 h2
      rw [← h, hl] at hn
      have hb : b ≠ 45 ∧ b ≠ 43 := by
        constructor
        · intro e; subst e; exact absurd h3.1 (by decide)
        · intro e; subst e; exact absurd h3.1 (by decide)
      have : Lib.decNat (b :: r) = some n := by simp [Lib.decNat]; exact hn
      simp [Lib.atoi, hb.1, hb.2, this]
theorem atoiF_ok {s : ByteArray} (h : WC s = true) : zHW s = some (zIi s) := by
  unfold WC zJp at h
  simp only [Bool.and_eq_true, decide_eq_true_eq] at h
  obtain ⟨v, hv⟩ := atoi_dig h.1.1.1 h.1.2
  unfold zHW
  have hs : s.size ≤ 18 := by
    rw [Kr]
    rcases zF0 (bs s) with ⟨_, e⟩ | ⟨_, e⟩
    · rw [e, List.length_cons]; omega
    · rw [e]; omega
  rw [if_pos hs]
  unfold zIi
  show Lib.atoi (bs s) = _
  rw [hv]; rfl
theorem zIq (s : ByteArray) : sEq s ⟨#[]⟩ = (bs s).isEmpty := by
  rw [zGZ]
  show decide (bs s = []) = _
  cases bs s <;> simp
theorem IsRow_ok (s : ByteArray) : zBM s = some (rowOk s) := by
  unfold zBM rowOk
  rw [zIq]
  cases h : (bs s).isEmpty
  · have hc : zCc s (fun z0 => zBB z0) = some ((bs s).any fun b => !zJi b) := containsRow_ok s
    rw [hc, any_not]; simp
  · simp
theorem hasMinus (s : ByteArray) : Ke s ⟨#[45]⟩ = some (neg (bs s)) := by
  unfold Ke
  have hp : (ByteArray.mk #[45]).size = 1 := rfl
  simp only [hp]
  cases hb : bs s with
  | nil =>
    have hs : s.size = 0 := by rw [Kr, hb]; rfl
    rw [hs]; simp [neg]
  | cons b l =>
    have hs : 1 ≤ s.size := by rw [Kr, hb]; simp
    have h1 : decide (((1 : Nat) : Int) ≤ (s.size : Int)) = true := decide_eq_true (by omega)
    rw [h1, if_pos rfl, show (0 : Int) = ((0 : Nat) : Int) from rfl, zHr (by omega) hs]
    simp only [Option.bind_some]
    rw [zGZ, zDW, hb]
    show some (decide ([b] = [45])) = _
    by_cases h : b = 45
    · subst h; rfl
    · unfold neg
      split
      · rename_i e; exact absurd (List.cons.inj e).1 h
      · simp [h]
theorem trimMinus (s : ByteArray) : ∃ t, Vz s ⟨#[45]⟩ = some t ∧ bs t = dgs (bs s) := by
  unfold Vz Vv
  rw [hasMinus, Option.bind_some]
  rcases zF0 (bs s) with ⟨hn, hd⟩ | ⟨hn, hd⟩
  · rw [hn, if_pos rfl]
    have hs : 1 ≤ s.size := by rw [Kr, hd]; simp
    have hp : (ByteArray.mk #[45]).size = 1 := rfl
    rw [hp, zHr hs (Nat.le_refl _)]
    refine ⟨_, rfl, ?_⟩
    rw [zDW, List.take_of_length_le (by rw [List.length_drop, Kr]; omega)]
    conv => lhs; rw [hd]
    rfl
  · rw [hn]; exact ⟨s, rfl, hd⟩
theorem Number_ok (s : ByteArray) : zBa s = some (if WC s then (zIi s, true) else (0, false)) := by
  unfold zBa
  obtain ⟨t, ht, hb⟩ := trimMinus s
  have hsz : t.size = (dgs (bs s)).length := by rw [Kr, hb]
  rw [ht, Option.bind_some]
  by_cases h1 : 1 ≤ (dgs (bs s)).length ∧ (dgs (bs s)).length ≤ 9
  · have c1 : (decide ((t.size : Int) < 1) || decide (9 < (t.size : Int))) = false := by
      simp only [Bool.or_eq_false_iff, decide_eq_false_iff_not]; omega
    obtain ⟨x, hx, hd⟩ := trimDigs (t := t) (by omega)
    rw [c1, if_neg (by decide), hx]
    simp only [Option.bind_some]
    rw [hd, hb]
    by_cases h2 : (dgs (bs s)).all zCO = true
    · obtain ⟨c, hc⟩ : ∃ c, (dgs (bs s))[0]? = some c := ⟨_, List.getElem?_eq_getElem (by omega)⟩
      have h3 := zGr (s := t) (i := 0) (c := c) (by rw [hb]; exact hc)
      have h3 : zCN t 0 = some (c.toNat : Int) := h3
      have c3 : ((c.toNat : Int) == 48 && !sEq s ⟨#[48]⟩) = (decide ((dgs (bs s)).head? = some 48) && !decide (bs s = [48])) := by
        have e1 : ((c.toNat : Int) == 48) = decide ((dgs (bs s)).head? = some 48) := by
          rw [List.head?_eq_getElem?, hc, Bool.eq_iff_iff]
          simp only [beq_iff_eq, decide_eq_true_eq, Option.some.injEq]
          constructor
          · intro h; exact UInt8.toNat_inj.1 (by show c.toNat = 48; omega)
          · intro h; subst h; rfl
        rw [e1, zGZ]; rfl
      rw [h2]
      simp only [Bool.not_true, Bool.false_eq_true, if_false]
      rw [h3]
      simp only [Option.bind_some]
      rw [c3]
      cases hz : (decide ((dgs (bs s)).head? = some 48) && !decide (bs s = [48]))
      · have hn : WC s = true := by
          unfold WC zJp; rw [hz, h2]; simp [h1]
        rw [atoiF_ok hn, hn]; rfl
      · have hn : WC s = false := by
          unfold WC zJp; rw [hz]; simp
        rw [hn]; rfl
    · have h2 : (dgs (bs s)).all zCO = false := by simpa using h2
      have hn : WC s = false := by unfold WC zJp; rw [h2]; simp
      rw [h2, hn]; rfl
  · have c1 : (decide ((t.size : Int) < 1) || decide (9 < (t.size : Int))) = true := by
      simp only [Bool.or_eq_true, decide_eq_true_eq]; omega
    have hn : WC s = false := by
      unfold WC zJp
      have : (decide (1 ≤ (dgs (bs s)).length) && decide ((dgs (bs s)).length ≤ 9)) = false := by
        simp only [Bool.and_eq_false_iff, decide_eq_false_iff_not]; omega
      rw [this]; rfl
    rw [c1, hn]; rfl
def nums (l : List ByteArray) : Option (List Int) := if l.all WC then some (l.map zIi) else none
def zGI (l : List ByteArray) : List Int × Bool := match nums l with | some m => (m, true) | none => ([], false)
theorem numsT_all {l : List ByteArray} (h : l.all WC = true) : zGI l = (l.map zIi, true) := by unfold zGI nums; rw [if_pos h]
theorem numsT_no {l : List ByteArray} (h : l.all WC = false) : zGI l = ([], false) := by unfold zGI nums; rw [h]; rfl
theorem zHc : ∀ (l : List ByteArray) (i : Nat) (m : List Int), m.length + l.length ≤ 4294967296 → KY l i m = some (if l.all WC then (m ++ l.map zIi, true) else ([], false))
  | [], i, m, _ => by simp [KY]
  | x :: l, i, m, h => by
    rw [List.length_cons] at h
    unfold KY
    rw [Number_ok, Option.bind_some, List.all_cons]
    cases hx : WC x
    · rfl
    · simp only [if_true, Bool.not_true, Bool.false_eq_true, if_false, Bool.true_and]
      rw [zCD (by simp; omega), Option.bind_some, zHc l (i + 1) _ (by simp; omega)]
      cases l.all WC <;> simp
theorem zGk {l : List ByteArray} (h : l.length ≤ 4294967296) : WB l = some (zGI l) := by
  unfold WB
  rw [zHc l 0 [] (by simpa using h)]
  cases hl : l.all WC
  · rw [numsT_no hl]; rfl
  · rw [numsT_all hl]; simp
def words (s : ByteArray) : List ByteArray := Lib.splitB ⟨#[32]⟩ 0 (Lib.countB s ⟨#[32]⟩) s
theorem split_ok {s : ByteArray} (h : s.size < 4294967281) : zGY s ⟨#[32]⟩ = some (words s) := by
  unfold zGY
  rw [if_pos ⟨h, by decide⟩]; rfl
theorem zFv (s : ByteArray) : 1 ≤ (words s).length ∧ (words s).length ≤ s.size + 1 := by
  have h1 := Lib.splitB_all ⟨#[32]⟩ (by decide) 0 _ s rfl
  have h2 := Lib.countB_le ⟨#[32]⟩ (by decide) s.size s (Nat.le_refl _)
  unfold words
  omega
theorem zIR (sep : ByteArray) : ∀ (k : Nat) (s : ByteArray), ∀ x ∈ Lib.splitB sep 0 k s, x.size ≤ s.size
  | 0, s, x, hx => by
    rw [Lib.splitB_zero] at hx
    simp at hx; subst hx; exact Nat.le_refl _
  | k + 1, s, x, hx => by
    unfold Lib.splitB at hx
    split at hx
    · simp at hx; subst hx; exact Nat.le_refl _
    · rcases List.mem_cons.1 hx with rfl | hx
      · rw [Kr, zDW, Kr]
        simp only [List.length_take, List.length_drop]; omega
      · have := zIR sep k _ x hx
        refine Nat.le_trans this ?_
        rw [Kr, zDW, Kr]
        simp only [List.length_take, List.length_drop]; omega
theorem zJV {s x : ByteArray} (h : x ∈ words s) : x.size ≤ s.size := zIR _ _ _ x h
theorem cutMinus (s : ByteArray) : ∃ t, WS s ⟨#[45]⟩ = some (t, neg (bs s)) ∧ bs t = dgs (bs s) := by
  unfold WS WH
  rw [hasMinus, Option.bind_some]
  rcases zF0 (bs s) with ⟨hn, hd⟩ | ⟨hn, hd⟩
  · rw [hn]
    have hs : 1 ≤ s.size := by rw [Kr, hd]; simp
    have hp : (ByteArray.mk #[45]).size = 1 := rfl
    simp only [Bool.not_true, Bool.false_eq_true, if_false]
    rw [hp, zHr hs (Nat.le_refl _)]
    refine ⟨_, rfl, ?_⟩
    rw [zDW, List.take_of_length_le (by rw [List.length_drop, Kr]; omega)]
    conv => lhs; rw [hd]
    rfl
  · rw [hn]; exact ⟨s, rfl, hd⟩
theorem zHd {p : ByteArray} {y : ByteArray × Bool} : ∀ (suf pre : List UInt8) (m : Nat), bs y.1 = pre ++ suf → (bs y.1).length ≤ 9 → suf.length < m →
    Jg p y m pre.length = if suf.all zCO then (zHW p).bind fun v => some (v, true) else some (0, false)
  | suf, pre, 0, _, _, h => absurd h (by omega)
  | [], pre, m + 1, hb, hl, _ => by
    unfold Jg
    have : decide ((pre.length : Int) < (y.1.size : Int)) = false := decide_eq_false (by rw [Kr, hb]; simp)
    rw [this]; rfl
  | c :: suf, pre, m + 1, hb, hl, hm => by
    have hlen : (bs y.1).length = pre.length + (suf.length + 1) := by rw [hb]; simp
    unfold Jg
    have : decide ((pre.length : Int) < (y.1.size : Int)) = true := decide_eq_true (by rw [Kr]; omega)
    rw [this, if_pos rfl]
    have hc : zCN y.1 (pre.length : Int) = some (c.toNat : Int) := zGr (by rw [hb]; simp)
    rw [hc]
    simp only [Option.bind_some]
    have hg : (if decide ((c.toNat : Int) < 48) = true then some true else some (decide (57 < (c.toNat : Int)))) = some (!zCO c) := by
      unfold zCO
      by_cases h1 : c.toNat < 48
      · rw [if_pos (by simp; omega)]
        have : ¬ 48 ≤ c.toNat := by omega
        simp [this]
      · rw [if_neg (by simp; omega)]
        have : 48 ≤ c.toNat := by omega
        simp only [this, decide_true, Bool.true_and]
        congr 1
        by_cases h2 : c.toNat ≤ 57
        · simp [h2]; omega
        · simp [h2]; omega
    rw [hg, Option.bind_some, List.all_cons]
    cases hd : zCO c
    · rfl
    · simp only [Bool.not_true, Bool.false_eq_true, if_false, Bool.true_and]
      have e : w64 ((pre.length : Int) + 1) = ((pre ++ [c]).length : Int) := zHp pre c (by omega)
      rw [e]
      exact zHd suf (pre ++ [c]) m (by rw [hb]; simp) hl (by simp at hm; omega)
theorem NumberR_ok {N : Nat} (hN : 20 ≤ N) (s : ByteArray) : Vh N s = some (if WC s then (zIi s, true) else (0, false)) := by
  unfold Vh
  obtain ⟨t, ht, hb⟩ := cutMinus s
  have hsz : t.size = (dgs (bs s)).length := by rw [Kr, hb]
  rw [ht, Option.bind_some]
  have hw : QW (t.size : Int) 1 9 = some (within t.size 1 9) := rfl
  simp only
  rw [hw, Option.bind_some]
  by_cases h1 : 1 ≤ (dgs (bs s)).length ∧ (dgs (bs s)).length ≤ 9
  · have c1 : within (t.size : Int) 1 9 = true := within_iff.2 (by omega)
    obtain ⟨c, hc⟩ : ∃ c, (dgs (bs s))[0]? = some c := ⟨_, List.getElem?_eq_getElem (by omega)⟩
    have h3 := zGr (s := t) (i := 0) (c := c) (by rw [hb]; exact hc)
    have h3 : zCN t 0 = some (c.toNat : Int) := h3
    rw [c1, h3]
    simp only [Bool.not_true, Bool.false_eq_true, if_false, Option.bind_some]
    have c3 : ((c.toNat : Int) == 48 && (decide (1 < (t.size : Int)) || neg (bs s))) = (decide ((dgs (bs s)).head? = some 48) && !decide (bs s = [48])) := by
      have e1 : ((c.toNat : Int) == 48) = decide ((dgs (bs s)).head? = some 48) := by
        rw [List.head?_eq_getElem?, hc, Bool.eq_iff_iff]
        simp only [beq_iff_eq, decide_eq_true_eq, Option.some.injEq]
        constructor
        · intro h; exact UInt8.toNat_inj.1 (by show c.toNat = 48; omega)
        · intro h; subst h; rfl
      rw [e1]
      by_cases hh : (dgs (bs s)).head? = some 48
      · have e2 : (decide (1 < (t.size : Int)) || neg (bs s)) = !decide (bs s = [48]) := by
          rcases zF0 (bs s) with ⟨hn, hd⟩ | ⟨hn, hd⟩
          · rw [hn, hd]; simp
          · rw [hn, hsz]
            rw [← hd] at hh ⊢
            clear hd hc h3 e1 hsz hb ht
            cases hl : bs s with
            | nil => rw [hl] at hh; cases hh
            | cons b r =>
              rw [hl] at hh
              have hh : b = 48 := Option.some.inj hh
              subst hh
              cases r with
              | nil => rfl
              | cons a r => 
                have h1 : decide (1 < (((48 :: a :: r : List UInt8).length : Nat) : Int)) = true := decide_eq_true (by simp only [List.length_cons]; omega)
                have h2 : decide ((48 :: a :: r : List UInt8) = [48]) = false := decide_eq_false (by simp)
                rw [h1, h2]; rfl
        rw [e2]
      · simp [hh]
    rw [c3]
    cases hz : (decide ((dgs (bs s)).head? = some 48) && !decide (bs s = [48]))
    · simp only [Bool.false_eq_true, if_false]
      have := zHd (p := s) (y := (t, neg (bs s))) (bs t) [] N rfl (by rw [← Kr]; show t.size ≤ 9; omega) (by rw [← Kr]; omega)
      rw [show ((([] : List UInt8).length : Nat) : Int) = 0 from rfl] at this
      rw [this, hb]
      by_cases h2 : (dgs (bs s)).all zCO = true
      · have hn : WC s = true := by
          unfold WC zJp; rw [hz, h2]; simp [h1]
        rw [h2, atoiF_ok hn, hn]; rfl
      · have h2 : (dgs (bs s)).all zCO = false := by simpa using h2
        have hn : WC s = false := by unfold WC zJp; rw [h2]; simp
        rw [h2, hn]; rfl
    · have hn : WC s = false := by
        unfold WC zJp; rw [hz]; simp
      rw [hn]; rfl
  · have c1 : within (t.size : Int) 1 9 = false := by
      rw [Bool.eq_false_iff]; intro h; have := within_iff.1 h; omega
    have hn : WC s = false := by
      unfold WC zJp
      have : (decide (1 ≤ (dgs (bs s)).length) && decide ((dgs (bs s)).length ≤ 9)) = false := by
        simp only [Bool.and_eq_false_iff, decide_eq_false_iff_not]; omega
      rw [this]; rfl
    rw [c1, hn]; rfl
theorem zGM {N : Nat} (hN : 20 ≤ N) {l : List ByteArray} (hl : l.length ≤ 4294967296) : ∀ (suf pre : List ByteArray) (m : Nat), l = pre ++ suf → suf.length < m → pre.all WC = true →
    JX N l m (pre.map zIi) pre.length = some (if suf.all WC then (l.map zIi, true) else ([], false))
  | suf, pre, 0, _, h, _ => absurd h (by omega)
  | [], pre, m + 1, hb, _, _ => by
    unfold JX
    rw [hb, zEu pre]; simp
  | x :: suf, pre, m + 1, hb, hm, hp => by
    have hlen : l.length = pre.length + (suf.length + 1) := by rw [hb]; simp
    unfold JX
    have h1 : decide ((pre.length : Int) < (l.length : Int)) = true := decide_eq_true (by omega)
    have h2 : idx l (pre.length : Int) = some x := by rw [hb]; exact Vb pre suf x
    rw [h1, if_pos rfl, h2, Option.bind_some, NumberR_ok hN, Option.bind_some, List.all_cons]
    cases hx : WC x
    · rfl
    · simp only [if_true, Bool.not_true, Bool.false_eq_true, if_false, Bool.true_and]
      rw [zCD (by simp; omega), Option.bind_some, zHp pre x (by omega)]
      have := zGM hN hl suf (pre ++ [x]) m (by rw [hb]; simp) (by simp at hm; omega) (by simp [hp, hx])
      rw [List.map_append] at this
      exact this
theorem NumbersR_ok {N : Nat} (hN : 20 ≤ N) {l : List ByteArray} (hl : l.length ≤ 4294967296) (hm : l.length < N) : VW N l = some (zGI l) := by
  unfold VW
  have := zGM hN hl l [] N rfl hm rfl
  rw [show ((([] : List ByteArray).length : Nat) : Int) = 0 from rfl] at this
  rw [show (([] : List ByteArray).map zIi) = ([] : List Int) from rfl] at this
  rw [this]
  cases h : l.all WC
  · rw [numsT_no h]; rfl
  · rw [numsT_all h]; rfl
theorem zIa {l : List ByteArray} {x : Nat} {w : ByteArray} {K : Int → Option (List ByteArray × Bool)} (hw : idx l (x : Int) = some w) (hs : w.size ≤ 4294967296) : ∀ (suf pre : List UInt8) (m : Nat), bs w = pre ++ suf → suf.length < m →
    Jj l x K m pre.length = if suf.all zJi then K (w64 ((x : Int) + 1)) else some ([], false)
  | suf, pre, 0, _, h => absurd h (by omega)
  | [], pre, m + 1, hb, _ => by
    unfold Jj
    rw [hw, Option.bind_some]
    have : decide ((pre.length : Int) < (w.size : Int)) = false := decide_eq_false (by rw [Kr, hb]; simp)
    rw [this]; rfl
  | c :: suf, pre, m + 1, hb, hm => by
    have hlen : w.size = pre.length + (suf.length + 1) := by rw [Kr, hb]; simp
    unfold Jj
    have h1 : decide ((pre.length : Int) < (w.size : Int)) = true := decide_eq_true (by omega)
    have hc : zCN w (pre.length : Int) = some (c.toNat : Int) := zGr (by rw [hb]; simp)
    simp only [hw, Option.bind_some, hc, h1, if_true]
    have hg : (if decide ((c.toNat : Int) < 33) = true then some true else some (decide (126 < (c.toNat : Int)))) = some (!zJi c) := by
      unfold zJi
      by_cases h1 : c.toNat < 33
      · rw [if_pos (by simp; omega)]
        have : ¬ 33 ≤ c.toNat := by omega
        simp [this]
      · rw [if_neg (by simp; omega)]
        have : 33 ≤ c.toNat := by omega
        simp only [this, decide_true, Bool.true_and]
        congr 1
        by_cases h2 : c.toNat ≤ 126
        · simp [h2]; omega
        · simp [h2]; omega
    rw [hg, Option.bind_some, List.all_cons]
    cases hd : zJi c
    · rfl
    · simp only [Bool.not_true, Bool.false_eq_true, if_false, Bool.true_and]
      rw [zHp pre c (by omega)]
      exact zIa hw hs suf (pre ++ [c]) m (by rw [hb]; simp) (by simp at hm; omega)
theorem zIb {N : Nat} {l : List ByteArray} (hl : l.length ≤ 4294967296) (hs : ∀ w ∈ l, w.size ≤ 4294967296 ∧ w.size < N) : ∀ (suf pre : List ByteArray) (m : Nat), l = pre ++ suf → suf.length < m →
    Ql N l m pre.length = some (if suf.all rowOk then (l, true) else ([], false))
  | suf, pre, 0, _, h => absurd h (by omega)
  | [], pre, m + 1, hb, _ => by
    unfold Ql
    have : decide ((pre.length : Int) < (l.length : Int)) = false := by rw [hb]; exact zEu pre
    rw [this]; rfl
  | w :: suf, pre, m + 1, hb, hm => by
    have hlen : l.length = pre.length + (suf.length + 1) := by rw [hb]; simp
    unfold Ql
    have h1 : decide ((pre.length : Int) < (l.length : Int)) = true := decide_eq_true (by omega)
    have h2 : idx l (pre.length : Int) = some w := by rw [hb]; exact Vb pre suf w
    obtain ⟨k1, k2⟩ := hs w (by rw [hb]; simp)
    rw [h1, if_pos rfl, h2, Option.bind_some, zIq, List.all_cons]
    unfold rowOk
    cases he : (bs w).isEmpty
    · have := zIa (K := Ql N l m) h2 k1 (bs w) [] N rfl (by rw [← Kr]; exact k2)
      rw [show ((([] : List UInt8).length : Nat) : Int) = 0 from rfl] at this
      simp only [Bool.false_eq_true, if_false, Bool.not_false, Bool.true_and]
      rw [this]
      cases hr : (bs w).all zJi
      · rfl
      · simp only [if_true, Bool.true_and]
        rw [zHp pre w (by omega)]
        exact zIb hl hs suf (pre ++ [w]) m (by rw [hb]; simp) (by simp at hm; omega)
    · rfl
theorem Words_ok {N : Nat} {s : ByteArray} (h : s.size ≤ 200000) (hN : 200010 ≤ N) : Vp N s = some (if (words s).all rowOk then (words s, true) else ([], false)) := by
  unfold Vp
  rw [split_ok (by omega), Option.bind_some]
  have hl := zFv s
  have := zIb (N := N) (l := words s) (by omega) (fun w hw => by have := zJV hw; omega) (words s) [] N rfl (by omega)
  rw [show ((([] : List ByteArray).length : Nat) : Int) = 0 from rfl] at this
  exact this
def Kh (s : ByteArray) : ByteArray × ByteArray × Bool := (⟨(Lib.cut (bs s) [10]).1.toArray⟩, ⟨(Lib.cut (bs s) [10]).2.1.toArray⟩, (Lib.cut (bs s) [10]).2.2)
theorem cut_line {s : ByteArray} (h : s.size ≤ 200000) : cutF s ⟨#[10]⟩ = some (Kh s) := by
  unfold cutF
  rw [if_pos (by omega)]; rfl
theorem zGc (s : ByteArray) : (Kh s).1.size ≤ s.size ∧ ((Kh s).2.2 = true → (Kh s).2.1.size + 1 ≤ s.size) := by
  have e : ∀ l : List UInt8, (ByteArray.mk l.toArray).size = l.length := fun l => by rw [Kr]; simp [bs]
  rw [Kr s]
  unfold Kh
  simp only [e]
  unfold Lib.cut
  split
  · rename_i h
    refine ⟨by simp only [List.length_take]; omega, fun _ => ?_⟩
    simp only [List.length_drop, List.length_cons, List.length_nil]
    cases hb : bs s with
    | nil => rw [hb] at h; exact absurd h (by decide)
    | cons b l => simp only [List.length_cons]; omega
  · exact ⟨Nat.le_refl _, fun h => by cases h⟩
theorem zJx (c : UInt8) : ∀ (a b : List UInt8), c ∉ a → Lib.index (a ++ c :: b) [c] = (a.length : Int)
  | [], b, _ => by rw [List.nil_append, Lib.index]; simp [List.isPrefixOf]
  | x :: a, b, h => by
    simp only [List.mem_cons, not_or] at h
    have hx : ([c] : List UInt8).isPrefixOf (x :: (a ++ c :: b)) = false := by simp [List.isPrefixOf, h.1]
    rw [List.cons_append, Lib.index, hx, zJx c a b h.2]
    have : ((a.length : Int) == -1) = false := by rw [Bool.eq_false_iff]; simp only [ne_eq, beq_iff_eq]; omega
    rw [this]
    simp
theorem zJd (c : UInt8) (k : Nat) {a b : List UInt8} (h : c ∉ a) : Lib.splitK [c] 0 (k + 1) (a ++ c :: b) = a :: Lib.splitK [c] 0 k b := by
  rw [Lib.splitK, zJx c a b h]
  have : ((a.length : Int) == -1) = false := by rw [Bool.eq_false_iff]; simp only [ne_eq, beq_iff_eq]; omega
  rw [this]
  simp
theorem zJt (w x : List UInt8) (r : List (List UInt8)) : Lib.join (w :: x :: r) [32] = w ++ 32 :: Lib.join (x :: r) [32] := by
  rw [Lib.join_cons, Lib.join_cons]
  simp [Lib.joinTail]
theorem zJu : ∀ (r : List (List UInt8)) (w : List UInt8), (∀ x ∈ w :: r, (32 : UInt8) ∉ x) → (Lib.join (w :: r) [32]).count 32 = r.length
  | [], w, h => by rw [Lib.join_one]; exact List.count_eq_zero.2 (h w (by simp))
  | x :: r, w, h => by
    rw [zJt, List.count_append, List.count_cons_self, zJu r x (fun y hy => h y (by simp [List.mem_cons.1 hy])), List.count_eq_zero.2 (h w (by simp))]
    simp
theorem zIQ : ∀ (r : List (List UInt8)) (w : List UInt8), (∀ x ∈ w :: r, (32 : UInt8) ∉ x) → Lib.splitK [32] 0 r.length (Lib.join (w :: r) [32]) = w :: r
  | [], w, h => by rw [Lib.join_one]; rfl
  | x :: r, w, h => by
    rw [zJt, List.length_cons, zJd 32 _ (h w (by simp)), zIQ r x (fun y hy => h y (by simp [List.mem_cons.1 hy]))]
theorem splitK_ne (k : Nat) (s : List UInt8) : Lib.splitK [32] 0 k s ≠ [] := by
  cases k with
  | zero => simp [Lib.splitK]
  | succ k => unfold Lib.splitK; split <;> simp
theorem zIW : ∀ (k : Nat) (s : List UInt8), s.count 32 = k → Lib.join (Lib.splitK [32] 0 k s) [32] = s
  | 0, s, _ => by rw [Lib.splitK, Lib.join_one]
  | k + 1, s, h => by
    have hm : (32 : UInt8) ∈ s := List.count_pos_iff.1 (by omega)
    obtain ⟨a, b, rfl, ha⟩ := List.eq_append_cons_of_mem hm
    rw [zJd 32 k ha]
    rw [List.count_append, List.count_cons_self, List.count_eq_zero.2 ha] at h
    have ih := zIW k b (by omega)
    cases hs : Lib.splitK [32] 0 k b with
    | nil => exact absurd hs (splitK_ne _ _)
    | cons x r => rw [hs] at ih; rw [zJt, ih]
theorem words_bs (s : ByteArray) : (words s).map bs = Lib.splitK [32] 0 ((bs s).count 32) (bs s) := by
  unfold words
  have := Lib.splitB_data ⟨#[32]⟩ 0 (Lib.countB s ⟨#[32]⟩) s
  have e : Lib.countB s ⟨#[32]⟩ = (bs s).count 32 := Lib.count_one 32 (bs s)
  rw [e] at this ⊢
  exact this
theorem words_join (s : ByteArray) : Lib.join ((words s).map bs) [32] = bs s := by
  rw [words_bs]; exact zIW _ _ rfl
theorem zJq : ∀ {l m : List ByteArray}, l.map bs = m.map bs → l = m
  | [], [], _ => rfl
  | [], _ :: _, h => by simp at h
  | _ :: _, [], h => by simp at h
  | x :: l, y :: m, h => by
    simp only [List.map_cons, List.cons.injEq] at h
    rw [bs_inj h.1, zJq h.2]
theorem words_of {s : ByteArray} {w : ByteArray} {r : List ByteArray} (h : bs s = Lib.join ((w :: r).map bs) [32]) (hn : ∀ x ∈ w :: r, (32 : UInt8) ∉ bs x) : words s = w :: r := by
  apply zJq
  have hn' : ∀ x ∈ bs w :: r.map bs, (32 : UInt8) ∉ x := fun x hx => by
    rcases List.mem_cons.1 hx with rfl | hx
    · exact hn w (by simp)
    · obtain ⟨y, hy, rfl⟩ := List.mem_map.1 hx
      exact hn y (by simp [hy])
  rw [words_bs, h, List.map_cons, zJu _ _ hn', zIQ _ _ hn']
theorem zEL {l : List ByteArray} {m : List Int} (h : nums l = some m) : m.length = l.length := by
  unfold nums at h
  split at h
  · have := Option.some.inj h; subst this; simp
  · cases h
theorem cutTo {α : Type} {w : List α} {n : Nat} (h : n ≤ w.length) : cut w (n : Int) (w.length : Int) = some (w.drop n) := by
  unfold cut
  rw [if_pos ⟨by omega, by omega, by omega⟩]
  congr 1
  simp only [Int.toNat_natCast]
  rw [List.take_of_length_le (by simp)]
theorem zEs {l : List ByteArray} (h : nums l = none) : zGI l = ([], false) := by unfold zGI; rw [h]
theorem zEr {l : List ByteArray} {m : List Int} (h : nums l = some m) : zGI l = (m, true) := by unfold zGI; rw [h]
theorem l4 {α : Type} {m : List α} (h : m.length = 4) : ∃ a b c d, m = [a, b, c, d] := by
  match m, h with
  | [a, b, c, d], _ => exact ⟨a, b, c, d, rfl⟩
theorem l2 {α : Type} {m : List α} (h : m.length = 2) : ∃ a b, m = [a, b] := by
  match m, h with
  | [a, b], _ => exact ⟨a, b, rfl⟩
theorem zIl {α : Type} {k : α} {r : List α} : idx (k :: r) 0 = some k := rfl
theorem idx1 {α : Type} {k a : α} {r : List α} : idx (k :: a :: r) 1 = some a := rfl
theorem idx2 {α : Type} {k a b : α} {r : List α} : idx (k :: a :: b :: r) 2 = some b := rfl
theorem idx3 {α : Type} {k a b c : α} {r : List α} : idx (k :: a :: b :: c :: r) 3 = some c := rfl
inductive Wd | unit | tool | dark | clear | done | use | move | flash | line | area | rept
  deriving DecidableEq
def wb : Wd → ByteArray
  | .unit => ⟨#[117, 110, 105, 116]⟩
  | .tool => ⟨#[116, 111, 111, 108]⟩
  | .dark => ⟨#[100, 97, 114, 107]⟩
  | .clear => ⟨#[99, 108, 101, 97, 114]⟩
  | .done => ⟨#[100, 111, 110, 101]⟩
  | .use => ⟨#[117, 115, 101]⟩
  | .move => ⟨#[109, 111, 118, 101]⟩
  | .flash => ⟨#[102, 108, 97, 115, 104]⟩
  | .line => ⟨#[108, 105, 110, 101]⟩
  | .area => ⟨#[97, 114, 101, 97]⟩
  | .rept => ⟨#[114, 101, 112, 101, 97, 116]⟩
def allW : List Wd := [.unit, .tool, .dark, .clear, .done, .use, .move, .flash, .line, .area, .rept]
theorem allW_mem (w : Wd) : w ∈ allW := by cases w <;> simp [allW]
def VC (k : ByteArray) : Option Wd := allW.find? fun w => sEq k (wb w)
theorem wb_inj {a b : Wd} (h : wb a = wb b) : a = b := by
  have h2 : bs (wb a) = bs (wb b) := by rw [h]
  revert h2
  cases a <;> cases b <;> first | (intro _; rfl) | (intro h; exact absurd h (by decide))
theorem zBD (w : Wd) : VC (wb w) = some w := by
  unfold VC
  cases h : allW.find? fun v => sEq (wb w) (wb v) with
  | none =>
    rw [List.find?_eq_none] at h
    exact absurd (zBE.2 rfl) (h w (allW_mem w))
  | some v =>
    have := List.find?_some h
    rw [wb_inj (zBE.1 this)]
theorem zEG {k : ByteArray} {w : Wd} (h : VC k = some w) : k = wb w := zBE.1 (List.find?_some (p := fun w => sEq k (wb w)) h)
theorem VH (k : ByteArray) (w : Wd) : sEq k (wb w) = decide (VC k = some w) := by
  rw [Bool.eq_iff_iff, decide_eq_true_eq, zBE]
  exact ⟨fun h => by rw [h]; exact zBD w, zEG⟩
theorem words_one {s x : ByteArray} (h : words s = [x]) : s = x := by
  have := words_join s
  rw [h, List.map_cons, List.map_nil, Lib.join_one] at this
  exact (bs_inj this).symm
theorem words_wb (w : Wd) : words (wb w) = [wb w] := by
  refine words_of ?_ (fun x hx => ?_)
  · rw [List.map_cons, List.map_nil, Lib.join_one]
  · simp at hx; subst hx
    cases w <;> decide
theorem zJh (s : ByteArray) (w : Wd) : sEq s (wb w) = decide (words s = [wb w]) := by
  rw [Bool.eq_iff_iff, decide_eq_true_eq, zBE]
  exact ⟨fun h => by rw [h]; exact words_wb w, words_one⟩
inductive Ln
  | unit (n : Int)
  | tool (t : zt)
  | step (s : zD)
  | rep (s : zD)
  | done
def e0 : ByteArray := ⟨#[]⟩
def st0 (k : Int) : zD := ⟨k, e0, ⟨0, 0⟩, [], 0, 0, []⟩
def rcs : List Int → List VS
  | a :: b :: c :: d :: l => ⟨a, b, c, d⟩ :: rcs l
  | _ => []
def pts : List Int → List zf
  | a :: b :: l => ⟨a, b⟩ :: pts l
  | _ => []
def zAw (k : Int) : Option (List Int) → Option Ln
  | some [x, y] => some (.step ⟨k, e0, ⟨x, y⟩, [], 0, 0, []⟩)
  | _ => none
def zA7 : Option (List Int) → Option Ln
  | some [n] => some (.unit n)
  | _ => none
def zC5 : Option (List Int) → Option Ln
  | some [a, b, c, d] => some (.rep ⟨8, e0, ⟨c, d⟩, [], a, b, []⟩)
  | _ => none
def zB1 : Option (List Int) → Option Ln
  | some m => if m.length % 2 = 0 then some (.step ⟨7, e0, ⟨0, 0⟩, pts m, 0, 0, []⟩) else none
  | none => none
def zBT (nm : ByteArray) : Option (List Int) → Option Ln
  | some m => if m.length ≠ 0 ∧ m.length % 4 = 0 then some (.tool ⟨nm, rcs m⟩) else none
  | none => none
def lnW (r : List ByteArray) : Wd → Option Ln
  | .unit => zA7 (nums r)
  | .tool => match r with
    | nm :: r2 => if rowOk nm = true then zBT nm (nums r2) else none
    | [] => none
  | .dark => if r = [] then some (.step (st0 1)) else none
  | .clear => if r = [] then some (.step (st0 2)) else none
  | .done => if r = [] then some .done else none
  | .use => match r with
    | [nm] => if rowOk nm = true then some (.step ⟨3, nm, ⟨0, 0⟩, [], 0, 0, []⟩) else none
    | _ => none
  | .move => zAw 4 (nums r)
  | .flash => zAw 5 (nums r)
  | .line => zAw 6 (nums r)
  | .area => zB1 (nums r)
  | .rept => zC5 (nums r)
def zB0 : List ByteArray → Option Ln
  | [] => none
  | k :: r => (VC k).bind (lnW r)
def zCo (r : QZ) (s : zD) : QZ :=
  match r.open_.getLast? with
  | some x => ⟨r.p, r.unit, r.open_.dropLast ++ [⟨x.Kind, x.Name, x.At, x.Points, x.NX, x.NY, x.Steps ++ [s]⟩], r.step⟩
  | none => ⟨⟨r.p.Unit, r.p.Tools, r.p.Steps ++ [s]⟩, r.unit, r.open_, r.step⟩
def acc (r : QZ) : Option Ln → Option QZ
  | some (.unit n) => if r.unit = true then none else some ⟨⟨n, r.p.Tools, r.p.Steps⟩, true, r.open_, r.step⟩
  | some (.tool t) => if r.unit = true ∧ r.step = false then some ⟨⟨r.p.Unit, r.p.Tools ++ [t], r.p.Steps⟩, r.unit, r.open_, r.step⟩ else none
  | some (.step s) => if r.unit = true then some (zCo ⟨r.p, r.unit, r.open_, true⟩ s) else none
  | some (.rep s) => if r.unit = true then some ⟨r.p, r.unit, r.open_ ++ [s], true⟩ else none
  | some .done => if r.unit = true then (match r.open_.getLast? with | some x => some (zCo ⟨r.p, r.unit, r.open_.dropLast, true⟩ x) | none => none) else none
  | none => none
structure SmR (r : QZ) : Prop where
  t : r.p.Tools.length ≤ 300000
  s : r.p.Steps.length ≤ 300000
  o : r.open_.length ≤ 300000
  i : ∀ x ∈ r.open_, x.Steps.length ≤ 300000
theorem zJl {r : QZ} (h : SmR r) (s : zD) : Jw r s = some ((zCo r s).p.Steps, (zCo r s).open_) ∧ (zCo r s).p.Unit = r.p.Unit ∧ (zCo r s).p.Tools = r.p.Tools ∧ (zCo r s).unit = r.unit ∧ (zCo r s).step = r.step := by
  have ho := h.o
  unfold Jw zCo
  rw [Ka (by omega) (by omega)]
  cases hl : r.open_.getLast? with
  | none =>
    have hn : r.open_ = [] := List.getLast?_eq_none_iff.1 hl
    have hs := h.s
    rw [hn]
    refine ⟨?_, rfl, rfl, rfl, rfl⟩
    rw [if_neg (by simp), apd_sets, zCD (by simp; omega), Option.bind_some]
  | some x =>
    obtain ⟨l, hx⟩ : ∃ l, r.open_ = l ++ [x] := ⟨r.open_.dropLast, by
      obtain ⟨l, hl'⟩ := List.getLast?_eq_some_iff.1 hl
      rw [hl']; simp⟩
    have hi := h.i x (by rw [hx]; simp)
    rw [hx]
    refine ⟨?_, rfl, rfl, rfl, rfl⟩
    have e : ((l ++ [x]).length : Int) - 1 = (l.length : Int) := by simp
    rw [e, if_pos (by simp), Vb, Option.bind_some, zCD (by simp; omega), Option.bind_some]
    simp
theorem even_two {m : List Int} (h : m ≠ []) (he : m.length % 2 = 0) : ∃ a b l, m = a :: b :: l ∧ l.length % 2 = 0 := by
  match m, h with
  | [a], _ => simp at he
  | a :: b :: l, _ => exact ⟨a, b, l, rfl, by simp at he; omega⟩
theorem four_four {m : List Int} (h : m ≠ []) (he : m.length % 4 = 0) : ∃ a b c d l, m = a :: b :: c :: d :: l ∧ l.length % 4 = 0 := by
  match m, h with
  | [a], _ => simp at he
  | [a, b], _ => simp at he
  | [a, b, c], _ => simp at he
  | a :: b :: c :: d :: l, _ => exact ⟨a, b, c, d, l, rfl, by simp at he; omega⟩
theorem zDs {α : Type} {pre : List α} {x : α} {suf : List α} (k : Nat) (h : suf[k]? = some x) : idx (pre ++ suf) ((pre.length : Int) + (k : Int)) = some x := by
  unfold idx
  rw [if_pos (by omega), show ((pre.length : Int) + (k : Int)).toNat = pre.length + k by omega, List.getElem?_append_right (by omega)]
  simpa using h
theorem pts_loop {r : QZ} {l : List Int} (hl : l.length ≤ 1000000) : ∀ (n : Nat) (suf pre : List Int) (a : List zf) (m : Nat), suf.length ≤ n → l = pre ++ suf → suf.length % 2 = 0 → suf.length < m → a.length ≤ pre.length →
    JU r l m a (pre.length : Int) = JV r 7 0 0 (a ++ pts suf)
  | n, suf, pre, a, m, hn, he, h2, hm, ha => by
    obtain ⟨m, rfl⟩ : ∃ k, m = k + 1 := ⟨m - 1, by omega⟩
    by_cases hs : suf = []
    · subst hs
      rw [JU, if_neg (by rw [he]; simp)]
      simp [pts]
    · obtain ⟨x, y, t, rfl, ht⟩ := even_two hs h2
      have hlen : l.length = pre.length + (t.length + 2) := by rw [he]; simp
      simp at hn hm
      have i1 : idx l (pre.length : Int) = some x := by rw [he]; exact Vb _ _ _
      have i2 : idx l (w64 ((pre.length : Int) + 1)) = some y := by
        rw [Ka (by omega) (by omega), he]
        exact zDs 1 rfl
      rw [JU, if_pos (by simp; omega), i1, Option.bind_some, i2, Option.bind_some, zCD (by simp; omega), Option.bind_some, Ka (by omega) (by omega)]
      cases n with
      | zero => omega
      | succ n =>
        have ih := pts_loop (r := r) hl n t (pre ++ [x, y]) (a ++ [⟨x, y⟩]) m (by omega) (by rw [he]; simp) ht (by omega) (by simp; omega)
        rw [show ((pre ++ [x, y]).length : Int) = (pre.length : Int) + 2 by simp] at ih
        rw [ih]
        simp [pts]
theorem rcs_loop {r : QZ} {l : List Int} {b : Bool} {nm : ByteArray} (hl : l.length ≤ 1000000) : ∀ (n : Nat) (suf pre : List Int) (a : List VS) (m : Nat), suf.length ≤ n → l = pre ++ suf → suf.length % 4 = 0 → suf.length < m → a.length ≤ pre.length →
    Jv r (l, b) nm m a (pre.length : Int) = (apd r.p.Tools [⟨nm, a ++ rcs suf⟩]).bind fun l145 => some (true, r.p.Unit, r.unit, l145, r.open_)
  | n, suf, pre, a, m, hn, he, h2, hm, ha => by
    obtain ⟨m, rfl⟩ : ∃ k, m = k + 1 := ⟨m - 1, by omega⟩
    by_cases hs : suf = []
    · subst hs
      rw [Jv, if_neg (by rw [he]; simp)]
      simp [rcs]
    · obtain ⟨x, y, z, u, t, rfl, ht⟩ := four_four hs h2
      have hlen : l.length = pre.length + (t.length + 4) := by rw [he]; simp
      simp at hn hm
      have i1 : idx l (pre.length : Int) = some x := by rw [he]; exact Vb _ _ _
      have i2 : idx l (w64 ((pre.length : Int) + 1)) = some y := by
        rw [Ka (by omega) (by omega), he]
        exact zDs 1 rfl
      have i3 : idx l (w64 ((pre.length : Int) + 2)) = some z := by
        rw [Ka (by omega) (by omega), he]
        exact zDs 2 rfl
      have i4 : idx l (w64 ((pre.length : Int) + 3)) = some u := by
        rw [Ka (by omega) (by omega), he]
        exact zDs 3 rfl
      rw [Jv, if_pos (by simp; omega)]
      show ((idx l (pre.length : Int)).bind fun zDe => (idx l (w64 ((pre.length : Int) + 1))).bind fun zD8 => (idx l (w64 ((pre.length : Int) + 2))).bind fun zAv => (idx l (w64 ((pre.length : Int) + 3))).bind fun Vt => (apd a [(VS.mk zDe zD8 zAv Vt)]).bind fun zBX => _) = _
      rw [i1, Option.bind_some, i2, Option.bind_some, i3, Option.bind_some, i4, Option.bind_some, zCD (by simp; omega), Option.bind_some, Ka (by omega) (by omega)]
      cases n with
      | zero => omega
      | succ n =>
        have ih := rcs_loop (r := r) (b := b) (nm := nm) hl n t (pre ++ [x, y, z, u]) (a ++ [⟨x, y, z, u⟩]) m (by omega) (by rw [he]; simp) ht (by omega) (by simp; omega)
        rw [show ((pre ++ [x, y, z, u]).length : Int) = (pre.length : Int) + 4 by simp] at ih
        rw [ih]
        simp [rcs]
theorem tm2 (n : Nat) : (Int.tmod (n : Int) 2 != 0) = decide (n % 2 ≠ 0) := by
  rw [Bool.eq_iff_iff, bne_iff_ne, decide_eq_true_eq]
  have : Int.tmod (n : Int) 2 = ((n % 2 : Nat) : Int) := rfl
  omega
theorem tm4 (n : Nat) : (Int.tmod (n : Int) 4 != 0) = decide (n % 4 ≠ 0) := by
  rw [Bool.eq_iff_iff, bne_iff_ne, decide_eq_true_eq]
  have : Int.tmod (n : Int) 4 = ((n % 4 : Nat) : Int) := rfl
  omega
abbrev mfl : List ByteArray := [⟨#[109, 111, 118, 101]⟩, ⟨#[102, 108, 97, 115, 104]⟩, ⟨#[108, 105, 110, 101]⟩]
theorem ixM : Je mfl (wb .move) = some 0 := by
  unfold Je
  simp only [JQ, zGZ]
  decide
theorem ixF : Je mfl (wb .flash) = some 1 := by
  unfold Je
  simp only [JQ, zGZ]
  decide
theorem ixL : Je mfl (wb .line) = some 2 := by
  unfold Je
  simp only [JQ, zGZ]
  decide
def nbL (k : ByteArray) (m : List Int) : Option Ln :=
  match VC k with
  | some .move => zAw 4 (some m)
  | some .flash => zAw 5 (some m)
  | some .line => zAw 6 (some m)
  | some .area => zB1 (some m)
  | some .rept => zC5 (some m)
  | _ => none
def NbAs (r : QZ) (y : Bool × List zD × List zD) : Option Ln → Prop
  | some (.step s) => y = (true, (zCo r s).p.Steps, (zCo r s).open_)
  | some (.rep s) => y = (true, r.p.Steps, r.open_ ++ [s])
  | _ => y.1 = false
theorem numbered_ok {N : Nat} (hN : 1000010 ≤ N) {r : QZ} (h : SmR r) (k : ByteArray) {m : List Int} (hm : m.length ≤ 1000000) : ∃ y, KG N r k m = some y ∧ NbAs r y (nbL k m) := by
  have e1 : sEq k ⟨#[109, 111, 118, 101]⟩ = decide (VC k = some .move) := VH k .move
  have e2 : sEq k ⟨#[102, 108, 97, 115, 104]⟩ = decide (VC k = some .flash) := VH k .flash
  have e3 : sEq k ⟨#[108, 105, 110, 101]⟩ = decide (VC k = some .line) := VH k .line
  have e4 : sEq k ⟨#[97, 114, 101, 97]⟩ = decide (VC k = some .area) := VH k .area
  have e5 : sEq k ⟨#[114, 101, 112, 101, 97, 116]⟩ = decide (VC k = some .rept) := VH k .rept
  have hpt : ∀ (w : Wd) (j : Int), k = wb w → Je [⟨#[109, 111, 118, 101]⟩, ⟨#[102, 108, 97, 115, 104]⟩, ⟨#[108, 105, 110, 101]⟩] (wb w) = some j → w64 (4 + j) = 4 + j → ∃ y, QU N r k m true = some y ∧ NbAs r y (zAw (4 + j) (some m)) := fun w j hk hj hw => by
    subst hk
    unfold QU
    rw [if_pos rfl]
    by_cases h2 : m.length = 2
    · obtain ⟨a, b, rfl⟩ := l2 h2
      rw [if_neg (by simp), hj, Option.bind_some, zIl, Option.bind_some, idx1, Option.bind_some, hw]
      unfold JV
      rw [(zJl h _).1, Option.bind_some]
      exact ⟨_, rfl, rfl⟩
    · rw [if_pos (by simp; omega)]
      refine ⟨_, rfl, ?_⟩
      unfold zAw NbAs
      split
      · rename_i e; revert e; split <;> intro e
        · rename_i e'; have := Option.some.inj e'; subst this; exact absurd rfl h2
        · cases e
      · rename_i e; revert e; split <;> intro e <;> cases e
      · rfl
  unfold KG
  rw [e1, e2, e3]
  unfold nbL
  cases hw : VC k with
  | none =>
    unfold QU
    simp only [e4, e5, hw, reduceCtorEq, decide_false, Bool.false_eq_true, if_false]
    exact ⟨_, rfl, rfl⟩
  | some w =>
    have hk := zEG hw
    cases w
    case move =>
      simp only [decide_true, if_true]
      exact hpt .move 0 hk ixM (Ka (by omega) (by omega))
    case flash =>
      simp only [Option.some.injEq, reduceCtorEq, decide_false, decide_true, Bool.false_eq_true, if_false, if_true]
      exact hpt .flash 1 hk ixF (Ka (by omega) (by omega))
    case line =>
      simp only [Option.some.injEq, reduceCtorEq, decide_false, decide_true, Bool.false_eq_true, if_false]
      exact hpt .line 2 hk ixL (Ka (by omega) (by omega))
    case area =>
      simp only [Option.some.injEq, reduceCtorEq, decide_false, Bool.false_eq_true, if_false]
      unfold QU
      simp only [e4, hw, decide_true, Bool.false_eq_true, if_false, if_true, tm2]
      rw [show zB1 (some m) = (if m.length % 2 = 0 then some (.step ⟨7, e0, ⟨0, 0⟩, pts m, 0, 0, []⟩) else none) from rfl]
      by_cases h2 : m.length % 2 = 0
      · have := pts_loop (r := r) hm m.length m [] [] N (Nat.le_refl _) rfl h2 (by omega) (Nat.le_refl _)
        simp only [List.nil_append, List.length_nil] at this
        rw [show ((0 : Nat) : Int) = 0 from rfl] at this
        rw [if_neg (by simpa using h2), this, if_pos h2]
        unfold JV
        rw [(zJl h _).1, Option.bind_some]
        exact ⟨_, rfl, rfl⟩
      · rw [if_pos (by simpa using h2), if_neg h2]
        exact ⟨_, rfl, rfl⟩
    case rept =>
      simp only [Option.some.injEq, reduceCtorEq, decide_false, Bool.false_eq_true, if_false]
      unfold QU
      simp only [e4, e5, hw, Option.some.injEq, reduceCtorEq, decide_false, decide_true, Bool.false_eq_true, if_false, if_true]
      by_cases h4 : m.length = 4
      · obtain ⟨a, b, c, d, rfl⟩ := l4 h4
        have ho := h.o
        rw [if_neg (by simp), zIl, Option.bind_some, idx1, Option.bind_some, idx2, Option.bind_some, idx3, Option.bind_some, zCD (by simp; omega), Option.bind_some]
        exact ⟨_, rfl, rfl⟩
      · rw [if_pos (by simp; omega)]
        refine ⟨_, rfl, ?_⟩
        unfold zC5 NbAs
        split
        · rename_i e; revert e; split <;> intro e <;> cases e
        · rename_i e; revert e; split <;> intro e
          · rename_i e'; have := Option.some.inj e'; subst this; exact absurd rfl h4
          · cases e
        · rfl
    all_goals
      unfold QU
      simp only [e4, e5, hw, Option.some.injEq, reduceCtorEq, decide_false, Bool.false_eq_true, if_false]
      exact ⟨_, rfl, rfl⟩
abbrev LnR := Bool × Int × Bool × Bool × List zt × List zD × List zD
def zFL (r : QZ) : LnR := (true, r.p.Unit, r.unit, r.step, r.p.Tools, r.p.Steps, r.open_)
def LnAs (y : LnR) : Option QZ → Prop
  | some r' => y = zFL r'
  | none => y.1 = false
theorem SmR.step {r : QZ} (h : SmR r) : SmR ⟨r.p, r.unit, r.open_, true⟩ := ⟨h.t, h.s, h.o, h.i⟩
theorem zJo {l : List ByteArray} {m : List Int} (h : nums l = some m) (hl : l.length ≤ 300000) : m.length ≤ 1000000 := by
  rw [zEL h]; omega
theorem VL (k : ByteArray) (r : List ByteArray) : zB0 (k :: r) = (VC k).bind (lnW r) := rfl
theorem Kc {k : Int} {o : Option (List Int)} {l : Ln} (h : zAw k o = some l) : ∃ x y, o = some [x, y] ∧ l = .step ⟨k, e0, ⟨x, y⟩, [], 0, 0, []⟩ := by
  unfold zAw at h
  split at h
  · rename_i x y; exact ⟨x, y, rfl, (Option.some.inj h).symm⟩
  · cases h
theorem zA8 {o : Option (List Int)} {l : Ln} (h : zC5 o = some l) : ∃ a b c d, o = some [a, b, c, d] ∧ l = .rep ⟨8, e0, ⟨c, d⟩, [], a, b, []⟩ := by
  unfold zC5 at h
  split at h
  · rename_i a b c d; exact ⟨a, b, c, d, rfl, (Option.some.inj h).symm⟩
  · cases h
theorem zA9 {o : Option (List Int)} {l : Ln} (h : zB1 o = some l) : ∃ m, o = some m ∧ m.length % 2 = 0 ∧ l = .step ⟨7, e0, ⟨0, 0⟩, pts m, 0, 0, []⟩ := by
  unfold zB1 at h
  split at h
  · rename_i m
    split at h
    · rename_i h2; exact ⟨m, rfl, h2, (Option.some.inj h).symm⟩
    · cases h
  · cases h
theorem zBk {nm : ByteArray} {o : Option (List Int)} {l : Ln} (h : zBT nm o = some l) : ∃ m, o = some m ∧ (m.length ≠ 0 ∧ m.length % 4 = 0) ∧ l = .tool ⟨nm, rcs m⟩ := by
  unfold zBT at h
  split at h
  · rename_i m
    split at h
    · rename_i h2; exact ⟨m, rfl, h2, (Option.some.inj h).symm⟩
    · cases h
  · cases h
theorem lnW_else {r : List ByteArray} {d : Wd} {l : Ln} (h1 : d ≠ .unit) (h2 : d ≠ .tool) (h : lnW r d = some l) : (∃ s, l = .step s) ∨ (∃ s, l = .rep s) ∨ l = .done := by
  cases d
  case unit => exact absurd rfl h1
  case tool => exact absurd rfl h2
  case dark => unfold lnW at h; simp only at h; split at h; exact .inl ⟨_, (Option.some.inj h).symm⟩; cases h
  case clear => unfold lnW at h; simp only at h; split at h; exact .inl ⟨_, (Option.some.inj h).symm⟩; cases h
  case done => unfold lnW at h; simp only at h; split at h; exact .inr (.inr (Option.some.inj h).symm); cases h
  case use =>
    unfold lnW at h
    simp only at h
    split at h
    · split at h
      · exact .inl ⟨_, (Option.some.inj h).symm⟩
      · cases h
    · cases h
  case move => obtain ⟨x, y, _, e⟩ := Kc h; exact .inl ⟨_, e⟩
  case flash => obtain ⟨x, y, _, e⟩ := Kc h; exact .inl ⟨_, e⟩
  case line => obtain ⟨x, y, _, e⟩ := Kc h; exact .inl ⟨_, e⟩
  case area => obtain ⟨m, _, _, e⟩ := zA9 h; exact .inl ⟨_, e⟩
  case rept => obtain ⟨a, b, c, d, _, e⟩ := zA8 h; exact .inr (.inl ⟨_, e⟩)
def accN (r : QZ) : Option Ln → Option QZ
  | some (.step s) => some (zCo ⟨r.p, r.unit, r.open_, true⟩ s)
  | some (.rep s) => some ⟨r.p, r.unit, r.open_ ++ [s], true⟩
  | _ => none
theorem tail_ok {N : Nat} (hN : 1000010 ≤ N) {r : QZ} (h : SmR r) {k : ByteArray} {w : List ByteArray} (hl : w.length ≤ 300000) : ∃ y, ((cut (k :: w) 1 ((k :: w).length : Int)).bind fun l130 => (WB l130).bind fun zFV =>
    if zFV.2 then (KG N ⟨r.p, r.unit, r.open_, true⟩ k zFV.1).bind fun zDE => some ((zDE.1, r.p.Unit, r.unit, true, r.p.Tools, zDE.2.1, zDE.2.2) : LnR)
    else some (false, r.p.Unit, r.unit, true, r.p.Tools, r.p.Steps, r.open_)) = some y ∧ LnAs y (accN r ((nums w).bind (nbL k))) := by
  have hc : cut (k :: w) 1 ((k :: w).length : Int) = some w := cutTo (w := k :: w) (n := 1) (by simp)
  rw [hc, Option.bind_some, zGk (by omega), Option.bind_some]
  cases hn : nums w with
  | none =>
    rw [zEs hn, if_neg (by simp)]
    exact ⟨_, rfl, rfl⟩
  | some m =>
    obtain ⟨y, y1, y2⟩ := numbered_ok hN h.step k (zJo hn hl)
    rw [zEr hn, if_pos rfl]
    show ∃ z, ((KG N ⟨r.p, r.unit, r.open_, true⟩ k m).bind _) = some z ∧ LnAs z (accN r (nbL k m))
    rw [y1, Option.bind_some]
    refine ⟨_, rfl, ?_⟩
    cases hb : nbL k m with
    | none => rw [hb] at y2; exact y2
    | some l =>
      rw [hb] at y2
      cases l with
      | step s =>
        obtain ⟨_, p1, p2, p3, p4⟩ := zJl h.step s
        have y2 : y = _ := y2
        show _ = zFL (zCo ⟨r.p, r.unit, r.open_, true⟩ s)
        rw [y2]
        unfold zFL
        rw [p1, p2, p3, p4]
      | rep s =>
        have y2 : y = _ := y2
        show _ = zFL ⟨r.p, r.unit, r.open_ ++ [s], true⟩
        rw [y2]; rfl
      | unit n => exact y2
      | tool t => exact y2
      | done => exact y2
theorem head_ok {N : Nat} (hN : 1000010 ≤ N) {r : QZ} (h : SmR r) {k : ByteArray} {w : List ByteArray} (hl : w.length ≤ 300000) (hk : VC k = some .unit ∨ VC k = some .tool) :
    ∃ y, WU N r (k :: w) = some y ∧ match acc r (zB0 (k :: w)) with
      | some r' => y = (true, r'.p.Unit, r'.unit, r'.p.Tools, r'.open_) ∧ r'.step = r.step ∧ r'.p.Steps = r.p.Steps
      | none => y.1 = false := by
  have e1 : sEq k ⟨#[117, 110, 105, 116]⟩ = decide (VC k = some .unit) := VH k .unit
  unfold WU
  rw [zIl, Option.bind_some, e1]
  rcases hk with hk | hk
  · rw [hk]
    simp only [decide_true, if_true]
    have hc : cut (k :: w) 1 ((k :: w).length : Int) = some w := cutTo (w := k :: w) (n := 1) (by simp)
    rw [hc, Option.bind_some, zGk (by omega), Option.bind_some]
    have hln : zB0 (k :: w) = zA7 (nums w) := by rw [VL, hk]; rfl
    rw [hln]
    cases hn : nums w with
    | none =>
      rw [zEs hn, if_pos (by simp)]
      exact ⟨_, rfl, rfl⟩
    | some m =>
      rw [zEr hn]
      by_cases h1 : m.length = 1
      · obtain ⟨a, rfl⟩ : ∃ a, m = [a] := by
          match m, h1 with
          | [a], _ => exact ⟨a, rfl⟩
        show ∃ y, _ ∧ match acc r (some (.unit a)) with | some r' => _ | none => _
        unfold acc
        cases hu : r.unit
        · rw [if_neg (by simp), if_neg (by simp)]
          exact ⟨_, rfl, rfl, rfl, rfl⟩
        · rw [if_pos (by simp), if_pos rfl]
          exact ⟨_, rfl, rfl⟩
      · rw [if_pos (by simp; omega)]
        have hno : zA7 (some m) = none := by
          unfold zA7
          split
          · rename_i e; have := Option.some.inj e; subst this; exact absurd rfl h1
          · rfl
        rw [hno]
        exact ⟨_, rfl, rfl⟩
  · rw [hk]
    simp only [Option.some.injEq, reduceCtorEq, decide_false, Bool.false_eq_true, if_false]
    cases w with
    | nil =>
      have hln : zB0 [k] = none := by rw [VL, hk]; rfl
      rw [hln, if_pos (by simp), Option.bind_some, if_pos rfl]
      exact ⟨_, rfl, rfl⟩
    | cons nm w2 =>
      have hln : zB0 (k :: nm :: w2) = if rowOk nm = true then zBT nm (nums w2) else none := by rw [VL, hk]; rfl
      rw [hln]
      simp at hl
      by_cases hus : r.unit = true ∧ r.step = false
      · rw [if_neg (by rw [hus.1, hus.2]; simp; omega), idx1, Option.bind_some, IsRow_ok, Option.bind_some, Option.bind_some]
        cases hrow : rowOk nm
        · exact ⟨_, rfl, rfl⟩
        · have hc : cut (k :: nm :: w2) 2 ((k :: nm :: w2).length : Int) = some w2 := cutTo (w := k :: nm :: w2) (n := 2) (by simp)
          rw [if_neg (by simp), hc, Option.bind_some, zGk (by omega), Option.bind_some, if_pos rfl]
          cases hn : nums w2 with
          | none =>
            rw [zEs hn, if_pos (by simp)]
            exact ⟨_, rfl, rfl⟩
          | some m =>
            have hsm := zJo hn (by omega)
            rw [zEr hn]
            show ∃ y, (if (((!true) || ((m.length : Int) == 0)) || (Int.tmod (m.length : Int) 4 != 0)) = true then _ else _) = some y ∧ _
            rw [tm4]
            by_cases hg : m.length ≠ 0 ∧ m.length % 4 = 0
            · have hlt : zBT nm (some m) = some (.tool ⟨nm, rcs m⟩) := if_pos hg
              have hT := h.t
              have h0 : ((m.length : Int) == 0) = false := by rw [Bool.eq_false_iff]; intro e; rw [beq_iff_eq] at e; exact hg.1 (by omega)
              have h4 : decide (m.length % 4 ≠ 0) = false := decide_eq_false (by omega)
              rw [h0, h4, if_neg (by simp), hlt, Option.bind_some]
              have := rcs_loop (r := r) (b := true) (nm := nm) hsm m.length m [] [] N (Nat.le_refl _) rfl hg.2 (by omega) (Nat.le_refl _)
              simp only [List.nil_append, List.length_nil] at this
              rw [show ((0 : Nat) : Int) = 0 from rfl] at this
              rw [this, zCD (by simp; omega), Option.bind_some]
              rw [show acc r (some (.tool ⟨nm, rcs m⟩)) = some ⟨⟨r.p.Unit, r.p.Tools ++ [⟨nm, rcs m⟩], r.p.Steps⟩, r.unit, r.open_, r.step⟩ from if_pos hus]
              exact ⟨_, rfl, rfl, rfl, rfl⟩
            · have hlt : zBT nm (some m) = none := if_neg hg
              have hb : ((!true || ((m.length : Int) == 0)) || decide (m.length % 4 ≠ 0)) = true := by
                by_cases h0 : m.length = 0
                · have : ((m.length : Int) == 0) = true := by rw [beq_iff_eq]; omega
                  rw [this]; simp
                · have : decide (m.length % 4 ≠ 0) = true := decide_eq_true (fun e => hg ⟨h0, e⟩)
                  rw [this]; simp
              rw [hb, if_pos rfl, hlt]
              exact ⟨_, rfl, rfl⟩
      · have hno : acc r (if rowOk nm = true then zBT nm (nums w2) else none) = none := by
          cases rowOk nm
          · rfl
          · rw [if_pos rfl]
            unfold zBT
            cases nums w2 with
            | none => rfl
            | some m =>
              show acc r (if m.length ≠ 0 ∧ m.length % 4 = 0 then some (.tool ⟨nm, rcs m⟩) else none) = none
              split
              · exact if_neg hus
              · rfl
        rw [hno]
        have hc : (((!r.unit) || r.step) || decide ((((k :: nm :: w2).length : Nat) : Int) < 2)) = true := by
          cases hu : r.unit
          · rfl
          · cases hs : r.step
            · exact absurd ⟨hu, hs⟩ hus
            · rfl
        rw [if_pos hc, Option.bind_some, if_pos rfl]
        exact ⟨_, rfl, rfl⟩
theorem line_ok {N : Nat} (hN : 1000010 ≤ N) {r : QZ} (h : SmR r) {s : ByteArray} (hs : s.size ≤ 200000) : ∃ y, WT N r s = some y ∧ LnAs y (acc r (zB0 (words s))) := by
  have hwl := zFv s
  unfold WT
  rw [split_ok (by omega), Option.bind_some]
  have d1 : sEq s ⟨#[100, 97, 114, 107]⟩ = decide (words s = [wb .dark]) := zJh s .dark
  have d2 : sEq s ⟨#[99, 108, 101, 97, 114]⟩ = decide (words s = [wb .clear]) := zJh s .clear
  have d3 : sEq s ⟨#[100, 111, 110, 101]⟩ = decide (words s = [wb .done]) := zJh s .done
  rw [d1, d2, d3]
  generalize words s = wl at *
  cases wl with
  | nil => simp at hwl
  | cons k w =>
    simp at hwl
    have e1 : sEq k ⟨#[117, 110, 105, 116]⟩ = decide (VC k = some .unit) := VH k .unit
    have e2 : sEq k ⟨#[116, 111, 111, 108]⟩ = decide (VC k = some .tool) := VH k .tool
    have e3 : sEq k ⟨#[117, 115, 101]⟩ = decide (VC k = some .use) := VH k .use
    simp only [zIl, Option.bind_some, e1, e2, e3]
    by_cases hk : VC k = some .unit ∨ VC k = some .tool
    · obtain ⟨y, y1, y2⟩ := head_ok hN h (w := w) (by omega) hk
      have hc : ((if decide (VC k = some .unit) = true then some true else some (decide (VC k = some .tool))) : Option Bool) = some true := by
        rcases hk with e | e <;> rw [e] <;> simp
      rw [hc, Option.bind_some, if_pos rfl, y1, Option.bind_some]
      refine ⟨_, rfl, ?_⟩
      cases ha : acc r (zB0 (k :: w)) with
      | none => rw [ha] at y2; exact y2
      | some r' =>
        rw [ha] at y2
        obtain ⟨z1, z2, z3⟩ := y2
        show _ = zFL r'
        rw [z1]
        unfold zFL
        rw [z2, z3]
    · rw [not_or] at hk
      have hc : ((if decide (VC k = some .unit) = true then some true else some (decide (VC k = some .tool))) : Option Bool) = some false := by
        rw [decide_eq_false hk.1, decide_eq_false hk.2]; rfl
      rw [hc, Option.bind_some, if_neg (by simp)]
      cases hu : r.unit
      · rw [if_pos (by rfl)]
        refine ⟨_, rfl, ?_⟩
        have : acc r (zB0 (k :: w)) = none := by
          rw [VL]
          cases hd : VC k with
          | none => rfl
          | some d =>
            rw [Option.bind_some]
            cases hl : lnW w d with
            | none => rfl
            | some l =>
              rcases lnW_else (fun e => hk.1 (by rw [hd, e])) (fun e => hk.2 (by rw [hd, e])) hl with ⟨s, rfl⟩ | ⟨s, rfl⟩ | rfl
              · show (if r.unit = true then _ else none) = none; rw [hu, if_neg (by simp)]
              · show (if r.unit = true then _ else none) = none; rw [hu, if_neg (by simp)]
              · show (if r.unit = true then _ else none) = none; rw [hu, if_neg (by simp)]
        rw [this]; rfl
      · rw [if_neg (by simp)]
        have hacc : ∀ o, (∀ l, o = some l → (∃ s, l = .step s) ∨ (∃ s, l = .rep s)) → acc r o = accN r o := fun o ho => by
          cases o with
          | none => rfl
          | some l =>
            rcases ho l rfl with ⟨s, rfl⟩ | ⟨s, rfl⟩
            · exact if_pos (c := r.unit = true) hu
            · exact if_pos (c := r.unit = true) hu
        have hput : ∀ s : zD, ∃ y, ((Jw ⟨r.p, true, r.open_, true⟩ s).bind fun zCy => some ((true, r.p.Unit, true, true, r.p.Tools, zCy.1, zCy.2) : LnR)) = some y ∧ LnAs y (accN r (some (.step s))) := fun s => by
          have h' := h.step
          rw [hu] at h'
          obtain ⟨p0, p1, p2, p3, p4⟩ := zJl h' s
          rw [p0, Option.bind_some]
          refine ⟨_, rfl, ?_⟩
          show _ = zFL (zCo ⟨r.p, r.unit, r.open_, true⟩ s)
          rw [hu]
          unfold zFL
          rw [p1, p2, p3, p4]
        have hone : ∀ d : Wd, (k :: w = [wb d]) ↔ (VC k = some d ∧ w = []) := fun d => by
          constructor
          · intro e
            simp only [List.cons.injEq] at e
            rw [e.1]; exact ⟨zBD d, e.2⟩
          · rintro ⟨e1, e2⟩
            rw [zEG e1, e2]
        have htail := tail_ok hN h (k := k) (w := w) (by omega)
        rw [hu] at htail
        have hD : VC k = some .dark ∧ w = [] ∨ ¬ (VC k = some .dark ∧ w = []) := Classical.em _
        have hC : VC k = some .clear ∧ w = [] ∨ ¬ (VC k = some .clear ∧ w = []) := Classical.em _
        have hO : VC k = some .done ∧ w = [] ∨ ¬ (VC k = some .done ∧ w = []) := Classical.em _
        rcases hD with hD | hD
        · rw [decide_eq_true ((hone _).2 hD), if_pos rfl]
          obtain ⟨y, y1, y2⟩ := hput (st0 1)
          refine ⟨y, y1, ?_⟩
          have e : zB0 (k :: w) = some (.step (st0 1)) := by rw [VL, hD.1, hD.2]; rfl
          rw [e, hacc _ (fun l hl => .inl ⟨_, (Option.some.inj hl).symm⟩)]
          exact y2
        rw [decide_eq_false (fun e => hD ((hone _).1 e)), if_neg (by simp)]
        rcases hC with hC | hC
        · rw [decide_eq_true ((hone _).2 hC), if_pos rfl]
          obtain ⟨y, y1, y2⟩ := hput (st0 2)
          refine ⟨y, y1, ?_⟩
          have e : zB0 (k :: w) = some (.step (st0 2)) := by rw [VL, hC.1, hC.2]; rfl
          rw [e, hacc _ (fun l hl => .inl ⟨_, (Option.some.inj hl).symm⟩)]
          exact y2
        rw [decide_eq_false (fun e => hC ((hone _).1 e)), if_neg (by simp)]
        rcases hO with hO | hO
        · rw [decide_eq_true ((hone _).2 hO), if_pos rfl]
          have e : zB0 (k :: w) = some .done := by rw [VL, hO.1, hO.2]; rfl
          have ho := h.o
          rw [e, Ka (by omega) (by omega)]
          show ∃ y, _ ∧ LnAs y (if r.unit = true then (match r.open_.getLast? with | some x => some (zCo ⟨r.p, r.unit, r.open_.dropLast, true⟩ x) | none => none) else none)
          rw [hu, if_pos rfl]
          cases hl : r.open_.getLast? with
          | none =>
            have hn : r.open_ = [] := List.getLast?_eq_none_iff.1 hl
            rw [hn, if_pos (by simp)]
            exact ⟨_, rfl, rfl⟩
          | some x =>
            obtain ⟨l, hx⟩ := List.getLast?_eq_some_iff.1 hl
            have hlen : ((l ++ [x]).length : Int) - 1 = (l.length : Int) := by simp
            have hp : pre (l ++ [x]) (l.length : Int) = some l := by
              unfold pre
              rw [if_pos ⟨by omega, by simp; omega⟩]
              simp
            have hS : SmR ⟨r.p, true, l, true⟩ := ⟨h.t, h.s, by rw [hx] at ho; simp at ho ⊢; omega, fun y hy => h.i y (by rw [hx]; simp [hy])⟩
            obtain ⟨p0, p1, p2, p3, p4⟩ := zJl hS x
            rw [hx, hlen, if_neg (by simp), Vb, Option.bind_some, hp, Option.bind_some, p0, Option.bind_some]
            refine ⟨_, rfl, ?_⟩
            show _ = zFL (zCo ⟨r.p, true, (l ++ [x]).dropLast, true⟩ x)
            rw [List.dropLast_concat]
            unfold zFL
            rw [p1, p2, p3, p4]
        rw [decide_eq_false (fun e => hO ((hone _).1 e)), if_neg (by simp)]
        by_cases hU : VC k = some .use
        · rw [decide_eq_true hU, if_pos rfl]
          match w, hwl with
          | [], _ =>
            have e : zB0 [k] = none := by rw [VL, hU]; rfl
            rw [if_pos (by simp), Option.bind_some, if_pos rfl, e]
            exact ⟨_, rfl, rfl⟩
          | [nm], _ =>
            rw [if_neg (by simp), idx1, Option.bind_some, IsRow_ok, Option.bind_some, Option.bind_some]
            cases hr : rowOk nm
            · have e : zB0 [k, nm] = none := by rw [VL, hU, Option.bind_some]; exact if_neg (by rw [hr]; simp)
              rw [e]
              exact ⟨_, rfl, rfl⟩
            · have e : zB0 [k, nm] = some (.step ⟨3, nm, ⟨0, 0⟩, [], 0, 0, []⟩) := by rw [VL, hU, Option.bind_some]; exact if_pos hr
              obtain ⟨y, y1, y2⟩ := hput ⟨3, nm, ⟨0, 0⟩, [], 0, 0, []⟩
              rw [if_neg (by simp)]
              refine ⟨y, y1, ?_⟩
              rw [e, hacc _ (fun l hl => .inl ⟨_, (Option.some.inj hl).symm⟩)]
              exact y2
          | nm :: x :: t, _ =>
            have e : zB0 (k :: nm :: x :: t) = none := by rw [VL, hU]; rfl
            rw [if_pos (by simp; omega), Option.bind_some, if_pos rfl, e]
            exact ⟨_, rfl, rfl⟩
        · rw [decide_eq_false hU, if_neg (by simp)]
          obtain ⟨y, y1, y2⟩ := htail
          refine ⟨y, y1, ?_⟩
          have e : zB0 (k :: w) = (nums w).bind (nbL k) ∧ ∀ l, zB0 (k :: w) = some l → (∃ s, l = .step s) ∨ (∃ s, l = .rep s) := by
            rw [VL]
            cases hd : VC k with
            | none =>
              refine ⟨?_, fun l hl => by cases hl⟩
              have : ∀ m, nbL k m = none := fun m => by unfold nbL; rw [hd]
              cases nums w with
              | none => rfl
              | some m => exact (this m).symm
            | some d =>
              rw [Option.bind_some]
              rw [hd] at hk hD hC hO hU
              cases d
              case unit => exact absurd rfl hk.1
              case tool => exact absurd rfl hk.2
              case use => exact absurd rfl hU
              case dark =>
                have hw : w ≠ [] := fun e => hD ⟨rfl, e⟩
                refine ⟨?_, fun l hl => ?_⟩
                · show (if w = [] then _ else none) = _
                  rw [if_neg hw]
                  have : ∀ m, nbL k m = none := fun m => by unfold nbL; rw [hd]
                  cases nums w with
                  | none => rfl
                  | some m => exact (this m).symm
                · have : (if w = [] then some (Ln.step (st0 1)) else none) = some l := hl
                  rw [if_neg hw] at this; cases this
              case clear =>
                have hw : w ≠ [] := fun e => hC ⟨rfl, e⟩
                refine ⟨?_, fun l hl => ?_⟩
                · show (if w = [] then _ else none) = _
                  rw [if_neg hw]
                  have : ∀ m, nbL k m = none := fun m => by unfold nbL; rw [hd]
                  cases nums w with
                  | none => rfl
                  | some m => exact (this m).symm
                · have : (if w = [] then some (Ln.step (st0 2)) else none) = some l := hl
                  rw [if_neg hw] at this; cases this
              case done =>
                have hw : w ≠ [] := fun e => hO ⟨rfl, e⟩
                refine ⟨?_, fun l hl => ?_⟩
                · show (if w = [] then _ else none) = _
                  rw [if_neg hw]
                  have : ∀ m, nbL k m = none := fun m => by unfold nbL; rw [hd]
                  cases nums w with
                  | none => rfl
                  | some m => exact (this m).symm
                · have : (if w = [] then some Ln.done else none) = some l := hl
                  rw [if_neg hw] at this; cases this
              case move =>
                refine ⟨?_, fun l hl => ?_⟩
                · cases hn : nums w with
                  | none => show zAw 4 (nums w) = none; rw [hn]; rfl
                  | some m => show zAw 4 (nums w) = nbL k m; unfold nbL; rw [hd, hn]
                · obtain ⟨x, y, _, e⟩ := Kc (show zAw 4 (nums w) = some l from hl); exact .inl ⟨_, e⟩
              case flash =>
                refine ⟨?_, fun l hl => ?_⟩
                · cases hn : nums w with
                  | none => show zAw 5 (nums w) = none; rw [hn]; rfl
                  | some m => show zAw 5 (nums w) = nbL k m; unfold nbL; rw [hd, hn]
                · obtain ⟨x, y, _, e⟩ := Kc (show zAw 5 (nums w) = some l from hl); exact .inl ⟨_, e⟩
              case line =>
                refine ⟨?_, fun l hl => ?_⟩
                · cases hn : nums w with
                  | none => show zAw 6 (nums w) = none; rw [hn]; rfl
                  | some m => show zAw 6 (nums w) = nbL k m; unfold nbL; rw [hd, hn]
                · obtain ⟨x, y, _, e⟩ := Kc (show zAw 6 (nums w) = some l from hl); exact .inl ⟨_, e⟩
              case area =>
                refine ⟨?_, fun l hl => ?_⟩
                · cases hn : nums w with
                  | none => show zB1 (nums w) = none; rw [hn]; rfl
                  | some m => show zB1 (nums w) = nbL k m; unfold nbL; rw [hd, hn]
                · obtain ⟨m, _, _, e⟩ := zA9 (show zB1 (nums w) = some l from hl); exact .inl ⟨_, e⟩
              case rept =>
                refine ⟨?_, fun l hl => ?_⟩
                · cases hn : nums w with
                  | none => show zC5 (nums w) = none; rw [hn]; rfl
                  | some m => show zC5 (nums w) = nbL k m; unfold nbL; rw [hd, hn]
                · obtain ⟨a, b, c, d, _, e⟩ := zA8 (show zC5 (nums w) = some l from hl); exact .inr ⟨_, e⟩
          rw [hacc _ e.2, e.1]
          exact y2
theorem numOk_row {s : ByteArray} (h : WC s = true) : rowOk s = true := by
  unfold WC zJp at h
  simp only [Bool.and_eq_true, decide_eq_true_eq] at h
  obtain ⟨⟨⟨h1, _⟩, h3⟩, _⟩ := h
  have hd : ∀ b ∈ dgs (bs s), zJi b = true := fun b hb => by
    have := List.all_eq_true.1 h3 b hb
    unfold zCO at this
    unfold zJi
    simp only [Bool.and_eq_true, decide_eq_true_eq] at this ⊢
    omega
  unfold rowOk
  rw [Bool.and_eq_true, List.all_eq_true]
  rcases zF0 (bs s) with ⟨_, e⟩ | ⟨_, e⟩
  · rw [e]
    refine ⟨rfl, fun b hb => ?_⟩
    rcases List.mem_cons.1 hb with rfl | hb
    · decide
    · exact hd b hb
  · rw [e]
    refine ⟨?_, hd⟩
    cases hl : dgs (bs s) with
    | nil => rw [hl] at h1; simp at h1
    | cons a l => rfl
theorem nums_row {l : List ByteArray} {m : List Int} (h : nums l = some m) : l.all rowOk = true := by
  unfold nums at h
  split at h
  · rename_i ha
    rw [List.all_eq_true] at ha ⊢
    exact fun x hx => numOk_row (ha x hx)
  · cases h
theorem wb_row (d : Wd) : rowOk (wb d) = true := by cases d <;> decide
def lnD (nm : ByteArray) (m : List Int) : Wd → Option Ln
  | .unit => zA7 (some m)
  | .tool => zBT nm (some m)
  | .dark => if m = [] then some (.step (st0 1)) else none
  | .clear => if m = [] then some (.step (st0 2)) else none
  | .done => if m = [] then some .done else none
  | .use => if m = [] then some (.step ⟨3, nm, ⟨0, 0⟩, [], 0, 0, []⟩) else none
  | .move => zAw 4 (some m)
  | .flash => zAw 5 (some m)
  | .line => zAw 6 (some m)
  | .area => zB1 (some m)
  | .rept => zC5 (some m)
def okW (m : List Int) : Wd → Bool
  | .unit => (m.length : Int) == 1
  | .tool => decide (0 < (m.length : Int)) && (Int.tmod (m.length : Int) 4 == 0)
  | .dark | .clear | .done | .use => (m.length : Int) == 0
  | .move | .flash | .line => (m.length : Int) == 2
  | .area => Int.tmod (m.length : Int) 2 == 0
  | .rept => (m.length : Int) == 4
abbrev TkR := ByteArray × ByteArray × List Int × Bool
def tkW (k nm : ByteArray) (m : List Int) : TkR := (k, nm, m, match VC k with | some d => okW m d | none => false)
theorem J6_ok {N : Nat} (hN : 1000010 ≤ N) {k nm : ByteArray} {r r' : List ByteArray} (hl : r'.length ≤ 300000) : JH N (k :: r) r' nm = some (match nums r' with | some m => tkW k nm m | none => (e0, e0, [], false)) := by
  unfold JH
  rw [NumbersR_ok (by omega) (by omega) (by omega), Option.bind_some]
  cases hn : nums r' with
  | none => rw [zEs hn, if_pos (by simp)]; rfl
  | some m =>
    have e1 : sEq k ⟨#[117, 110, 105, 116]⟩ = decide (VC k = some .unit) := VH k .unit
    have e2 : sEq k ⟨#[116, 111, 111, 108]⟩ = decide (VC k = some .tool) := VH k .tool
    have e3 : sEq k ⟨#[100, 97, 114, 107]⟩ = decide (VC k = some .dark) := VH k .dark
    have e4 : sEq k ⟨#[99, 108, 101, 97, 114]⟩ = decide (VC k = some .clear) := VH k .clear
    have e5 : sEq k ⟨#[100, 111, 110, 101]⟩ = decide (VC k = some .done) := VH k .done
    have e6 : sEq k ⟨#[117, 115, 101]⟩ = decide (VC k = some .use) := VH k .use
    have e7 : sEq k ⟨#[109, 111, 118, 101]⟩ = decide (VC k = some .move) := VH k .move
    have e8 : sEq k ⟨#[102, 108, 97, 115, 104]⟩ = decide (VC k = some .flash) := VH k .flash
    have e9 : sEq k ⟨#[108, 105, 110, 101]⟩ = decide (VC k = some .line) := VH k .line
    have e10 : sEq k ⟨#[97, 114, 101, 97]⟩ = decide (VC k = some .area) := VH k .area
    have e11 : sEq k ⟨#[114, 101, 112, 101, 97, 116]⟩ = decide (VC k = some .rept) := VH k .rept
    rw [zEr hn, if_neg (by simp), zIl, Option.bind_some, e1, e2, e3, e4, e5, e6]
    have j3 : ∀ b, QO (k :: r) nm (m, true) b = some (k, nm, m, b) := fun b => rfl
    unfold Qm JI tkW
    simp only [e7, e8, e9, e10, e11, j3]
    cases VC k with
    | none => simp
    | some d => cases d <;> simp [okW]
def TkAs (y : TkR) : Option Ln → Prop
  | some l => ∃ d nm m, y = (wb d, nm, m, true) ∧ lnD nm m d = some l ∧ (d ≠ .tool → d ≠ .use → nm = e0) ∧ m.length ≤ 300000
  | none => y.2.2.2 = false
theorem tkW_as {k nm : ByteArray} (m : List Int) (hm3 : m.length ≤ 300000) (hnm : VC k ≠ some .tool → VC k ≠ some .use → nm = e0) : TkAs (tkW k nm m) ((VC k).bind (lnD nm m)) := by
  unfold tkW
  cases hd : VC k with
  | none => rfl
  | some d =>
    have hk := zEG hd
    rw [hd] at hnm
    have key : ∀ b l, lnD nm m d = some l → b = true → TkAs (k, nm, m, b) (lnD nm m d) := fun b l hl hb => by
      rw [hl]
      exact ⟨d, nm, m, by rw [hk, hb], hl, fun h1 h2 => hnm (fun e => h1 (Option.some.inj e)) (fun e => h2 (Option.some.inj e)), hm3⟩
    have keyN : ∀ b, lnD nm m d = none → b = false → TkAs (k, nm, m, b) (lnD nm m d) := fun b hl hb => by
      rw [hl]; exact hb
    have z0 : (((m.length : Nat) : Int) == 0) = decide (m = []) := by
      rw [Bool.eq_iff_iff, beq_iff_eq, decide_eq_true_eq]
      exact ⟨fun h => List.eq_nil_of_length_eq_zero (by omega), fun h => by rw [h]; rfl⟩
    show TkAs (k, nm, m, okW m d) (lnD nm m d)
    have hpt : ∀ (j : Int), lnD nm m d = zAw j (some m) → okW m d = (((m.length : Nat) : Int) == 2) → TkAs (k, nm, m, okW m d) (lnD nm m d) := fun j h1 h2 => by
      by_cases h : m.length = 2
      · obtain ⟨a, b, rfl⟩ := l2 h
        exact key _ _ h1 (by rw [h2]; rfl)
      · refine keyN _ ?_ (by rw [h2, Bool.eq_false_iff]; intro e; rw [beq_iff_eq] at e; omega)
        rw [h1]
        cases hn : zAw j (some m) with
        | none => rfl
        | some l => obtain ⟨x, y, e, _⟩ := Kc hn; have := Option.some.inj e; subst this; exact absurd rfl h
    have hem : ∀ (l : Ln), lnD nm m d = (if m = [] then some l else none) → okW m d = (((m.length : Nat) : Int) == 0) → TkAs (k, nm, m, okW m d) (lnD nm m d) := fun l h1 h2 => by
      by_cases h : m = []
      · exact key _ l (by rw [h1, if_pos h]) (by rw [h2, z0, decide_eq_true h])
      · exact keyN _ (by rw [h1, if_neg h]) (by rw [h2, z0, decide_eq_false h])
    cases d
    case move => exact hpt 4 rfl rfl
    case flash => exact hpt 5 rfl rfl
    case line => exact hpt 6 rfl rfl
    case dark => exact hem _ rfl rfl
    case clear => exact hem _ rfl rfl
    case done => exact hem _ rfl rfl
    case use => exact hem _ rfl rfl
    case unit =>
      by_cases h : m.length = 1
      · obtain ⟨a, rfl⟩ : ∃ a, m = [a] := by
          match m, h with
          | [a], _ => exact ⟨a, rfl⟩
        exact key _ _ rfl rfl
      · refine keyN _ ?_ (by show (((m.length : Nat) : Int) == 1) = false; rw [Bool.eq_false_iff]; intro e; rw [beq_iff_eq] at e; omega)
        show zA7 (some m) = none
        unfold zA7
        split
        · rename_i e; have := Option.some.inj e; subst this; exact absurd rfl h
        · rfl
    case tool =>
      have e4 : (Int.tmod (m.length : Int) 4 == 0) = decide (m.length % 4 = 0) := by
        rw [Bool.eq_iff_iff, beq_iff_eq, decide_eq_true_eq]
        have : Int.tmod (m.length : Int) 4 = ((m.length % 4 : Nat) : Int) := rfl
        omega
      by_cases h : m.length ≠ 0 ∧ m.length % 4 = 0
      · exact key _ _ (if_pos h) (by show (decide (0 < (m.length : Int)) && (Int.tmod (m.length : Int) 4 == 0)) = true; rw [e4]; simp only [Bool.and_eq_true, decide_eq_true_eq]; omega)
      · exact keyN _ (if_neg h) (by
          show (decide (0 < (m.length : Int)) && (Int.tmod (m.length : Int) 4 == 0)) = false
          rw [e4, Bool.eq_false_iff]
          simp only [ne_eq, Bool.and_eq_true, decide_eq_true_eq]
          intro hh; exact h ⟨by omega, hh.2⟩)
    case area =>
      have e2 : (Int.tmod (m.length : Int) 2 == 0) = decide (m.length % 2 = 0) := by
        rw [Bool.eq_iff_iff, beq_iff_eq, decide_eq_true_eq]
        have : Int.tmod (m.length : Int) 2 = ((m.length % 2 : Nat) : Int) := rfl
        omega
      by_cases h : m.length % 2 = 0
      · exact key _ _ (if_pos h) (by show (Int.tmod (m.length : Int) 2 == 0) = true; rw [e2, decide_eq_true h])
      · exact keyN _ (if_neg h) (by show (Int.tmod (m.length : Int) 2 == 0) = false; rw [e2, decide_eq_false h])
    case rept =>
      by_cases h : m.length = 4
      · obtain ⟨a, b, c, d, rfl⟩ := l4 h
        exact key _ _ rfl rfl
      · refine keyN _ ?_ (by show (((m.length : Nat) : Int) == 4) = false; rw [Bool.eq_false_iff]; intro e; rw [beq_iff_eq] at e; omega)
        show zC5 (some m) = none
        cases hn : zC5 (some m) with
        | none => rfl
        | some l => obtain ⟨a, b, c, d, e, _⟩ := zA8 hn; have := Option.some.inj e; subst this; exact absurd rfl h
theorem zEq {r : List ByteArray} {m : List Int} (h : nums r = some m) : m = [] ↔ r = [] := by
  have := zEL h
  constructor
  · intro e; rw [e] at this; exact List.eq_nil_of_length_eq_zero this.symm
  · intro e; rw [e] at this; exact List.eq_nil_of_length_eq_zero this
theorem nums_none_ne {r : List ByteArray} (h : nums r = none) : r ≠ [] := fun e => by rw [e] at h; cases h
theorem lnW_D {r : List ByteArray} {d : Wd} (h1 : d ≠ .tool) (h2 : d ≠ .use) : lnW r d = (nums r).bind fun m => lnD e0 m d := by
  have hem : ∀ l : Ln, (if r = [] then some l else none) = (nums r).bind fun m => if m = [] then some l else none := fun l => by
    cases hn : nums r with
    | none => rw [if_neg (nums_none_ne hn)]; rfl
    | some m =>
      rw [Option.bind_some]
      by_cases h : r = []
      · rw [if_pos h, if_pos ((zEq hn).2 h)]
      · rw [if_neg h, if_neg (fun e => h ((zEq hn).1 e))]
  cases d
  case tool => exact absurd rfl h1
  case use => exact absurd rfl h2
  case dark => exact hem _
  case clear => exact hem _
  case done => exact hem _
  all_goals
    unfold lnW lnD
    cases nums r <;> rfl
theorem lnOf_row {w : List ByteArray} {l : Ln} (h : zB0 w = some l) : w.all rowOk = true := by
  cases w with
  | nil => cases h
  | cons k r =>
    rw [VL] at h
    cases hd : VC k with
    | none => rw [hd] at h; cases h
    | some d =>
      rw [hd, Option.bind_some] at h
      have hk : rowOk k = true := by rw [zEG hd]; exact wb_row d
      rw [List.all_cons, hk, Bool.true_and]
      by_cases h1 : d = .tool
      · subst h1
        cases r with
        | nil => cases h
        | cons nm r2 =>
          have h : (if rowOk nm = true then zBT nm (nums r2) else none) = some l := h
          by_cases hr : rowOk nm = true
          · rw [if_pos hr] at h
            obtain ⟨m, hm, _⟩ := zBk h
            rw [List.all_cons, hr, nums_row hm]; rfl
          · rw [if_neg hr] at h; cases h
      by_cases h2 : d = .use
      · subst h2
        match r, h with
        | [nm], h =>
          have h : (if rowOk nm = true then _ else none) = some l := h
          by_cases hr : rowOk nm = true
          · rw [List.all_cons, hr]; rfl
          · rw [if_neg hr] at h; cases h
      rw [lnW_D h1 h2] at h
      cases hn : nums r with
      | none => rw [hn] at h; cases h
      | some m => exact nums_row hn
theorem take_ok {N : Nat} (hN : 1000010 ≤ N) {q : zh} {s : ByteArray} {e : Bool} (h1 : idx q.lines q.at_ = some s) (h2 : idx q.ends q.at_ = some e) (hs : s.size ≤ 200000) : ∃ y, JB N q = some y ∧ TkAs y (if e = true then zB0 (words s) else none) := by
  have hwl := zFv s
  unfold JB
  rw [h1, Option.bind_some, Words_ok hs (by omega), Option.bind_some]
  by_cases hr : (words s).all rowOk = true
  · rw [if_pos hr]
    show ∃ y, ((if (!true) = true then some true else (idx q.ends q.at_).bind fun VK => some (!VK)).bind _) = some y ∧ _
    rw [if_neg (by simp), h2, Option.bind_some, Option.bind_some]
    cases e
    · exact ⟨_, rfl, rfl⟩
    · rw [if_neg (by simp), if_pos rfl]
      generalize words s = wl at *
      cases wl with
      | nil => simp at hwl
      | cons k r =>
        simp at hwl
        have hc : cut (k :: r) 1 ((k :: r).length : Int) = some r := cutTo (w := k :: r) (n := 1) (by simp)
        have e2 : sEq k ⟨#[116, 111, 111, 108]⟩ = decide (VC k = some .tool) := VH k .tool
        have e6 : sEq k ⟨#[117, 115, 101]⟩ = decide (VC k = some .use) := VH k .use
        simp only [hc, zIl, Option.bind_some, e2, e6]
        have hg : ((if decide (VC k = some .tool) = true then some true else some (decide (VC k = some .use))) : Option Bool) = some (decide (VC k = some .tool ∨ VC k = some .use)) := by
          by_cases a : VC k = some .tool
          · rw [if_pos (decide_eq_true a), decide_eq_true (Or.inl a)]
          · rw [if_neg (by simpa using a)]
            by_cases b : VC k = some .use
            · rw [decide_eq_true b, decide_eq_true (Or.inr b)]
            · rw [decide_eq_false b, decide_eq_false (by rw [not_or]; exact ⟨a, b⟩)]
        rw [hg, Option.bind_some]
        by_cases ht : VC k = some .tool ∨ VC k = some .use
        · rw [decide_eq_true ht, if_pos rfl]
          cases r with
          | nil =>
            rw [if_pos (by rfl)]
            refine ⟨_, rfl, ?_⟩
            have : zB0 [k] = none := by
              rw [VL]
              rcases ht with ht | ht <;> rw [ht] <;> rfl
            rw [this]; rfl
          | cons nm r2 =>
            simp at hwl
            have hc2 : cut (nm :: r2) 1 ((nm :: r2).length : Int) = some r2 := cutTo (w := nm :: r2) (n := 1) (by simp)
            have hnm : rowOk nm = true := by
              rw [List.all_cons, List.all_cons] at hr
              simp only [Bool.and_eq_true] at hr
              exact hr.2.1
            rw [if_neg (by simp; omega), zIl, Option.bind_some, hc2, Option.bind_some, J6_ok hN (by omega)]
            refine ⟨_, rfl, ?_⟩
            have e : zB0 (k :: nm :: r2) = (nums r2).bind fun m => (VC k).bind (lnD nm m) := by
              rw [VL]
              rcases ht with ht | ht
              · rw [ht, Option.bind_some]
                show (if rowOk nm = true then zBT nm (nums r2) else none) = _
                rw [if_pos hnm]
                cases nums r2 <;> rfl
              · rw [ht, Option.bind_some]
                cases r2 with
                | nil =>
                  show (if rowOk nm = true then _ else none) = _
                  rw [if_pos hnm]; rfl
                | cons x t =>
                  cases hn : nums (x :: t) with
                  | none => rfl
                  | some m =>
                    have hm : m ≠ [] := fun e => by have := (zEq hn).1 e; cases this
                    show none = (if m = [] then _ else none)
                    rw [if_neg hm]
            rw [e]
            cases hn : nums r2 with
            | none => rfl
            | some m => exact tkW_as m (by rw [zEL hn]; omega) (fun a b => (ht.elim a b).elim)
        · rw [decide_eq_false ht, if_neg (by simp), J6_ok hN (by omega)]
          refine ⟨_, rfl, ?_⟩
          rw [not_or] at ht
          have e : zB0 (k :: r) = (nums r).bind fun m => (VC k).bind (lnD e0 m) := by
            rw [VL]
            cases hd : VC k with
            | none => cases nums r <;> rfl
            | some d =>
              rw [Option.bind_some, lnW_D (fun a => ht.1 (by rw [hd, a])) (fun a => ht.2 (by rw [hd, a]))]
              rfl
          rw [e]
          cases hn : nums r with
          | none => rfl
          | some m => exact tkW_as m (by rw [zEL hn]; omega) (fun _ _ => rfl)
  · rw [if_neg hr]
    show ∃ y, ((if (!false) = true then some true else _).bind _) = some y ∧ _
    rw [if_pos (show (!false) = true from rfl), Option.bind_some, if_pos rfl]
    refine ⟨_, rfl, ?_⟩
    have : (if e = true then zB0 (words s) else none) = none := by
      cases e
      · rfl
      · rw [if_pos rfl]
        cases hl : zB0 (words s) with
        | none => rfl
        | some l => exact absurd (lnOf_row hl) hr
    rw [this]; rfl
def Jp : Nat → Bool → List (Option Ln) → List zD → List zD × List (Option Ln) × Bool
  | 0, _, ls, out => (out, ls, true)
  | _ + 1, inner, [], out => (out, [], inner)
  | n + 1, inner, some (.step s) :: ls, out => Jp n inner ls (out ++ [s])
  | n + 1, inner, some (.rep s) :: ls, out => if (Jp n true ls []).2.2 = true then (out, (Jp n true ls []).2.1, true) else Jp n inner (Jp n true ls []).2.1 (out ++ [⟨s.Kind, s.Name, s.At, s.Points, s.NX, s.NY, (Jp n true ls []).1⟩])
  | _ + 1, inner, some .done :: ls, out => if inner = true then (out, ls, false) else (out, some .done :: ls, true)
  | _ + 1, _, x :: ls, out => (out, x :: ls, true)
theorem zCm : ∀ (n : Nat) (inner : Bool) (ls : List (Option Ln)) (out : List zD), (Jp n inner ls out).2.1 <:+ ls
  | 0, _, ls, _ => by rw [Jp]; exact List.suffix_refl _
  | n + 1, inner, [], out => by rw [Jp]; exact List.suffix_refl _
  | n + 1, inner, some (.step s) :: ls, out => by rw [Jp]; exact (zCm n inner ls _).trans (List.suffix_cons _ _)
  | n + 1, inner, some (.rep s) :: ls, out => by
    rw [Jp]
    have h1 := zCm n true ls []
    split
    · exact h1.trans (List.suffix_cons _ _)
    · exact ((zCm n inner _ _).trans h1).trans (List.suffix_cons _ _)
  | n + 1, inner, some .done :: ls, out => by
    rw [Jp]
    split
    · exact List.suffix_cons _ _
    · exact List.suffix_refl _
  | n + 1, inner, some (.unit _) :: ls, out => by rw [Jp] <;> first | exact List.suffix_refl _ | (intros; simp_all)
  | n + 1, inner, some (.tool _) :: ls, out => by rw [Jp] <;> first | exact List.suffix_refl _ | (intros; simp_all)
  | n + 1, inner, none :: ls, out => by rw [Jp] <;> first | exact List.suffix_refl _ | (intros; simp_all)
theorem zFe (n : Nat) (inner : Bool) (ls : List (Option Ln)) (out : List zD) : (Jp n inner ls out).2.1.length ≤ ls.length := (zCm n inner ls out).length_le
theorem zCn : ∀ (n n' : Nat) (inner : Bool) (ls : List (Option Ln)) (out : List zD), ls.length < n → ls.length < n' → Jp n inner ls out = Jp n' inner ls out
  | 0, _, _, ls, _, h, _ => by omega
  | _, 0, _, ls, _, _, h => by omega
  | n + 1, n' + 1, inner, [], out, _, _ => by rw [Jp, Jp]
  | n + 1, n' + 1, inner, some (.step s) :: ls, out, h, h' => by
    simp at h h'
    rw [Jp, Jp]; exact zCn n n' inner ls _ h h'
  | n + 1, n' + 1, inner, some (.rep s) :: ls, out, h, h' => by
    simp at h h'
    have e := zCn n n' true ls [] h h'
    have hl := zFe n' true ls []
    rw [Jp, Jp, e]
    split
    · rfl
    · exact zCn n n' inner _ _ (by omega) (by omega)
  | n + 1, n' + 1, inner, some .done :: ls, out, _, _ => by rw [Jp, Jp]
  | n + 1, n' + 1, inner, some (.unit _) :: ls, out, _, _ => rfl
  | n + 1, n' + 1, inner, some (.tool _) :: ls, out, _, _ => rfl
  | n + 1, n' + 1, inner, none :: ls, out, _, _ => rfl
abbrev Zl := ByteArray × Bool
def lnZ (z : Zl) : Option Ln := if z.2 = true then zB0 (words z.1) else none
theorem kindOf_wb (d : Wd) : KQ (wb d) = some (match d with | .unit => 0 | .tool => 0 | .done => 0 | .dark => 1 | .clear => 2 | .use => 3 | .move => 4 | .flash => 5 | .line => 6 | .area => 7 | .rept => 8) := by
  unfold KQ
  have e3 : sEq (wb d) ⟨#[100, 97, 114, 107]⟩ = decide (d = .dark) := by rw [show sEq (wb d) ⟨#[100, 97, 114, 107]⟩ = _ from VH _ .dark, zBD]; simp
  have e4 : sEq (wb d) ⟨#[99, 108, 101, 97, 114]⟩ = decide (d = .clear) := by rw [show sEq (wb d) ⟨#[99, 108, 101, 97, 114]⟩ = _ from VH _ .clear, zBD]; simp
  have e6 : sEq (wb d) ⟨#[117, 115, 101]⟩ = decide (d = .use) := by rw [show sEq (wb d) ⟨#[117, 115, 101]⟩ = _ from VH _ .use, zBD]; simp
  have e7 : sEq (wb d) ⟨#[109, 111, 118, 101]⟩ = decide (d = .move) := by rw [show sEq (wb d) ⟨#[109, 111, 118, 101]⟩ = _ from VH _ .move, zBD]; simp
  have e8 : sEq (wb d) ⟨#[102, 108, 97, 115, 104]⟩ = decide (d = .flash) := by rw [show sEq (wb d) ⟨#[102, 108, 97, 115, 104]⟩ = _ from VH _ .flash, zBD]; simp
  have e9 : sEq (wb d) ⟨#[108, 105, 110, 101]⟩ = decide (d = .line) := by rw [show sEq (wb d) ⟨#[108, 105, 110, 101]⟩ = _ from VH _ .line, zBD]; simp
  have e10 : sEq (wb d) ⟨#[97, 114, 101, 97]⟩ = decide (d = .area) := by rw [show sEq (wb d) ⟨#[97, 114, 101, 97]⟩ = _ from VH _ .area, zBD]; simp
  have e11 : sEq (wb d) ⟨#[114, 101, 112, 101, 97, 116]⟩ = decide (d = .rept) := by rw [show sEq (wb d) ⟨#[114, 101, 112, 101, 97, 116]⟩ = _ from VH _ .rept, zBD]; simp
  rw [e3, e4, e6, e7, e8, e9, e10, e11]
  cases d <;> rfl
theorem kindOf_some (k : ByteArray) : ∃ j, KQ k = some j := by
  unfold KQ
  repeat' split
  all_goals exact ⟨_, rfl⟩
theorem rpts_loop {x : Int} {bd : Bool} {l : List zD} {K : Int → Bool → List zD → Option (List zD × Int × Bool)} {y : TkR} {kd : Int} (hl : y.2.2.1.length ≤ 1000000) : ∀ (n : Nat) (suf pre : List Int) (a : List zf) (m : Nat), suf.length ≤ n → y.2.2.1 = pre ++ suf → suf.length % 2 = 0 → suf.length < m → a.length ≤ pre.length →
    Qe x bd l K y kd m a (pre.length : Int) = QQ l K y kd (w64 (x + 1)) bd 0 0 (a ++ pts suf) 0 0 []
  | n, suf, pre, a, m, hn, he, h2, hm, ha => by
    obtain ⟨m, rfl⟩ : ∃ k, m = k + 1 := ⟨m - 1, by omega⟩
    by_cases hs : suf = []
    · subst hs
      rw [Qe, if_neg (by rw [he]; simp)]
      simp [pts]
    · obtain ⟨u, v, t, rfl, ht⟩ := even_two hs h2
      have hlen : y.2.2.1.length = pre.length + (t.length + 2) := by rw [he]; simp
      simp at hn hm
      have i1 : idx y.2.2.1 (pre.length : Int) = some u := by rw [he]; exact Vb _ _ _
      have i2 : idx y.2.2.1 (w64 ((pre.length : Int) + 1)) = some v := by
        rw [Ka (by omega) (by omega), he]
        exact zDs 1 rfl
      rw [Qe, if_pos (by simp; omega), i1, Option.bind_some, i2, Option.bind_some, zCD (by simp; omega), Option.bind_some, Ka (by omega) (by omega)]
      cases n with
      | zero => omega
      | succ n =>
        have ih := rpts_loop (x := x) (bd := bd) (l := l) (K := K) (kd := kd) hl n t (pre ++ [u, v]) (a ++ [⟨u, v⟩]) m (by omega) (by rw [he]; simp) ht (by omega) (by simp; omega)
        rw [show ((pre ++ [u, v]).length : Int) = (pre.length : Int) + 2 by simp] at ih
        rw [ih]
        simp [pts]
section
variable {Z : List Zl} (hz : ∀ z ∈ Z, z.1.size ≤ 200000) (hZ : Z.length ≤ 300000)
def zCJ (Z : List Zl) (at' : Int) : zh := ⟨Z.map (·.1), Z.map (·.2), at', false⟩
theorem zFu {l : List zD} {K : Int → Bool → List zD → Option (List zD × Int × Bool)} {y : TkR} {kd x : Int} {bd : Bool} {a b c d : Int} {ps : List zf} {ss : List zD} (hl : l.length ≤ 300000) : QQ l K y kd x bd a b ps c d ss = K x bd (l ++ [⟨kd, y.2.1, ⟨a, b⟩, ps, c, d, ss⟩]) := by
  unfold QQ
  rw [zCD (by simp; omega), Option.bind_some]
include hz
theorem at_Z {pre suf : List Zl} {z : Zl} (he : Z = pre ++ z :: suf) : idx (Z.map (·.1)) (pre.length : Int) = some z.1 ∧ idx (Z.map (·.2)) (pre.length : Int) = some z.2 ∧ z.1.size ≤ 200000 := by
  refine ⟨?_, ?_, hz z (by rw [he]; simp)⟩
  · rw [he, List.map_append, List.map_cons, show (pre.length : Int) = ((pre.map (·.1)).length : Int) by simp]
    exact Vb _ _ _
  · rw [he, List.map_append, List.map_cons, show (pre.length : Int) = ((pre.map (·.2)).length : Int) by simp]
    exact Vb _ _ _
include hZ
def stR (Z : List Zl) (r : List zD × List (Option Ln) × Bool) : List zD × Int × Bool := (r.1, ((Z.length - r.2.1.length : Nat) : Int), r.2.2)
theorem zGX {N : Nat} (hN : 1000010 ≤ N) {inner : Bool} {at0 : Int} {rec : zh → Bool → Option (List zD × Int × Bool)} {B : Nat}
    (hrec : ∀ suf pre : List Zl, Z = pre ++ suf → suf.length < B → rec (zCJ Z (pre.length : Int)) true = some (stR Z (Jp (suf.length + 1) true (suf.map lnZ) []))) :
    ∀ (n : Nat) (suf pre : List Zl) (out : List zD) (m : Nat), suf.length < n → suf.length ≤ B → Z = pre ++ suf → suf.length < m → out.length ≤ pre.length →
      zZ N (zCJ Z at0) inner rec m (pre.length : Int) false out = some (stR Z (Jp n inner (suf.map lnZ) out))
  | 0, suf, pre, out, m, hn, hB, he, hm, ho => by omega
  | n + 1, [], pre, out, m, hn, hB, he, hm, ho => by
    obtain ⟨m, rfl⟩ : ∃ k, m = k + 1 := ⟨m - 1, by omega⟩
    rw [zZ, if_neg (by rw [he]; simp [zCJ])]
    have : Z.length = pre.length := by rw [he]; simp
    rw [List.map_nil, Jp]
    simp [stR, this]
  | n + 1, z :: suf, pre, out, m, hn, hB, he, hm, ho => by
    obtain ⟨m, rfl⟩ : ∃ k, m = k + 1 := ⟨m - 1, by simp at hm; omega⟩
    obtain ⟨i1, i2, i3⟩ := at_Z hz he
    have hlen : Z.length = pre.length + (suf.length + 1) := by rw [he]; simp
    simp at hn hB hm
    have hlt : (pre.length : Int) < (((zCJ Z at0).lines.length : Nat) : Int) := by simp [zCJ]; omega
    obtain ⟨y, y1, y2⟩ := take_ok hN (q := ⟨(zCJ Z at0).lines, (zCJ Z at0).ends, (pre.length : Int), false⟩) (s := z.1) (e := z.2) i1 i2 i3
    have y2 : TkAs y (lnZ z) := y2
    rw [zZ, if_pos (decide_eq_true hlt), y1, Option.bind_some, List.map_cons]
    have hw : w64 ((pre.length : Int) + 1) = ((pre ++ [z]).length : Int) := by rw [Ka (by omega) (by omega)]; simp
    have hpos : ((Z.length - (suf.length + 1) : Nat) : Int) = (pre.length : Int) := by omega
    have he2 : Z = (pre ++ [z]) ++ suf := by rw [he]; simp
    cases hl : lnZ z with
    | none =>
      rw [hl] at y2
      have y2 : y.2.2.2 = false := y2
      obtain ⟨j, hj⟩ := kindOf_some y.1
      rw [y2, Bool.false_and, Bool.false_and, if_neg (by simp), hj, Option.bind_some, if_pos (by simp), Jp]
      · simp [stR]; omega
      all_goals (intros; simp_all)
    | some l =>
      rw [hl] at y2
      obtain ⟨d, nm, mm, hy, hd, hnm, hm3⟩ := y2
      subst hy
      have e5 : sEq (wb d) ⟨#[100, 111, 110, 101]⟩ = decide (d = .done) := by rw [show sEq (wb d) ⟨#[100, 111, 110, 101]⟩ = _ from VH _ .done, zBD]; simp
      have next : ∀ s : zD, zZ N (zCJ Z at0) inner rec m (w64 ((pre.length : Int) + 1)) false (out ++ [s]) = some (stR Z (Jp n inner (suf.map lnZ) (out ++ [s]))) := fun s => by
        rw [hw]
        exact zGX hN hrec n suf (pre ++ [z]) (out ++ [s]) m (by omega) (by omega) he2 (by omega) (by simp; omega)
      simp only [e5, Bool.true_and, Bool.not_true, Bool.false_or, kindOf_wb, Option.bind_some]
      cases d
      case unit =>
        have : l = .unit (mm.headD 0) ∨ True := .inr trivial
        have hu : ∃ k, l = .unit k := by
          have hd : zA7 (some mm) = some l := hd
          unfold zA7 at hd
          split at hd
          · exact ⟨_, (Option.some.inj hd).symm⟩
          · cases hd
        obtain ⟨k, rfl⟩ := hu
        rw [if_neg (by simp), if_pos (by simp), Jp]
        · simp [stR]; omega
        all_goals (intros; simp_all)
      case tool =>
        obtain ⟨_, _, _, rfl⟩ := zBk (show zBT nm (some mm) = some l from hd)
        rw [if_neg (by simp), if_pos (by simp), Jp]
        · simp [stR]; omega
        all_goals (intros; simp_all)
      case done =>
        have hd : (if mm = [] then some Ln.done else none) = some l := hd
        split at hd
        · obtain rfl := Option.some.inj hd
          rw [Jp]
          cases inner
          · rw [if_neg (by simp), if_pos (by simp), if_neg (by simp)]
            simp [stR]; omega
          · rw [if_pos (by simp), if_pos rfl, hw]
            have e : Z.length - (suf.map lnZ).length = (pre ++ [z]).length := by rw [hlen, List.length_map]; simp; omega
            show some (out, ((pre ++ [z]).length : Int), false) = some (out, ((Z.length - (suf.map lnZ).length : Nat) : Int), false)
            rw [e]
        · cases hd
      case dark =>
        have hd : (if mm = [] then some (Ln.step (st0 1)) else none) = some l := hd
        split at hd
        · obtain rfl := Option.some.inj hd
          have hn0 := hnm (by simp) (by simp)
          subst hn0
          rw [if_neg (by simp), if_neg (by simp), if_neg (by simp), if_neg (by simp)]
          unfold zy
          rw [if_neg (by simp), if_neg (by simp), if_neg (by simp), zFu (by omega), Jp]
          exact next (st0 1)
        · cases hd
      case clear =>
        have hd : (if mm = [] then some (Ln.step (st0 2)) else none) = some l := hd
        split at hd
        · obtain rfl := Option.some.inj hd
          have hn0 := hnm (by simp) (by simp)
          subst hn0
          rw [if_neg (by simp), if_neg (by simp), if_neg (by simp), if_neg (by simp)]
          unfold zy
          rw [if_neg (by simp), if_neg (by simp), if_neg (by simp), zFu (by omega), Jp]
          exact next (st0 2)
        · cases hd
      case use =>
        have hd : (if mm = [] then some (Ln.step ⟨3, nm, ⟨0, 0⟩, [], 0, 0, []⟩) else none) = some l := hd
        split at hd
        · obtain rfl := Option.some.inj hd
          rw [if_neg (by simp), if_neg (by simp), if_neg (by simp), if_neg (by simp)]
          unfold zy
          rw [if_neg (by simp), if_neg (by simp), if_neg (by simp), zFu (by omega), Jp]
          exact next ⟨3, nm, ⟨0, 0⟩, [], 0, 0, []⟩
        · cases hd
      case move =>
        obtain ⟨u, v, e, rfl⟩ := Kc (show zAw 4 (some mm) = some l from hd)
        obtain rfl := Option.some.inj e
        have hn0 := hnm (by simp) (by simp)
        subst hn0
        rw [if_neg (by simp), if_neg (by simp), if_pos (by simp)]
        unfold zy
        rw [if_pos (by simp)]
        show ((idx [u, v] 0).bind fun x335 => (idx [u, v] 1).bind fun x336 => _) = _
        rw [zIl, Option.bind_some, idx1, Option.bind_some, zFu (by omega), Jp]
        exact next ⟨4, e0, ⟨u, v⟩, [], 0, 0, []⟩
      case flash =>
        obtain ⟨u, v, e, rfl⟩ := Kc (show zAw 5 (some mm) = some l from hd)
        obtain rfl := Option.some.inj e
        have hn0 := hnm (by simp) (by simp)
        subst hn0
        rw [if_neg (by simp), if_neg (by simp), if_neg (by simp), if_pos (by simp)]
        unfold zy
        rw [if_pos (by simp)]
        show ((idx [u, v] 0).bind fun x335 => (idx [u, v] 1).bind fun x336 => _) = _
        rw [zIl, Option.bind_some, idx1, Option.bind_some, zFu (by omega), Jp]
        exact next ⟨5, e0, ⟨u, v⟩, [], 0, 0, []⟩
      case line =>
        obtain ⟨u, v, e, rfl⟩ := Kc (show zAw 6 (some mm) = some l from hd)
        obtain rfl := Option.some.inj e
        have hn0 := hnm (by simp) (by simp)
        subst hn0
        rw [if_neg (by simp), if_neg (by simp), if_neg (by simp), if_neg (by simp)]
        unfold zy
        rw [if_pos (by simp)]
        show ((idx [u, v] 0).bind fun x335 => (idx [u, v] 1).bind fun x336 => _) = _
        rw [zIl, Option.bind_some, idx1, Option.bind_some, zFu (by omega), Jp]
        exact next ⟨6, e0, ⟨u, v⟩, [], 0, 0, []⟩
      case area =>
        obtain ⟨m', e, h2, rfl⟩ := zA9 (show zB1 (some mm) = some l from hd)
        obtain rfl := Option.some.inj e
        have hn0 := hnm (by simp) (by simp)
        subst hn0
        rw [if_neg (by simp), if_neg (by simp), if_neg (by simp), if_neg (by simp)]
        unfold zy
        have hp := rpts_loop (x := (pre.length : Int)) (bd := false) (l := out) (K := zZ N (zCJ Z at0) inner rec m) (y := (wb .area, e0, mm, true)) (kd := 7) (show mm.length ≤ 1000000 by omega) mm.length mm [] [] N (Nat.le_refl _) rfl h2 (by omega) (Nat.le_refl _)
        simp only [List.nil_append, List.length_nil] at hp
        rw [show ((0 : Nat) : Int) = 0 from rfl] at hp
        rw [if_neg (by simp), if_pos (by simp), hp, zFu (by omega), Jp]
        exact next ⟨7, e0, ⟨0, 0⟩, pts mm, 0, 0, []⟩
      case rept =>
        obtain ⟨a, b, c, d, e, rfl⟩ := zA8 (show zC5 (some mm) = some l from hd)
        obtain rfl := Option.some.inj e
        have hn0 := hnm (by simp) (by simp)
        subst hn0
        rw [if_neg (by simp), if_neg (by simp), if_neg (by simp), if_neg (by simp)]
        unfold zy
        have hr := hrec suf (pre ++ [z]) he2 (by omega)
        rw [zCn (suf.length + 1) n true (suf.map lnZ) [] (by simp) (by simp; omega)] at hr
        rw [if_neg (by simp), if_neg (by simp), if_pos (by simp)]
        show ((idx [a, b, c, d] 0).bind fun x358 => (idx [a, b, c, d] 1).bind fun x359 => (idx [a, b, c, d] 2).bind fun zJT => (idx [a, b, c, d] 3).bind fun zJS => (rec (zCJ Z (w64 ((pre.length : Int) + 1))) true).bind fun zCk => _) = _
        rw [zIl, Option.bind_some, idx1, Option.bind_some, idx2, Option.bind_some, idx3, Option.bind_some, hw, hr, Option.bind_some, Jp]
        have hsuf := zCm n true (suf.map lnZ) []
        generalize Jp n true (suf.map lnZ) [] = R at *
        obtain ⟨o, rest, bad⟩ := R
        cases bad
        · rw [if_neg (show ¬ (stR Z (o, rest, false)).2.2 = true by simp [stR]), if_neg (by simp), zFu (by omega)]
          obtain ⟨t, ht⟩ := hsuf
          have hrest : rest = (suf.drop t.length).map lnZ := by
            rw [List.map_drop, ← ht]; simp
          have hsl : suf.length = t.length + rest.length := by
            have := congrArg List.length ht
            simpa using this.symm
          have he3 : Z = (pre ++ [z] ++ suf.take t.length) ++ suf.drop t.length := by
            rw [List.append_assoc, List.take_append_drop]; exact he2
          have hp3 : ((Z.length - rest.length : Nat) : Int) = ((pre ++ [z] ++ suf.take t.length).length : Int) := by
            rw [hlen]; simp; omega
          show zZ N (zCJ Z at0) inner rec m ((Z.length - rest.length : Nat) : Int) false (out ++ [⟨8, e0, ⟨c, d⟩, [], a, b, o⟩]) = _
          rw [hp3, hrest]
          exact zGX hN hrec n (suf.drop t.length) (pre ++ [z] ++ suf.take t.length) _ m (by simp; omega) (by simp; omega) he3 (by simp; omega) (by simp; omega)
        · rw [if_pos (show (stR Z (o, rest, true)).2.2 = true by simp [stR]), if_pos (by rfl)]
          rfl
theorem steps_ok : ∀ (n : Nat) (suf pre : List Zl) (inner : Bool) (M : Nat), suf.length < n → Z = pre ++ suf → suf.length + 1000020 ≤ M → JW M (zCJ Z (pre.length : Int)) inner = some (stR Z (Jp n inner (suf.map lnZ) []))
  | 0, suf, pre, inner, M, h, _, _ => by omega
  | n + 1, suf, pre, inner, M, h, he, hM => by
    obtain ⟨M, rfl⟩ : ∃ k, M = k + 1 := ⟨M - 1, by omega⟩
    show KD M (JW M) (zCJ Z (pre.length : Int)) inner = _
    unfold KD
    exact zGX (N := M) hz hZ (by omega) (at0 := (pre.length : Int)) (B := suf.length) (fun suf' pre' he' hl' => by
      rw [steps_ok n suf' pre' true M (by omega) he' (by omega)]
      rw [zCn n (suf'.length + 1) true (suf'.map lnZ) [] (by simp; omega) (by simp)]) (n + 1) suf pre [] M h (Nat.le_refl _) he (by omega) (by simp)
end
def zOf : Nat → ByteArray → List Zl
  | 0, _ => []
  | n + 1, t => if (bs t).isEmpty = true then [] else ((Kh t).1, (Kh t).2.2) :: zOf n (Kh t).2.1
theorem lineCut_no {t : ByteArray} (h : (Kh t).2.2 = false) : (Kh t).2.1 = ⟨#[]⟩ := by
  unfold Kh at h ⊢
  simp only at h ⊢
  unfold Lib.cut at h ⊢
  split at h
  · cases h
  · rename_i hh
    rw [if_neg hh]
theorem zHP {t : ByteArray} (h : (bs t).isEmpty = false) : (Kh t).2.1.size < t.size := by
  have hs := zGc t
  cases hc : (Kh t).2.2 with
  | true => have := hs.2 hc; omega
  | false =>
    rw [lineCut_no hc]
    have : (bs t).length ≠ 0 := fun e => by rw [List.eq_nil_of_length_eq_zero e] at h; cases h
    have h0 : (⟨#[]⟩ : ByteArray).size = 0 := rfl
    have h1 := Kr t
    omega
theorem zOf_sz : ∀ (n : Nat) (t : ByteArray) (B : Nat), t.size ≤ B → ∀ z ∈ zOf n t, z.1.size ≤ B
  | 0, _, _, _, z, hz => by cases hz
  | n + 1, t, B, h, z, hz => by
    rw [zOf] at hz
    split at hz
    · cases hz
    · rename_i hne
      have hne : (bs t).isEmpty = false := by simpa using hne
      have h1 := (zGc t).1
      have h2 := zHP hne
      rcases List.mem_cons.1 hz with rfl | hz
      · simp only; omega
      · exact zOf_sz n _ B (by omega) z hz
theorem zOf_len : ∀ (n : Nat) (t : ByteArray), (zOf n t).length ≤ t.size
  | 0, _ => by simp [zOf]
  | n + 1, t => by
    rw [zOf]
    split
    · simp
    · rename_i hne
      have hne : (bs t).isEmpty = false := by simpa using hne
      have h2 := zHP hne
      have := zOf_len n (Kh t).2.1
      rw [List.length_cons]; omega
theorem open_loop : ∀ (n m : Nat) (t : ByteArray) (a : List ByteArray) (b : List Bool), t.size < n → n ≤ m → t.size ≤ 200000 → a.length + t.size ≤ 1000000 → b.length + t.size ≤ 1000000 →
    KI m a b t = some ⟨a ++ (zOf n t).map (·.1), b ++ (zOf n t).map (·.2), 0, false⟩
  | 0, _, _, _, _, h, _, _, _, _ => by omega
  | n + 1, m, t, a, b, h, hm, hs, ha, hb => by
    obtain ⟨m, rfl⟩ : ∃ k, m = k + 1 := ⟨m - 1, by omega⟩
    rw [KI, zIq, zOf]
    cases hne : (bs t).isEmpty
    · have h2 := zHP hne
      rw [if_pos (by rfl), cut_line hs, Option.bind_some, zCD (by simp; omega), Option.bind_some, zCD (by simp; omega), Option.bind_some, if_neg (by simp),
        open_loop n m (Kh t).2.1 _ _ (by omega) (by omega) (by omega) (by simp; omega) (by simp; omega)]
      simp
    · rw [if_neg (by simp), if_pos rfl]
      simp
def zBr : List (Option Ln) → List zt → List zt × List (Option Ln)
  | some (.tool t) :: ls, a => zBr ls (a ++ [t])
  | ls, a => (a, ls)
def zEo (n : Int) (T : List zt) (tot : Nat) (ls : List (Option Ln)) : Int ⊕ QN :=
  if (Jp (ls.length + 1) false ls []).2.2 = true then .inl (((tot - (Jp (ls.length + 1) false ls []).2.1.length : Nat) : Int) + 1) else .inr ⟨n, T, (Jp (ls.length + 1) false ls []).1⟩
def zFc : List (Option Ln) → Int ⊕ QN
  | some (.unit n) :: ls => zEo n (zBr ls []).1 (ls.length + 1) (zBr ls []).2
  | _ => .inl 1
def zP : QN := ⟨0, [], []⟩
def ansL (chk : QN → Option Int) : Int ⊕ QN → Option (QN × Int × Int)
  | .inl n => some (zP, n, 10)
  | .inr p => (chk p).bind fun e => if e != 0 then some (zP, 0, e) else some (p, 0, 0)
section
variable {Z : List Zl} (hz : ∀ z ∈ Z, z.1.size ≤ 200000) (hZ : Z.length ≤ 300000)
include hz hZ
theorem J5_ok {N : Nat} (hN : 2000000 ≤ N) {u : Int} {T : List zt} {pre suf : List Zl} (he : Z = pre ++ suf) : KL N (zCJ Z 0) u (pre.length : Int) T = ansL (JK N) (zEo u T Z.length (suf.map lnZ)) := by
  have hlen : Z.length = pre.length + suf.length := by rw [he]; simp
  unfold KL
  show ((JW N (zCJ Z (pre.length : Int)) false).bind _) = _
  rw [steps_ok hz hZ (suf.length + 1) suf pre false N (by omega) he (by omega), Option.bind_some]
  unfold zEo
  rw [List.length_map]
  have hrl := zFe (suf.length + 1) false (suf.map lnZ) []
  generalize Jp (suf.length + 1) false (suf.map lnZ) [] = R at *
  obtain ⟨o, rest, bad⟩ := R
  cases bad
  · rw [if_neg (show ¬ (stR Z (o, rest, false)).2.2 = true by simp [stR]), if_neg (by simp)]
    rfl
  · rw [if_pos (show (stR Z (o, rest, true)).2.2 = true by simp [stR]), if_pos rfl]
    show some ((⟨0, [], []⟩ : QN), w64 (((Z.length - rest.length : Nat) : Int) + 1), (10 : Int)) = some (zP, ((Z.length - rest.length : Nat) : Int) + 1, 10)
    rw [Ka (by omega) (by omega)]; rfl
omit hz hZ in
theorem zJk {N : Nat} {x : Int} {T : List zt} {K : Int → List zt → Option (QN × Int × Int)} {y : TkR} (hl : y.2.2.1.length ≤ 1000000) : ∀ (n : Nat) (suf pre : List Int) (a : List VS) (m : Nat), suf.length ≤ n → y.2.2.1 = pre ++ suf → suf.length % 4 = 0 → suf.length < m → a.length ≤ pre.length →
    Jn x T K y m a (pre.length : Int) = (apd T [⟨y.2.1, a ++ rcs suf⟩]).bind fun l329 => K (w64 (x + 1)) l329
  | n, suf, pre, a, m, hn, he, h2, hm, ha => by
    obtain ⟨m, rfl⟩ : ∃ k, m = k + 1 := ⟨m - 1, by omega⟩
    by_cases hs : suf = []
    · subst hs
      rw [Jn, if_neg (by rw [he]; simp)]
      simp [rcs]
    · obtain ⟨u, v, u', v', t, rfl, ht⟩ := four_four hs h2
      have hlen : y.2.2.1.length = pre.length + (t.length + 4) := by rw [he]; simp
      simp at hn hm
      have i1 : idx y.2.2.1 (pre.length : Int) = some u := by rw [he]; exact Vb _ _ _
      have i2 : idx y.2.2.1 (w64 ((pre.length : Int) + 1)) = some v := by
        rw [Ka (by omega) (by omega), he]
        exact zDs 1 rfl
      have i3 : idx y.2.2.1 (w64 ((pre.length : Int) + 2)) = some u' := by
        rw [Ka (by omega) (by omega), he]
        exact zDs 2 rfl
      have i4 : idx y.2.2.1 (w64 ((pre.length : Int) + 3)) = some v' := by
        rw [Ka (by omega) (by omega), he]
        exact zDs 3 rfl
      rw [Jn, if_pos (by simp; omega), i1, Option.bind_some, i2, Option.bind_some, i3, Option.bind_some, i4, Option.bind_some, zCD (by simp; omega), Option.bind_some, Ka (x := (pre.length : Int) + 4) (by omega) (by omega)]
      cases n with
      | zero => omega
      | succ n =>
        have ih := zJk (N := N) (x := x) (T := T) (K := K) hl n t (pre ++ [u, v, u', v']) (a ++ [⟨u, v, u', v'⟩]) m (by omega) (by rw [he]; simp) ht (by omega) (by simp; omega)
        rw [show ((pre ++ [u, v, u', v']).length : Int) = (pre.length : Int) + 4 by simp] at ih
        rw [ih]
        simp [rcs]
theorem L8_ok {N : Nat} (hN : 2000000 ≤ N) {u : Int} : ∀ (suf pre : List Zl) (T : List zt) (m : Nat), Z = pre ++ suf → suf.length < m → T.length ≤ pre.length →
    Qg N (zCJ Z 0) u m (pre.length : Int) T = ansL (JK N) (zEo u (zBr (suf.map lnZ) T).1 Z.length (zBr (suf.map lnZ) T).2)
  | [], pre, T, m, he, hm, hT => by
    obtain ⟨m, rfl⟩ : ∃ k, m = k + 1 := ⟨m - 1, by omega⟩
    rw [Qg, if_neg (by rw [he]; simp [zCJ]), J5_ok hz hZ hN he]
    rfl
  | z :: suf, pre, T, m, he, hm, hT => by
    obtain ⟨m, rfl⟩ : ∃ k, m = k + 1 := ⟨m - 1, by simp at hm; omega⟩
    obtain ⟨i1, i2, i3⟩ := at_Z hz he
    have hlen : Z.length = pre.length + (suf.length + 1) := by rw [he]; simp
    simp at hm
    have hlt : (pre.length : Int) < (((zCJ Z 0).lines.length : Nat) : Int) := by simp [zCJ]; omega
    obtain ⟨y, y1, y2⟩ := take_ok (N := N) (by omega) (q := ⟨(zCJ Z 0).lines, (zCJ Z 0).ends, (pre.length : Int), (zCJ Z 0).bad⟩) (s := z.1) (e := z.2) i1 i2 i3
    have y2 : TkAs y (lnZ z) := y2
    rw [Qg, if_pos (decide_eq_true hlt), y1, Option.bind_some, List.map_cons]
    have hJ := J5_ok hz hZ hN (u := u) (T := T) he
    rw [List.map_cons] at hJ
    have stop : (∀ t, lnZ z ≠ some (.tool t)) → (zBr (lnZ z :: suf.map lnZ) T) = (T, lnZ z :: suf.map lnZ) := fun h => by
      rw [zBr]
      intro t ls h'
      simp only [List.cons.injEq] at h'
      exact h t h'.1
    cases hl : lnZ z with
    | none =>
      rw [hl] at y2
      have y2 : y.2.2.2 = false := y2
      rw [if_pos (by rw [y2]; rfl), hJ, ← hl, stop (by rw [hl]; simp)]
    | some l =>
      rw [hl] at y2
      obtain ⟨d, nm, mm, hy, hd, hnm, hm3⟩ := y2
      subst hy
      have e2 : sEq (wb d) ⟨#[116, 111, 111, 108]⟩ = decide (d = .tool) := by rw [show sEq (wb d) ⟨#[116, 111, 111, 108]⟩ = _ from VH _ .tool, zBD]; simp
      by_cases ht : d = .tool
      · subst ht
        obtain ⟨m', e, hm4, rfl⟩ := zBk (show zBT nm (some mm) = some l from hd)
        obtain rfl := Option.some.inj e
        have hw : w64 ((pre.length : Int) + 1) = ((pre ++ [z]).length : Int) := by rw [Ka (by omega) (by omega)]; simp
        have hp := zJk (N := N) (x := (pre.length : Int)) (T := T) (K := Qg N (zCJ Z 0) u m) (y := (wb .tool, nm, mm, true)) (show mm.length ≤ 1000000 by omega) mm.length mm [] [] N (Nat.le_refl _) rfl hm4.2 (by omega) (Nat.le_refl _)
        simp only [List.nil_append, List.length_nil] at hp
        rw [show ((0 : Nat) : Int) = 0 from rfl] at hp
        rw [if_neg (by simp [e2]), hp, zCD (by simp; omega), Option.bind_some, hw, L8_ok hN suf (pre ++ [z]) _ m (by rw [he]; simp) (by omega) (by simp; omega)]
        rw [zBr]
      · have hnt : ∀ t, lnZ z ≠ some (.tool t) := fun t e => by
          rw [hl] at e
          have e := Option.some.inj e
          subst e
          cases d
          case tool => exact ht rfl
          case unit => exact absurd hd (by show zA7 (some mm) ≠ _; unfold zA7; split <;> simp)
          case dark => exact absurd hd (by show (if mm = [] then _ else none) ≠ _; split <;> simp)
          case clear => exact absurd hd (by show (if mm = [] then _ else none) ≠ _; split <;> simp)
          case done => exact absurd hd (by show (if mm = [] then _ else none) ≠ _; split <;> simp)
          case use => exact absurd hd (by show (if mm = [] then _ else none) ≠ _; split <;> simp)
          case move => obtain ⟨_, _, _, e⟩ := Kc (show zAw 4 (some mm) = _ from hd); cases e
          case flash => obtain ⟨_, _, _, e⟩ := Kc (show zAw 5 (some mm) = _ from hd); cases e
          case line => obtain ⟨_, _, _, e⟩ := Kc (show zAw 6 (some mm) = _ from hd); cases e
          case area => obtain ⟨_, _, _, e⟩ := zA9 (show zB1 (some mm) = _ from hd); cases e
          case rept => obtain ⟨_, _, _, _, _, e⟩ := zA8 (show zC5 (some mm) = _ from hd); cases e
        rw [if_pos (by simp [e2, ht]), hJ, ← hl, stop hnt]
end
def zB2 (t : ByteArray) : List (Option Ln) := (zOf (t.size + 1) t).map lnZ
theorem ReadR_ok {N : Nat} (hN : 2000000 ≤ N) (t : ByteArray) : Kk N t = if 200000 < t.size then some (zP, 0, 2) else ansL (JK N) (zFc (zB2 t)) := by
  unfold Kk
  by_cases ht : 200000 < t.size
  · rw [if_pos (decide_eq_true (by omega)), if_pos ht]; rfl
  · rw [if_neg (by rw [decide_eq_true_eq]; omega), if_neg ht]
    have hz := zOf_sz (t.size + 1) t 200000 (by omega)
    have hZ := zOf_len (t.size + 1) t
    have ho := open_loop (t.size + 1) N t [] [] (by omega) (by omega) (by omega) (by simp; omega) (by simp; omega)
    unfold zAF
    rw [ho, Option.bind_some]
    unfold zB2
    generalize hZe : zOf (t.size + 1) t = Z at *
    show (if (((zCJ Z 0).lines.length : Nat) : Int) == 0 then _ else (JB N (zCJ Z 0)).bind _) = _
    cases Z with
    | nil => rfl
    | cons z suf =>
      rw [if_neg (by simp [zCJ]; omega)]
      have he : z :: suf = [] ++ z :: suf := rfl
      obtain ⟨i1, i2, i3⟩ := at_Z hz he
      obtain ⟨y, y1, y2⟩ := take_ok (N := N) (by omega) (q := zCJ (z :: suf) 0) (s := z.1) (e := z.2) i1 i2 i3
      have y2 : TkAs y (lnZ z) := y2
      rw [y1, Option.bind_some, show List.map lnZ (z :: suf) = lnZ z :: suf.map lnZ from rfl]
      cases hl : lnZ z with
      | none =>
        rw [hl] at y2
        have y2 : y.2.2.2 = false := y2
        rw [if_pos (by rw [y2]; rfl)]
        rfl
      | some l =>
        rw [hl] at y2
        obtain ⟨d, nm, mm, hy, hd, hnm, hm3⟩ := y2
        subst hy
        have e2 : sEq (wb d) ⟨#[117, 110, 105, 116]⟩ = decide (d = .unit) := by rw [show sEq (wb d) ⟨#[117, 110, 105, 116]⟩ = _ from VH _ .unit, zBD]; simp
        by_cases hu : d = .unit
        · subst hu
          have hd : zA7 (some mm) = some l := hd
          have : ∃ n, mm = [n] ∧ l = .unit n := by
            unfold zA7 at hd
            split at hd
            · rename_i n e; exact ⟨n, Option.some.inj e, (Option.some.inj hd).symm⟩
            · cases hd
          obtain ⟨n, rfl, rfl⟩ := this
          rw [if_neg (by simp [e2])]
          show ((idx [n] 0).bind fun VK => Qg N (zCJ (z :: suf) 0) VK N (w64 (0 + 1)) []) = _
          rw [zIl, Option.bind_some]
          have := L8_ok hz (by omega) hN (u := n) suf [z] [] N rfl (by have : (z :: suf).length ≤ t.size := hZ; simp at this; omega) (by simp)
          have hw : w64 (0 + 1) = (([z] : List Zl).length : Int) := by rw [Ka (by omega) (by omega)]; rfl
          rw [hw, this]
          have e : zFc (some (.unit n) :: suf.map lnZ) = zEo n (zBr (suf.map lnZ) []).1 ((suf.map lnZ).length + 1) (zBr (suf.map lnZ) []).2 := rfl
          rw [e, List.length_map]; rfl
        · have hnu : ∀ n, l ≠ .unit n := fun n e => by
            subst e
            cases d
            case unit => exact hu rfl
            case tool => obtain ⟨_, _, _, e⟩ := zBk (show zBT nm (some mm) = _ from hd); cases e
            case dark => exact absurd hd (by show (if mm = [] then _ else none) ≠ _; split <;> simp)
            case clear => exact absurd hd (by show (if mm = [] then _ else none) ≠ _; split <;> simp)
            case done => exact absurd hd (by show (if mm = [] then _ else none) ≠ _; split <;> simp)
            case use => exact absurd hd (by show (if mm = [] then _ else none) ≠ _; split <;> simp)
            case move => obtain ⟨_, _, _, e⟩ := Kc (show zAw 4 (some mm) = _ from hd); cases e
            case flash => obtain ⟨_, _, _, e⟩ := Kc (show zAw 5 (some mm) = _ from hd); cases e
            case line => obtain ⟨_, _, _, e⟩ := Kc (show zAw 6 (some mm) = _ from hd); cases e
            case area => obtain ⟨_, _, _, e⟩ := zA9 (show zB1 (some mm) = _ from hd); cases e
            case rept => obtain ⟨_, _, _, _, _, e⟩ := zA8 (show zC5 (some mm) = _ from hd); cases e
          rw [if_pos (by simp [e2, hu])]
          cases l with
          | unit n => exact absurd rfl (hnu n)
          | tool t => rfl
          | step s => rfl
          | rep s => rfl
          | done => rfl
def zDf : QZ → List (Option Ln) → Option QZ × Nat
  | r, [] => (some r, 0)
  | r, l :: ls => match acc r l with
    | some r' => zDf r' ls
    | none => (none, ls.length + 1)
structure SmC (r : QZ) (B : Nat) : Prop where
  t : r.p.Tools.length ≤ B
  s : r.p.Steps.length ≤ B
  o : r.open_.length ≤ B
  i : ∀ x ∈ r.open_, x.Steps.length ≤ B
theorem putR_sm {r : QZ} {B : Nat} (h : SmC r B) (s : zD) : SmC (zCo r s) (B + 1) := by
  unfold zCo
  cases hl : r.open_.getLast? with
  | none =>
    refine ⟨Nat.le_succ_of_le h.t, ?_, Nat.le_succ_of_le h.o, fun x hx => Nat.le_succ_of_le (h.i x hx)⟩
    have := h.s
    simp; omega
  | some x =>
    obtain ⟨l, hx⟩ := List.getLast?_eq_some_iff.1 hl
    have ho := h.o
    rw [hx] at ho
    have hi := h.i
    rw [hx] at hi
    refine ⟨Nat.le_succ_of_le h.t, Nat.le_succ_of_le h.s, ?_, fun y hy => ?_⟩
    · show (r.open_.dropLast ++ [_]).length ≤ _
      rw [hx]; simp at ho ⊢; omega
    · have hy : y ∈ r.open_.dropLast ++ [(⟨x.Kind, x.Name, x.At, x.Points, x.NX, x.NY, x.Steps ++ [s]⟩ : zD)] := hy
      rw [hx, List.dropLast_concat] at hy
      rcases List.mem_append.1 hy with hy | hy
      · exact Nat.le_succ_of_le (hi y (by simp [hy]))
      · simp at hy; subst hy
        have := hi x (by simp)
        simp; omega
theorem acc_sm {r r' : QZ} {B : Nat} (h : SmC r B) {l : Option Ln} (ha : acc r l = some r') (hl : ∀ s, l = some (.rep s) → s.Steps = []) : SmC r' (B + 1) := by
  have hs : SmC ⟨r.p, r.unit, r.open_, true⟩ B := ⟨h.t, h.s, h.o, h.i⟩
  cases l with
  | none => cases ha
  | some l =>
    cases l with
    | unit n =>
      have ha : (if r.unit = true then none else some _) = some r' := ha
      split at ha
      · cases ha
      · obtain rfl := Option.some.inj ha
        exact ⟨Nat.le_succ_of_le h.t, Nat.le_succ_of_le h.s, Nat.le_succ_of_le h.o, fun x hx => Nat.le_succ_of_le (h.i x hx)⟩
    | tool t =>
      have ha : (if r.unit = true ∧ r.step = false then some _ else none) = some r' := ha
      split at ha
      · obtain rfl := Option.some.inj ha
        have := h.t
        exact ⟨by simp; omega, Nat.le_succ_of_le h.s, Nat.le_succ_of_le h.o, fun x hx => Nat.le_succ_of_le (h.i x hx)⟩
      · cases ha
    | step s =>
      have ha : (if r.unit = true then some (zCo ⟨r.p, r.unit, r.open_, true⟩ s) else none) = some r' := ha
      split at ha
      · obtain rfl := Option.some.inj ha
        exact putR_sm hs s
      · cases ha
    | rep s =>
      have ha : (if r.unit = true then some _ else none) = some r' := ha
      split at ha
      · obtain rfl := Option.some.inj ha
        have := h.o
        refine ⟨Nat.le_succ_of_le h.t, Nat.le_succ_of_le h.s, by simp; omega, fun x hx => ?_⟩
        rcases List.mem_append.1 hx with hx | hx
        · exact Nat.le_succ_of_le (h.i x hx)
        · simp at hx; subst hx; rw [hl x rfl]; simp
      · cases ha
    | done =>
      have ha : (if r.unit = true then (match r.open_.getLast? with | some x => some (zCo ⟨r.p, r.unit, r.open_.dropLast, true⟩ x) | none => none) else none) = some r' := ha
      split at ha
      · split at ha
        · rename_i x hx
          obtain rfl := Option.some.inj ha
          have ho := h.o
          have hd : SmC ⟨r.p, r.unit, r.open_.dropLast, true⟩ B := ⟨h.t, h.s, by show r.open_.dropLast.length ≤ B; rw [List.length_dropLast]; omega, fun y hy => h.i y (List.dropLast_subset _ hy)⟩
          exact putR_sm hd x
        · cases ha
      · cases ha
theorem lnOf_rep {l : List ByteArray} {s : zD} (h : zB0 l = some (.rep s)) : s.Steps = [] := by
  cases l with
  | nil => cases h
  | cons k r =>
    rw [VL] at h
    cases hd : VC k with
    | none => rw [hd] at h; cases h
    | some d =>
      rw [hd, Option.bind_some] at h
      cases d with
      | rept =>
        obtain ⟨_, _, _, _, _, e⟩ := zA8 (show zC5 (nums r) = _ from h)
        injection e with e
        rw [e]
      | unit => exact absurd h (by show zA7 (nums r) ≠ _; unfold zA7; split <;> simp)
      | tool =>
        cases r with
        | nil => cases h
        | cons nm r2 =>
          have h : (if rowOk nm = true then zBT nm (nums r2) else none) = some (Ln.rep s) := h
          split at h
          · obtain ⟨_, _, _, e⟩ := zBk h
            cases e
          · cases h
      | dark => exact absurd h (by show (if r = [] then _ else none) ≠ _; split <;> simp)
      | clear => exact absurd h (by show (if r = [] then _ else none) ≠ _; split <;> simp)
      | done => exact absurd h (by show (if r = [] then _ else none) ≠ _; split <;> simp)
      | use =>
        cases r with
        | nil => cases h
        | cons nm r2 =>
          cases r2 with
          | nil =>
            have h : (if rowOk nm = true then some (Ln.step ⟨3, nm, ⟨0, 0⟩, [], 0, 0, []⟩) else none) = some (Ln.rep s) := h
            split at h <;> cases h
          | cons _ _ => cases h
      | move => obtain ⟨_, _, _, e⟩ := Kc (show zAw 4 (nums r) = _ from h); cases e
      | flash => obtain ⟨_, _, _, e⟩ := Kc (show zAw 5 (nums r) = _ from h); cases e
      | line => obtain ⟨_, _, _, e⟩ := Kc (show zAw 6 (nums r) = _ from h); cases e
      | area => obtain ⟨_, _, _, e⟩ := zA9 (show zB1 (nums r) = _ from h); cases e
theorem lnZ_rep {z : Zl} {s : zD} (h : lnZ z = some (.rep s)) : s.Steps = [] := by
  unfold lnZ at h
  split at h
  · exact lnOf_rep h
  · cases h
def finL (chk : QN → Option Int) (n : Int) (tot : Nat) : Option QZ × Nat → Option (QN × Int × Int)
  | (none, k) => some (zP, n + ((tot - k : Nat) : Int), 10)
  | (some r, _) => if r.unit = true ∧ r.open_ = [] then (chk r.p).bind fun e => if e != 0 then some (zP, 0, e) else some (r.p, 0, 0) else some (zP, n + (tot : Int), 10)
theorem finL_next (chk : QN → Option Int) (n : Int) (tot : Nat) (o : Option QZ × Nat) (h : o.2 ≤ tot) : finL chk (n + 1) tot o = finL chk n (tot + 1) o := by
  obtain ⟨o, k⟩ := o
  have h : k ≤ tot := h
  cases o with
  | none =>
    show some (zP, n + 1 + ((tot - k : Nat) : Int), (10 : Int)) = some (zP, n + ((tot + 1 - k : Nat) : Int), 10)
    rw [show n + 1 + ((tot - k : Nat) : Int) = n + ((tot + 1 - k : Nat) : Int) by omega]
  | some r =>
    show (if r.unit = true ∧ r.open_ = [] then _ else some (zP, n + 1 + (tot : Int), (10 : Int))) = (if r.unit = true ∧ r.open_ = [] then _ else some (zP, n + ((tot + 1 : Nat) : Int), (10 : Int)))
    split
    · rfl
    · rw [show n + 1 + (tot : Int) = n + ((tot + 1 : Nat) : Int) by omega]
theorem runL_le : ∀ (ls : List (Option Ln)) (r : QZ), (zDf r ls).2 ≤ ls.length
  | [], _ => Nat.le_refl _
  | l :: ls, r => by
    rw [zDf]
    cases acc r l with
    | none => exact Nat.le_refl _
    | some r' => exact Nat.le_succ_of_le (runL_le ls r')
theorem SmC.smR {r : QZ} {B : Nat} (h : SmC r B) (hB : B ≤ 300000) : SmR r := ⟨Nat.le_trans h.t hB, Nat.le_trans h.s hB, Nat.le_trans h.o hB, fun x hx => Nat.le_trans (h.i x hx) hB⟩
theorem prog_loop {N : Nat} (hN : 2000000 ≤ N) : ∀ (k m : Nat) (r : QZ) (t : ByteArray) (B : Nat) (n : Int), t.size < k → k ≤ m → t.size ≤ 200000 → SmC r B → B + t.size ≤ 300000 → 0 ≤ n → n + t.size ≤ 1000000 →
    WA N m r.open_ r.p.Unit r.p.Tools r.p.Steps r.unit r.step t n = finL (KH N) n (zOf k t).length (zDf r ((zOf k t).map lnZ))
  | 0, _, _, _, _, _, h, _, _, _, _, _, _ => by omega
  | k + 1, m, r, t, B, n, h, hm, hs, hr, hB, h0, hn => by
    obtain ⟨m, rfl⟩ : ∃ j, m = j + 1 := ⟨m - 1, by omega⟩
    rw [WA, zIq, zOf]
    cases hne : (bs t).isEmpty
    · have h2 := zHP hne
      have h3 := zGc t
      have hls : (Kh t).1.size ≤ 200000 := by have := h3.1; omega
      rw [if_pos (by rfl), cut_line hs, Option.bind_some, if_neg (by simp : ¬ (false = true)), List.map_cons, List.length_cons]
      cases hc : (Kh t).2.2 with
      | false =>
        have e : lnZ ((Kh t).1, false) = none := rfl
        rw [if_pos (by rfl), e]
        show some (zP, n, (10 : Int)) = some (zP, n + (((zOf k (Kh t).2.1).length + 1 - (((zOf k (Kh t).2.1).map lnZ).length + 1) : Nat) : Int), 10)
        rw [List.length_map, Nat.sub_self]; simp
      | true =>
        have e : lnZ ((Kh t).1, true) = zB0 (words (Kh t).1) := rfl
        obtain ⟨y, y1, y2⟩ := line_ok (N := N) (by omega) (hr.smR (by omega)) hls
        rw [if_neg (show ¬ (!true) = true by simp), show (QZ.mk (QN.mk r.p.Unit r.p.Tools r.p.Steps) r.unit r.open_ r.step) = r from rfl, y1, Option.bind_some, e, zDf]
        cases ha : acc r (zB0 (words (Kh t).1)) with
        | none =>
          rw [ha] at y2
          have y2 : y.1 = false := y2
          rw [if_pos (by rw [y2]; rfl)]
          show some (zP, n, (10 : Int)) = some (zP, n + (((zOf k (Kh t).2.1).length + 1 - (((zOf k (Kh t).2.1).map lnZ).length + 1) : Nat) : Int), 10)
          rw [List.length_map, Nat.sub_self]; simp
        | some r' =>
          rw [ha] at y2
          have y2 : y = zFL r' := y2
          subst y2
          have hr' := acc_sm hr ha (fun s hs' => lnOf_rep hs')
          have hsz := h3.2 hc
          rw [if_neg (by simp [zFL]), Ka (by omega) (by omega)]
          have ih := prog_loop hN k m r' (Kh t).2.1 (B + 1) (n + 1) (by omega) (by omega) (by omega) hr' (by omega) (by omega) (by omega)
          show WA N m r'.open_ r'.p.Unit r'.p.Tools r'.p.Steps r'.unit r'.step (Kh t).2.1 (n + 1) = _
          rw [ih]
          have hle := runL_le ((zOf k (Kh t).2.1).map lnZ) r'
          rw [List.length_map] at hle
          rw [finL_next _ _ _ _ hle]
    · rw [if_neg (by simp), if_pos rfl, List.map_nil, zDf]
      show _ = if r.unit = true ∧ r.open_ = [] then _ else some (zP, n + ((0 : Nat) : Int), (10 : Int))
      by_cases hc : r.unit = true ∧ r.open_ = []
      · rw [if_pos hc, if_neg (by rw [hc.1, hc.2]; decide)]; rfl
      · rw [if_neg hc, if_pos (by
          rw [Bool.or_eq_true, decide_eq_true_eq]
          cases hu : r.unit
          · exact .inl rfl
          · right
            have : r.open_ ≠ [] := fun e => hc ⟨hu, e⟩
            have := List.length_pos_iff.2 this
            omega)]
        simp [zP]
theorem ReadP_ok {N : Nat} (hN : 2000000 ≤ N) (t : ByteArray) : zAc N t = if 200000 < t.size then some (zP, 0, 2) else finL (KH N) 1 (zB2 t).length (zDf ⟨zP, false, [], false⟩ (zB2 t)) := by
  unfold zAc
  by_cases ht : 200000 < t.size
  · rw [if_pos (decide_eq_true (by omega)), if_pos ht]; rfl
  · rw [if_neg (by rw [decide_eq_true_eq]; omega), if_neg ht]
    have h := prog_loop hN (t.size + 1) N ⟨zP, false, [], false⟩ t 0 1 (by omega) (by omega) (by omega) ⟨by simp [zP], by simp [zP], by simp, by simp⟩ (by omega) (by omega) (by omega)
    unfold zB2
    rw [List.length_map]
    exact h
def zD9 (x : zD) (out : List zD) : zD := ⟨x.Kind, x.Name, x.At, x.Points, x.NX, x.NY, out⟩
theorem topS_self {x : zD} (h : x.Steps = []) : zD9 x [] = x := by
  cases x
  simp at h
  subst h
  rfl
def BadL (rest : List (Option Ln)) (res : Option QZ × Nat) : Prop := (rest ≠ [] ∧ res = (none, rest.length)) ∨ (rest = [] ∧ ∃ r', res = (some r', 0) ∧ r'.open_ ≠ [])
theorem putR_top (p : QN) (op : List zD) (x s : zD) (out : List zD) : zCo ⟨p, true, op ++ [zD9 x out], true⟩ s = ⟨p, true, op ++ [zD9 x (out ++ [s])], true⟩ := by
  unfold zCo
  simp [zD9]
theorem putR_nil (u : Int) (T : List zt) (out : List zD) (s : zD) : zCo ⟨⟨u, T, out⟩, true, [], true⟩ s = ⟨⟨u, T, out ++ [s]⟩, true, [], true⟩ := rfl
theorem zCU {r r' : QZ} {l : Option Ln} {ls : List (Option Ln)} (h : acc r l = some r') : zDf r (l :: ls) = zDf r' ls := by rw [zDf, h]
theorem runL_none {r : QZ} {l : Option Ln} {ls : List (Option Ln)} (h : acc r l = none) : zDf r (l :: ls) = (none, (l :: ls).length) := by rw [zDf, h]; rfl
theorem zDX {r : QZ} {l : Option Ln} {ls : List (Option Ln)} (h : acc r l = none) : BadL (l :: ls) (zDf r (l :: ls)) := .inl ⟨by simp, runL_none h⟩
def RepsL (ls : List (Option Ln)) : Prop := ∀ s, some (Ln.rep s) ∈ ls → s.Steps = []
theorem RepsL.suf {ls ls' : List (Option Ln)} (h : RepsL ls) (hs : ls' <:+ ls) : RepsL ls' := fun s hm => h s (hs.subset hm)
theorem zF3 : ∀ (k : Nat) (ls : List (Option Ln)) (out : List zD) (p : QN) (op : List zD) (x : zD), ls.length < k → RepsL ls →
    ((Jp k true ls out).2.2 = false → zDf ⟨p, true, op ++ [zD9 x out], true⟩ ls = zDf (zCo ⟨p, true, op, true⟩ (zD9 x (Jp k true ls out).1)) (Jp k true ls out).2.1) ∧
    ((Jp k true ls out).2.2 = true → BadL (Jp k true ls out).2.1 (zDf ⟨p, true, op ++ [zD9 x out], true⟩ ls))
  | 0, ls, _, _, _, _, h, _ => by omega
  | k + 1, [], out, p, op, x, _, _ => by
    rw [Jp]
    exact ⟨fun h => (by cases h), fun _ => .inr ⟨rfl, _, rfl, by simp⟩⟩
  | k + 1, some (.step s) :: ls, out, p, op, x, h, hr => by
    simp at h
    rw [Jp]
    have ha : acc ⟨p, true, op ++ [zD9 x out], true⟩ (some (.step s)) = some ⟨p, true, op ++ [zD9 x (out ++ [s])], true⟩ := by
      show some (zCo ⟨p, true, op ++ [zD9 x out], true⟩ s) = _
      rw [putR_top]
    rw [zCU ha]
    exact zF3 k ls (out ++ [s]) p op x h (hr.suf (List.suffix_cons _ _))
  | k + 1, some (.rep s) :: ls, out, p, op, x, h, hr => by
    simp at h
    rw [Jp]
    have hs : s.Steps = [] := hr s (by simp)
    have hr' := hr.suf (List.suffix_cons _ _)
    have ha : acc ⟨p, true, op ++ [zD9 x out], true⟩ (some (.rep s)) = some ⟨p, true, (op ++ [zD9 x out]) ++ [zD9 s []], true⟩ := by
      rw [topS_self hs]; rfl
    rw [zCU ha]
    have ih := zF3 k ls [] p (op ++ [zD9 x out]) s h hr'
    have hsuf := zCm k true ls []
    have hlen := zFe k true ls []
    show ((if (Jp k true ls []).2.2 = true then _ else Jp k true (Jp k true ls []).2.1 (out ++ [zD9 s (Jp k true ls []).1])).2.2 = false → _) ∧ _
    generalize Jp k true ls [] = R at *
    obtain ⟨o, rest, bad⟩ := R
    cases bad
    · have i1 := ih.1 rfl
      rw [putR_top] at i1
      simp only at i1 hlen hsuf
      have := zF3 k rest (out ++ [zD9 s o]) p op x (by omega) (hr'.suf hsuf)
      simp only [Bool.false_eq_true, if_false]
      rw [i1]
      exact this
    · have i2 := ih.2 rfl
      simp only [if_true]
      exact ⟨fun h => (by cases h), fun _ => i2⟩
  | k + 1, some .done :: ls, out, p, op, x, _, _ => by
    rw [Jp, if_pos rfl]
    refine ⟨fun _ => ?_, fun h => by cases h⟩
    refine zCU ?_
    show (match (op ++ [zD9 x out]).getLast? with | some y => some (zCo ⟨p, true, (op ++ [zD9 x out]).dropLast, true⟩ y) | none => none) = _
    simp
  | k + 1, some (.unit _) :: ls, out, p, op, x, _, _ => by
    have e : ∀ n, Jp (k + 1) true (some (.unit n) :: ls) out = (out, some (.unit n) :: ls, true) := fun n => rfl
    rw [e]
    exact ⟨fun h => (by cases h), fun _ => zDX rfl⟩
  | k + 1, some (.tool _) :: ls, out, p, op, x, _, _ => by
    have e : ∀ n, Jp (k + 1) true (some (.tool n) :: ls) out = (out, some (.tool n) :: ls, true) := fun n => rfl
    rw [e]
    exact ⟨fun h => (by cases h), fun _ => zDX rfl⟩
  | k + 1, none :: ls, out, p, op, x, _, _ => by
    have e : Jp (k + 1) true (none :: ls) out = (out, none :: ls, true) := rfl
    rw [e]
    exact ⟨fun h => (by cases h), fun _ => zDX rfl⟩
theorem zHz : ∀ (k : Nat) (ls : List (Option Ln)) (out : List zD) (u : Int) (T : List zt) (b : Bool), ls.length < k → RepsL ls → (b = true ∨ ∀ t ls', ls ≠ some (.tool t) :: ls') →
    ((Jp k false ls out).2.2 = false → ∃ b', zDf ⟨⟨u, T, out⟩, true, [], b⟩ ls = (some ⟨⟨u, T, (Jp k false ls out).1⟩, true, [], b'⟩, 0)) ∧
    ((Jp k false ls out).2.2 = true → BadL (Jp k false ls out).2.1 (zDf ⟨⟨u, T, out⟩, true, [], b⟩ ls))
  | 0, ls, _, _, _, _, h, _, _ => by omega
  | k + 1, [], out, u, T, b, _, _, _ => by
    rw [Jp]
    exact ⟨fun _ => ⟨b, rfl⟩, fun h => by cases h⟩
  | k + 1, some (.step s) :: ls, out, u, T, b, h, hr, hb => by
    simp at h
    rw [Jp]
    have ha : acc ⟨⟨u, T, out⟩, true, [], b⟩ (some (.step s)) = some ⟨⟨u, T, out ++ [s]⟩, true, [], true⟩ := rfl
    rw [zCU ha]
    exact zHz k ls (out ++ [s]) u T true h (hr.suf (List.suffix_cons _ _)) (.inl rfl)
  | k + 1, some (.rep s) :: ls, out, u, T, b, h, hr, hb => by
    simp at h
    rw [Jp]
    have hs : s.Steps = [] := hr s (by simp)
    have hr' := hr.suf (List.suffix_cons _ _)
    have ha : acc ⟨⟨u, T, out⟩, true, [], b⟩ (some (.rep s)) = some ⟨⟨u, T, out⟩, true, [] ++ [zD9 s []], true⟩ := by
      rw [topS_self hs]; rfl
    rw [zCU ha]
    have ih := zF3 k ls [] ⟨u, T, out⟩ [] s h hr'
    have hsuf := zCm k true ls []
    have hlen := zFe k true ls []
    show ((if (Jp k true ls []).2.2 = true then _ else Jp k false (Jp k true ls []).2.1 (out ++ [zD9 s (Jp k true ls []).1])).2.2 = false → _) ∧ _
    generalize Jp k true ls [] = R at *
    obtain ⟨o, rest, bad⟩ := R
    cases bad
    · have i1 := ih.1 rfl
      rw [putR_nil] at i1
      simp only at i1 hlen hsuf
      have := zHz k rest (out ++ [zD9 s o]) u T true (by omega) (hr'.suf hsuf) (.inl rfl)
      simp only [Bool.false_eq_true, if_false]
      rw [i1]
      exact this
    · have i2 := ih.2 rfl
      simp only [if_true]
      exact ⟨fun h => (by cases h), fun _ => i2⟩
  | k + 1, some .done :: ls, out, u, T, b, _, _, _ => by
    rw [Jp, if_neg (by simp)]
    exact ⟨fun h => (by cases h), fun _ => zDX rfl⟩
  | k + 1, some (.unit _) :: ls, out, u, T, b, _, _, _ => by
    have e : ∀ n, Jp (k + 1) false (some (.unit n) :: ls) out = (out, some (.unit n) :: ls, true) := fun n => rfl
    rw [e]
    exact ⟨fun h => (by cases h), fun _ => zDX rfl⟩
  | k + 1, some (.tool t) :: ls, out, u, T, b, _, _, hb => by
    have e : ∀ n, Jp (k + 1) false (some (.tool n) :: ls) out = (out, some (.tool n) :: ls, true) := fun n => rfl
    rw [e]
    have hb : b = true := hb.resolve_right fun h => h t ls rfl
    subst hb
    exact ⟨fun h => (by cases h), fun _ => zDX rfl⟩
  | k + 1, none :: ls, out, u, T, b, _, _, _ => by
    have e : Jp (k + 1) false (none :: ls) out = (out, none :: ls, true) := rfl
    rw [e]
    exact ⟨fun h => (by cases h), fun _ => zDX rfl⟩
theorem refT_tool (t : zt) (ls : List (Option Ln)) (a : List zt) : zBr (some (.tool t) :: ls) a = zBr ls (a ++ [t]) := by rw [zBr]
theorem zFy {ls : List (Option Ln)} (h : ∀ t ls', ls ≠ some (.tool t) :: ls') (a : List zt) : zBr ls a = (a, ls) := by
  rw [zBr]
  exact h
theorem zHq : ∀ (ls : List (Option Ln)) (a : List zt) (u : Int), zDf ⟨⟨u, a, []⟩, true, [], false⟩ ls = zDf ⟨⟨u, (zBr ls a).1, []⟩, true, [], false⟩ (zBr ls a).2 ∧ (zBr ls a).2 <:+ ls ∧ ∀ t ls', (zBr ls a).2 ≠ some (.tool t) :: ls'
  | [], a, u => by
    rw [zFy (by simp)]
    exact ⟨rfl, List.suffix_refl _, by simp⟩
  | l :: ls, a, u => by
    by_cases h : ∃ t, l = some (.tool t)
    · obtain ⟨t, rfl⟩ := h
      have ih := zHq ls (a ++ [t]) u
      rw [refT_tool]
      exact ⟨(zCU rfl).trans ih.1, ih.2.1.trans (List.suffix_cons _ _), ih.2.2⟩
    · have h' : ∀ t ls', l :: ls ≠ some (.tool t) :: ls' := fun t ls' e => h ⟨t, (List.cons.inj e).1⟩
      rw [zFy h']
      exact ⟨rfl, List.suffix_refl _, h'⟩
theorem run_spec (chk : QN → Option Int) {ls : List (Option Ln)} (hr : RepsL ls) : finL chk 1 ls.length (zDf ⟨zP, false, [], false⟩ ls) = ansL chk (zFc ls) := by
  have first : ∀ (l : Option Ln) (ls : List (Option Ln)), acc ⟨zP, false, [], false⟩ l = none → zFc (l :: ls) = .inl 1 → finL chk 1 (l :: ls).length (zDf ⟨zP, false, [], false⟩ (l :: ls)) = ansL chk (zFc (l :: ls)) := fun l ls h e => by
    rw [runL_none h, e]
    show some (zP, 1 + (((l :: ls).length - (l :: ls).length : Nat) : Int), (10 : Int)) = some (zP, 1, 10)
    rw [Nat.sub_self]; rfl
  cases ls with
  | nil => rfl
  | cons l ls =>
    cases l with
    | none => exact first _ _ rfl rfl
    | some l =>
      cases l with
      | tool t => exact first _ _ rfl rfl
      | step s => exact first _ _ rfl rfl
      | rep s => exact first _ _ rfl rfl
      | done => exact first _ _ rfl rfl
      | unit n =>
        have ha : acc ⟨zP, false, [], false⟩ (some (.unit n)) = some ⟨⟨n, [], []⟩, true, [], false⟩ := rfl
        rw [zCU ha]
        obtain ⟨t1, t2, t3⟩ := zHq ls [] n
        rw [t1, show zFc (some (.unit n) :: ls) = zEo n (zBr ls []).1 (ls.length + 1) (zBr ls []).2 from rfl, List.length_cons]
        have hlen := t2.length_le
        have hr2 := (hr.suf (List.suffix_cons _ _)).suf t2
        generalize (zBr ls []).1 = T at *
        generalize (zBr ls []).2 = ls2 at *
        obtain ⟨o1, o2⟩ := zHz (ls2.length + 1) ls2 [] n T false (by omega) hr2 (.inr t3)
        have hrl := zFe (ls2.length + 1) false ls2 []
        unfold zEo
        generalize Jp (ls2.length + 1) false ls2 [] = R at *
        obtain ⟨o, rest, bad⟩ := R
        cases bad
        · obtain ⟨b', e⟩ := o1 rfl
          rw [e, if_neg (by simp)]
          show (if true = true ∧ ([] : List zD) = [] then (chk ⟨n, T, o⟩).bind fun e => if e != 0 then some (zP, 0, e) else some (⟨n, T, o⟩, 0, 0) else some (zP, 1 + ((ls.length + 1 : Nat) : Int), (10 : Int))) = _
          rw [if_pos ⟨rfl, rfl⟩]
          rfl
        · rw [if_pos rfl]
          rcases o2 rfl with ⟨h1, e⟩ | ⟨h1, r', e, h2⟩
          · rw [e]
            show some (zP, 1 + ((ls.length + 1 - rest.length : Nat) : Int), (10 : Int)) = some (zP, ((ls.length + 1 - rest.length : Nat) : Int) + 1, 10)
            rw [Int.add_comm]
          · rw [e]
            have h1 : rest = [] := h1
            subst h1
            show (if r'.unit = true ∧ r'.open_ = [] then _ else some (zP, 1 + ((ls.length + 1 : Nat) : Int), (10 : Int))) = some (zP, ((ls.length + 1 - 0 : Nat) : Int) + 1, 10)
            rw [if_neg (fun h => h2 h.2), Int.add_comm]; rfl
theorem linesL_reps (t : ByteArray) : RepsL (zB2 t) := fun s hs => by
  unfold zB2 at hs
  obtain ⟨z, _, e⟩ := List.mem_map.1 hs
  exact lnZ_rep e
theorem Reads_ok {N : Nat} (hN : 2000000 ≤ N) (t : ByteArray) : zAc N t = if 200000 < t.size then some (zP, 0, 2) else ansL (KH N) (zFc (zB2 t)) := by
  rw [ReadP_ok hN, run_spec _ (linesL_reps t)]
theorem zDF {α : Type} (pre : List α) (x : α) (h : pre.length < 9223372036854775807) : w64 ((pre.length : Int) + 1) = ((pre ++ [x]).length : Int) := by
  rw [zJW (by omega) (by omega)]; simp
theorem zIc (s : ByteArray) : ∀ (m : Nat) (x : Int), Ku s m x = Jr s m x
  | 0, _ => rfl
  | m + 1, x => by
    rw [Ku, Jr]
    split
    · congr 1
      funext c
      rw [zIc s m]
      have e : ((!(((decide (97 ≤ c)) && (decide (c ≤ 122))) || ((decide (65 ≤ c)) && (decide (c ≤ 90))))) && ((x == 0) || ((((decide (c < 48)) || (decide (57 < c))) && (c != 95)) && (c != 45)))) = ((!(((decide (97 ≤ c)) && (decide (c ≤ 122))) || ((decide (65 ≤ c)) && (decide (c ≤ 90))))) && ((x == 0) || (((c != 95) && (c != 45)) && (!((decide (48 ≤ c)) && (decide (c ≤ 57))))))) := by
        have e2 : (decide (c < 48) || decide (57 < c)) = !(decide (48 ≤ c) && decide (c ≤ 57)) := by
          rw [Bool.eq_iff_iff]; simp <;> omega
        rw [e2]
        cases (!(decide (48 ≤ c) && decide (c ≤ 57))) <;> cases (c != 95) <;> cases (c != 45) <;> simp
      rw [e]
    · rfl
theorem zId {s : ByteArray} (hs : s.size ≤ 9223372036854775807) : ∀ (m i : Nat), s.size < m + i → i ≤ s.size → ∃ b, Ku s m (i : Int) = some b ∧ (b = true → s.size ≤ 40)
  | 0, i, h, h2 => by omega
  | m + 1, i, h, h2 => by
    rw [Ku]
    by_cases hi : i < s.size
    · rw [if_pos (decide_eq_true (by omega))]
      have hc : ∃ c, zCN s (i : Int) = some c := by
        unfold zCN
        rw [if_pos (by omega)]
        exact ⟨(s[i].toNat : Int), by simp [hi]⟩
      obtain ⟨c, hc⟩ := hc
      rw [hc, Option.bind_some]
      split
      · exact ⟨false, rfl, fun h => by cases h⟩
      · rw [zJW (by omega) (by omega)]
        exact zId hs m (i + 1) (by omega) (by omega)
    · rw [if_neg (by simpa using hi)]
      exact ⟨_, rfl, fun h => by simp at h; omega⟩
theorem IsName_ok {N : Nat} {s : ByteArray} (hs : s.size ≤ 9223372036854775807) (hN : s.size < N) : ∃ b, zBb N s = some b ∧ WX N s = some b ∧ (b = true → s.size ≤ 40) := by
  obtain ⟨b, h1, h2⟩ := zId hs N 0 (by omega) (by omega)
  exact ⟨b, h1, (zIc s N 0).symm.trans h1, h2⟩
def zET (n u : Int) : Bool := decide (-(1000000 / u) ≤ n) && decide (n ≤ 1000000 / u)
theorem isAt_ok {n u : Int} (hu : 1 ≤ u ∧ u ≤ 1000) : We n u = some (zET n u) := by
  have h0 : 0 ≤ 1000000 / u := Int.ediv_nonneg (by omega) (by omega)
  have h1 : 1000000 / u ≤ 1000000 := Int.ediv_le_self _ (by omega)
  have e1 : (1000000 : Int).tdiv u = 1000000 / u := Int.tdiv_eq_ediv_of_nonneg (by omega)
  have e2 : (-1000000 : Int).tdiv u = -(1000000 / u) := by rw [show (-1000000 : Int) = -(1000000) from rfl, Int.neg_tdiv, e1]
  unfold We dv
  rw [if_neg (by omega), if_neg (by omega), Option.bind_some, Option.bind_some, e1, e2, Ka (by omega) (by omega), Ka (by omega) (by omega)]
  rfl
theorem fits_ok {n u : Int} (hu : 1 ≤ u ∧ u ≤ 1000) : Ji n u = some (zET n u) := by
  have hA : ∀ k : Int, Ws k = some (decide (-1000000 ≤ k) && decide (k ≤ 1000000)) := fun _ => rfl
  unfold Ji
  rw [hA, Option.bind_some]
  have h0 : 0 ≤ 1000000 / u := Int.ediv_nonneg (by omega) (by omega)
  have h1 : 1000000 / u ≤ 1000000 := Int.ediv_le_self _ (by omega)
  by_cases hn : -1000000 ≤ n ∧ n ≤ 1000000
  · have e : (decide (-1000000 ≤ n) && decide (n ≤ 1000000)) = true := by simp [hn]
    rw [e, if_pos rfl]
    have hb : -1000000000 ≤ n * u ∧ n * u ≤ 1000000000 := by
      constructor
      · have := Int.mul_le_mul_of_nonneg_right hn.1 (show (0 : Int) ≤ u by omega)
        omega
      · have := Int.mul_le_mul_of_nonneg_right hn.2 (show (0 : Int) ≤ u by omega)
        omega
    rw [Ka (by omega) (by omega), hA]
    simp only [Option.bind_some]
    congr 1
    unfold zET
    rw [Bool.eq_iff_iff]
    simp only [Bool.and_eq_true, decide_eq_true_eq]
    have k1 : n ≤ 1000000 / u ↔ n * u ≤ 1000000 := Int.le_ediv_iff_mul_le (by omega)
    have k2 : -n ≤ 1000000 / u ↔ -n * u ≤ 1000000 := Int.le_ediv_iff_mul_le (by omega)
    rw [Int.neg_mul] at k2
    omega
  · have e : (decide (-1000000 ≤ n) && decide (n ≤ 1000000)) = false := by
      rw [Bool.eq_false_iff]; simpa using hn
    rw [e]
    simp only [Bool.false_eq_true, if_false, Option.bind_some]
    congr 1
    unfold zET
    symm
    rw [Bool.eq_false_iff]
    simp only [ne_eq, Bool.and_eq_true, decide_eq_true_eq]
    omega
def zCu (p : zf) (u : Int) : Bool := zET p.X u && zET p.Y u
theorem zJw {p : zf} {u : Int} (hu : 1 ≤ u ∧ u ≤ 1000) : zAT p u = some (zCu p u) := by
  unfold zAT zCu
  rw [isAt_ok hu, Option.bind_some]
  cases zET p.X u
  · rfl
  · rw [if_pos rfl, isAt_ok hu]; simp
theorem zG1 {p : zf} {u : Int} (hu : 1 ≤ u ∧ u ≤ 1000) : KP p u = some (zCu p u) := by
  unfold KP zCu
  rw [fits_ok hu, Option.bind_some]
  cases zET p.X u
  · rfl
  · rw [if_pos rfl, fits_ok hu]; simp
def rectE (r : VS) (u : Int) : Int := if (zET r.X0 u && zET r.Y0 u && zET r.X1 u && zET r.Y1 u) then (if (decide (r.X1 ≤ r.X0) || decide (r.Y1 ≤ r.Y0)) then 13 else 0) else 1
def zHx (u : Int) : List VS → Int
  | [] => 0
  | r :: l => if rectE r u = 0 then zHx u l else rectE r u
theorem zFr {u : Int} (hu : 1 ≤ u ∧ u ≤ 1000) : ∀ (l : List VS) (i : Nat), KS u l i = some (zHx u l)
  | [], _ => rfl
  | r :: l, i => by
    rw [KS, zHx, zFr hu l]
    simp only [isAt_ok hu, Option.bind_some]
    unfold rectE
    generalize (decide (r.X1 ≤ r.X0) || decide (r.Y1 ≤ r.Y0)) = g
    cases zET r.X0 u <;> cases zET r.Y0 u <;> cases zET r.X1 u <;> cases zET r.Y1 u <;> cases g <;> simp
theorem zFP {u : Int} (hu : 1 ≤ u ∧ u ≤ 1000) : ∀ (suf pre : List VS) (m : Nat), suf.length < m → (pre ++ suf).length ≤ 2000 → Qf (pre ++ suf) u m (pre.length : Int) = some (zHx u suf)
  | [], pre, m, hm, hl => by
    obtain ⟨m, rfl⟩ : ∃ k, m = k + 1 := ⟨m - 1, by omega⟩
    rw [Qf, zEu]; rfl
  | r :: l, pre, m, hm, hl => by
    obtain ⟨m, rfl⟩ : ∃ k, m = k + 1 := ⟨m - 1, by simp at hm; omega⟩
    simp at hm hl
    rw [Qf, zGb, if_pos rfl, Vb, Option.bind_some, zHx, zHp _ r (by omega), zEJ, zFP hu l (pre ++ [r]) m (by omega) (by simp; omega)]
    simp only [fits_ok hu, Option.bind_some]
    unfold rectE
    generalize (decide (r.X1 ≤ r.X0) || decide (r.Y1 ≤ r.Y0)) = g
    cases zET r.X0 u <;> cases zET r.Y0 u <;> cases zET r.X1 u <;> cases zET r.Y1 u <;> cases g <;> simp
def zGp (t : zt) (u : Int) : Int := if (t.Rects.length : Int) = 0 then 9 else if 2000 < (t.Rects.length : Int) then 2 else zHx u t.Rects
theorem checkTool_ok {N : Nat} {t : zt} {u : Int} (hu : 1 ≤ u ∧ u ≤ 1000) {b : Bool} (hb : zBb N t.Name = some b) : zAV N t u = some (if b then zGp t u else 5) := by
  unfold zAV
  rw [hb, Option.bind_some]
  cases b
  · rfl
  · simp only [Bool.not_true, Bool.false_eq_true, if_false, if_true, zFr hu, zGp]
    by_cases h0 : (t.Rects.length : Int) = 0
    · rw [if_pos (beq_iff_eq.2 h0), if_pos h0]
    · rw [if_neg (fun h => h0 (beq_iff_eq.1 h)), if_neg h0]
      by_cases h1 : 2000 < (t.Rects.length : Int)
      · rw [if_pos (decide_eq_true h1), if_pos h1]
      · rw [if_neg (by simpa using h1), if_neg h1]
theorem zHU {N : Nat} {t : zt} {u : Int} (hu : 1 ≤ u ∧ u ≤ 1000) (hN : 3000 ≤ N) : KJ N t.Rects u = some (zGp t u) := by
  unfold KJ zGp
  by_cases h0 : (t.Rects.length : Int) = 0
  · rw [if_pos (beq_iff_eq.2 h0), if_pos h0]
  · rw [if_neg (fun h => h0 (beq_iff_eq.1 h)), if_neg h0]
    by_cases h1 : 2000 < (t.Rects.length : Int)
    · rw [if_pos (decide_eq_true h1), if_pos h1]
    · rw [if_neg (by simpa using h1), if_neg h1]
      exact zFP hu t.Rects [] N (by omega) (by simp; omega)
def toolN (nm : ByteArray) (l : List zt) : Int := zG8 (fun t => sEq t.Name nm) l 0
theorem zIO (nm : ByteArray) : ∀ (l : List zt) (i : Nat), QP nm l i = some (zG8 (fun t => sEq t.Name nm) l (i : Int))
  | [], _ => rfl
  | t :: l, i => by
    rw [QP, zG8, zIO nm l (i + 1)]
    unfold zBg
    rw [Option.bind_some]
    split <;> rfl
theorem toolAt_ok (p : QN) (nm : ByteArray) : zBZ p nm = some (toolN nm p.Tools) := by
  unfold zBZ KC
  rw [zIO]; rfl
theorem tool_loop {p : QN} (nm : ByteArray) : ∀ (suf pre : List zt) (m : Nat), p.Tools = pre ++ suf → suf.length < m → (pre ++ suf).length ≤ 2000 → Jm p nm m (pre.length : Int) = some (zG8 (fun t => sEq t.Name nm) suf (pre.length : Int))
  | [], pre, m, he, hm, hl => by
    obtain ⟨m, rfl⟩ : ∃ k, m = k + 1 := ⟨m - 1, by omega⟩
    rw [Jm, he, zEu]; rfl
  | r :: l, pre, m, he, hm, hl => by
    obtain ⟨m, rfl⟩ : ∃ k, m = k + 1 := ⟨m - 1, by simp at hm; omega⟩
    simp at hm hl
    rw [Jm, he, zGb, if_pos rfl, Vb, Option.bind_some, zG8, zHp _ r (by omega), tool_loop nm l (pre ++ [r]) m (by rw [he]; simp) (by omega) (by simp; omega)]
    split
    · rfl
    · simp
theorem tool_ok {N : Nat} {p : QN} (nm : ByteArray) (hN : 3000 ≤ N) (hl : p.Tools.length ≤ 2000) : zAD N p nm = some (toolN nm p.Tools) :=
  tool_loop nm p.Tools [] N rfl (by omega) hl
def rowL (l : List zf) : List zf → Nat → Bool
  | [], _ => true
  | x :: r, i => if ((x.X == (l.getD ((i + 1) % l.length) ⟨0, 0⟩).X) == (x.Y == (l.getD ((i + 1) % l.length) ⟨0, 0⟩).Y)) then false else rowL l r (i + 1)
theorem next_ok {l : List zf} {i : Nat} (h : i < l.length) (hl : l.length ≤ 9223372036854775807) : ((md (w64 ((i : Int) + 1)) (l.length : Int)).bind fun q => idx l q) = some (l.getD ((i + 1) % l.length) ⟨0, 0⟩) := by
  have hm : (i + 1) % l.length < l.length := Nat.mod_lt _ (by omega)
  unfold md
  rw [zJW (by omega) (by omega), if_neg (by omega), Option.bind_some, Int.tmod_eq_emod_of_nonneg (by omega)]
  rw [show ((i : Int) + 1) % (l.length : Int) = (((i + 1) % l.length : Nat) : Int) by simp]
  rw [idx_nat hm]
  simp [List.getD, hm]
theorem next_ok2 {β : Type} {l : List zf} {i : Nat} (h : i < l.length) (hl : l.length ≤ 9223372036854775807) (k : zf → Option β) :
    ((md (w64 ((i : Int) + 1)) (l.length : Int)).bind fun q => (idx l q).bind k) = k (l.getD ((i + 1) % l.length) ⟨0, 0⟩) := by
  have := next_ok h hl
  cases hq : md (w64 ((i : Int) + 1)) (l.length : Int) with
  | none => rw [hq] at this; simp at this
  | some q =>
    rw [hq] at this
    simp only [Option.bind_some] at this ⊢
    rw [this, Option.bind_some]
theorem IsRow_loop {l : List zf} (hl : l.length ≤ 9223372036854775807) : ∀ (suf : List zf) (i : Nat), i + suf.length = l.length → VV l suf i = some (rowL l suf i)
  | [], _, _ => rfl
  | x :: r, i, h => by
    simp at h
    rw [VV, rowL, next_ok2 (by omega) hl, IsRow_loop hl r (i + 1) (by omega)]
    split <;> rfl
theorem IsRowY_ok {l : List zf} (hl : l.length ≤ 9223372036854775807) : zBY l = some (if (l.length : Int) < 4 then false else rowL l l 0) := by
  unfold zBY
  rw [IsRow_loop hl l 0 (by omega)]
  split
  · rename_i h; rw [if_pos (by simpa using h)]
  · rename_i h; rw [if_neg (by simpa using h)]
theorem area2_loop {l : List zf} (hl : l.length ≤ 2000) : ∀ (suf pre : List zf) (m : Nat), l = pre ++ suf → suf.length < m → JC l m (pre.length : Int) = some (if rowL l suf pre.length then 0 else 3)
  | [], pre, m, he, hm => by
    obtain ⟨m, rfl⟩ : ∃ k, m = k + 1 := ⟨m - 1, by omega⟩
    rw [JC]
    rw [show decide ((pre.length : Int) < (l.length : Int)) = false from decide_eq_false (by rw [he]; simp)]
    rfl
  | x :: r, pre, m, he, hm => by
    obtain ⟨m, rfl⟩ : ∃ k, m = k + 1 := ⟨m - 1, by simp at hm; omega⟩
    simp at hm
    have hlen : l.length = pre.length + (r.length + 1) := by rw [he]; simp
    rw [JC]
    rw [show decide ((pre.length : Int) < (l.length : Int)) = true from decide_eq_true (by omega), if_pos rfl]
    rw [show idx l (pre.length : Int) = some x by rw [he]; exact Vb _ _ _, Option.bind_some, next_ok2 (by omega) (by omega), rowL]
    split
    · simp
    · have hx := zDF pre x (by omega)
      rw [hx, area2_loop hl r (pre ++ [x]) m (by rw [he]; simp) (by omega)]
      simp
def areaT (l : List zf) : Int := if 2000 < (l.length : Int) then 2 else if (l.length : Int) < 4 then 3 else if rowL l l 0 then 0 else 3
theorem area1_loop {N : Nat} (hN : 3000 ≤ N) {l : List zf} {u : Int} (hu : 1 ≤ u ∧ u ≤ 1000) (hl : l.length ≤ 9223372036854775807) : ∀ (suf pre : List zf) (m : Nat), l = pre ++ suf → suf.length < m →
    JD N l u m (pre.length : Int) = some (if suf.any (fun q => !zCu q u) then 1 else areaT l)
  | [], pre, m, he, hm => by
    obtain ⟨m, rfl⟩ : ∃ k, m = k + 1 := ⟨m - 1, by omega⟩
    rw [JD]
    rw [show decide ((pre.length : Int) < (l.length : Int)) = false from decide_eq_false (by rw [he]; simp)]
    simp only [Bool.false_eq_true, if_false, List.any_nil, areaT]
    by_cases h1 : 2000 < (l.length : Int)
    · rw [if_pos (decide_eq_true h1), if_pos h1]
    · rw [if_neg (by simpa using h1), if_neg h1]
      by_cases h2 : (l.length : Int) < 4
      · rw [if_pos (decide_eq_true h2), if_pos h2]
      · rw [if_neg (by simpa using h2), if_neg h2]
        exact area2_loop (by omega) l [] N rfl (by omega)
  | x :: r, pre, m, he, hm => by
    obtain ⟨m, rfl⟩ : ∃ k, m = k + 1 := ⟨m - 1, by simp at hm; omega⟩
    simp at hm
    have hlen : l.length = pre.length + (r.length + 1) := by rw [he]; simp
    rw [JD]
    rw [show decide ((pre.length : Int) < (l.length : Int)) = true from decide_eq_true (by omega), if_pos rfl]
    rw [show idx l (pre.length : Int) = some x by rw [he]; exact Vb _ _ _, Option.bind_some, zG1 hu, Option.bind_some]
    cases hf : zCu x u
    · simp [hf]
    · rw [if_neg (by simp), zDF pre x (by omega), area1_loop hN hu hl r (pre ++ [x]) m (by rw [he]; simp) (by omega)]
      simp [hf]
theorem area_ok {N : Nat} {l : List zf} {u : Int} (hu : 1 ≤ u ∧ u ≤ 1000) (hl : l.length ≤ 9223372036854775807) (hN : 3000 ≤ N) (hN2 : l.length < N) : Vm N l u = some (if l.any (fun q => !zCu q u) then 1 else areaT l) :=
  area1_loop hN hu hl l [] N rfl hN2
theorem contains_ok {p : QN} {l : List zf} (hu : 1 ≤ p.Unit ∧ p.Unit ≤ 1000) : KX l (fun z0 => Ki z0 p) = some (l.any (fun q => !zCu q p.Unit)) := by
  have key : ∀ (l : List zf) (i : Nat), JM (fun z0 => Ki z0 p) l i = some (zG8 (fun q => !zCu q p.Unit) l (i : Int)) := by
    intro l
    induction l with
    | nil => intro i; rfl
    | cons x r ih =>
      intro i
      rw [JM, zG8, ih]
      have e : Ki x p = some (!zCu x p.Unit) := by
        unfold Ki
        rw [zJw hu]; rfl
      rw [e, Option.bind_some]
      split <;> rfl
  unfold KX Vw
  rw [key, Option.bind_some]
  exact congrArg some (ixOf_any _ l 0 (by omega))
def fieldsB (s : zD) : Bool :=
  (((s.Kind == 3 || sEq s.Name (⟨#[]⟩ : ByteArray)) && ((s.Kind == 4 || s.Kind == 5 || s.Kind == 6 || s.Kind == 8) || JP s.At ⟨0, 0⟩)) && (s.Kind == 7 || (s.Points.length : Int) == 0)) && (s.Kind == 8 || ((s.NX == 0 && s.NY == 0) && (s.Steps.length : Int) == 0))
theorem fieldsOf_ok (k : Int) : zAq k = some ⟨k == 3, k == 4 || k == 5 || k == 6 || k == 8, k == 7, k == 8⟩ := by
  unfold zAq VU
  by_cases h3 : k = 3
  · subst h3; rfl
  by_cases h4 : k = 4
  · subst h4; rfl
  by_cases h5 : k = 5
  · subst h5; rfl
  by_cases h6 : k = 6
  · subst h6; rfl
  by_cases h7 : k = 7
  · subst h7; rfl
  by_cases h8 : k = 8
  · subst h8; rfl
  simp [h3, h4, h5, h6, h7, h8]
theorem fields_ok (s : zD) : Vg s = some (fieldsB s) := by
  unfold Vg Jq JJ fieldsB
  generalize s.Kind = k
  by_cases h3 : k = 3
  · subst h3; rfl
  by_cases h4 : k = 4
  · subst h4; rfl
  by_cases h5 : k = 5
  · subst h5; rfl
  by_cases h6 : k = 6
  · subst h6; rfl
  by_cases h7 : k = 7
  · subst h7; rfl
  by_cases h8 : k = 8
  · subst h8; rfl
  have b3 : (k == 3) = false := by simpa using h3
  have b4 : (k == 4) = false := by simpa using h4
  have b5 : (k == 5) = false := by simpa using h5
  have b6 : (k == 6) = false := by simpa using h6
  have b7 : (k == 7) = false := by simpa using h7
  have b8 : (k == 8) = false := by simpa using h8
  simp only [b3, b4, b5, b6, b7, b8, Bool.false_or, Bool.false_eq_true, if_false]
def repE (s : zD) (d : Int) : Int :=
  if (!(decide (1 ≤ s.NX) && decide (s.NX ≤ 100))) || (!(decide (1 ≤ s.NY) && decide (s.NY ≤ 100))) then 1 else if (s.Steps.length : Int) = 0 then 9 else if 5 ≤ d then 2 else 0
def zJc (p : QN) (s : zD) (d : Int) : Int :=
  if !(decide (1 ≤ s.Kind) && decide (s.Kind ≤ 8)) then 4 else if !fieldsB s then 3 else if s.Kind == 3 && decide (toolN s.Name p.Tools < 0) then 5 else if !zCu s.At p.Unit then 1
  else if s.Kind == 7 then (if s.Points.any (fun q => !zCu q p.Unit) then 1 else areaT s.Points) else if s.Kind == 8 then repE s d else 0
theorem checkStepR_ok {N : Nat} {p : QN} {s : zD} {d : Int} (hu : 1 ≤ p.Unit ∧ p.Unit ≤ 1000) (ht : p.Tools.length ≤ 2000) (hl : s.Points.length ≤ 9223372036854775807) (hN : 3000 ≤ N) (hN2 : s.Points.length < N) : VE N p s d = some (zJc p s d) := by
  unfold VE zJc
  have hw : ∀ a b c : Int, QW a b c = some (decide (b ≤ a) && decide (a ≤ c)) := fun _ _ _ => rfl
  simp only [hw, Option.bind_some, fields_ok, tool_ok _ hN ht, zG1 hu, area_ok hu hl hN hN2, Ju]
  by_cases hk : (decide (1 ≤ s.Kind) && decide (s.Kind ≤ 8)) = true
  · simp only [hk, Bool.not_true, Bool.false_eq_true, if_false]
    cases hf : fieldsB s
    · simp
    · simp only [Bool.not_true, Bool.false_eq_true, if_false]
      by_cases h3 : s.Kind = 3
      · simp only [h3]
        cases hd : decide (toolN s.Name p.Tools < 0) <;> simp [hd]
        cases zCu s.At p.Unit <;> simp
      · have h3' : (s.Kind == 3) = false := by simpa using h3
        simp only [h3', Bool.false_eq_true, if_false, Option.bind_some, Bool.false_and]
        cases zCu s.At p.Unit
        · simp
        · simp only [Bool.not_true, Bool.false_eq_true, if_false]
          by_cases h7 : s.Kind = 7
          · simp [h7]
          · have h7' : (s.Kind == 7) = false := by simpa using h7
            simp only [h7', Bool.false_eq_true, if_false]
            by_cases h8 : s.Kind = 8
            · simp only [h8, beq_self_eq_true, if_true, repE]
              cases (decide (1 ≤ s.NX) && decide (s.NX ≤ 100))
              · simp
              · simp only [Bool.not_true, Bool.false_eq_true, if_false, Option.bind_some, Bool.false_or]
                cases (decide (1 ≤ s.NY) && decide (s.NY ≤ 100))
                · simp
                · simp only [Bool.not_true, Bool.false_eq_true, if_false]
                  by_cases h0 : (s.Steps.length : Int) = 0
                  · rw [if_pos (beq_iff_eq.2 h0), if_pos h0]
                  · rw [if_neg (fun h => h0 (beq_iff_eq.1 h)), if_neg h0]
                    by_cases h5 : 5 ≤ d
                    · rw [if_pos (decide_eq_true h5), if_pos h5]
                    · rw [if_neg (by simpa using h5), if_neg h5]
            · have h8' : (s.Kind == 8) = false := by simpa using h8
              simp only [h8', Bool.false_eq_true, if_false]
  · have hk' : (decide (1 ≤ s.Kind) && decide (s.Kind ≤ 8)) = false := by simpa using hk
    simp [hk']
theorem J1_join (p0 : QN) (p1 : zD) (p2 : Int) (y : zCi) (a b c d : Bool) : (if a = true then Qy p0 p1 p2 y a else if b = true then Qy p0 p1 p2 y b else if c = true then Qy p0 p1 p2 y c else Qy p0 p1 p2 y d) = Qy p0 p1 p2 y (a || b || c || d) := by
  cases a <;> cases b <;> cases c <;> cases d <;> rfl
theorem checkStep_ok {p : QN} {s : zD} {d : Int} (hu : 1 ≤ p.Unit ∧ p.Unit ≤ 1000) (hl : s.Points.length ≤ 9223372036854775807) : zAW p s d = some (zJc p s d) := by
  unfold zAW zJc
  have hw : ∀ a b c : Int, VO a b c = some (decide (b ≤ a) && decide (a ≤ c)) := fun _ _ _ => rfl
  rw [hw, Option.bind_some, fieldsOf_ok]
  by_cases hk : (decide (1 ≤ s.Kind) && decide (s.Kind ≤ 8)) = true
  · simp only [hk, Bool.not_true, Bool.false_eq_true, if_false, Option.bind_some]
    rw [J1_join]
    have hf : (!(s.Kind == 3) && !sEq s.Name (⟨#[]⟩ : ByteArray) || !(s.Kind == 4 || s.Kind == 5 || s.Kind == 6 || s.Kind == 8) && !JP s.At ⟨0, 0⟩ || !(s.Kind == 7) && decide (0 < (s.Points.length : Int)) || !(s.Kind == 8) && (s.NX != 0 || s.NY != 0 || decide (0 < (s.Steps.length : Int)))) = !fieldsB s := by
      unfold fieldsB
      have e1 : decide (0 < (s.Points.length : Int)) = !((s.Points.length : Int) == 0) := by rw [Bool.eq_iff_iff]; simp only [decide_eq_true_eq, Bool.not_eq_true', beq_eq_false_iff_ne, ne_eq]; omega
      have e2 : decide (0 < (s.Steps.length : Int)) = !((s.Steps.length : Int) == 0) := by rw [Bool.eq_iff_iff]; simp only [decide_eq_true_eq, Bool.not_eq_true', beq_eq_false_iff_ne, ne_eq]; omega
      rw [e1, e2]
      simp only [bne, Bool.not_and, Bool.not_or]
    rw [hf]
    unfold Qy
    simp only [toolAt_ok, zJw hu, contains_ok hu, IsRowY_ok hl, Option.bind_some, hw]
    cases hfb : fieldsB s
    · simp
    · simp only [Bool.not_true, Bool.false_eq_true, if_false]
      have hpt : s.Kind ≠ 7 → s.Points = [] := by
        intro h7
        unfold fieldsB at hfb
        simp only [Bool.and_eq_true, Bool.or_eq_true, beq_iff_eq] at hfb
        have := hfb.1.2.resolve_left h7
        exact List.eq_nil_of_length_eq_zero (by omega)
      by_cases h3 : s.Kind = 3
      · have hp := hpt (by omega)
        simp only [h3, hp, beq_self_eq_true, if_true, Option.bind_some]
        cases hd : decide (toolN s.Name p.Tools < 0) <;> simp [hd]
        cases zCu s.At p.Unit <;> simp
      · have h3' : (s.Kind == 3) = false := by simpa using h3
        simp only [h3', Bool.false_eq_true, if_false, Option.bind_some, Bool.false_and]
        cases zCu s.At p.Unit
        · simp
        · simp only [Bool.not_true, Bool.false_eq_true, if_false, Option.bind_some]
          by_cases h7 : s.Kind = 7
          · simp only [h7, beq_self_eq_true, if_true]
            cases s.Points.any (fun q => !zCu q p.Unit)
            · simp only [Bool.false_eq_true, if_false, areaT]
              by_cases h1 : 2000 < (s.Points.length : Int)
              · rw [if_pos (decide_eq_true h1), if_pos h1]
              · rw [if_neg (by simpa using h1), if_neg h1]
                by_cases h2 : (s.Points.length : Int) < 4
                · simp [h2]
                · simp only [h2, if_false]
                  cases rowL s.Points s.Points 0 <;> simp
            · simp
          · have h7' : (s.Kind == 7) = false := by simpa using h7
            have hp := hpt h7
            simp only [h7', hp, Bool.false_eq_true, if_false, List.any_nil, List.length_nil, Option.bind_some]
            by_cases h8 : s.Kind = 8
            · simp only [h8, beq_self_eq_true, if_true, repE]
              cases (decide (1 ≤ s.NX) && decide (s.NX ≤ 100))
              · simp
              · simp only [Bool.not_true, Bool.false_eq_true, if_false, Option.bind_some, Bool.false_or]
                cases (decide (1 ≤ s.NY) && decide (s.NY ≤ 100))
                · simp
                · simp only [Bool.not_true, Bool.false_eq_true, if_false]
                  rw [if_neg (by simp)]
                  by_cases h0 : (s.Steps.length : Int) = 0
                  · rw [if_pos (beq_iff_eq.2 h0), if_pos h0]
                  · rw [if_neg (fun h => h0 (beq_iff_eq.1 h)), if_neg h0]
                    by_cases h5 : 5 ≤ d
                    · rw [if_pos (decide_eq_true h5), if_pos h5]
                    · rw [if_neg (by simpa using h5), if_neg h5]
            · have h8' : (s.Kind == 8) = false := by simpa using h8
              simp [h8']
  · have hk' : (decide (1 ≤ s.Kind) && decide (s.Kind ≤ 8)) = false := by simpa using hk
    simp [hk']
mutual
def zJb : zD → Nat
  | ⟨_, n, _, ps, _, _, l⟩ => 1 + n.size + ps.length + Vu l
def Vu : List zD → Nat
  | [] => 0
  | x :: l => zJb x + Vu l
end
mutual
def ndStep : zD → Nat
  | ⟨_, _, _, _, _, _, l⟩ => 1 + zBz l
def zBz : List zD → Nat
  | [] => 0
  | x :: l => ndStep x + zBz l
end
theorem zEI (x : zD) : zJb x = 1 + x.Name.size + x.Points.length + Vu x.Steps := by cases x; rw [zJb]
theorem ndStep_eq (x : zD) : ndStep x = 1 + zBz x.Steps := by cases x; rw [ndStep]
theorem szSteps_nil : Vu [] = 0 := by rw [Vu]
theorem zGq (x : zD) (l : List zD) : Vu (x :: l) = zJb x + Vu l := by rw [Vu]
theorem ndSteps_nil : zBz [] = 0 := by rw [zBz]
theorem ndSteps_cons (x : zD) (l : List zD) : zBz (x :: l) = ndStep x + zBz l := by rw [zBz]
theorem zCl {x : zD} : ∀ {l : List zD}, x ∈ l → zJb x ≤ Vu l
  | y :: l, h => by
    rw [zGq]
    rcases List.mem_cons.1 h with h | h
    · subst h; omega
    · have := zCl h; omega
theorem zDp : ∀ (l : List zD), l.length ≤ Vu l
  | [] => by simp
  | x :: l => by
    have := zDp l
    have := zEI x
    rw [zGq, List.length_cons]; omega
def J64 (n : Int) : Prop := -9223372036854775808 ≤ n ∧ n ≤ 9223372036854775807
mutual
def zFh : zD → Prop
  | ⟨_, n, a, ps, nx, ny, l⟩ => n.size ≤ 9223372036854775807 ∧ (J64 a.X ∧ J64 a.Y) ∧ (ps.length ≤ 9223372036854775807 ∧ ∀ q ∈ ps, J64 q.X ∧ J64 q.Y) ∧ (J64 nx ∧ J64 ny) ∧ l.length ≤ 9223372036854775807 ∧ zDH l
def zDH : List zD → Prop
  | [] => True
  | x :: l => zFh x ∧ zDH l
end
theorem zF2 (x : zD) : zFh x ↔ x.Name.size ≤ 9223372036854775807 ∧ (J64 x.At.X ∧ J64 x.At.Y) ∧ (x.Points.length ≤ 9223372036854775807 ∧ ∀ q ∈ x.Points, J64 q.X ∧ J64 q.Y) ∧ (J64 x.NX ∧ J64 x.NY) ∧ x.Steps.length ≤ 9223372036854775807 ∧ zDH x.Steps := by cases x; rw [zFh]
theorem lenL_cons (x : zD) (l : List zD) : zDH (x :: l) ↔ zFh x ∧ zDH l := by rw [zDH]
theorem zEM {x : zD} : ∀ {l : List zD}, zDH l → x ∈ l → zFh x
  | y :: l, h, hm => by
    rw [lenL_cons] at h
    rcases List.mem_cons.1 hm with e | e
    · subst e; exact h.1
    · exact zEM h.2 e
theorem lenL_of {l : List zD} (h : ∀ x ∈ l, zFh x) : zDH l := by
  induction l with
  | nil => rw [zDH]; trivial
  | cons x l ih => rw [lenL_cons]; exact ⟨h x List.mem_cons_self, ih (fun y hy => h y (List.mem_cons_of_mem _ hy))⟩
def tm (n : Int) : Int := if 1 ≤ n ∧ n ≤ 100 then n else 1
theorem tm_bd (n : Int) : 1 ≤ tm n ∧ tm n ≤ 100 := by unfold tm; split <;> omega
theorem times1_ok (n : Int) : zAS n = some (tm n) := by
  unfold zAS tm
  have hw : VO n 1 100 = some (decide (1 ≤ n) && decide (n ≤ 100)) := rfl
  rw [hw, Option.bind_some]
  by_cases h : 1 ≤ n ∧ n ≤ 100
  · rw [if_pos h, if_pos (by simpa using h)]
  · rw [if_neg h, if_neg (by simpa using h)]
theorem tm_mul (a b : Int) : 1 ≤ tm a * tm b ∧ tm a * tm b ≤ 10000 := by
  have h1 := tm_bd a
  have h2 := tm_bd b
  generalize tm a = x at *
  generalize tm b = y at *
  constructor
  · have := Int.mul_le_mul h1.1 h2.1 (by omega) (by omega); omega
  · have := Int.mul_le_mul h1.2 h2.2 (by omega) (by omega); omega
theorem times_ok (s : zD) : zCF s = some (tm s.NX * tm s.NY) := by
  have := tm_mul s.NX s.NY
  unfold zCF
  rw [times1_ok, times1_ok, Option.bind_some, Option.bind_some, Ka (by omega) (by omega)]
def CountAs (recp recr : List zD → Option Int) (l : List zD) : Prop := ∃ c, recp l = some c ∧ recr l = some c ∧ 0 ≤ c ∧ c ≤ 3001 ∧ (l = [] → c = 0) ∧ (c ≤ 3000 → (zBz l : Int) ≤ c)
theorem count_loop {recp recr : List zD → Option Int} : ∀ (suf pre : List zD) (i m : Nat) (x : Int), 0 ≤ x → x ≤ 3000 → (∀ s ∈ suf, CountAs recp recr s.Steps) → suf.length < m → (pre ++ suf).length ≤ 9223372036854775807 →
    ∃ r, Jt recp suf i x = some r ∧ QA (pre ++ suf) recr m x (pre.length : Int) = some r ∧ 0 ≤ r ∧ r ≤ 3001 ∧ (suf = [] → r = x) ∧ (r ≤ 3000 → x + (zBz suf : Int) ≤ r)
  | [], pre, i, m, x, h0, h1, _, hm, hl => by
    obtain ⟨m, rfl⟩ : ∃ k, m = k + 1 := ⟨m - 1, by omega⟩
    refine ⟨x, rfl, ?_, h0, by omega, fun _ => rfl, fun _ => by rw [ndSteps_nil]; simp⟩
    rw [QA, zEu, Bool.false_and, if_neg (by simp)]
    congr 1
    omega
  | s :: l, pre, i, m, x, h0, h1, hc, hm, hl => by
    obtain ⟨m, rfl⟩ : ∃ k, m = k + 1 := ⟨m - 1, by simp at hm; omega⟩
    obtain ⟨c, c1, c2, c3, c4, c5, c6⟩ := hc s List.mem_cons_self
    simp at hm hl
    have ht := tm_mul s.NX s.NY
    have hx := tm_bd s.NX
    have hy := tm_bd s.NY
    have hpc : 0 ≤ tm s.NX * tm s.NY * c ∧ tm s.NX * tm s.NY * c ≤ 30010000 ∧ c ≤ tm s.NX * tm s.NY * c := by
      generalize tm s.NX * tm s.NY = t at *
      refine ⟨Int.mul_nonneg (by omega) c3, ?_, ?_⟩
      · have := Int.mul_le_mul ht.2 c4 c3 (by omega); omega
      · have := Int.mul_le_mul_of_nonneg_right ht.1 c3; omega
    have hR : QA (pre ++ s :: l) recr (m + 1) x (pre.length : Int) = QA (pre ++ s :: l) recr m (x + 1 + tm s.NX * tm s.NY * c) ((pre ++ [s]).length : Int) := by
      have hw : ∀ n : Int, QW n 1 100 = some (decide (1 ≤ n) && decide (n ≤ 100)) := fun _ => rfl
      rw [QA, zGb, Bool.true_and, if_pos (by simpa using h1), Vb, Option.bind_some, hw, Option.bind_some]
      have key6 : ∀ a b : Int, a = tm s.NX → b = tm s.NY → Jz (pre ++ s :: l) recr x (pre.length : Int) (QA (pre ++ s :: l) recr m) a b = QA (pre ++ s :: l) recr m (x + 1 + tm s.NX * tm s.NY * c) ((pre ++ [s]).length : Int) := by
        intro a b ha hb
        subst ha; subst hb
        unfold Jz
        rw [Vb, Option.bind_some, c2, Option.bind_some, zDF _ s (by omega), Ka (x := tm s.NX * tm s.NY) (by omega) (by omega), Ka (x := tm s.NX * tm s.NY * c) (by omega) (by omega), Ka (x := x + 1) (by omega) (by omega), Ka (by omega) (by omega)]
      have key7 : ∀ a : Int, a = tm s.NX → Jy (pre ++ s :: l) recr x (pre.length : Int) (QA (pre ++ s :: l) recr m) a = QA (pre ++ s :: l) recr m (x + 1 + tm s.NX * tm s.NY * c) ((pre ++ [s]).length : Int) := by
        intro a ha
        unfold Jy
        rw [Vb, Option.bind_some, hw, Option.bind_some]
        by_cases h : 1 ≤ s.NY ∧ s.NY ≤ 100
        · rw [if_pos (by simpa using h)]; exact key6 _ _ ha (by unfold tm; rw [if_pos h])
        · rw [if_neg (by simpa using h)]; exact key6 _ _ ha (by unfold tm; rw [if_neg h])
      by_cases h : 1 ≤ s.NX ∧ s.NX ≤ 100
      · rw [if_pos (by simpa using h)]; exact key7 _ (by unfold tm; rw [if_pos h])
      · rw [if_neg (by simpa using h)]; exact key7 _ (by unfold tm; rw [if_neg h])
    have hP : Jt recp (s :: l) i x = WN (Jt recp l (i + 1)) (x + 1 + tm s.NX * tm s.NY * c) := by
      rw [Jt]
      by_cases he : s.Steps = []
      · rw [if_neg (by rw [he]; simp), c5 he, Ka (by omega) (by omega)]; simp
      · have : 0 < (s.Steps.length : Int) := by
          have := List.length_pos_iff.2 he; omega
        rw [if_pos (decide_eq_true this), times_ok, Option.bind_some, c1, Option.bind_some, Ka (x := tm s.NX * tm s.NY * c) (by omega) (by omega), Ka (x := x + 1) (by omega) (by omega), Ka (by omega) (by omega)]
    rw [hP, hR]
    unfold WN
    by_cases hb : 3000 < x + 1 + tm s.NX * tm s.NY * c
    · rw [if_pos (decide_eq_true hb)]
      refine ⟨3001, rfl, ?_, by omega, by omega, fun h => (by cases h), fun h => by omega⟩
      obtain ⟨m, rfl⟩ : ∃ k, m = k + 1 := ⟨m - 1, by omega⟩
      rw [QA, if_neg (by simp; omega)]
      congr 1; omega
    · rw [if_neg (by simpa using hb), zEJ]
      obtain ⟨r, r1, r2, r3, r4, r5, r6⟩ := count_loop l (pre ++ [s]) (i + 1) m (x + 1 + tm s.NX * tm s.NY * c) (by omega) (by omega) (fun t ht => hc t (List.mem_cons_of_mem _ ht)) (by omega) (by simp; omega)
      refine ⟨r, r1, r2, r3, r4, fun h => (by cases h), fun h => ?_⟩
      have := r6 h
      have := c6 (by omega)
      rw [ndSteps_cons, ndStep_eq]
      omega
theorem count_ok : ∀ (k : Nat) (l : List zD) (N : Nat), Vu l ≤ k → k + 5 ≤ N → l.length ≤ 9223372036854775807 → zDH l → CountAs (zAi N) (KU N) l
  | k, l, N, hk, hN, hl, hA => by
    obtain ⟨N, rfl⟩ : ∃ n, N = n + 1 := ⟨N - 1, by omega⟩
    have hlen := zDp l
    have hrec : ∀ s ∈ l, CountAs (zAi N) (KU N) s.Steps := by
      intro s hs
      have h1 := zCl hs
      have h2 := zEI s
      have h3 := (zF2 s).1 (zEM hA hs)
      cases k with
      | zero => omega
      | succ k => exact count_ok k s.Steps N (by omega) (by omega) h3.2.2.2.2.1 h3.2.2.2.2.2
    obtain ⟨r, r1, r2, r3, r4, r5, r6⟩ := count_loop l [] 0 N 0 (by omega) (by omega) hrec (by omega) (by simpa using hl)
    exact ⟨r, r1, r2, r3, r4, r5, fun h => by have := r6 h; omega⟩
def goodS (nm : Nat) (s : zD) : Prop := s.Points.length ≤ 2000 ∧ s.Name.size ≤ nm
mutual
def goodT (nm : Nat) : zD → Prop
  | ⟨k, n, a, ps, nx, ny, l⟩ => goodS nm ⟨k, n, a, ps, nx, ny, l⟩ ∧ zFl nm l
def zFl (nm : Nat) : List zD → Prop
  | [] => True
  | x :: l => goodT nm x ∧ zFl nm l
end
theorem goodT_eq (nm : Nat) (x : zD) : goodT nm x ↔ goodS nm x ∧ zFl nm x.Steps := by cases x; rw [goodT]
theorem goodL_nil (nm : Nat) : zFl nm [] := by rw [zFl]; trivial
theorem goodL_cons (nm : Nat) (x : zD) (l : List zD) : zFl nm (x :: l) ↔ goodT nm x ∧ zFl nm l := by rw [zFl]
def namesOk (nm : Nat) (p : QN) : Prop := ∀ t ∈ p.Tools, t.Name.size ≤ nm
theorem toolN_mem {nm : ByteArray} {l : List zt} (h : ¬ toolN nm l < 0) : ∃ t ∈ l, t.Name = nm := by
  have : ∀ (l : List zt) (i : Int), 0 ≤ i → ¬ zG8 (fun t => sEq t.Name nm) l i < 0 → ∃ t ∈ l, t.Name = nm := by
    intro l
    induction l with
    | nil => intro i _ h; simp [zG8] at h
    | cons t l ih =>
      intro i hi h
      unfold zG8 at h
      by_cases ht : sEq t.Name nm = true
      · exact ⟨t, List.mem_cons_self, zBE.1 ht⟩
      · rw [if_neg ht] at h
        obtain ⟨x, hx, he⟩ := ih (i + 1) (by omega) h
        exact ⟨x, List.mem_cons_of_mem _ hx, he⟩
  exact this l 0 (by omega) h
theorem stepE_good {nm : Nat} {p : QN} {s : zD} {d : Int} (hp : namesOk nm p) (h : zJc p s d = 0) : goodS nm s := by
  unfold zJc at h
  split at h
  · cases h
  split at h
  · cases h
  rename_i hk hf
  have hf : fieldsB s = true := by simpa using hf
  unfold fieldsB at hf
  simp only [Bool.and_eq_true, Bool.or_eq_true, beq_iff_eq] at hf
  split at h
  · cases h
  rename_i ht
  have hname : s.Name.size ≤ nm := by
    rcases hf.1.1.1 with h3 | h3
    · simp only [h3, beq_self_eq_true, Bool.true_and, decide_eq_true_eq] at ht
      obtain ⟨t, h1, h2⟩ := toolN_mem ht
      rw [← h2]; exact hp t h1
    · rw [zBE.1 h3]; exact Nat.zero_le _
  split at h
  · cases h
  refine ⟨?_, hname⟩
  rcases hf.1.2 with h7 | h7
  · simp only [h7, beq_self_eq_true, if_true] at h
    split at h
    · cases h
    · unfold areaT at h
      split at h
      · cases h
      · omega
  · omega
def ErrAs (p : QN) (nm : Nat) (recp recr : QN → List zD → Int → Option Int) (l : List zD) (d : Int) : Prop := ∃ e, recp p l d = some e ∧ recr p l d = some e ∧ (e = 0 → zFl nm l)
theorem zFQ {nm N : Nat} {p : QN} {d : Int} (hN : 3000 ≤ N) (hu : 1 ≤ p.Unit ∧ p.Unit ≤ 1000) (ht : p.Tools.length ≤ 2000) (hp : namesOk nm p) {recp recr : QN → List zD → Int → Option Int} : ∀ (suf pre : List zD) (i m : Nat),
    (∀ s ∈ suf, ErrAs p nm recp recr s.Steps (w64 (d + 1))) → (∀ s ∈ suf, s.Points.length ≤ 9223372036854775807 ∧ s.Points.length < N) → suf.length < m → (pre ++ suf).length ≤ 9223372036854775807 →
    ∃ e, KO p d recp suf i = some e ∧ Qx N p (pre ++ suf) d recr m (pre.length : Int) = some e ∧ (e = 0 → zFl nm suf)
  | [], pre, i, m, _, _, hm, hl => by
    obtain ⟨m, rfl⟩ : ∃ k, m = k + 1 := ⟨m - 1, by omega⟩
    refine ⟨0, rfl, ?_, fun _ => goodL_nil nm⟩
    rw [Qx, zEu, if_neg (by simp)]
  | s :: l, pre, i, m, hr, hs, hm, hl => by
    obtain ⟨m, rfl⟩ : ∃ k, m = k + 1 := ⟨m - 1, by simp at hm; omega⟩
    obtain ⟨e, e1, e2, e3⟩ := hr s List.mem_cons_self
    obtain ⟨s1, s2⟩ := hs s List.mem_cons_self
    simp at hm hl
    rw [KO, Qx, zGb, if_pos rfl, Vb, Option.bind_some, checkStep_ok hu s1, checkStepR_ok hu ht s1 hN s2, Option.bind_some, Option.bind_some]
    by_cases h0 : zJc p s d = 0
    · rw [if_neg (by simp [h0]), if_neg (by simp [h0]), Option.bind_some, e1, e2, Option.bind_some, Option.bind_some]
      by_cases h1 : e = 0
      · subst h1
        rw [if_neg (by simp), if_neg (by simp), zDF _ s (by omega), zEJ]
        obtain ⟨r, r1, r2, r3⟩ := zFQ hN hu ht hp l (pre ++ [s]) (i + 1) m (fun x hx => hr x (List.mem_cons_of_mem _ hx)) (fun x hx => hs x (List.mem_cons_of_mem _ hx)) (by omega) (by simp; omega)
        exact ⟨r, r1, r2, fun h => (goodL_cons _ _ _).2 ⟨(goodT_eq _ _).2 ⟨stepE_good hp h0, e3 rfl⟩, r3 h⟩⟩
      · rw [if_pos (by simpa using h1), if_pos (by simpa using h1)]
        exact ⟨e, rfl, rfl, fun h => absurd h h1⟩
    · rw [if_pos (by simpa using h0), if_pos (by simpa using h0)]
      exact ⟨_, rfl, rfl, fun h => absurd h h0⟩
set_option maxRecDepth 100000 in
theorem zGL {nm : Nat} {p : QN} (hu : 1 ≤ p.Unit ∧ p.Unit ≤ 1000) (ht : p.Tools.length ≤ 2000) (hp : namesOk nm p) : ∀ (k : Nat) (l : List zD) (N : Nat) (d : Int), Vu l ≤ k → k + 3001 ≤ N → l.length ≤ 9223372036854775807 → zDH l →
    ErrAs p nm (Ve N) (Jk N) l d
  | k, l, N, d, hk, hN, hl, hA => by
    obtain ⟨N, rfl⟩ : ∃ n, N = n + 1 := ⟨N - 1, by omega⟩
    have hlen := zDp l
    have hrec : ∀ s ∈ l, ErrAs p nm (Ve N) (Jk N) s.Steps (w64 (d + 1)) := by
      intro s hs
      have h1 := zCl hs
      have h2 := zEI s
      have h3 := (zF2 s).1 (zEM hA hs)
      cases k with
      | zero => omega
      | succ k => exact zGL hu ht hp k s.Steps N _ (by omega) (by omega) h3.2.2.2.2.1 h3.2.2.2.2.2
    exact zFQ (by omega) hu ht hp l [] 0 N hrec (fun s hs => by
      have h1 := zCl hs
      have h2 := zEI s
      have h3 := (zF2 s).1 (zEM hA hs)
      exact ⟨h3.2.2.1.1, by omega⟩) (by omega) (by simpa using hl)
structure GoodP (p : QN) : Prop where
  unit : 1 ≤ p.Unit ∧ p.Unit ≤ 1000
  few : p.Tools.length ≤ 200
  tools : ∀ t ∈ p.Tools, t.Name.size ≤ 40 ∧ t.Rects.length ≤ 2000
  steps : zFl 40 p.Steps
  nd : zBz p.Steps ≤ 3000
structure LenP (p : QN) : Prop where
  unit : J64 p.Unit
  tools : ∀ t ∈ p.Tools, t.Name.size ≤ 9223372036854775807 ∧ ∀ r ∈ t.Rects, (J64 r.X0 ∧ J64 r.Y0) ∧ J64 r.X1 ∧ J64 r.Y1
  sl : p.Steps.length ≤ 9223372036854775807
  steps : zDH p.Steps
def zFx : List zt → Nat
  | [] => 0
  | t :: l => 1 + t.Name.size + zFx l
theorem zIP {t : zt} : ∀ {l : List zt}, t ∈ l → t.Name.size < zFx l
  | x :: l, h => by
    rw [zFx]
    rcases List.mem_cons.1 h with e | e
    · subst e; omega
    · have := zIP e; omega
def Fu (p : QN) (N : Nat) : Prop := Vu p.Steps + zFx p.Tools + 10000 ≤ N
theorem toolE_good {t : zt} {u : Int} (h : zGp t u = 0) : t.Rects.length ≤ 2000 := by
  unfold zGp at h
  split at h
  · cases h
  split at h
  · cases h
  · omega
theorem check_end {N : Nat} {p : QN} (hN : Fu p N) (hL : LenP p) (hu : 1 ≤ p.Unit ∧ p.Unit ≤ 1000) (ht : p.Tools.length ≤ 200) (hp : ∀ t ∈ p.Tools, t.Name.size ≤ 40 ∧ t.Rects.length ≤ 2000) :
    ∃ e, ((zAi N p.Steps).bind fun y112 => if (decide (3000 < y112)) then some 2 else (Ve N p p.Steps 0).bind fun y113 => some y113) = some e ∧
      ((KU N p.Steps).bind fun y112 => if (decide (3000 < y112)) then some 2 else (Jk N p p.Steps 0).bind fun y113 => some y113) = some e ∧ (e = 0 → GoodP p) := by
  unfold Fu at hN
  obtain ⟨c, c1, c2, c3, c4, c5, c6⟩ := count_ok (Vu p.Steps) p.Steps N (Nat.le_refl _) (by omega) hL.sl hL.steps
  rw [c1, c2, Option.bind_some, Option.bind_some]
  by_cases hc : 3000 < c
  · rw [if_pos (decide_eq_true hc), if_pos (decide_eq_true hc)]
    exact ⟨2, rfl, rfl, fun h => by cases h⟩
  · rw [if_neg (by simpa using hc), if_neg (by simpa using hc)]
    obtain ⟨e, e1, e2, e3⟩ := zGL (nm := 40) (p := p) hu (by omega) (fun t h => (hp t h).1) (Vu p.Steps) p.Steps N 0 (Nat.le_refl _) (by omega) hL.sl hL.steps
    rw [e1, e2]
    exact ⟨e, rfl, rfl, fun h => ⟨hu, ht, hp, e3 h, by have := c6 (by omega); omega⟩⟩
theorem check_loop {N : Nat} {p : QN} (hN : Fu p N) (hL : LenP p) (hu : 1 ≤ p.Unit ∧ p.Unit ≤ 1000) (ht : p.Tools.length ≤ 200) : ∀ (suf pre : List zt) (m : Nat), p.Tools = pre ++ suf → (∀ t ∈ pre, t.Name.size ≤ 40 ∧ t.Rects.length ≤ 2000) → suf.length < m →
    ∃ e, Jo N p suf pre.length = some e ∧ Qo N p m (pre.length : Int) = some e ∧ (e = 0 → GoodP p)
  | [], pre, m, he, hp, hm => by
    obtain ⟨m, rfl⟩ : ∃ k, m = k + 1 := ⟨m - 1, by omega⟩
    rw [Jo, Qo, show decide ((pre.length : Int) < (p.Tools.length : Int)) = false from decide_eq_false (by rw [he]; simp), if_neg (by simp)]
    exact check_end hN hL hu ht (fun t h => hp t (by rw [he] at h; simpa using h))
  | t :: l, pre, m, he, hp, hm => by
    obtain ⟨m, rfl⟩ : ∃ k, m = k + 1 := ⟨m - 1, by simp at hm; omega⟩
    simp at hm
    have hlen : p.Tools.length = pre.length + (l.length + 1) := by rw [he]; simp
    have hmem : t ∈ p.Tools := by rw [he]; simp
    have hsz := zIP hmem
    have hN' := hN
    unfold Fu at hN'
    obtain ⟨b, b1, b2, b3⟩ := IsName_ok (N := N) (hL.tools t hmem).1 (by omega)
    rw [Jo, Qo, show decide ((pre.length : Int) < (p.Tools.length : Int)) = true from decide_eq_true (by omega), if_pos rfl, show idx p.Tools (pre.length : Int) = some t by rw [he]; exact Vb _ _ _,
      Option.bind_some, checkTool_ok hu b1, Option.bind_some, b2, Option.bind_some]
    cases b
    · exact ⟨5, rfl, rfl, fun h => by cases h⟩
    simp only [if_true, Bool.not_true, Bool.false_eq_true, if_false]
    rw [zHU hu (by omega), Option.bind_some]
    by_cases h0 : zGp t p.Unit = 0
    · have hz0 : (zGp t p.Unit != 0) = false := by simp [h0]
      simp only [hz0, Bool.false_eq_true, if_false]
      have hgo : ∃ e, Jo N p l (pre.length + 1) = some e ∧ Qo N p m (w64 ((pre.length : Int) + 1)) = some e ∧ (e = 0 → GoodP p) := by
        have := check_loop hN hL hu ht l (pre ++ [t]) m (by rw [he]; simp) (fun x hx => by
          rcases List.mem_append.1 hx with h | h
          · exact hp x h
          · simp at h; subst h; exact ⟨b3 rfl, toolE_good h0⟩) (by omega)
        rw [zDF _ t (by omega)]
        simpa using this
      by_cases hz : pre = []
      · subst hz
        simpa using hgo
      · have hpos : 0 < (pre.length : Int) := by
          have := List.length_pos_iff.2 hz; omega
        simp only [decide_eq_true hpos, if_true]
        rw [Ka (x := (pre.length : Int) - 1) (by omega) (by omega)]
        obtain ⟨x, hx, _⟩ := idx_lt (l := p.Tools) (i := (pre.length : Int) - 1) (by omega) (by omega)
        simp only [hx, Option.bind_some]
        split
        · exact ⟨8, rfl, rfl, fun h => by cases h⟩
        · exact hgo
    · have hz0 : (zGp t p.Unit != 0) = true := by simpa using h0
      simp only [hz0, if_true]
      exact ⟨_, rfl, rfl, fun h => absurd h h0⟩
theorem CheckPlot_ok {N : Nat} {p : QN} (hN : Fu p N) (hL : LenP p) : ∃ e, KH N p = some e ∧ JK N p = some e ∧ (e = 0 → GoodP p) := by
  have hw : VO p.Unit 1 1000 = some (decide (1 ≤ p.Unit) && decide (p.Unit ≤ 1000)) := rfl
  have hw2 : QW p.Unit 1 1000 = some (decide (1 ≤ p.Unit) && decide (p.Unit ≤ 1000)) := rfl
  unfold KH JK
  rw [hw, hw2, Option.bind_some, Option.bind_some]
  by_cases hu : 1 ≤ p.Unit ∧ p.Unit ≤ 1000
  · have e : (decide (1 ≤ p.Unit) && decide (p.Unit ≤ 1000)) = true := by simpa using hu
    simp only [e, Bool.not_true, Bool.false_eq_true, if_false]
    by_cases ht : 200 < (p.Tools.length : Int)
    · rw [if_pos (decide_eq_true ht), if_pos (decide_eq_true ht)]
      exact ⟨2, rfl, rfl, fun h => by cases h⟩
    · rw [if_neg (by simpa using ht), if_neg (by simpa using ht)]
      have hN' := hN
      unfold Fu at hN'
      exact check_loop hN hL hu (by omega) p.Tools [] N rfl (fun t h => by cases h) (by omega)
  · have e : (decide (1 ≤ p.Unit) && decide (p.Unit ≤ 1000)) = false := by
      rw [Bool.eq_false_iff]; simpa using hu
    rw [e]
    exact ⟨1, rfl, rfl, fun h => by cases h⟩
theorem zGu : ∀ (suf pre : List zf) (m : Nat), suf.length < m → (pre ++ suf).length ≤ 9223372036854775807 → Qw (pre ++ suf) (pre ++ suf) m (pre.length : Int) = some true
  | [], pre, m, hm, hl => by
    obtain ⟨m, rfl⟩ : ∃ k, m = k + 1 := ⟨m - 1, by omega⟩
    rw [Qw, zEu, if_neg (by simp)]
  | q :: l, pre, m, hm, hl => by
    obtain ⟨m, rfl⟩ : ∃ k, m = k + 1 := ⟨m - 1, by simp at hm; omega⟩
    simp at hm hl
    rw [Qw, zGb, if_pos rfl, Vb, Option.bind_some, Option.bind_some, show JP q q = true from zHM.2 rfl, if_neg (by simp), zDF _ q (by omega), zEJ, zGu l (pre ++ [q]) m (by omega) (by simp; omega)]
theorem samePts_ok {N : Nat} {l : List zf} (hN : l.length < N) (hl : l.length ≤ 9223372036854775807) : Kj N l l = some true := by
  unfold Kj
  rw [if_neg (by simp)]
  exact zGu l [] N hN hl
theorem zGt : ∀ (suf pre : List VS) (m : Nat), suf.length < m → (pre ++ suf).length ≤ 9223372036854775807 → JE (pre ++ suf) (pre ++ suf) m (pre.length : Int) = some true
  | [], pre, m, hm, hl => by
    obtain ⟨m, rfl⟩ : ∃ k, m = k + 1 := ⟨m - 1, by omega⟩
    rw [JE, zEu, if_neg (by simp)]
  | q :: l, pre, m, hm, hl => by
    obtain ⟨m, rfl⟩ : ∃ k, m = k + 1 := ⟨m - 1, by simp at hm; omega⟩
    simp at hm hl
    rw [JE, zGb, if_pos rfl, Vb, Option.bind_some, Option.bind_some, show zE5 q q = true from eqTRect_iff.2 rfl, if_neg (by simp), zDF _ q (by omega), zEJ, zGt l (pre ++ [q]) m (by omega) (by simp; omega)]
theorem sameRcs_ok {N : Nat} {l : List VS} (hN : l.length < N) (hl : l.length ≤ 9223372036854775807) : VF N l l = some true := by
  unfold VF
  rw [if_neg (by simp)]
  exact zGt l [] N hN hl
theorem zGs {N : Nat} {rec : List zD → List zD → Option Bool} : ∀ (suf pre : List zD) (m : Nat), suf.length < m → (pre ++ suf).length ≤ 9223372036854775807 → (∀ x ∈ suf, x.Points.length < N ∧ x.Points.length ≤ 9223372036854775807 ∧ rec x.Steps x.Steps = some true) → JA N (pre ++ suf) (pre ++ suf) rec m (pre.length : Int) = some true
  | [], pre, m, hm, hl, h => by
    obtain ⟨m, rfl⟩ : ∃ k, m = k + 1 := ⟨m - 1, by omega⟩
    rw [JA, zEu, if_neg (by simp)]
  | x :: l, pre, m, hm, hl, h => by
    obtain ⟨m, rfl⟩ : ∃ k, m = k + 1 := ⟨m - 1, by simp at hm; omega⟩
    simp at hm hl
    obtain ⟨h1, h2, h3⟩ := h x List.mem_cons_self
    rw [JA, zGb, if_pos rfl, Vb, Option.bind_some, Option.bind_some]
    simp only [bne_self_eq_false, zBE.2 rfl, zHM.2 rfl, Bool.not_true, Bool.or_self, Bool.false_eq_true, if_false, samePts_ok h1 h2, h3, Option.bind_some]
    rw [zDF _ x (by omega), zEJ, zGs l (pre ++ [x]) m (by omega) (by simp; omega) (fun y hy => h y (List.mem_cons_of_mem _ hy))]
theorem zJg : ∀ (k : Nat) (l : List zD) (N : Nat), Vu l ≤ k → k + 5 ≤ N → l.length ≤ 9223372036854775807 → zDH l → VD N l l = some true
  | k, l, N, hk, hN, hl, hA => by
    obtain ⟨N, rfl⟩ : ∃ n, N = n + 1 := ⟨N - 1, by omega⟩
    have hlen := zDp l
    show KZ N _ l l = _
    unfold KZ
    rw [if_neg (by simp)]
    exact zGs l [] N (by omega) (by simpa using hl) (fun s hs => by
      have h1 := zCl hs
      have h2 := zEI s
      have h3 := (zF2 s).1 (zEM hA hs)
      cases k with
      | zero => omega
      | succ k => exact ⟨by omega, h3.2.2.1.1, zJg k s.Steps N (by omega) (by omega) h3.2.2.2.2.1 h3.2.2.2.2.2⟩)
theorem zIT {N : Nat} {p : QN} : ∀ (suf pre : List zt) (m : Nat), p.Tools = pre ++ suf → suf.length < m → p.Tools.length ≤ 9223372036854775807 → (∀ t ∈ suf, t.Rects.length < N ∧ t.Rects.length ≤ 9223372036854775807) → JN N p p m (pre.length : Int) = some true
  | [], pre, m, he, hm, hl, h => by
    obtain ⟨m, rfl⟩ : ∃ k, m = k + 1 := ⟨m - 1, by omega⟩
    rw [JN, if_neg (by rw [he]; simp)]
  | t :: l, pre, m, he, hm, hl, h => by
    obtain ⟨m, rfl⟩ : ∃ k, m = k + 1 := ⟨m - 1, by simp at hm; omega⟩
    simp at hm
    have hlen : p.Tools.length = pre.length + (l.length + 1) := by rw [he]; simp
    obtain ⟨h1, h2⟩ := h t List.mem_cons_self
    have hj : idx p.Tools (pre.length : Int) = some t := by rw [he]; exact Vb _ _ _
    rw [JN, if_pos (by simp; omega), hj]
    simp only [Option.bind_some, zBE.2 rfl, Bool.not_true, Bool.false_eq_true, if_false, sameRcs_ok h1 h2]
    rw [zDF _ t (by omega), zIT l (pre ++ [t]) m (by rw [he]; simp) (by omega) hl (fun y hy => h y (List.mem_cons_of_mem _ hy))]
theorem samePl_ok {N : Nat} {p : QN} (hN : Vu p.Steps + 5 ≤ N) (hs : p.Steps.length ≤ 9223372036854775807) (hL : zDH p.Steps) (ht : p.Tools.length < N) (ht2 : p.Tools.length ≤ 9223372036854775807) (hr : ∀ t ∈ p.Tools, t.Rects.length < N ∧ t.Rects.length ≤ 9223372036854775807) : KA N p p = some true := by
  unfold KA
  simp only [bne_self_eq_false, Bool.or_self, Bool.false_eq_true, if_false, zJg (Vu p.Steps) p.Steps N (Nat.le_refl _) hN hs hL, Option.bind_some, Bool.not_true]
  exact zIT p.Tools [] N rfl ht ht2 hr
theorem numV_J64 {s : ByteArray} (h : WC s = true) : J64 (zIi s) := by
  have ha := atoiF_ok h
  unfold zHW at ha
  split at ha
  · rename_i hs
    have ha : Lib.atoi (bs s) = some (zIi s) := ha
    have := Lib.atoi_bound ha (by rw [← Kr]; exact hs)
    exact ⟨by omega, by omega⟩
  · cases ha
theorem zFf {l : List ByteArray} {m : List Int} (h : nums l = some m) : ∀ n ∈ m, J64 n := by
  unfold nums at h
  split at h
  · rename_i ha
    have := Option.some.inj h; subst this
    intro n hn
    obtain ⟨s, hs, rfl⟩ := List.mem_map.1 hn
    exact numV_J64 (List.all_eq_true.1 ha s hs)
  · cases h
theorem zDy : J64 0 := ⟨by decide, by decide⟩
def FineLn : Ln → Prop
  | .unit n => J64 n
  | .tool t => t.Name.size ≤ 9223372036854775807 ∧ t.Rects.length ≤ 9223372036854775807 ∧ ∀ r ∈ t.Rects, (J64 r.X0 ∧ J64 r.Y0) ∧ J64 r.X1 ∧ J64 r.Y1
  | .step s => zFh s
  | .rep s => zFh s
  | .done => True
theorem zG2 {k : Int} {nm : ByteArray} {x y : Int} {P : List zf} {a b : Int} (h1 : nm.size ≤ 9223372036854775807) (hx : J64 x) (hy : J64 y) (hp : P.length ≤ 9223372036854775807) (hP : ∀ q ∈ P, J64 q.X ∧ J64 q.Y) (ha : J64 a) (hb : J64 b) : zFh ⟨k, nm, ⟨x, y⟩, P, a, b, []⟩ := by
  rw [zF2]
  exact ⟨h1, ⟨hx, hy⟩, ⟨hp, hP⟩, ⟨ha, hb⟩, by simp, by rw [zDH]; trivial⟩
theorem pts_fine : ∀ (m : List Int), (∀ n ∈ m, J64 n) → (pts m).length ≤ m.length ∧ ∀ q ∈ pts m, J64 q.X ∧ J64 q.Y
  | [], _ => ⟨by simp [pts], fun q h => by cases h⟩
  | [a], _ => ⟨by simp [pts], fun q h => by cases h⟩
  | a :: b :: l, h => by
    obtain ⟨h1, h2⟩ := pts_fine l (fun n hn => h n (by simp [hn]))
    refine ⟨by simp [pts]; omega, fun q hq => ?_⟩
    rw [pts] at hq
    rcases List.mem_cons.1 hq with rfl | hq
    · exact ⟨h a (by simp), h b (by simp)⟩
    · exact h2 q hq
theorem rcs_fine : ∀ (n : Nat) (m : List Int), m.length ≤ n → (∀ n ∈ m, J64 n) → (rcs m).length ≤ m.length ∧ ∀ r ∈ rcs m, (J64 r.X0 ∧ J64 r.Y0) ∧ J64 r.X1 ∧ J64 r.Y1
  | _, [], _, _ => ⟨by simp [rcs], fun q h => by cases h⟩
  | _, [a], _, _ => ⟨by simp [rcs], fun q h => by cases h⟩
  | _, [a, b], _, _ => ⟨by simp [rcs], fun q h => by cases h⟩
  | _, [a, b, c], _, _ => ⟨by simp [rcs], fun q h => by cases h⟩
  | 0, a :: b :: c :: d :: l, hn, _ => by simp at hn
  | n + 1, a :: b :: c :: d :: l, hn, h => by
    obtain ⟨h1, h2⟩ := rcs_fine n l (by simp at hn; omega) (fun n hn => h n (by simp [hn]))
    refine ⟨by simp [rcs]; omega, fun q hq => ?_⟩
    rw [rcs] at hq
    rcases List.mem_cons.1 hq with rfl | hq
    · exact ⟨⟨h a (by simp), h b (by simp)⟩, h c (by simp), h d (by simp)⟩
    · exact h2 q hq
theorem lnOf_fine {ws : List ByteArray} (hw : ∀ w ∈ ws, w.size ≤ 4294967296) (hl : ws.length ≤ 300000) {l : Ln} (h : zB0 ws = some l) : FineLn l := by
  cases ws with
  | nil => cases h
  | cons k r =>
    rw [VL] at h
    have hr : ∀ w ∈ r, w.size ≤ 4294967296 := fun w hm => hw w (List.mem_cons_of_mem _ hm)
    simp at hl
    cases hd : VC k with
    | none => rw [hd] at h; cases h
    | some d =>
      rw [hd, Option.bind_some] at h
      have e0s : e0.size ≤ 9223372036854775807 := by show (0 : Nat) ≤ _; omega
      have no : ∀ q ∈ ([] : List zf), J64 q.X ∧ J64 q.Y := fun q h => by cases h
      have stp : ∀ k : Int, zFh (st0 k) := fun k => zG2 e0s zDy zDy (by simp) no zDy zDy
      have pt : ∀ k : Int, zAw k (nums r) = some l → FineLn l := fun k h => by
        obtain ⟨x, y, e, rfl⟩ := Kc h
        have := zFf e
        show zFh _
        exact zG2 e0s (this x (by simp)) (this y (by simp)) (by simp) no zDy zDy
      cases d with
      | rept =>
        obtain ⟨a, b, c, d, e, rfl⟩ := zA8 (show zC5 (nums r) = _ from h)
        have := zFf e
        show zFh _
        exact zG2 e0s (this c (by simp)) (this d (by simp)) (by simp) no (this a (by simp)) (this b (by simp))
      | unit =>
        have h : zA7 (nums r) = some l := h
        unfold zA7 at h
        split at h
        · rename_i n e
          obtain rfl := Option.some.inj h
          exact zFf e n (by simp)
        · cases h
      | tool =>
        cases r with
        | nil => cases h
        | cons nm r2 =>
          have h : (if rowOk nm = true then zBT nm (nums r2) else none) = some l := h
          split at h
          · obtain ⟨m, e, _, rfl⟩ := zBk h
            have h1 := zFf e
            have h2 := zEL e
            obtain ⟨h3, h4⟩ := rcs_fine m.length m (Nat.le_refl _) h1
            have := hr nm (by simp)
            simp at hl
            exact ⟨by show nm.size ≤ _; omega, by show (rcs m).length ≤ _; omega, h4⟩
          · cases h
      | dark =>
        have h : (if r = [] then some (Ln.step (st0 1)) else none) = some l := h
        split at h
        · obtain rfl := Option.some.inj h; exact stp 1
        · cases h
      | clear =>
        have h : (if r = [] then some (Ln.step (st0 2)) else none) = some l := h
        split at h
        · obtain rfl := Option.some.inj h; exact stp 2
        · cases h
      | done =>
        have h : (if r = [] then some Ln.done else none) = some l := h
        split at h
        · obtain rfl := Option.some.inj h; trivial
        · cases h
      | use =>
        cases r with
        | nil => cases h
        | cons nm r2 =>
          cases r2 with
          | nil =>
            have h : (if rowOk nm = true then some (Ln.step ⟨3, nm, ⟨0, 0⟩, [], 0, 0, []⟩) else none) = some l := h
            split at h
            · obtain rfl := Option.some.inj h
              have := hr nm (by simp)
              show zFh _
              exact zG2 (by omega) zDy zDy (by simp) no zDy zDy
            · cases h
          | cons _ _ => cases h
      | move => exact pt 4 h
      | flash => exact pt 5 h
      | line => exact pt 6 h
      | area =>
        obtain ⟨m, e, _, rfl⟩ := zA9 (show zB1 (nums r) = _ from h)
        have h1 := zFf e
        have h2 := zEL e
        obtain ⟨h3, h4⟩ := pts_fine m h1
        show zFh _
        exact zG2 e0s zDy zDy (by omega) h4 zDy zDy
def FineL (ls : List (Option Ln)) : Prop := ∀ l, some l ∈ ls → FineLn l
theorem FineL.suf {ls ls' : List (Option Ln)} (h : FineL ls) (hs : ls' <:+ ls) : FineL ls' := fun s hm => h s (hs.subset hm)
theorem lenL_snoc {l : List zD} {x : zD} (h : zDH l) (hx : zFh x) : zDH (l ++ [x]) := lenL_of fun y hy => by
  rcases List.mem_append.1 hy with hy | hy
  · exact zEM h hy
  · simp at hy; subst hy; exact hx
theorem zFz : ∀ (n : Nat) (inner : Bool) (ls : List (Option Ln)) (out : List zD), ls.length ≤ 1000000 → FineL ls → zDH out → zDH (Jp n inner ls out).1 ∧ (Jp n inner ls out).1.length + (Jp n inner ls out).2.1.length ≤ out.length + ls.length
  | 0, _, ls, out, _, _, h => by rw [Jp]; exact ⟨h, Nat.le_refl _⟩
  | n + 1, inner, [], out, _, _, h => by rw [Jp]; exact ⟨h, Nat.le_refl _⟩
  | n + 1, inner, some (.step s) :: ls, out, hl, hf, h => by
    simp at hl
    rw [Jp]
    have ih := zFz n inner ls (out ++ [s]) (by omega) (hf.suf (List.suffix_cons _ _)) (lenL_snoc h (hf (.step s) (by simp)))
    refine ⟨ih.1, ?_⟩
    have := ih.2
    simp at this ⊢; omega
  | n + 1, inner, some (.rep s) :: ls, out, hl, hf, h => by
    simp at hl
    rw [Jp]
    have hf' := hf.suf (List.suffix_cons _ _)
    have hs : zFh s := hf (.rep s) (by simp)
    have ih := zFz n true ls [] (by omega) hf' (by rw [zDH]; trivial)
    have hsuf := zCm n true ls []
    generalize Jp n true ls [] = R at *
    obtain ⟨o, rest, bad⟩ := R
    obtain ⟨i1, i2⟩ := ih
    simp only at i1 i2 hsuf
    simp at i2
    cases bad
    · simp only [Bool.false_eq_true, if_false]
      have hx : zFh ⟨s.Kind, s.Name, s.At, s.Points, s.NX, s.NY, o⟩ := by
        rw [zF2] at hs ⊢
        exact ⟨hs.1, hs.2.1, hs.2.2.1, hs.2.2.2.1, by show o.length ≤ _; omega, i1⟩
      have i3 := zFz n inner rest (out ++ [⟨s.Kind, s.Name, s.At, s.Points, s.NX, s.NY, o⟩]) (by omega) (hf'.suf hsuf) (lenL_snoc h hx)
      refine ⟨i3.1, ?_⟩
      have := i3.2
      simp at this ⊢; omega
    · simp only [if_true]
      exact ⟨h, by simp; omega⟩
  | n + 1, inner, some .done :: ls, out, _, _, h => by
    rw [Jp]
    split
    · exact ⟨h, by simp⟩
    · exact ⟨h, Nat.le_refl _⟩
  | n + 1, inner, some (.unit _) :: ls, out, _, _, h => ⟨h, Nat.le_refl _⟩
  | n + 1, inner, some (.tool _) :: ls, out, _, _, h => ⟨h, Nat.le_refl _⟩
  | n + 1, inner, none :: ls, out, _, _, h => ⟨h, Nat.le_refl _⟩
def FineT (t : zt) : Prop := t.Name.size ≤ 9223372036854775807 ∧ t.Rects.length ≤ 9223372036854775807 ∧ ∀ r ∈ t.Rects, (J64 r.X0 ∧ J64 r.Y0) ∧ J64 r.X1 ∧ J64 r.Y1
theorem refT_fine : ∀ (ls : List (Option Ln)) (a : List zt), FineL ls → (∀ t ∈ a, FineT t) → (∀ t ∈ (zBr ls a).1, FineT t) ∧ (zBr ls a).1.length + (zBr ls a).2.length ≤ a.length + ls.length
  | [], a, _, h => by
    rw [zFy (by simp)]
    exact ⟨h, Nat.le_refl _⟩
  | l :: ls, a, hf, h => by
    by_cases hh : ∃ t, l = some (.tool t)
    · obtain ⟨t, rfl⟩ := hh
      have ht : FineT t := hf (.tool t) (by simp)
      have ih := refT_fine ls (a ++ [t]) (hf.suf (List.suffix_cons _ _)) (fun y hy => by
        rcases List.mem_append.1 hy with hy | hy
        · exact h y hy
        · simp at hy; subst hy; exact ht)
      rw [refT_tool]
      refine ⟨ih.1, ?_⟩
      have := ih.2
      simp at this ⊢; omega
    · have h' : ∀ t ls', l :: ls ≠ some (.tool t) :: ls' := fun t ls' e => hh ⟨t, (List.cons.inj e).1⟩
      rw [zFy h']
      exact ⟨h, Nat.le_refl _⟩
end Go.Proofs.YtokanbmnoghafaaGreatDoor
