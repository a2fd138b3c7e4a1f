/- Plain words: counting loops over lists, numbers in range. No program. Conditions: none beyond each theorem's own. Rows of letters: what the library's functions over strings tell of letters below 128, and numerals. Plain Lean. Conditions: none beyond each theorem's own. Words and numerals: the program's and the reference's readers of them. Plain Lean about the plain functions. Words and numerals: the reference's readers of them. Plain Lean about the plain functions. Lines cut. Plain Lean about the plain functions. Conditions: none beyond each theorem's own. Words split and joined: each undoes the other. Plain Lean. Conditions: none beyond each theorem's own. Lines of a plot: what they say. Plain Lean about the plain functions. Conditions: none beyond each theorem's own. Lines of a plot: the program's reader. Plain Lean about the plain functions. Conditions: none beyond each theorem's own. Lines of a plot: what the program's reader does with a line. Plain Lean about the plain functions. Conditions: none beyond each theorem's own. Lines of a plot: what the reference takes a line for. Plain Lean about the plain functions. Conditions: none beyond each theorem's own. Lines of a plot: the reference's reader at a line. Plain Lean about the plain functions. Conditions: none beyond each theorem's own. Steps of a plot: what the reference reads of lines. Plain Lean about the plain functions. Conditions: none beyond each theorem's own. Steps of a plot: the reference's reader. Plain Lean about the plain functions. Conditions: none beyond each theorem's own. A plot's text, by the reference. Plain Lean about the plain functions. Conditions: none beyond each theorem's own. A plot's text, by the reference and by the program. Plain Lean about the plain functions. Conditions: none beyond each theorem's own. A plot's text, by the program. Plain Lean about the plain functions. Conditions: none beyond each theorem's own. A plot's text: program and reference read alike. Plain Lean about the plain functions. Conditions: none beyond each theorem's own. Plots: names, places, numbers written: the program's and the reference's answer alike. Plain. Conditions: none beyond each theorem's own. Plots: the error of a step by itself: the program's and the reference's alike. Plain. Conditions: none beyond each theorem's own. Plots: how many steps are done, and the error of all steps: the program's and the reference's alike. Plain. Conditions: none beyond each theorem's own. Plots: CheckPlot: the program's and the reference's alike. Plain. Conditions: none beyond each theorem's own. Plots: a plot is the same as itself. Plain. Conditions: none beyond each theorem's own. A plot's text: numbers and lengths of what was read. Plain Lean about the plain functions. Conditions: none beyond each theorem's own. -/
import Derived.Test.YtokanbmnoghafaaGreatDoorJ2
import Derived.Lib.MapLaws
import Derived.Test.YtokanbmnoghafaaGreatDoorXF
import Derived.Lib.ItoaLen
import Derived.Lib.AtoiBound
namespace Go.Proofs.YtokanbmnoghafaaGreatDoor
theorem KC {x : Int} (h1 : -4611686018427387904 ≤ x) (h2 : x ≤ 4611686018427387904) : w64 x = x := zGQ (by omega) (by omega)
theorem VX {α : Type} (pre suf : List α) (x : α) : idx (pre ++ x :: suf) (pre.length : Int) = some x := by
  unfold idx
  rw [if_pos (by omega)]
  simp
theorem idx_nat {α : Type} {l : List α} {i : Nat} (h : i < l.length) : idx l (i : Int) = some l[i] := by
  unfold idx
  rw [if_pos (by omega)]
  simp [h]
theorem idx_lt {α : Type} {l : List α} {i : Int} (h0 : 0 ≤ i) (h : i < l.length) : ∃ x, idx l i = some x ∧ l[i.toNat]? = some x := by
  unfold idx
  rw [if_pos h0]
  exact ⟨l[i.toNat]'(by omega), by simp, by simp⟩
theorem zE5 {α : Type} (pre suf : List α) (x : α) : decide ((pre.length : Int) < ((pre ++ x :: suf).length : Int)) = true := decide_eq_true (by simp; omega)
theorem zE6 {α : Type} (pre : List α) : decide ((pre.length : Int) < ((pre ++ []).length : Int)) = false := decide_eq_false (by simp)
theorem up_mid {α : Type} (pre : List α) (x : α) (h : pre.length ≤ 4611686018427387903) : w64 ((pre.length : Int) + 1) = ((pre ++ [x]).length : Int) := by
  rw [KC (by omega) (by omega)]; simp
theorem zCu {α : Type} (pre suf : List α) (x : α) : pre ++ x :: suf = (pre ++ [x]) ++ suf := by simp
theorem zFG {α : Type} {l m : List α} (h : l.length + m.length ≤ 4294967296) : apd l m = some (l ++ m) := if_pos h
def zFp {α : Type} (g : α → Bool) : List α → Int → Int
  | [], _ => -1
  | x :: l, i => if g x then i else zFp g l (i + 1)
theorem ixOf_any {α : Type} (g : α → Bool) : ∀ (l : List α) (i : Int), 0 ≤ i → decide (0 ≤ zFp g l i) = l.any g
  | [], _, _ => by simp [zFp]
  | x :: l, i, hi => by
    unfold zFp
    rw [List.any_cons]
    cases g x
    · simp [ixOf_any g l (i + 1) (by omega)]
    · simp [hi]
def bs (s : ByteArray) : List UInt8 := s.data.toList
theorem zFE {s t : ByteArray} (h : bs s = bs t) : s = t := by
  obtain ⟨⟨l⟩⟩ := s
  obtain ⟨⟨m⟩⟩ := t
  have h : l = m := h
  rw [h]
theorem Jz (s : ByteArray) : s.size = (bs s).length := Lib.size_eq s
theorem zE1 (s t : ByteArray) : sEq s t = decide (bs s = bs t) := by
  rw [sEq_dec]
  exact decide_eq_decide.2 ⟨fun h => by rw [h], zFE⟩
theorem zDg (s : ByteArray) (a b : Nat) : bs (s.extract a b) = ((bs s).drop a).take (b - a) := by
  have := Lib.extract_toList s a b
  rwa [Lib.toList_data] at this
theorem bs_app (s t : ByteArray) : bs (s ++ t) = bs s ++ bs t := by simp [bs]
theorem zJT {s : ByteArray} {a b : Nat} (h1 : a ≤ b) (h2 : b ≤ s.size) : zDM s a b = some (s.extract a b) := by
  unfold zDM
  rw [if_pos ⟨by omega, by omega, by omega⟩]
  simp
theorem strAt_bs {s : ByteArray} {i : Nat} {c : UInt8} (h : (bs s)[i]? = some c) : zBm s i = some (c.toNat : Int) := by
  unfold zBm
  rw [if_pos (by omega)]
  have : s[(i : Int).toNat]? = some c := by
    obtain ⟨⟨l⟩⟩ := s
    have h : l[i]? = some c := h
    obtain ⟨hi, he⟩ := List.getElem?_eq_some_iff.1 h
    have hs : i < (ByteArray.mk ⟨l⟩).size := hi
    rw [Int.toNat_natCast, getElem?_pos (ByteArray.mk ⟨l⟩) i hs]
    have : (ByteArray.mk ⟨l⟩)[i] = l[i] := by simp [ByteArray.getElem_eq_getElem_data]
    rw [this, he]
  rw [this]; rfl
theorem zJe {p : Nat → Bool} (hp : ∀ x, 128 ≤ x → p x = true) (s : ByteArray) : ∀ (f pos : Nat), s.size - pos ≤ f → decide (0 ≤ Lib.idxFuncFrom p true s f pos) = ((bs s).drop pos).any fun b => p b.toNat
  | 0, pos, h => by
    have : (bs s).drop pos = [] := List.drop_eq_nil_of_le (by rw [← Jz]; omega)
    rw [this]; rfl
  | f + 1, pos, h => by
    unfold Lib.idxFuncFrom
    by_cases hlt : pos < s.size
    · rw [if_pos hlt]
      have hl : pos < (bs s).length := by rw [← Jz]; exact hlt
      rw [List.drop_eq_getElem_cons hl, List.any_cons]
      have hg : s.get! pos = (bs s)[pos] := by
        obtain ⟨⟨l⟩⟩ := s
        have hl : pos < l.length := hl
        show (Array.mk l)[pos]! = l[pos]
        simp [hl]
      rw [Lib.decode_at, hg]
      generalize (s.get! (pos + 1)).toNat = b1
      generalize (s.get! (pos + 2)).toNat = b2
      generalize (s.get! (pos + 3)).toNat = b3
      by_cases h0 : ((bs s)[pos]).toNat < 128
      · have hd : Lib.decodeN (s.size - pos) ((bs s)[pos]).toNat b1 b2 b3 = (((bs s)[pos]).toNat, 1) := by
          unfold Lib.decodeN; rw [if_pos h0]
        rw [hd]
        by_cases hpp : p ((bs s)[pos]).toNat = true
        · simp [hpp]
        · simp only [hpp, if_false, Bool.false_or, Bool.false_eq_true]
          exact zJe hp s f (pos + 1) (by omega)
      · have hr : 128 ≤ (Lib.decodeN (s.size - pos) ((bs s)[pos]).toNat b1 b2 b3).1 := by
          rcases Lib.decodeN_shape (s.size - pos) ((bs s)[pos]).toNat b1 b2 b3 with ⟨h, _⟩ | ⟨_, _, _, h, e⟩ | ⟨_, _, _, _, h, _, e⟩ | ⟨_, _, _, _, _, h, _, e⟩ | e
          · exact absurd h h0
          · rw [e]; exact h
          · rw [e]; simp only; omega
          · rw [e]; simp only; omega
          · rw [e]; simp only; omega
        rw [if_pos (hp _ hr), hp _ (by omega)]
        simp
    · rw [if_neg hlt]
      have : (bs s).drop pos = [] := List.drop_eq_nil_of_le (by rw [← Jz]; omega)
      rw [this]; rfl
def zEj (b : UInt8) : Bool := decide (33 ≤ b.toNat) && decide (b.toNat ≤ 126)
theorem zIu (s : ByteArray) : zBL s (fun z => some ((decide (z < 33)) || (decide (126 < z)))) = some ((bs s).any fun b => !zEj b) := by
  unfold zBL
  rw [if_pos (show ∀ x : Nat, x < 1114112 → ((fun z : Int => some ((decide (z < 33)) || (decide (126 < z)))) (x : Int)).isSome = true from fun _ _ => rfl)]
  congr 1
  unfold Lib.idxFunc
  rw [zJe (fun x hx => by simp; omega) s s.size 0 (by omega)]
  simp only [List.drop_zero]
  congr 1
  funext b
  simp only [Option.getD_some, zEj]
  by_cases h1 : b.toNat < 33
  · have : ¬ 33 ≤ b.toNat := by omega
    simp [this]; omega
  · by_cases h2 : b.toNat ≤ 126
    · simp [h2, show 33 ≤ b.toNat by omega]; omega
    · simp [h2]; omega
def rowOk (s : ByteArray) : Bool := !(bs s).isEmpty && (bs s).all zEj
theorem any_not {α : Type} (g : α → Bool) : ∀ l : List α, (l.any fun x => !g x) = !l.all g
  | [] => rfl
  | x :: l => by rw [List.any_cons, List.all_cons, any_not g l]; cases g x <;> simp
def Vg (b : UInt8) : Bool := decide (48 ≤ b.toNat) && decide (b.toNat ≤ 57)
theorem digs_ok (b : UInt8) : ([48, 49, 50, 51, 52, 53, 54, 55, 56, 57] : List UInt8).contains b = Vg b := by
  rw [Bool.eq_iff_iff]
  constructor
  · intro h
    simp at h
    rcases h with rfl | rfl | rfl | rfl | rfl | rfl | rfl | rfl | rfl | rfl <;> rfl
  · intro h
    simp [Vg] at h
    have h2 : b.toNat = 48 ∨ b.toNat = 49 ∨ b.toNat = 50 ∨ b.toNat = 51 ∨ b.toNat = 52 ∨ b.toNat = 53 ∨ b.toNat = 54 ∨ b.toNat = 55 ∨ b.toNat = 56 ∨ b.toNat = 57 := by omega
    have e : b = UInt8.ofNat b.toNat := by simp
    rcases h2 with h | h | h | h | h | h | h | h | h | h <;> (rw [e, h]; rfl)
theorem dw_head {α : Type} {c : α → Bool} {x : α} {t : List α} : ∀ {l : List α}, l.dropWhile c = x :: t → c x = false
  | [], h => by simp at h
  | y :: l, h => by
    rw [List.dropWhile_cons] at h
    split at h
    · exact dw_head h
    · rename_i hy
      have := (List.cons.inj h).1
      subst this; simpa using hy
theorem trimS_nil (l cs : List UInt8) : (Lib.trimS l cs = []) ↔ l.all (fun b => cs.contains b) = true := by
  unfold Lib.trimS Lib.trimLeftS Lib.trimRightS
  have hd : ∀ m : List UInt8, m.dropWhile (cs.contains ·) = [] ↔ ∀ x ∈ m, cs.contains x = true := fun m => by
    induction m with
    | nil => simp
    | cons y m ih =>
      rw [List.dropWhile_cons]
      cases hy : cs.contains y
      · simp only [Bool.false_eq_true, if_false]
        exact ⟨fun h => (by cases h), fun h => absurd (h y (by simp)) (by rw [hy]; decide)⟩
      · simp only [if_true]
        rw [ih]
        exact ⟨fun h x hx => by rcases List.mem_cons.1 hx with rfl | hx; exact hy; exact h x hx, fun h x hx => h x (by simp [hx])⟩
  rw [hd, List.all_eq_true]
  constructor
  · intro h
    cases hm : l.reverse.dropWhile (cs.contains ·) with
    | nil => intro x hx; exact (hd _).1 hm x (by simpa using hx)
    | cons y t =>
      have h1 := dw_head hm
      have h2 := h y (by rw [hm]; simp)
      rw [h1] at h2; cases h2
  · intro h x hx
    have : l.reverse.dropWhile (cs.contains ·) = [] := (hd _).2 fun x hx => h x (by simpa using hx)
    rw [this] at hx; simp at hx
theorem trimDigs {t : ByteArray} (h : t.size ≤ 9) : ∃ x, trimF t ⟨#[48, 49, 50, 51, 52, 53, 54, 55, 56, 57]⟩ = some x ∧ sEq x ⟨#[]⟩ = (bs t).all Vg := by
  unfold trimF
  rw [if_pos ⟨by omega, by decide, by decide⟩]
  refine ⟨_, rfl, ?_⟩
  rw [zE1, Bool.eq_iff_iff, decide_eq_true_iff]
  have e : bs ⟨(Lib.trimS t.data.toList (ByteArray.mk #[48, 49, 50, 51, 52, 53, 54, 55, 56, 57]).data.toList).toArray⟩ = Lib.trimS (bs t) [48, 49, 50, 51, 52, 53, 54, 55, 56, 57] := by simp [bs]
  rw [e]
  have e2 : bs (ByteArray.mk #[]) = [] := rfl
  rw [e2, trimS_nil]
  have : (fun b => ([48, 49, 50, 51, 52, 53, 54, 55, 56, 57] : List UInt8).contains b) = Vg := funext digs_ok
  rw [this]
def dgs : List UInt8 → List UInt8
  | 45 :: l => l
  | l => l
def neg : List UInt8 → Bool
  | 45 :: _ => true
  | _ => false
def numL (l : List UInt8) : Bool := ((decide (1 ≤ (dgs l).length) && decide ((dgs l).length ≤ 9)) && (dgs l).all Vg) && !(decide ((dgs l).head? = some 48) && !decide (l = [48]))
def Vw (s : ByteArray) : Bool := numL (bs s)
def zFj (s : ByteArray) : Int := (Lib.atoi (bs s)).getD 0
theorem zFk (l : List UInt8) : (neg l = true ∧ l = 45 :: dgs l) ∨ (neg l = false ∧ l = dgs l) := by
  unfold neg dgs
  split <;> simp_all
theorem isDig_val {b : UInt8} (h : Vg b = true) : ∃ d, Lib.digitVal b = some d := by
  simp [Vg] at h
  exact ⟨_, if_pos h⟩
theorem zEJ : ∀ (l : List UInt8) (acc : Nat), l.all Vg = true → ∃ n, Lib.decFrom acc l = some n
  | [], acc, _ => ⟨acc, rfl⟩
  | b :: l, acc, h => by
    rw [List.all_cons, Bool.and_eq_true] at h
    obtain ⟨d, hd⟩ := isDig_val h.1
    unfold Lib.decFrom
    rw [hd]
    exact zEJ l _ h.2
theorem atoi_dig {l : List UInt8} (h1 : 1 ≤ (dgs l).length) (h2 : (dgs l).all Vg = true) : ∃ v, Lib.atoi l = some v := by
  rcases zFk l with ⟨_, h⟩ | ⟨hn, h⟩
  · rw [h]
    obtain ⟨n, hn⟩ := zEJ (dgs l) 0 h2
    have : Lib.decNat (dgs l) = some n := by
      unfold Lib.decNat
      cases hd : dgs l with
      | nil => rw [hd] at h1; simp at h1
      | cons => rw [← hd]; simp [hd] at hn ⊢; exact hn
    simp [Lib.atoi, this]
  · cases hl : l with
    | nil => rw [← h, hl] at h1; simp at h1
    | cons b r =>
      have h3 := h2
      rw [← h, hl, List.all_cons, Bool.and_eq_true] at h3
      obtain ⟨n, hn⟩ := zEJ (dgs l) 0 h2
      rw [← h, hl] at hn
      have hb : b ≠ 45 ∧ b ≠ 43 := by
        constructor
        · intro e; subst e; exact absurd h3.1 (by decide)
        · intro e; subst e; exact absurd h3.1 (by decide)
      have : Lib.decNat (b :: r) = some n := by simp [Lib.decNat]; exact hn
      simp [Lib.atoi, hb.1, hb.2, this]
theorem atoiF_ok {s : ByteArray} (h : Vw s = true) : zHN s = some (zFj s) := by
  unfold Vw numL at h
  simp only [Bool.and_eq_true, decide_eq_true_eq] at h
  obtain ⟨v, hv⟩ := atoi_dig h.1.1.1 h.1.2
  unfold zHN
  have hs : s.size ≤ 18 := by
    rw [Jz]
    rcases zFk (bs s) with ⟨_, e⟩ | ⟨_, e⟩
    · rw [e, List.length_cons]; omega
    · rw [e]; omega
  rw [if_pos hs]
  unfold zFj
  show Lib.atoi (bs s) = _
  rw [hv]; rfl
theorem sEq_nil (s : ByteArray) : sEq s ⟨#[]⟩ = (bs s).isEmpty := by
  rw [zE1]
  show decide (bs s = []) = _
  cases bs s <;> simp
theorem IsRow_ok (s : ByteArray) : zAA s = some (rowOk s) := by
  unfold zAA rowOk
  rw [sEq_nil]
  cases h : (bs s).isEmpty
  · have hc : zBL s (fun z0 => Wu z0) = some ((bs s).any fun b => !zEj b) := zIu s
    rw [hc, any_not]; simp
  · simp
theorem hasMinus (s : ByteArray) : Jc s ⟨#[45]⟩ = some (neg (bs s)) := by
  unfold Jc
  have hp : (ByteArray.mk #[45]).size = 1 := rfl
  simp only [hp]
  cases hb : bs s with
  | nil =>
    have hs : s.size = 0 := by rw [Jz, hb]; rfl
    rw [hs]; simp [neg]
  | cons b l =>
    have hs : 1 ≤ s.size := by rw [Jz, hb]; simp
    have h1 : decide (((1 : Nat) : Int) ≤ (s.size : Int)) = true := decide_eq_true (by omega)
    rw [h1, if_pos rfl, show (0 : Int) = ((0 : Nat) : Int) from rfl, zJT (by omega) hs]
    simp only [Option.bind_some]
    rw [zE1, zDg, hb]
    show some (decide ([b] = [45])) = _
    by_cases h : b = 45
    · subst h; rfl
    · unfold neg
      split
      · rename_i e; exact absurd (List.cons.inj e).1 h
      · simp [h]
theorem trimMinus (s : ByteArray) : ∃ t, Kw s ⟨#[45]⟩ = some t ∧ bs t = dgs (bs s) := by
  unfold Kw Kn
  rw [hasMinus, Option.bind_some]
  rcases zFk (bs s) with ⟨hn, hd⟩ | ⟨hn, hd⟩
  · rw [hn, if_pos rfl]
    have hs : 1 ≤ s.size := by rw [Jz, hd]; simp
    have hp : (ByteArray.mk #[45]).size = 1 := rfl
    rw [hp, zJT hs (Nat.le_refl _)]
    refine ⟨_, rfl, ?_⟩
    rw [zDg, List.take_of_length_le (by rw [List.length_drop, Jz]; omega)]
    conv => lhs; rw [hd]
    rfl
  · rw [hn]; exact ⟨s, rfl, hd⟩
theorem Number_ok (s : ByteArray) : zAO s = some (if Vw s then (zFj s, true) else (0, false)) := by
  unfold zAO
  obtain ⟨t, ht, hb⟩ := trimMinus s
  have hsz : t.size = (dgs (bs s)).length := by rw [Jz, hb]
  rw [ht, Option.bind_some]
  by_cases h1 : 1 ≤ (dgs (bs s)).length ∧ (dgs (bs s)).length ≤ 9
  · have c1 : (decide ((t.size : Int) < 1) || decide (9 < (t.size : Int))) = false := by
      simp only [Bool.or_eq_false_iff, decide_eq_false_iff_not]; omega
    obtain ⟨x, hx, hd⟩ := trimDigs (t := t) (by omega)
    rw [c1, if_neg (by decide), hx]
    simp only [Option.bind_some]
    rw [hd, hb]
    by_cases h2 : (dgs (bs s)).all Vg = true
    · obtain ⟨c, hc⟩ : ∃ c, (dgs (bs s))[0]? = some c := ⟨_, List.getElem?_eq_getElem (by omega)⟩
      have h3 := strAt_bs (s := t) (i := 0) (c := c) (by rw [hb]; exact hc)
      have h3 : zBm t 0 = some (c.toNat : Int) := h3
      have c3 : ((c.toNat : Int) == 48 && !sEq s ⟨#[48]⟩) = (decide ((dgs (bs s)).head? = some 48) && !decide (bs s = [48])) := by
        have e1 : ((c.toNat : Int) == 48) = decide ((dgs (bs s)).head? = some 48) := by
          rw [List.head?_eq_getElem?, hc, Bool.eq_iff_iff]
          simp only [beq_iff_eq, decide_eq_true_eq, Option.some.injEq]
          constructor
          · intro h; exact UInt8.toNat_inj.1 (by show c.toNat = 48; omega)
          · intro h; subst h; rfl
        rw [e1, zE1]; rfl
      rw [h2]
      simp only [Bool.not_true, Bool.false_eq_true, if_false]
      rw [h3]
      simp only [Option.bind_some]
      rw [c3]
      cases hz : (decide ((dgs (bs s)).head? = some 48) && !decide (bs s = [48]))
      · have hn : Vw s = true := by
          unfold Vw numL; rw [hz, h2]; simp [h1]
        rw [atoiF_ok hn, hn]; rfl
      · have hn : Vw s = false := by
          unfold Vw numL; rw [hz]; simp
        rw [hn]; rfl
    · have h2 : (dgs (bs s)).all Vg = false := by simpa using h2
      have hn : Vw s = false := by unfold Vw numL; rw [h2]; simp
      rw [h2, hn]; rfl
  · have c1 : (decide ((t.size : Int) < 1) || decide (9 < (t.size : Int))) = true := by
      simp only [Bool.or_eq_true, decide_eq_true_eq]; omega
    have hn : Vw s = false := by
      unfold Vw numL
      have : (decide (1 ≤ (dgs (bs s)).length) && decide ((dgs (bs s)).length ≤ 9)) = false := by
        simp only [Bool.and_eq_false_iff, decide_eq_false_iff_not]; omega
      rw [this]; rfl
    rw [c1, hn]; rfl
def nums (l : List ByteArray) : Option (List Int) := if l.all Vw then some (l.map zFj) else none
def zFi (l : List ByteArray) : List Int × Bool := match nums l with | some m => (m, true) | none => ([], false)
theorem numsT_all {l : List ByteArray} (h : l.all Vw = true) : zFi l = (l.map zFj, true) := by unfold zFi nums; rw [if_pos h]
theorem numsT_no {l : List ByteArray} (h : l.all Vw = false) : zFi l = ([], false) := by unfold zFi nums; rw [h]; rfl
theorem zGD : ∀ (l : List ByteArray) (i : Nat) (m : List Int), m.length + l.length ≤ 4294967296 → JZ l i m = some (if l.all Vw then (m ++ l.map zFj, true) else ([], false))
  | [], i, m, _ => by simp [JZ]
  | x :: l, i, m, h => by
    rw [List.length_cons] at h
    unfold JZ
    rw [Number_ok, Option.bind_some, List.all_cons]
    cases hx : Vw x
    · rfl
    · simp only [if_true, Bool.not_true, Bool.false_eq_true, if_false, Bool.true_and]
      rw [zFG (by simp; omega), Option.bind_some, zGD l (i + 1) _ (by simp; omega)]
      cases l.all Vw <;> simp
theorem zFJ {l : List ByteArray} (h : l.length ≤ 4294967296) : VA l = some (zFi l) := by
  unfold VA
  rw [zGD l 0 [] (by simpa using h)]
  cases hl : l.all Vw
  · rw [numsT_no hl]; rfl
  · rw [numsT_all hl]; simp
def words (s : ByteArray) : List ByteArray := Lib.splitB ⟨#[32]⟩ 0 (Lib.countB s ⟨#[32]⟩) s
theorem split_ok {s : ByteArray} (h : s.size < 4294967281) : zE0 s ⟨#[32]⟩ = some (words s) := by
  unfold zE0
  rw [if_pos ⟨h, by decide⟩]; rfl
theorem zJO (s : ByteArray) : 1 ≤ (words s).length ∧ (words s).length ≤ s.size + 1 := by
  have h1 := Lib.splitB_all ⟨#[32]⟩ (by decide) 0 _ s rfl
  have h2 := Lib.countB_le ⟨#[32]⟩ (by decide) s.size s (Nat.le_refl _)
  unfold words
  omega
theorem zG5 (sep : ByteArray) : ∀ (k : Nat) (s : ByteArray), ∀ x ∈ Lib.splitB sep 0 k s, x.size ≤ s.size
  | 0, s, x, hx => by
    rw [Lib.splitB_zero] at hx
    simp at hx; subst hx; exact Nat.le_refl _
  | k + 1, s, x, hx => by
    unfold Lib.splitB at hx
    split at hx
    · simp at hx; subst hx; exact Nat.le_refl _
    · rcases List.mem_cons.1 hx with rfl | hx
      · rw [Jz, zDg, Jz]
        simp only [List.length_take, List.length_drop]; omega
      · have := zG5 sep k _ x hx
        refine Nat.le_trans this ?_
        rw [Jz, zDg, Jz]
        simp only [List.length_take, List.length_drop]; omega
theorem words_size {s x : ByteArray} (h : x ∈ words s) : x.size ≤ s.size := zG5 _ _ _ x h
def Qp (s : ByteArray) : ByteArray × ByteArray × Bool := (⟨(Lib.cut (bs s) [10]).1.toArray⟩, ⟨(Lib.cut (bs s) [10]).2.1.toArray⟩, (Lib.cut (bs s) [10]).2.2)
theorem cut_line {s : ByteArray} (h : s.size ≤ 200000) : cutF s ⟨#[10]⟩ = some (Qp s) := by
  unfold cutF
  rw [if_pos (by omega)]; rfl
theorem zE7 (s : ByteArray) : (Qp s).1.size ≤ s.size ∧ ((Qp s).2.2 = true → (Qp s).2.1.size + 1 ≤ s.size) := by
  have e : ∀ l : List UInt8, (ByteArray.mk l.toArray).size = l.length := fun l => by rw [Jz]; simp [bs]
  rw [Jz s]
  unfold Qp
  simp only [e]
  unfold Lib.cut
  split
  · rename_i h
    refine ⟨by simp only [List.length_take]; omega, fun _ => ?_⟩
    simp only [List.length_drop, List.length_cons, List.length_nil]
    cases hb : bs s with
    | nil => rw [hb] at h; exact absurd h (by decide)
    | cons b l => simp only [List.length_cons]; omega
  · exact ⟨Nat.le_refl _, fun h => by cases h⟩
theorem zDV (c : UInt8) : ∀ (a b : List UInt8), c ∉ a → Lib.index (a ++ c :: b) [c] = (a.length : Int)
  | [], b, _ => by rw [List.nil_append, Lib.index]; simp [List.isPrefixOf]
  | x :: a, b, h => by
    simp only [List.mem_cons, not_or] at h
    have hx : ([c] : List UInt8).isPrefixOf (x :: (a ++ c :: b)) = false := by simp [List.isPrefixOf, h.1]
    rw [List.cons_append, Lib.index, hx, zDV c a b h.2]
    have : ((a.length : Int) == -1) = false := by rw [Bool.eq_false_iff]; simp only [ne_eq, beq_iff_eq]; omega
    rw [this]
    simp
theorem index_no (c : UInt8) : ∀ (l : List UInt8), c ∉ l → Lib.index l [c] = -1
  | [], _ => rfl
  | x :: a, h => by
    simp only [List.mem_cons, not_or] at h
    have hx : ([c] : List UInt8).isPrefixOf (x :: a) = false := by simp [List.isPrefixOf, h.1]
    rw [Lib.index, hx, index_no c a h.2]
    rfl
theorem zIN (c : UInt8) (k : Nat) {a b : List UInt8} (h : c ∉ a) : Lib.splitK [c] 0 (k + 1) (a ++ c :: b) = a :: Lib.splitK [c] 0 k b := by
  rw [Lib.splitK, zDV c a b h]
  have : ((a.length : Int) == -1) = false := by rw [Bool.eq_false_iff]; simp only [ne_eq, beq_iff_eq]; omega
  rw [this]
  simp
theorem zFo (w x : List UInt8) (r : List (List UInt8)) : Lib.join (w :: x :: r) [32] = w ++ 32 :: Lib.join (x :: r) [32] := by
  rw [Lib.join_cons, Lib.join_cons]
  simp [Lib.joinTail]
theorem zIe : ∀ (r : List (List UInt8)) (w : List UInt8), (∀ x ∈ w :: r, (32 : UInt8) ∉ x) → (Lib.join (w :: r) [32]).count 32 = r.length
  | [], w, h => by rw [Lib.join_one]; exact List.count_eq_zero.2 (h w (by simp))
  | x :: r, w, h => by
    rw [zFo, List.count_append, List.count_cons_self, zIe r x (fun y hy => h y (by simp [List.mem_cons.1 hy])), List.count_eq_zero.2 (h w (by simp))]
    simp
theorem zG4 : ∀ (r : List (List UInt8)) (w : List UInt8), (∀ x ∈ w :: r, (32 : UInt8) ∉ x) → Lib.splitK [32] 0 r.length (Lib.join (w :: r) [32]) = w :: r
  | [], w, h => by rw [Lib.join_one]; rfl
  | x :: r, w, h => by
    rw [zFo, List.length_cons, zIN 32 _ (h w (by simp)), zG4 r x (fun y hy => h y (by simp [List.mem_cons.1 hy]))]
theorem splitK_ne (k : Nat) (s : List UInt8) : Lib.splitK [32] 0 k s ≠ [] := by
  cases k with
  | zero => simp [Lib.splitK]
  | succ k => unfold Lib.splitK; split <;> simp
theorem zHG : ∀ (k : Nat) (s : List UInt8), s.count 32 = k → Lib.join (Lib.splitK [32] 0 k s) [32] = s
  | 0, s, _ => by rw [Lib.splitK, Lib.join_one]
  | k + 1, s, h => by
    have hm : (32 : UInt8) ∈ s := List.count_pos_iff.1 (by omega)
    obtain ⟨a, b, rfl, ha⟩ := List.eq_append_cons_of_mem hm
    rw [zIN 32 k ha]
    rw [List.count_append, List.count_cons_self, List.count_eq_zero.2 ha] at h
    have ih := zHG k b (by omega)
    cases hs : Lib.splitK [32] 0 k b with
    | nil => exact absurd hs (splitK_ne _ _)
    | cons x r => rw [hs] at ih; rw [zFo, ih]
theorem words_bs (s : ByteArray) : (words s).map bs = Lib.splitK [32] 0 ((bs s).count 32) (bs s) := by
  unfold words
  have := Lib.splitB_data ⟨#[32]⟩ 0 (Lib.countB s ⟨#[32]⟩) s
  have e : Lib.countB s ⟨#[32]⟩ = (bs s).count 32 := Lib.count_one 32 (bs s)
  rw [e] at this ⊢
  exact this
theorem zIG (s : ByteArray) : Lib.join ((words s).map bs) [32] = bs s := by
  rw [words_bs]; exact zHG _ _ rfl
theorem zIb : ∀ {l m : List ByteArray}, l.map bs = m.map bs → l = m
  | [], [], _ => rfl
  | [], _ :: _, h => by simp at h
  | _ :: _, [], h => by simp at h
  | x :: l, y :: m, h => by
    simp only [List.map_cons, List.cons.injEq] at h
    rw [zFE h.1, zIb h.2]
theorem words_of {s : ByteArray} {w : ByteArray} {r : List ByteArray} (h : bs s = Lib.join ((w :: r).map bs) [32]) (hn : ∀ x ∈ w :: r, (32 : UInt8) ∉ bs x) : words s = w :: r := by
  apply zIb
  have hn' : ∀ x ∈ bs w :: r.map bs, (32 : UInt8) ∉ x := fun x hx => by
    rcases List.mem_cons.1 hx with rfl | hx
    · exact hn w (by simp)
    · obtain ⟨y, hy, rfl⟩ := List.mem_map.1 hx
      exact hn y (by simp [hy])
  rw [words_bs, h, List.map_cons, zIe _ _ hn', zG4 _ _ hn']
theorem zIZ {l : List ByteArray} {m : List Int} (h : nums l = some m) : m.length = l.length := by
  unfold nums at h
  split at h
  · have := Option.some.inj h; subst this; simp
  · cases h
theorem cutTo {α : Type} {w : List α} {n : Nat} (h : n ≤ w.length) : cut w (n : Int) (w.length : Int) = some (w.drop n) := by
  unfold cut
  rw [if_pos ⟨by omega, by omega, by omega⟩]
  congr 1
  simp only [Int.toNat_natCast]
  rw [List.take_of_length_le (by simp)]
theorem zE4 {l : List ByteArray} (h : nums l = none) : zFi l = ([], false) := by unfold zFi; rw [h]
theorem zE3 {l : List ByteArray} {m : List Int} (h : nums l = some m) : zFi l = (m, true) := by unfold zFi; rw [h]
theorem l4 {α : Type} {m : List α} (h : m.length = 4) : ∃ a b c d, m = [a, b, c, d] := by
  match m, h with
  | [a, b, c, d], _ => exact ⟨a, b, c, d, rfl⟩
theorem l2 {α : Type} {m : List α} (h : m.length = 2) : ∃ a b, m = [a, b] := by
  match m, h with
  | [a, b], _ => exact ⟨a, b, rfl⟩
theorem idx0 {α : Type} {k : α} {r : List α} : idx (k :: r) 0 = some k := rfl
theorem idx1 {α : Type} {k a : α} {r : List α} : idx (k :: a :: r) 1 = some a := rfl
theorem idx2 {α : Type} {k a b : α} {r : List α} : idx (k :: a :: b :: r) 2 = some b := rfl
theorem idx3 {α : Type} {k a b c : α} {r : List α} : idx (k :: a :: b :: c :: r) 3 = some c := rfl
inductive Wd | unit | tool | dark | clear | done | use | move | flash | line | area | rept
  deriving DecidableEq
def wb : Wd → ByteArray
  | .unit => ⟨#[117, 110, 105, 116]⟩
  | .tool => ⟨#[116, 111, 111, 108]⟩
  | .dark => ⟨#[100, 97, 114, 107]⟩
  | .clear => ⟨#[99, 108, 101, 97, 114]⟩
  | .done => ⟨#[100, 111, 110, 101]⟩
  | .use => ⟨#[117, 115, 101]⟩
  | .move => ⟨#[109, 111, 118, 101]⟩
  | .flash => ⟨#[102, 108, 97, 115, 104]⟩
  | .line => ⟨#[108, 105, 110, 101]⟩
  | .area => ⟨#[97, 114, 101, 97]⟩
  | .rept => ⟨#[114, 101, 112, 101, 97, 116]⟩
def allW : List Wd := [.unit, .tool, .dark, .clear, .done, .use, .move, .flash, .line, .area, .rept]
theorem allW_mem (w : Wd) : w ∈ allW := by cases w <;> simp [allW]
def Vy (k : ByteArray) : Option Wd := allW.find? fun w => sEq k (wb w)
theorem wb_inj {a b : Wd} (h : wb a = wb b) : a = b := by
  have h2 : bs (wb a) = bs (wb b) := by rw [h]
  revert h2
  cases a <;> cases b <;> first | (intro _; rfl) | (intro h; exact absurd h (by decide))
theorem wdOf_wb (w : Wd) : Vy (wb w) = some w := by
  unfold Vy
  cases h : allW.find? fun v => sEq (wb w) (wb v) with
  | none =>
    rw [List.find?_eq_none] at h
    exact absurd (WA.2 rfl) (h w (allW_mem w))
  | some v =>
    have := List.find?_some h
    rw [wb_inj (WA.1 this)]
theorem zEQ {k : ByteArray} {w : Wd} (h : Vy k = some w) : k = wb w := WA.1 (List.find?_some (p := fun w => sEq k (wb w)) h)
theorem zDQ (k : ByteArray) (w : Wd) : sEq k (wb w) = decide (Vy k = some w) := by
  rw [Bool.eq_iff_iff, decide_eq_true_eq, WA]
  exact ⟨fun h => by rw [h]; exact wdOf_wb w, zEQ⟩
theorem words_one {s x : ByteArray} (h : words s = [x]) : s = x := by
  have := zIG s
  rw [h, List.map_cons, List.map_nil, Lib.join_one] at this
  exact (zFE this).symm
theorem words_wb (w : Wd) : words (wb w) = [wb w] := by
  refine words_of ?_ (fun x hx => ?_)
  · rw [List.map_cons, List.map_nil, Lib.join_one]
  · simp at hx; subst hx
    cases w <;> decide
theorem zIR (s : ByteArray) (w : Wd) : sEq s (wb w) = decide (words s = [wb w]) := by
  rw [Bool.eq_iff_iff, decide_eq_true_eq, WA]
  exact ⟨fun h => by rw [h]; exact words_wb w, words_one⟩
inductive Ln
  | unit (n : Int)
  | tool (t : zS)
  | step (s : zB)
  | rep (s : zB)
  | done
def e0 : ByteArray := ⟨#[]⟩
def st0 (k : Int) : zB := ⟨k, e0, ⟨0, 0⟩, [], 0, 0, []⟩
def rcs : List Int → List JO
  | a :: b :: c :: d :: l => ⟨a, b, c, d⟩ :: rcs l
  | _ => []
def pts : List Int → List zU
  | a :: b :: l => ⟨a, b⟩ :: pts l
  | _ => []
def zA6 (k : Int) : Option (List Int) → Option Ln
  | some [x, y] => some (.step ⟨k, e0, ⟨x, y⟩, [], 0, 0, []⟩)
  | _ => none
def zBE : Option (List Int) → Option Ln
  | some [n] => some (.unit n)
  | _ => none
def zCw : Option (List Int) → Option Ln
  | some [a, b, c, d] => some (.rep ⟨8, e0, ⟨c, d⟩, [], a, b, []⟩)
  | _ => none
def zBH : Option (List Int) → Option Ln
  | some m => if m.length % 2 = 0 then some (.step ⟨7, e0, ⟨0, 0⟩, pts m, 0, 0, []⟩) else none
  | none => none
def zBF (nm : ByteArray) : Option (List Int) → Option Ln
  | some m => if m.length ≠ 0 ∧ m.length % 4 = 0 then some (.tool ⟨nm, rcs m⟩) else none
  | none => none
def lnW (r : List ByteArray) : Wd → Option Ln
  | .unit => zBE (nums r)
  | .tool => match r with
    | nm :: r2 => if rowOk nm = true then zBF nm (nums r2) else none
    | [] => none
  | .dark => if r = [] then some (.step (st0 1)) else none
  | .clear => if r = [] then some (.step (st0 2)) else none
  | .done => if r = [] then some .done else none
  | .use => match r with
    | [nm] => if rowOk nm = true then some (.step ⟨3, nm, ⟨0, 0⟩, [], 0, 0, []⟩) else none
    | _ => none
  | .move => zA6 4 (nums r)
  | .flash => zA6 5 (nums r)
  | .line => zA6 6 (nums r)
  | .area => zBH (nums r)
  | .rept => zCw (nums r)
def WE : List ByteArray → Option Ln
  | [] => none
  | k :: r => (Vy k).bind (lnW r)
def zBT (r : QD) (s : zB) : QD :=
  match r.open_.getLast? with
  | some x => ⟨r.p, r.unit, r.open_.dropLast ++ [⟨x.Kind, x.Name, x.At, x.Points, x.NX, x.NY, x.Steps ++ [s]⟩], r.step⟩
  | none => ⟨⟨r.p.Unit, r.p.Tools, r.p.Steps ++ [s]⟩, r.unit, r.open_, r.step⟩
def acc (r : QD) : Option Ln → Option QD
  | some (.unit n) => if r.unit = true then none else some ⟨⟨n, r.p.Tools, r.p.Steps⟩, true, r.open_, r.step⟩
  | some (.tool t) => if r.unit = true ∧ r.step = false then some ⟨⟨r.p.Unit, r.p.Tools ++ [t], r.p.Steps⟩, r.unit, r.open_, r.step⟩ else none
  | some (.step s) => if r.unit = true then some (zBT ⟨r.p, r.unit, r.open_, true⟩ s) else none
  | some (.rep s) => if r.unit = true then some ⟨r.p, r.unit, r.open_ ++ [s], true⟩ else none
  | some .done => if r.unit = true then (match r.open_.getLast? with | some x => some (zBT ⟨r.p, r.unit, r.open_.dropLast, true⟩ x) | none => none) else none
  | none => none
structure SmR (r : QD) : Prop where
  t : r.p.Tools.length ≤ 300000
  s : r.p.Steps.length ≤ 300000
  o : r.open_.length ≤ 300000
  i : ∀ x ∈ r.open_, x.Steps.length ≤ 300000
theorem zIV {r : QD} (h : SmR r) (s : zB) : Qz r s = some ((zBT r s).p.Steps, (zBT r s).open_) ∧ (zBT r s).p.Unit = r.p.Unit ∧ (zBT r s).p.Tools = r.p.Tools ∧ (zBT r s).unit = r.unit ∧ (zBT r s).step = r.step := by
  have ho := h.o
  unfold Qz zBT
  rw [KC (by omega) (by omega)]
  cases hl : r.open_.getLast? with
  | none =>
    have hn : r.open_ = [] := List.getLast?_eq_none_iff.1 hl
    have hs := h.s
    rw [hn]
    refine ⟨?_, rfl, rfl, rfl, rfl⟩
    rw [if_neg (by simp), zI3, zFG (by simp; omega), Option.bind_some]
  | some x =>
    obtain ⟨l, hx⟩ : ∃ l, r.open_ = l ++ [x] := ⟨r.open_.dropLast, by
      obtain ⟨l, hl'⟩ := List.getLast?_eq_some_iff.1 hl
      rw [hl']; simp⟩
    have hi := h.i x (by rw [hx]; simp)
    rw [hx]
    refine ⟨?_, rfl, rfl, rfl, rfl⟩
    have e : ((l ++ [x]).length : Int) - 1 = (l.length : Int) := by simp
    rw [e, if_pos (by simp), VX, Option.bind_some, zFG (by simp; omega), Option.bind_some]
    simp
theorem even_two {m : List Int} (h : m ≠ []) (he : m.length % 2 = 0) : ∃ a b l, m = a :: b :: l ∧ l.length % 2 = 0 := by
  match m, h with
  | [a], _ => simp at he
  | a :: b :: l, _ => exact ⟨a, b, l, rfl, by simp at he; omega⟩
theorem four_four {m : List Int} (h : m ≠ []) (he : m.length % 4 = 0) : ∃ a b c d l, m = a :: b :: c :: d :: l ∧ l.length % 4 = 0 := by
  match m, h with
  | [a], _ => simp at he
  | [a, b], _ => simp at he
  | [a, b, c], _ => simp at he
  | a :: b :: c :: d :: l, _ => exact ⟨a, b, c, d, l, rfl, by simp at he; omega⟩
theorem zHd {α : Type} {pre : List α} {x : α} {suf : List α} (k : Nat) (h : suf[k]? = some x) : idx (pre ++ suf) ((pre.length : Int) + (k : Int)) = some x := by
  unfold idx
  rw [if_pos (by omega), show ((pre.length : Int) + (k : Int)).toNat = pre.length + k by omega, List.getElem?_append_right (by omega)]
  simpa using h
theorem pts_loop {r : QD} {l : List Int} (hl : l.length ≤ 1000000) : ∀ (n : Nat) (suf pre : List Int) (a : List zU) (m : Nat), suf.length ≤ n → l = pre ++ suf → suf.length % 2 = 0 → suf.length < m → a.length ≤ pre.length →
    Qi r l m a (pre.length : Int) = Qj r 7 0 0 (a ++ pts suf)
  | n, suf, pre, a, m, hn, he, h2, hm, ha => by
    obtain ⟨m, rfl⟩ : ∃ k, m = k + 1 := ⟨m - 1, by omega⟩
    by_cases hs : suf = []
    · subst hs
      rw [Qi, if_neg (by rw [he]; simp)]
      simp [pts]
    · obtain ⟨x, y, t, rfl, ht⟩ := even_two hs h2
      have hlen : l.length = pre.length + (t.length + 2) := by rw [he]; simp
      simp at hn hm
      have i1 : idx l (pre.length : Int) = some x := by rw [he]; exact VX _ _ _
      have i2 : idx l (w64 ((pre.length : Int) + 1)) = some y := by
        rw [KC (by omega) (by omega), he]
        exact zHd 1 rfl
      rw [Qi, if_pos (by simp; omega), i1, Option.bind_some, i2, Option.bind_some, zFG (by simp; omega), Option.bind_some, KC (by omega) (by omega)]
      cases n with
      | zero => omega
      | succ n =>
        have ih := pts_loop (r := r) hl n t (pre ++ [x, y]) (a ++ [⟨x, y⟩]) m (by omega) (by rw [he]; simp) ht (by omega) (by simp; omega)
        rw [show ((pre ++ [x, y]).length : Int) = (pre.length : Int) + 2 by simp] at ih
        rw [ih]
        simp [pts]
theorem rcs_loop {r : QD} {l : List Int} {b : Bool} {nm : ByteArray} (hl : l.length ≤ 1000000) : ∀ (n : Nat) (suf pre : List Int) (a : List JO) (m : Nat), suf.length ≤ n → l = pre ++ suf → suf.length % 4 = 0 → suf.length < m → a.length ≤ pre.length →
    Qx r (l, b) nm m a (pre.length : Int) = (apd r.p.Tools [⟨nm, a ++ rcs suf⟩]).bind fun l145 => some (true, r.p.Unit, r.unit, l145, r.open_)
  | n, suf, pre, a, m, hn, he, h2, hm, ha => by
    obtain ⟨m, rfl⟩ : ∃ k, m = k + 1 := ⟨m - 1, by omega⟩
    by_cases hs : suf = []
    · subst hs
      rw [Qx, if_neg (by rw [he]; simp)]
      simp [rcs]
    · obtain ⟨x, y, z, u, t, rfl, ht⟩ := four_four hs h2
      have hlen : l.length = pre.length + (t.length + 4) := by rw [he]; simp
      simp at hn hm
      have i1 : idx l (pre.length : Int) = some x := by rw [he]; exact VX _ _ _
      have i2 : idx l (w64 ((pre.length : Int) + 1)) = some y := by
        rw [KC (by omega) (by omega), he]
        exact zHd 1 rfl
      have i3 : idx l (w64 ((pre.length : Int) + 2)) = some z := by
        rw [KC (by omega) (by omega), he]
        exact zHd 2 rfl
      have i4 : idx l (w64 ((pre.length : Int) + 3)) = some u := by
        rw [KC (by omega) (by omega), he]
        exact zHd 3 rfl
      rw [Qx, if_pos (by simp; omega)]
      show ((idx l (pre.length : Int)).bind fun zDI => (idx l (w64 ((pre.length : Int) + 1))).bind fun zCp => (idx l (w64 ((pre.length : Int) + 2))).bind fun WY => (idx l (w64 ((pre.length : Int) + 3))).bind fun VB => (apd a [(JO.mk zDI zCp WY VB)]).bind fun zAL => _) = _
      rw [i1, Option.bind_some, i2, Option.bind_some, i3, Option.bind_some, i4, Option.bind_some, zFG (by simp; omega), Option.bind_some, KC (by omega) (by omega)]
      cases n with
      | zero => omega
      | succ n =>
        have ih := rcs_loop (r := r) (b := b) (nm := nm) hl n t (pre ++ [x, y, z, u]) (a ++ [⟨x, y, z, u⟩]) m (by omega) (by rw [he]; simp) ht (by omega) (by simp; omega)
        rw [show ((pre ++ [x, y, z, u]).length : Int) = (pre.length : Int) + 4 by simp] at ih
        rw [ih]
        simp [rcs]
theorem tm2 (n : Nat) : (Int.tmod (n : Int) 2 != 0) = decide (n % 2 ≠ 0) := by
  rw [Bool.eq_iff_iff, bne_iff_ne, decide_eq_true_eq]
  have : Int.tmod (n : Int) 2 = ((n % 2 : Nat) : Int) := rfl
  omega
theorem tm4 (n : Nat) : (Int.tmod (n : Int) 4 != 0) = decide (n % 4 ≠ 0) := by
  rw [Bool.eq_iff_iff, bne_iff_ne, decide_eq_true_eq]
  have : Int.tmod (n : Int) 4 = ((n % 4 : Nat) : Int) := rfl
  omega
abbrev mfl : List ByteArray := [⟨#[109, 111, 118, 101]⟩, ⟨#[102, 108, 97, 115, 104]⟩, ⟨#[108, 105, 110, 101]⟩]
theorem ixM : Qk mfl (wb .move) = some 0 := by
  unfold Qk
  simp only [Qh, zE1]
  decide
theorem ixF : Qk mfl (wb .flash) = some 1 := by
  unfold Qk
  simp only [Qh, zE1]
  decide
theorem ixL : Qk mfl (wb .line) = some 2 := by
  unfold Qk
  simp only [Qh, zE1]
  decide
def nbL (k : ByteArray) (m : List Int) : Option Ln :=
  match Vy k with
  | some .move => zA6 4 (some m)
  | some .flash => zA6 5 (some m)
  | some .line => zA6 6 (some m)
  | some .area => zBH (some m)
  | some .rept => zCw (some m)
  | _ => none
def NbAs (r : QD) (y : Bool × List zB × List zB) : Option Ln → Prop
  | some (.step s) => y = (true, (zBT r s).p.Steps, (zBT r s).open_)
  | some (.rep s) => y = (true, r.p.Steps, r.open_ ++ [s])
  | _ => y.1 = false
theorem numbered_ok {N : Nat} (hN : 1000010 ≤ N) {r : QD} (h : SmR r) (k : ByteArray) {m : List Int} (hm : m.length ≤ 1000000) : ∃ y, JE N r k m = some y ∧ NbAs r y (nbL k m) := by
  have e1 : sEq k ⟨#[109, 111, 118, 101]⟩ = decide (Vy k = some .move) := zDQ k .move
  have e2 : sEq k ⟨#[102, 108, 97, 115, 104]⟩ = decide (Vy k = some .flash) := zDQ k .flash
  have e3 : sEq k ⟨#[108, 105, 110, 101]⟩ = decide (Vy k = some .line) := zDQ k .line
  have e4 : sEq k ⟨#[97, 114, 101, 97]⟩ = decide (Vy k = some .area) := zDQ k .area
  have e5 : sEq k ⟨#[114, 101, 112, 101, 97, 116]⟩ = decide (Vy k = some .rept) := zDQ k .rept
  have hpt : ∀ (w : Wd) (j : Int), k = wb w → Qk [⟨#[109, 111, 118, 101]⟩, ⟨#[102, 108, 97, 115, 104]⟩, ⟨#[108, 105, 110, 101]⟩] (wb w) = some j → w64 (4 + j) = 4 + j → ∃ y, zy N r k m true = some y ∧ NbAs r y (zA6 (4 + j) (some m)) := fun w j hk hj hw => by
    subst hk
    unfold zy
    rw [if_pos rfl]
    by_cases h2 : m.length = 2
    · obtain ⟨a, b, rfl⟩ := l2 h2
      rw [if_neg (by simp), hj, Option.bind_some, idx0, Option.bind_some, idx1, Option.bind_some, hw]
      unfold Qj
      rw [(zIV h _).1, Option.bind_some]
      exact ⟨_, rfl, rfl⟩
    · rw [if_pos (by simp; omega)]
      refine ⟨_, rfl, ?_⟩
      unfold zA6 NbAs
      split
      · rename_i e; revert e; split <;> intro e
        · rename_i e'; have := Option.some.inj e'; subst this; exact absurd rfl h2
        · cases e
      · rename_i e; revert e; split <;> intro e <;> cases e
      · rfl
  unfold JE
  rw [e1, e2, e3]
  unfold nbL
  cases hw : Vy k with
  | none =>
    unfold zy
    simp only [e4, e5, hw, reduceCtorEq, decide_false, Bool.false_eq_true, if_false]
    exact ⟨_, rfl, rfl⟩
  | some w =>
    have hk := zEQ hw
    cases w
    case move =>
      simp only [decide_true, if_true]
      exact hpt .move 0 hk ixM (KC (by omega) (by omega))
    case flash =>
      simp only [Option.some.injEq, reduceCtorEq, decide_false, decide_true, Bool.false_eq_true, if_false, if_true]
      exact hpt .flash 1 hk ixF (KC (by omega) (by omega))
    case line =>
      simp only [Option.some.injEq, reduceCtorEq, decide_false, decide_true, Bool.false_eq_true, if_false]
      exact hpt .line 2 hk ixL (KC (by omega) (by omega))
    case area =>
      simp only [Option.some.injEq, reduceCtorEq, decide_false, Bool.false_eq_true, if_false]
      unfold zy
      simp only [e4, hw, decide_true, Bool.false_eq_true, if_false, if_true, tm2]
      rw [show zBH (some m) = (if m.length % 2 = 0 then some (.step ⟨7, e0, ⟨0, 0⟩, pts m, 0, 0, []⟩) else none) from rfl]
      by_cases h2 : m.length % 2 = 0
      · have := pts_loop (r := r) hm m.length m [] [] N (Nat.le_refl _) rfl h2 (by omega) (Nat.le_refl _)
        simp only [List.nil_append, List.length_nil] at this
        rw [show ((0 : Nat) : Int) = 0 from rfl] at this
        rw [if_neg (by simpa using h2), this, if_pos h2]
        unfold Qj
        rw [(zIV h _).1, Option.bind_some]
        exact ⟨_, rfl, rfl⟩
      · rw [if_pos (by simpa using h2), if_neg h2]
        exact ⟨_, rfl, rfl⟩
    case rept =>
      simp only [Option.some.injEq, reduceCtorEq, decide_false, Bool.false_eq_true, if_false]
      unfold zy
      simp only [e4, e5, hw, Option.some.injEq, reduceCtorEq, decide_false, decide_true, Bool.false_eq_true, if_false, if_true]
      by_cases h4 : m.length = 4
      · obtain ⟨a, b, c, d, rfl⟩ := l4 h4
        have ho := h.o
        rw [if_neg (by simp), idx0, Option.bind_some, idx1, Option.bind_some, idx2, Option.bind_some, idx3, Option.bind_some, zFG (by simp; omega), Option.bind_some]
        exact ⟨_, rfl, rfl⟩
      · rw [if_pos (by simp; omega)]
        refine ⟨_, rfl, ?_⟩
        unfold zCw NbAs
        split
        · rename_i e; revert e; split <;> intro e <;> cases e
        · rename_i e; revert e; split <;> intro e
          · rename_i e'; have := Option.some.inj e'; subst this; exact absurd rfl h4
          · cases e
        · rfl
    all_goals
      unfold zy
      simp only [e4, e5, hw, Option.some.injEq, reduceCtorEq, decide_false, Bool.false_eq_true, if_false]
      exact ⟨_, rfl, rfl⟩
abbrev LnR := Bool × Int × Bool × Bool × List zS × List zB × List zB
def zDs (r : QD) : LnR := (true, r.p.Unit, r.unit, r.step, r.p.Tools, r.p.Steps, r.open_)
def LnAs (y : LnR) : Option QD → Prop
  | some r' => y = zDs r'
  | none => y.1 = false
theorem SmR.step {r : QD} (h : SmR r) : SmR ⟨r.p, r.unit, r.open_, true⟩ := ⟨h.t, h.s, h.o, h.i⟩
theorem zIY {l : List ByteArray} {m : List Int} (h : nums l = some m) (hl : l.length ≤ 300000) : m.length ≤ 1000000 := by
  rw [zIZ h]; omega
theorem KL (k : ByteArray) (r : List ByteArray) : WE (k :: r) = (Vy k).bind (lnW r) := rfl
theorem Ve {k : Int} {o : Option (List Int)} {l : Ln} (h : zA6 k o = some l) : ∃ x y, o = some [x, y] ∧ l = .step ⟨k, e0, ⟨x, y⟩, [], 0, 0, []⟩ := by
  unfold zA6 at h
  split at h
  · rename_i x y; exact ⟨x, y, rfl, (Option.some.inj h).symm⟩
  · cases h
theorem zBG {o : Option (List Int)} {l : Ln} (h : zCw o = some l) : ∃ a b c d, o = some [a, b, c, d] ∧ l = .rep ⟨8, e0, ⟨c, d⟩, [], a, b, []⟩ := by
  unfold zCw at h
  split at h
  · rename_i a b c d; exact ⟨a, b, c, d, rfl, (Option.some.inj h).symm⟩
  · cases h
theorem zAb {o : Option (List Int)} {l : Ln} (h : zBH o = some l) : ∃ m, o = some m ∧ m.length % 2 = 0 ∧ l = .step ⟨7, e0, ⟨0, 0⟩, pts m, 0, 0, []⟩ := by
  unfold zBH at h
  split at h
  · rename_i m
    split at h
    · rename_i h2; exact ⟨m, rfl, h2, (Option.some.inj h).symm⟩
    · cases h
  · cases h
theorem zCZ {nm : ByteArray} {o : Option (List Int)} {l : Ln} (h : zBF nm o = some l) : ∃ m, o = some m ∧ (m.length ≠ 0 ∧ m.length % 4 = 0) ∧ l = .tool ⟨nm, rcs m⟩ := by
  unfold zBF at h
  split at h
  · rename_i m
    split at h
    · rename_i h2; exact ⟨m, rfl, h2, (Option.some.inj h).symm⟩
    · cases h
  · cases h
theorem lnW_else {r : List ByteArray} {d : Wd} {l : Ln} (h1 : d ≠ .unit) (h2 : d ≠ .tool) (h : lnW r d = some l) : (∃ s, l = .step s) ∨ (∃ s, l = .rep s) ∨ l = .done := by
  cases d
  case unit => exact absurd rfl h1
  case tool => exact absurd rfl h2
  case dark => unfold lnW at h; simp only at h; split at h; exact .inl ⟨_, (Option.some.inj h).symm⟩; cases h
  case clear => unfold lnW at h; simp only at h; split at h; exact .inl ⟨_, (Option.some.inj h).symm⟩; cases h
  case done => unfold lnW at h; simp only at h; split at h; exact .inr (.inr (Option.some.inj h).symm); cases h
  case use =>
    unfold lnW at h
    simp only at h
    split at h
    · split at h
      · exact .inl ⟨_, (Option.some.inj h).symm⟩
      · cases h
    · cases h
  case move => obtain ⟨x, y, _, e⟩ := Ve h; exact .inl ⟨_, e⟩
  case flash => obtain ⟨x, y, _, e⟩ := Ve h; exact .inl ⟨_, e⟩
  case line => obtain ⟨x, y, _, e⟩ := Ve h; exact .inl ⟨_, e⟩
  case area => obtain ⟨m, _, _, e⟩ := zAb h; exact .inl ⟨_, e⟩
  case rept => obtain ⟨a, b, c, d, _, e⟩ := zBG h; exact .inr (.inl ⟨_, e⟩)
def accN (r : QD) : Option Ln → Option QD
  | some (.step s) => some (zBT ⟨r.p, r.unit, r.open_, true⟩ s)
  | some (.rep s) => some ⟨r.p, r.unit, r.open_ ++ [s], true⟩
  | _ => none
theorem tail_ok {N : Nat} (hN : 1000010 ≤ N) {r : QD} (h : SmR r) {k : ByteArray} {w : List ByteArray} (hl : w.length ≤ 300000) : ∃ y, ((cut (k :: w) 1 ((k :: w).length : Int)).bind fun l130 => (VA l130).bind fun zD4 =>
    if zD4.2 then (JE N ⟨r.p, r.unit, r.open_, true⟩ k zD4.1).bind fun zBs => some ((zBs.1, r.p.Unit, r.unit, true, r.p.Tools, zBs.2.1, zBs.2.2) : LnR)
    else some (false, r.p.Unit, r.unit, true, r.p.Tools, r.p.Steps, r.open_)) = some y ∧ LnAs y (accN r ((nums w).bind (nbL k))) := by
  have hc : cut (k :: w) 1 ((k :: w).length : Int) = some w := cutTo (w := k :: w) (n := 1) (by simp)
  rw [hc, Option.bind_some, zFJ (by omega), Option.bind_some]
  cases hn : nums w with
  | none =>
    rw [zE4 hn, if_neg (by simp)]
    exact ⟨_, rfl, rfl⟩
  | some m =>
    obtain ⟨y, y1, y2⟩ := numbered_ok hN h.step k (zIY hn hl)
    rw [zE3 hn, if_pos rfl]
    show ∃ z, ((JE N ⟨r.p, r.unit, r.open_, true⟩ k m).bind _) = some z ∧ LnAs z (accN r (nbL k m))
    rw [y1, Option.bind_some]
    refine ⟨_, rfl, ?_⟩
    cases hb : nbL k m with
    | none => rw [hb] at y2; exact y2
    | some l =>
      rw [hb] at y2
      cases l with
      | step s =>
        obtain ⟨_, p1, p2, p3, p4⟩ := zIV h.step s
        have y2 : y = _ := y2
        show _ = zDs (zBT ⟨r.p, r.unit, r.open_, true⟩ s)
        rw [y2]
        unfold zDs
        rw [p1, p2, p3, p4]
      | rep s =>
        have y2 : y = _ := y2
        show _ = zDs ⟨r.p, r.unit, r.open_ ++ [s], true⟩
        rw [y2]; rfl
      | unit n => exact y2
      | tool t => exact y2
      | done => exact y2
theorem head_ok {N : Nat} (hN : 1000010 ≤ N) {r : QD} (h : SmR r) {k : ByteArray} {w : List ByteArray} (hl : w.length ≤ 300000) (hk : Vy k = some .unit ∨ Vy k = some .tool) :
    ∃ y, VK N r (k :: w) = some y ∧ match acc r (WE (k :: w)) with
      | some r' => y = (true, r'.p.Unit, r'.unit, r'.p.Tools, r'.open_) ∧ r'.step = r.step ∧ r'.p.Steps = r.p.Steps
      | none => y.1 = false := by
  have e1 : sEq k ⟨#[117, 110, 105, 116]⟩ = decide (Vy k = some .unit) := zDQ k .unit
  unfold VK
  rw [idx0, Option.bind_some, e1]
  rcases hk with hk | hk
  · rw [hk]
    simp only [decide_true, if_true]
    have hc : cut (k :: w) 1 ((k :: w).length : Int) = some w := cutTo (w := k :: w) (n := 1) (by simp)
    rw [hc, Option.bind_some, zFJ (by omega), Option.bind_some]
    have hln : WE (k :: w) = zBE (nums w) := by rw [KL, hk]; rfl
    rw [hln]
    cases hn : nums w with
    | none =>
      rw [zE4 hn, if_pos (by simp)]
      exact ⟨_, rfl, rfl⟩
    | some m =>
      rw [zE3 hn]
      by_cases h1 : m.length = 1
      · obtain ⟨a, rfl⟩ : ∃ a, m = [a] := by
          match m, h1 with
          | [a], _ => exact ⟨a, rfl⟩
        show ∃ y, _ ∧ match acc r (some (.unit a)) with | some r' => _ | none => _
        unfold acc
        cases hu : r.unit
        · rw [if_neg (by simp), if_neg (by simp)]
          exact ⟨_, rfl, rfl, rfl, rfl⟩
        · rw [if_pos (by simp), if_pos rfl]
          exact ⟨_, rfl, rfl⟩
      · rw [if_pos (by simp; omega)]
        have hno : zBE (some m) = none := by
          unfold zBE
          split
          · rename_i e; have := Option.some.inj e; subst this; exact absurd rfl h1
          · rfl
        rw [hno]
        exact ⟨_, rfl, rfl⟩
  · rw [hk]
    simp only [Option.some.injEq, reduceCtorEq, decide_false, Bool.false_eq_true, if_false]
    cases w with
    | nil =>
      have hln : WE [k] = none := by rw [KL, hk]; rfl
      rw [hln, if_pos (by simp), Option.bind_some, if_pos rfl]
      exact ⟨_, rfl, rfl⟩
    | cons nm w2 =>
      have hln : WE (k :: nm :: w2) = if rowOk nm = true then zBF nm (nums w2) else none := by rw [KL, hk]; rfl
      rw [hln]
      simp at hl
      by_cases hus : r.unit = true ∧ r.step = false
      · rw [if_neg (by rw [hus.1, hus.2]; simp; omega), idx1, Option.bind_some, IsRow_ok, Option.bind_some, Option.bind_some]
        cases hrow : rowOk nm
        · exact ⟨_, rfl, rfl⟩
        · have hc : cut (k :: nm :: w2) 2 ((k :: nm :: w2).length : Int) = some w2 := cutTo (w := k :: nm :: w2) (n := 2) (by simp)
          rw [if_neg (by simp), hc, Option.bind_some, zFJ (by omega), Option.bind_some, if_pos rfl]
          cases hn : nums w2 with
          | none =>
            rw [zE4 hn, if_pos (by simp)]
            exact ⟨_, rfl, rfl⟩
          | some m =>
            have hsm := zIY hn (by omega)
            rw [zE3 hn]
            show ∃ y, (if (((!true) || ((m.length : Int) == 0)) || (Int.tmod (m.length : Int) 4 != 0)) = true then _ else _) = some y ∧ _
            rw [tm4]
            by_cases hg : m.length ≠ 0 ∧ m.length % 4 = 0
            · have hlt : zBF nm (some m) = some (.tool ⟨nm, rcs m⟩) := if_pos hg
              have hT := h.t
              have h0 : ((m.length : Int) == 0) = false := by rw [Bool.eq_false_iff]; intro e; rw [beq_iff_eq] at e; exact hg.1 (by omega)
              have h4 : decide (m.length % 4 ≠ 0) = false := decide_eq_false (by omega)
              rw [h0, h4, if_neg (by simp), hlt, Option.bind_some]
              have := rcs_loop (r := r) (b := true) (nm := nm) hsm m.length m [] [] N (Nat.le_refl _) rfl hg.2 (by omega) (Nat.le_refl _)
              simp only [List.nil_append, List.length_nil] at this
              rw [show ((0 : Nat) : Int) = 0 from rfl] at this
              rw [this, zFG (by simp; omega), Option.bind_some]
              rw [show acc r (some (.tool ⟨nm, rcs m⟩)) = some ⟨⟨r.p.Unit, r.p.Tools ++ [⟨nm, rcs m⟩], r.p.Steps⟩, r.unit, r.open_, r.step⟩ from if_pos hus]
              exact ⟨_, rfl, rfl, rfl, rfl⟩
            · have hlt : zBF nm (some m) = none := if_neg hg
              have hb : ((!true || ((m.length : Int) == 0)) || decide (m.length % 4 ≠ 0)) = true := by
                by_cases h0 : m.length = 0
                · have : ((m.length : Int) == 0) = true := by rw [beq_iff_eq]; omega
                  rw [this]; simp
                · have : decide (m.length % 4 ≠ 0) = true := decide_eq_true (fun e => hg ⟨h0, e⟩)
                  rw [this]; simp
              rw [hb, if_pos rfl, hlt]
              exact ⟨_, rfl, rfl⟩
      · have hno : acc r (if rowOk nm = true then zBF nm (nums w2) else none) = none := by
          cases rowOk nm
          · rfl
          · rw [if_pos rfl]
            unfold zBF
            cases nums w2 with
            | none => rfl
            | some m =>
              show acc r (if m.length ≠ 0 ∧ m.length % 4 = 0 then some (.tool ⟨nm, rcs m⟩) else none) = none
              split
              · exact if_neg hus
              · rfl
        rw [hno]
        have hc : (((!r.unit) || r.step) || decide ((((k :: nm :: w2).length : Nat) : Int) < 2)) = true := by
          cases hu : r.unit
          · rfl
          · cases hs : r.step
            · exact absurd ⟨hu, hs⟩ hus
            · rfl
        rw [if_pos hc, Option.bind_some, if_pos rfl]
        exact ⟨_, rfl, rfl⟩
theorem line_ok {N : Nat} (hN : 1000010 ≤ N) {r : QD} (h : SmR r) {s : ByteArray} (hs : s.size ≤ 200000) : ∃ y, VJ N r s = some y ∧ LnAs y (acc r (WE (words s))) := by
  have hwl := zJO s
  unfold VJ
  rw [split_ok (by omega), Option.bind_some]
  have d1 : sEq s ⟨#[100, 97, 114, 107]⟩ = decide (words s = [wb .dark]) := zIR s .dark
  have d2 : sEq s ⟨#[99, 108, 101, 97, 114]⟩ = decide (words s = [wb .clear]) := zIR s .clear
  have d3 : sEq s ⟨#[100, 111, 110, 101]⟩ = decide (words s = [wb .done]) := zIR s .done
  rw [d1, d2, d3]
  generalize words s = wl at *
  cases wl with
  | nil => simp at hwl
  | cons k w =>
    simp at hwl
    have e1 : sEq k ⟨#[117, 110, 105, 116]⟩ = decide (Vy k = some .unit) := zDQ k .unit
    have e2 : sEq k ⟨#[116, 111, 111, 108]⟩ = decide (Vy k = some .tool) := zDQ k .tool
    have e3 : sEq k ⟨#[117, 115, 101]⟩ = decide (Vy k = some .use) := zDQ k .use
    simp only [idx0, Option.bind_some, e1, e2, e3]
    by_cases hk : Vy k = some .unit ∨ Vy k = some .tool
    · obtain ⟨y, y1, y2⟩ := head_ok hN h (w := w) (by omega) hk
      have hc : ((if decide (Vy k = some .unit) = true then some true else some (decide (Vy k = some .tool))) : Option Bool) = some true := by
        rcases hk with e | e <;> rw [e] <;> simp
      rw [hc, Option.bind_some, if_pos rfl, y1, Option.bind_some]
      refine ⟨_, rfl, ?_⟩
      cases ha : acc r (WE (k :: w)) with
      | none => rw [ha] at y2; exact y2
      | some r' =>
        rw [ha] at y2
        obtain ⟨z1, z2, z3⟩ := y2
        show _ = zDs r'
        rw [z1]
        unfold zDs
        rw [z2, z3]
    · rw [not_or] at hk
      have hc : ((if decide (Vy k = some .unit) = true then some true else some (decide (Vy k = some .tool))) : Option Bool) = some false := by
        rw [decide_eq_false hk.1, decide_eq_false hk.2]; rfl
      rw [hc, Option.bind_some, if_neg (by simp)]
      cases hu : r.unit
      · rw [if_pos (by rfl)]
        refine ⟨_, rfl, ?_⟩
        have : acc r (WE (k :: w)) = none := by
          rw [KL]
          cases hd : Vy k with
          | none => rfl
          | some d =>
            rw [Option.bind_some]
            cases hl : lnW w d with
            | none => rfl
            | some l =>
              rcases lnW_else (fun e => hk.1 (by rw [hd, e])) (fun e => hk.2 (by rw [hd, e])) hl with ⟨s, rfl⟩ | ⟨s, rfl⟩ | rfl
              · show (if r.unit = true then _ else none) = none; rw [hu, if_neg (by simp)]
              · show (if r.unit = true then _ else none) = none; rw [hu, if_neg (by simp)]
              · show (if r.unit = true then _ else none) = none; rw [hu, if_neg (by simp)]
        rw [this]; rfl
      · rw [if_neg (by simp)]
        have hacc : ∀ o, (∀ l, o = some l → (∃ s, l = .step s) ∨ (∃ s, l = .rep s)) → acc r o = accN r o := fun o ho => by
          cases o with
          | none => rfl
          | some l =>
            rcases ho l rfl with ⟨s, rfl⟩ | ⟨s, rfl⟩
            · exact if_pos (c := r.unit = true) hu
            · exact if_pos (c := r.unit = true) hu
        have hput : ∀ s : zB, ∃ y, ((Qz ⟨r.p, true, r.open_, true⟩ s).bind fun zCn => some ((true, r.p.Unit, true, true, r.p.Tools, zCn.1, zCn.2) : LnR)) = some y ∧ LnAs y (accN r (some (.step s))) := fun s => by
          have h' := h.step
          rw [hu] at h'
          obtain ⟨p0, p1, p2, p3, p4⟩ := zIV h' s
          rw [p0, Option.bind_some]
          refine ⟨_, rfl, ?_⟩
          show _ = zDs (zBT ⟨r.p, r.unit, r.open_, true⟩ s)
          rw [hu]
          unfold zDs
          rw [p1, p2, p3, p4]
        have hone : ∀ d : Wd, (k :: w = [wb d]) ↔ (Vy k = some d ∧ w = []) := fun d => by
          constructor
          · intro e
            simp only [List.cons.injEq] at e
            rw [e.1]; exact ⟨wdOf_wb d, e.2⟩
          · rintro ⟨e1, e2⟩
            rw [zEQ e1, e2]
        have htail := tail_ok hN h (k := k) (w := w) (by omega)
        rw [hu] at htail
        have hD : Vy k = some .dark ∧ w = [] ∨ ¬ (Vy k = some .dark ∧ w = []) := Classical.em _
        have hC : Vy k = some .clear ∧ w = [] ∨ ¬ (Vy k = some .clear ∧ w = []) := Classical.em _
        have hO : Vy k = some .done ∧ w = [] ∨ ¬ (Vy k = some .done ∧ w = []) := Classical.em _
        rcases hD with hD | hD
        · rw [decide_eq_true ((hone _).2 hD), if_pos rfl]
          obtain ⟨y, y1, y2⟩ := hput (st0 1)
          refine ⟨y, y1, ?_⟩
          have e : WE (k :: w) = some (.step (st0 1)) := by rw [KL, hD.1, hD.2]; rfl
          rw [e, hacc _ (fun l hl => .inl ⟨_, (Option.some.inj hl).symm⟩)]
          exact y2
        rw [decide_eq_false (fun e => hD ((hone _).1 e)), if_neg (by simp)]
        rcases hC with hC | hC
        · rw [decide_eq_true ((hone _).2 hC), if_pos rfl]
          obtain ⟨y, y1, y2⟩ := hput (st0 2)
          refine ⟨y, y1, ?_⟩
          have e : WE (k :: w) = some (.step (st0 2)) := by rw [KL, hC.1, hC.2]; rfl
          rw [e, hacc _ (fun l hl => .inl ⟨_, (Option.some.inj hl).symm⟩)]
          exact y2
        rw [decide_eq_false (fun e => hC ((hone _).1 e)), if_neg (by simp)]
        rcases hO with hO | hO
        · rw [decide_eq_true ((hone _).2 hO), if_pos rfl]
          have e : WE (k :: w) = some .done := by rw [KL, hO.1, hO.2]; rfl
          have ho := h.o
          rw [e, KC (by omega) (by omega)]
          show ∃ y, _ ∧ LnAs y (if r.unit = true then (match r.open_.getLast? with | some x => some (zBT ⟨r.p, r.unit, r.open_.dropLast, true⟩ x) | none => none) else none)
          rw [hu, if_pos rfl]
          cases hl : r.open_.getLast? with
          | none =>
            have hn : r.open_ = [] := List.getLast?_eq_none_iff.1 hl
            rw [hn, if_pos (by simp)]
            exact ⟨_, rfl, rfl⟩
          | some x =>
            obtain ⟨l, hx⟩ := List.getLast?_eq_some_iff.1 hl
            have hlen : ((l ++ [x]).length : Int) - 1 = (l.length : Int) := by simp
            have hp : pre (l ++ [x]) (l.length : Int) = some l := by
              unfold pre
              rw [if_pos ⟨by omega, by simp; omega⟩]
              simp
            have hS : SmR ⟨r.p, true, l, true⟩ := ⟨h.t, h.s, by rw [hx] at ho; simp at ho ⊢; omega, fun y hy => h.i y (by rw [hx]; simp [hy])⟩
            obtain ⟨p0, p1, p2, p3, p4⟩ := zIV hS x
            rw [hx, hlen, if_neg (by simp), VX, Option.bind_some, hp, Option.bind_some, p0, Option.bind_some]
            refine ⟨_, rfl, ?_⟩
            show _ = zDs (zBT ⟨r.p, true, (l ++ [x]).dropLast, true⟩ x)
            rw [List.dropLast_concat]
            unfold zDs
            rw [p1, p2, p3, p4]
        rw [decide_eq_false (fun e => hO ((hone _).1 e)), if_neg (by simp)]
        by_cases hU : Vy k = some .use
        · rw [decide_eq_true hU, if_pos rfl]
          match w, hwl with
          | [], _ =>
            have e : WE [k] = none := by rw [KL, hU]; rfl
            rw [if_pos (by simp), Option.bind_some, if_pos rfl, e]
            exact ⟨_, rfl, rfl⟩
          | [nm], _ =>
            rw [if_neg (by simp), idx1, Option.bind_some, IsRow_ok, Option.bind_some, Option.bind_some]
            cases hr : rowOk nm
            · have e : WE [k, nm] = none := by rw [KL, hU, Option.bind_some]; exact if_neg (by rw [hr]; simp)
              rw [e]
              exact ⟨_, rfl, rfl⟩
            · have e : WE [k, nm] = some (.step ⟨3, nm, ⟨0, 0⟩, [], 0, 0, []⟩) := by rw [KL, hU, Option.bind_some]; exact if_pos hr
              obtain ⟨y, y1, y2⟩ := hput ⟨3, nm, ⟨0, 0⟩, [], 0, 0, []⟩
              rw [if_neg (by simp)]
              refine ⟨y, y1, ?_⟩
              rw [e, hacc _ (fun l hl => .inl ⟨_, (Option.some.inj hl).symm⟩)]
              exact y2
          | nm :: x :: t, _ =>
            have e : WE (k :: nm :: x :: t) = none := by rw [KL, hU]; rfl
            rw [if_pos (by simp; omega), Option.bind_some, if_pos rfl, e]
            exact ⟨_, rfl, rfl⟩
        · rw [decide_eq_false hU, if_neg (by simp)]
          obtain ⟨y, y1, y2⟩ := htail
          refine ⟨y, y1, ?_⟩
          have e : WE (k :: w) = (nums w).bind (nbL k) ∧ ∀ l, WE (k :: w) = some l → (∃ s, l = .step s) ∨ (∃ s, l = .rep s) := by
            rw [KL]
            cases hd : Vy k with
            | none =>
              refine ⟨?_, fun l hl => by cases hl⟩
              have : ∀ m, nbL k m = none := fun m => by unfold nbL; rw [hd]
              cases nums w with
              | none => rfl
              | some m => exact (this m).symm
            | some d =>
              rw [Option.bind_some]
              rw [hd] at hk hD hC hO hU
              cases d
              case unit => exact absurd rfl hk.1
              case tool => exact absurd rfl hk.2
              case use => exact absurd rfl hU
              case dark =>
                have hw : w ≠ [] := fun e => hD ⟨rfl, e⟩
                refine ⟨?_, fun l hl => ?_⟩
                · show (if w = [] then _ else none) = _
                  rw [if_neg hw]
                  have : ∀ m, nbL k m = none := fun m => by unfold nbL; rw [hd]
                  cases nums w with
                  | none => rfl
                  | some m => exact (this m).symm
                · have : (if w = [] then some (Ln.step (st0 1)) else none) = some l := hl
                  rw [if_neg hw] at this; cases this
              case clear =>
                have hw : w ≠ [] := fun e => hC ⟨rfl, e⟩
                refine ⟨?_, fun l hl => ?_⟩
                · show (if w = [] then _ else none) = _
                  rw [if_neg hw]
                  have : ∀ m, nbL k m = none := fun m => by unfold nbL; rw [hd]
                  cases nums w with
                  | none => rfl
                  | some m => exact (this m).symm
                · have : (if w = [] then some (Ln.step (st0 2)) else none) = some l := hl
                  rw [if_neg hw] at this; cases this
              case done =>
                have hw : w ≠ [] := fun e => hO ⟨rfl, e⟩
                refine ⟨?_, fun l hl => ?_⟩
                · show (if w = [] then _ else none) = _
                  rw [if_neg hw]
                  have : ∀ m, nbL k m = none := fun m => by unfold nbL; rw [hd]
                  cases nums w with
                  | none => rfl
                  | some m => exact (this m).symm
                · have : (if w = [] then some Ln.done else none) = some l := hl
                  rw [if_neg hw] at this; cases this
              case move =>
                refine ⟨?_, fun l hl => ?_⟩
                · cases hn : nums w with
                  | none => show zA6 4 (nums w) = none; rw [hn]; rfl
                  | some m => show zA6 4 (nums w) = nbL k m; unfold nbL; rw [hd, hn]
                · obtain ⟨x, y, _, e⟩ := Ve (show zA6 4 (nums w) = some l from hl); exact .inl ⟨_, e⟩
              case flash =>
                refine ⟨?_, fun l hl => ?_⟩
                · cases hn : nums w with
                  | none => show zA6 5 (nums w) = none; rw [hn]; rfl
                  | some m => show zA6 5 (nums w) = nbL k m; unfold nbL; rw [hd, hn]
                · obtain ⟨x, y, _, e⟩ := Ve (show zA6 5 (nums w) = some l from hl); exact .inl ⟨_, e⟩
              case line =>
                refine ⟨?_, fun l hl => ?_⟩
                · cases hn : nums w with
                  | none => show zA6 6 (nums w) = none; rw [hn]; rfl
                  | some m => show zA6 6 (nums w) = nbL k m; unfold nbL; rw [hd, hn]
                · obtain ⟨x, y, _, e⟩ := Ve (show zA6 6 (nums w) = some l from hl); exact .inl ⟨_, e⟩
              case area =>
                refine ⟨?_, fun l hl => ?_⟩
                · cases hn : nums w with
                  | none => show zBH (nums w) = none; rw [hn]; rfl
                  | some m => show zBH (nums w) = nbL k m; unfold nbL; rw [hd, hn]
                · obtain ⟨m, _, _, e⟩ := zAb (show zBH (nums w) = some l from hl); exact .inl ⟨_, e⟩
              case rept =>
                refine ⟨?_, fun l hl => ?_⟩
                · cases hn : nums w with
                  | none => show zCw (nums w) = none; rw [hn]; rfl
                  | some m => show zCw (nums w) = nbL k m; unfold nbL; rw [hd, hn]
                · obtain ⟨a, b, c, d, _, e⟩ := zBG (show zCw (nums w) = some l from hl); exact .inr ⟨_, e⟩
          rw [hacc _ e.2, e.1]
          exact y2
theorem zCB (d : Wd) : rowOk (wb d) = true := by cases d <;> decide
def Qt : Nat → Bool → List (Option Ln) → List zB → List zB × List (Option Ln) × Bool
  | 0, _, ls, out => (out, ls, true)
  | _ + 1, inner, [], out => (out, [], inner)
  | n + 1, inner, some (.step s) :: ls, out => Qt n inner ls (out ++ [s])
  | n + 1, inner, some (.rep s) :: ls, out => if (Qt n true ls []).2.2 = true then (out, (Qt n true ls []).2.1, true) else Qt n inner (Qt n true ls []).2.1 (out ++ [⟨s.Kind, s.Name, s.At, s.Points, s.NX, s.NY, (Qt n true ls []).1⟩])
  | _ + 1, inner, some .done :: ls, out => if inner = true then (out, ls, false) else (out, some .done :: ls, true)
  | _ + 1, _, x :: ls, out => (out, x :: ls, true)
theorem zBS : ∀ (n : Nat) (inner : Bool) (ls : List (Option Ln)) (out : List zB), (Qt n inner ls out).2.1 <:+ ls
  | 0, _, ls, _ => by rw [Qt]; exact List.suffix_refl _
  | n + 1, inner, [], out => by rw [Qt]; exact List.suffix_refl _
  | n + 1, inner, some (.step s) :: ls, out => by rw [Qt]; exact (zBS n inner ls _).trans (List.suffix_cons _ _)
  | n + 1, inner, some (.rep s) :: ls, out => by
    rw [Qt]
    have h1 := zBS n true ls []
    split
    · exact h1.trans (List.suffix_cons _ _)
    · exact ((zBS n inner _ _).trans h1).trans (List.suffix_cons _ _)
  | n + 1, inner, some .done :: ls, out => by
    rw [Qt]
    split
    · exact List.suffix_cons _ _
    · exact List.suffix_refl _
  | n + 1, inner, some (.unit _) :: ls, out => by rw [Qt] <;> first | exact List.suffix_refl _ | (intros; simp_all)
  | n + 1, inner, some (.tool _) :: ls, out => by rw [Qt] <;> first | exact List.suffix_refl _ | (intros; simp_all)
  | n + 1, inner, none :: ls, out => by rw [Qt] <;> first | exact List.suffix_refl _ | (intros; simp_all)
theorem zFb (n : Nat) (inner : Bool) (ls : List (Option Ln)) (out : List zB) : (Qt n inner ls out).2.1.length ≤ ls.length := (zBS n inner ls out).length_le
theorem zCX : ∀ (n n' : Nat) (inner : Bool) (ls : List (Option Ln)) (out : List zB), ls.length < n → ls.length < n' → Qt n inner ls out = Qt n' inner ls out
  | 0, _, _, ls, _, h, _ => by omega
  | _, 0, _, ls, _, _, h => by omega
  | n + 1, n' + 1, inner, [], out, _, _ => by rw [Qt, Qt]
  | n + 1, n' + 1, inner, some (.step s) :: ls, out, h, h' => by
    simp at h h'
    rw [Qt, Qt]; exact zCX n n' inner ls _ h h'
  | n + 1, n' + 1, inner, some (.rep s) :: ls, out, h, h' => by
    simp at h h'
    have e := zCX n n' true ls [] h h'
    have hl := zFb n' true ls []
    rw [Qt, Qt, e]
    split
    · rfl
    · exact zCX n n' inner _ _ (by omega) (by omega)
  | n + 1, n' + 1, inner, some .done :: ls, out, _, _ => by rw [Qt, Qt]
  | n + 1, n' + 1, inner, some (.unit _) :: ls, out, _, _ => rfl
  | n + 1, n' + 1, inner, some (.tool _) :: ls, out, _, _ => rfl
  | n + 1, n' + 1, inner, none :: ls, out, _, _ => rfl
abbrev Zl := ByteArray × Bool
def lnZ (z : Zl) : Option Ln := if z.2 = true then WE (words z.1) else none
section
variable {Z : List Zl} (hz : ∀ z ∈ Z, z.1.size ≤ 200000) (hZ : Z.length ≤ 300000)
include hz
include hZ
end
def zOf : Nat → ByteArray → List Zl
  | 0, _ => []
  | n + 1, t => if (bs t).isEmpty = true then [] else ((Qp t).1, (Qp t).2.2) :: zOf n (Qp t).2.1
theorem lineCut_no {t : ByteArray} (h : (Qp t).2.2 = false) : (Qp t).2.1 = ⟨#[]⟩ := by
  unfold Qp at h ⊢
  simp only at h ⊢
  unfold Lib.cut at h ⊢
  split at h
  · cases h
  · rename_i hh
    rw [if_neg hh]
theorem zF1 {t : ByteArray} (h : (bs t).isEmpty = false) : (Qp t).2.1.size < t.size := by
  have hs := zE7 t
  cases hc : (Qp t).2.2 with
  | true => have := hs.2 hc; omega
  | false =>
    rw [lineCut_no hc]
    have : (bs t).length ≠ 0 := fun e => by rw [List.eq_nil_of_length_eq_zero e] at h; cases h
    have h0 : (⟨#[]⟩ : ByteArray).size = 0 := rfl
    have h1 := Jz t
    omega
theorem zOf_sz : ∀ (n : Nat) (t : ByteArray) (B : Nat), t.size ≤ B → ∀ z ∈ zOf n t, z.1.size ≤ B
  | 0, _, _, _, z, hz => by cases hz
  | n + 1, t, B, h, z, hz => by
    rw [zOf] at hz
    split at hz
    · cases hz
    · rename_i hne
      have hne : (bs t).isEmpty = false := by simpa using hne
      have h1 := (zE7 t).1
      have h2 := zF1 hne
      rcases List.mem_cons.1 hz with rfl | hz
      · simp only; omega
      · exact zOf_sz n _ B (by omega) z hz
theorem zOf_len : ∀ (n : Nat) (t : ByteArray), (zOf n t).length ≤ t.size
  | 0, _ => by simp [zOf]
  | n + 1, t => by
    rw [zOf]
    split
    · simp
    · rename_i hne
      have hne : (bs t).isEmpty = false := by simpa using hne
      have h2 := zF1 hne
      have := zOf_len n (Qp t).2.1
      rw [List.length_cons]; omega
def zAW : List (Option Ln) → List zS → List zS × List (Option Ln)
  | some (.tool t) :: ls, a => zAW ls (a ++ [t])
  | ls, a => (a, ls)
def zDN (n : Int) (T : List zS) (tot : Nat) (ls : List (Option Ln)) : Int ⊕ zi :=
  if (Qt (ls.length + 1) false ls []).2.2 = true then .inl (((tot - (Qt (ls.length + 1) false ls []).2.1.length : Nat) : Int) + 1) else .inr ⟨n, T, (Qt (ls.length + 1) false ls []).1⟩
def zCt : List (Option Ln) → Int ⊕ zi
  | some (.unit n) :: ls => zDN n (zAW ls []).1 (ls.length + 1) (zAW ls []).2
  | _ => .inl 1
def zP : zi := ⟨0, [], []⟩
def ansL (chk : zi → Option Int) : Int ⊕ zi → Option (zi × Int × Int)
  | .inl n => some (zP, n, 10)
  | .inr p => (chk p).bind fun e => if e != 0 then some (zP, 0, e) else some (p, 0, 0)
section
variable {Z : List Zl} (hz : ∀ z ∈ Z, z.1.size ≤ 200000) (hZ : Z.length ≤ 300000)
include hz hZ
end
def WZ (t : ByteArray) : List (Option Ln) := (zOf (t.size + 1) t).map lnZ
def zCR : QD → List (Option Ln) → Option QD × Nat
  | r, [] => (some r, 0)
  | r, l :: ls => match acc r l with
    | some r' => zCR r' ls
    | none => (none, ls.length + 1)
structure SmC (r : QD) (B : Nat) : Prop where
  t : r.p.Tools.length ≤ B
  s : r.p.Steps.length ≤ B
  o : r.open_.length ≤ B
  i : ∀ x ∈ r.open_, x.Steps.length ≤ B
theorem putR_sm {r : QD} {B : Nat} (h : SmC r B) (s : zB) : SmC (zBT r s) (B + 1) := by
  unfold zBT
  cases hl : r.open_.getLast? with
  | none =>
    refine ⟨Nat.le_succ_of_le h.t, ?_, Nat.le_succ_of_le h.o, fun x hx => Nat.le_succ_of_le (h.i x hx)⟩
    have := h.s
    simp; omega
  | some x =>
    obtain ⟨l, hx⟩ := List.getLast?_eq_some_iff.1 hl
    have ho := h.o
    rw [hx] at ho
    have hi := h.i
    rw [hx] at hi
    refine ⟨Nat.le_succ_of_le h.t, Nat.le_succ_of_le h.s, ?_, fun y hy => ?_⟩
    · show (r.open_.dropLast ++ [_]).length ≤ _
      rw [hx]; simp at ho ⊢; omega
    · have hy : y ∈ r.open_.dropLast ++ [(⟨x.Kind, x.Name, x.At, x.Points, x.NX, x.NY, x.Steps ++ [s]⟩ : zB)] := hy
      rw [hx, List.dropLast_concat] at hy
      rcases List.mem_append.1 hy with hy | hy
      · exact Nat.le_succ_of_le (hi y (by simp [hy]))
      · simp at hy; subst hy
        have := hi x (by simp)
        simp; omega
theorem acc_sm {r r' : QD} {B : Nat} (h : SmC r B) {l : Option Ln} (ha : acc r l = some r') (hl : ∀ s, l = some (.rep s) → s.Steps = []) : SmC r' (B + 1) := by
  have hs : SmC ⟨r.p, r.unit, r.open_, true⟩ B := ⟨h.t, h.s, h.o, h.i⟩
  cases l with
  | none => cases ha
  | some l =>
    cases l with
    | unit n =>
      have ha : (if r.unit = true then none else some _) = some r' := ha
      split at ha
      · cases ha
      · obtain rfl := Option.some.inj ha
        exact ⟨Nat.le_succ_of_le h.t, Nat.le_succ_of_le h.s, Nat.le_succ_of_le h.o, fun x hx => Nat.le_succ_of_le (h.i x hx)⟩
    | tool t =>
      have ha : (if r.unit = true ∧ r.step = false then some _ else none) = some r' := ha
      split at ha
      · obtain rfl := Option.some.inj ha
        have := h.t
        exact ⟨by simp; omega, Nat.le_succ_of_le h.s, Nat.le_succ_of_le h.o, fun x hx => Nat.le_succ_of_le (h.i x hx)⟩
      · cases ha
    | step s =>
      have ha : (if r.unit = true then some (zBT ⟨r.p, r.unit, r.open_, true⟩ s) else none) = some r' := ha
      split at ha
      · obtain rfl := Option.some.inj ha
        exact putR_sm hs s
      · cases ha
    | rep s =>
      have ha : (if r.unit = true then some _ else none) = some r' := ha
      split at ha
      · obtain rfl := Option.some.inj ha
        have := h.o
        refine ⟨Nat.le_succ_of_le h.t, Nat.le_succ_of_le h.s, by simp; omega, fun x hx => ?_⟩
        rcases List.mem_append.1 hx with hx | hx
        · exact Nat.le_succ_of_le (h.i x hx)
        · simp at hx; subst hx; rw [hl x rfl]; simp
      · cases ha
    | done =>
      have ha : (if r.unit = true then (match r.open_.getLast? with | some x => some (zBT ⟨r.p, r.unit, r.open_.dropLast, true⟩ x) | none => none) else none) = some r' := ha
      split at ha
      · split at ha
        · rename_i x hx
          obtain rfl := Option.some.inj ha
          have ho := h.o
          have hd : SmC ⟨r.p, r.unit, r.open_.dropLast, true⟩ B := ⟨h.t, h.s, by show r.open_.dropLast.length ≤ B; rw [List.length_dropLast]; omega, fun y hy => h.i y (List.dropLast_subset _ hy)⟩
          exact putR_sm hd x
        · cases ha
      · cases ha
theorem lnOf_rep {l : List ByteArray} {s : zB} (h : WE l = some (.rep s)) : s.Steps = [] := by
  cases l with
  | nil => cases h
  | cons k r =>
    rw [KL] at h
    cases hd : Vy k with
    | none => rw [hd] at h; cases h
    | some d =>
      rw [hd, Option.bind_some] at h
      cases d with
      | rept =>
        obtain ⟨_, _, _, _, _, e⟩ := zBG (show zCw (nums r) = _ from h)
        injection e with e
        rw [e]
      | unit => exact absurd h (by show zBE (nums r) ≠ _; unfold zBE; split <;> simp)
      | tool =>
        cases r with
        | nil => cases h
        | cons nm r2 =>
          have h : (if rowOk nm = true then zBF nm (nums r2) else none) = some (Ln.rep s) := h
          split at h
          · obtain ⟨_, _, _, e⟩ := zCZ h
            cases e
          · cases h
      | dark => exact absurd h (by show (if r = [] then _ else none) ≠ _; split <;> simp)
      | clear => exact absurd h (by show (if r = [] then _ else none) ≠ _; split <;> simp)
      | done => exact absurd h (by show (if r = [] then _ else none) ≠ _; split <;> simp)
      | use =>
        cases r with
        | nil => cases h
        | cons nm r2 =>
          cases r2 with
          | nil =>
            have h : (if rowOk nm = true then some (Ln.step ⟨3, nm, ⟨0, 0⟩, [], 0, 0, []⟩) else none) = some (Ln.rep s) := h
            split at h <;> cases h
          | cons _ _ => cases h
      | move => obtain ⟨_, _, _, e⟩ := Ve (show zA6 4 (nums r) = _ from h); cases e
      | flash => obtain ⟨_, _, _, e⟩ := Ve (show zA6 5 (nums r) = _ from h); cases e
      | line => obtain ⟨_, _, _, e⟩ := Ve (show zA6 6 (nums r) = _ from h); cases e
      | area => obtain ⟨_, _, _, e⟩ := zAb (show zBH (nums r) = _ from h); cases e
theorem lnZ_rep {z : Zl} {s : zB} (h : lnZ z = some (.rep s)) : s.Steps = [] := by
  unfold lnZ at h
  split at h
  · exact lnOf_rep h
  · cases h
def finL (chk : zi → Option Int) (n : Int) (tot : Nat) : Option QD × Nat → Option (zi × Int × Int)
  | (none, k) => some (zP, n + ((tot - k : Nat) : Int), 10)
  | (some r, _) => if r.unit = true ∧ r.open_ = [] then (chk r.p).bind fun e => if e != 0 then some (zP, 0, e) else some (r.p, 0, 0) else some (zP, n + (tot : Int), 10)
theorem finL_next (chk : zi → Option Int) (n : Int) (tot : Nat) (o : Option QD × Nat) (h : o.2 ≤ tot) : finL chk (n + 1) tot o = finL chk n (tot + 1) o := by
  obtain ⟨o, k⟩ := o
  have h : k ≤ tot := h
  cases o with
  | none =>
    show some (zP, n + 1 + ((tot - k : Nat) : Int), (10 : Int)) = some (zP, n + ((tot + 1 - k : Nat) : Int), 10)
    rw [show n + 1 + ((tot - k : Nat) : Int) = n + ((tot + 1 - k : Nat) : Int) by omega]
  | some r =>
    show (if r.unit = true ∧ r.open_ = [] then _ else some (zP, n + 1 + (tot : Int), (10 : Int))) = (if r.unit = true ∧ r.open_ = [] then _ else some (zP, n + ((tot + 1 : Nat) : Int), (10 : Int)))
    split
    · rfl
    · rw [show n + 1 + (tot : Int) = n + ((tot + 1 : Nat) : Int) by omega]
theorem runL_le : ∀ (ls : List (Option Ln)) (r : QD), (zCR r ls).2 ≤ ls.length
  | [], _ => Nat.le_refl _
  | l :: ls, r => by
    rw [zCR]
    cases acc r l with
    | none => exact Nat.le_refl _
    | some r' => exact Nat.le_succ_of_le (runL_le ls r')
theorem SmC.smR {r : QD} {B : Nat} (h : SmC r B) (hB : B ≤ 300000) : SmR r := ⟨Nat.le_trans h.t hB, Nat.le_trans h.s hB, Nat.le_trans h.o hB, fun x hx => Nat.le_trans (h.i x hx) hB⟩
theorem zJX {N : Nat} (hN : 2000000 ≤ N) : ∀ (k m : Nat) (r : QD) (t : ByteArray) (B : Nat) (n : Int), t.size < k → k ≤ m → t.size ≤ 200000 → SmC r B → B + t.size ≤ 300000 → 0 ≤ n → n + t.size ≤ 1000000 →
    Kz N m r.open_ r.p.Unit r.p.Tools r.p.Steps r.unit r.step t n = finL (Qg N) n (zOf k t).length (zCR r ((zOf k t).map lnZ))
  | 0, _, _, _, _, _, h, _, _, _, _, _, _ => by omega
  | k + 1, m, r, t, B, n, h, hm, hs, hr, hB, h0, hn => by
    obtain ⟨m, rfl⟩ : ∃ j, m = j + 1 := ⟨m - 1, by omega⟩
    rw [Kz, sEq_nil, zOf]
    cases hne : (bs t).isEmpty
    · have h2 := zF1 hne
      have h3 := zE7 t
      have hls : (Qp t).1.size ≤ 200000 := by have := h3.1; omega
      rw [if_pos (by rfl), cut_line hs, Option.bind_some, if_neg (by simp : ¬ (false = true)), List.map_cons, List.length_cons]
      cases hc : (Qp t).2.2 with
      | false =>
        have e : lnZ ((Qp t).1, false) = none := rfl
        rw [if_pos (by rfl), e]
        show some (zP, n, (10 : Int)) = some (zP, n + (((zOf k (Qp t).2.1).length + 1 - (((zOf k (Qp t).2.1).map lnZ).length + 1) : Nat) : Int), 10)
        rw [List.length_map, Nat.sub_self]; simp
      | true =>
        have e : lnZ ((Qp t).1, true) = WE (words (Qp t).1) := rfl
        obtain ⟨y, y1, y2⟩ := line_ok (N := N) (by omega) (hr.smR (by omega)) hls
        rw [if_neg (show ¬ (!true) = true by simp), show (QD.mk (zi.mk r.p.Unit r.p.Tools r.p.Steps) r.unit r.open_ r.step) = r from rfl, y1, Option.bind_some, e, zCR]
        cases ha : acc r (WE (words (Qp t).1)) with
        | none =>
          rw [ha] at y2
          have y2 : y.1 = false := y2
          rw [if_pos (by rw [y2]; rfl)]
          show some (zP, n, (10 : Int)) = some (zP, n + (((zOf k (Qp t).2.1).length + 1 - (((zOf k (Qp t).2.1).map lnZ).length + 1) : Nat) : Int), 10)
          rw [List.length_map, Nat.sub_self]; simp
        | some r' =>
          rw [ha] at y2
          have y2 : y = zDs r' := y2
          subst y2
          have hr' := acc_sm hr ha (fun s hs' => lnOf_rep hs')
          have hsz := h3.2 hc
          rw [if_neg (by simp [zDs]), KC (by omega) (by omega)]
          have ih := zJX hN k m r' (Qp t).2.1 (B + 1) (n + 1) (by omega) (by omega) (by omega) hr' (by omega) (by omega) (by omega)
          show Kz N m r'.open_ r'.p.Unit r'.p.Tools r'.p.Steps r'.unit r'.step (Qp t).2.1 (n + 1) = _
          rw [ih]
          have hle := runL_le ((zOf k (Qp t).2.1).map lnZ) r'
          rw [List.length_map] at hle
          rw [finL_next _ _ _ _ hle]
    · rw [if_neg (by simp), if_pos rfl, List.map_nil, zCR]
      show _ = if r.unit = true ∧ r.open_ = [] then _ else some (zP, n + ((0 : Nat) : Int), (10 : Int))
      by_cases hc : r.unit = true ∧ r.open_ = []
      · rw [if_pos hc, if_neg (by rw [hc.1, hc.2]; decide)]; rfl
      · rw [if_neg hc, if_pos (by
          rw [Bool.or_eq_true, decide_eq_true_eq]
          cases hu : r.unit
          · exact .inl rfl
          · right
            have : r.open_ ≠ [] := fun e => hc ⟨hu, e⟩
            have := List.length_pos_iff.2 this
            omega)]
        simp [zP]
theorem ReadP_ok {N : Nat} (hN : 2000000 ≤ N) (t : ByteArray) : KX N t = if 200000 < t.size then some (zP, 0, 2) else finL (Qg N) 1 (WZ t).length (zCR ⟨zP, false, [], false⟩ (WZ t)) := by
  unfold KX
  by_cases ht : 200000 < t.size
  · rw [if_pos (decide_eq_true (by omega)), if_pos ht]; rfl
  · rw [if_neg (by rw [decide_eq_true_eq]; omega), if_neg ht]
    have h := zJX hN (t.size + 1) N ⟨zP, false, [], false⟩ t 0 1 (by omega) (by omega) (by omega) ⟨by simp [zP], by simp [zP], by simp, by simp⟩ (by omega) (by omega) (by omega)
    unfold WZ
    rw [List.length_map]
    exact h
def Wq (x : zB) (out : List zB) : zB := ⟨x.Kind, x.Name, x.At, x.Points, x.NX, x.NY, out⟩
theorem zGR {x : zB} (h : x.Steps = []) : Wq x [] = x := by
  cases x
  simp at h
  subst h
  rfl
def BadL (rest : List (Option Ln)) (res : Option QD × Nat) : Prop := (rest ≠ [] ∧ res = (none, rest.length)) ∨ (rest = [] ∧ ∃ r', res = (some r', 0) ∧ r'.open_ ≠ [])
theorem putR_top (p : zi) (op : List zB) (x s : zB) (out : List zB) : zBT ⟨p, true, op ++ [Wq x out], true⟩ s = ⟨p, true, op ++ [Wq x (out ++ [s])], true⟩ := by
  unfold zBT
  simp [Wq]
theorem putR_nil (u : Int) (T : List zS) (out : List zB) (s : zB) : zBT ⟨⟨u, T, out⟩, true, [], true⟩ s = ⟨⟨u, T, out ++ [s]⟩, true, [], true⟩ := rfl
theorem zBA {r r' : QD} {l : Option Ln} {ls : List (Option Ln)} (h : acc r l = some r') : zCR r (l :: ls) = zCR r' ls := by rw [zCR, h]
theorem zJV {r : QD} {l : Option Ln} {ls : List (Option Ln)} (h : acc r l = none) : zCR r (l :: ls) = (none, (l :: ls).length) := by rw [zCR, h]; rfl
theorem zCL {r : QD} {l : Option Ln} {ls : List (Option Ln)} (h : acc r l = none) : BadL (l :: ls) (zCR r (l :: ls)) := .inl ⟨by simp, zJV h⟩
def zI7 (ls : List (Option Ln)) : Prop := ∀ s, some (Ln.rep s) ∈ ls → s.Steps = []
theorem zI7.suf {ls ls' : List (Option Ln)} (h : zI7 ls) (hs : ls' <:+ ls) : zI7 ls' := fun s hm => h s (hs.subset hm)
theorem zEa : ∀ (k : Nat) (ls : List (Option Ln)) (out : List zB) (p : zi) (op : List zB) (x : zB), ls.length < k → zI7 ls →
    ((Qt k true ls out).2.2 = false → zCR ⟨p, true, op ++ [Wq x out], true⟩ ls = zCR (zBT ⟨p, true, op, true⟩ (Wq x (Qt k true ls out).1)) (Qt k true ls out).2.1) ∧
    ((Qt k true ls out).2.2 = true → BadL (Qt k true ls out).2.1 (zCR ⟨p, true, op ++ [Wq x out], true⟩ ls))
  | 0, ls, _, _, _, _, h, _ => by omega
  | k + 1, [], out, p, op, x, _, _ => by
    rw [Qt]
    exact ⟨fun h => (by cases h), fun _ => .inr ⟨rfl, _, rfl, by simp⟩⟩
  | k + 1, some (.step s) :: ls, out, p, op, x, h, hr => by
    simp at h
    rw [Qt]
    have ha : acc ⟨p, true, op ++ [Wq x out], true⟩ (some (.step s)) = some ⟨p, true, op ++ [Wq x (out ++ [s])], true⟩ := by
      show some (zBT ⟨p, true, op ++ [Wq x out], true⟩ s) = _
      rw [putR_top]
    rw [zBA ha]
    exact zEa k ls (out ++ [s]) p op x h (hr.suf (List.suffix_cons _ _))
  | k + 1, some (.rep s) :: ls, out, p, op, x, h, hr => by
    simp at h
    rw [Qt]
    have hs : s.Steps = [] := hr s (by simp)
    have hr' := hr.suf (List.suffix_cons _ _)
    have ha : acc ⟨p, true, op ++ [Wq x out], true⟩ (some (.rep s)) = some ⟨p, true, (op ++ [Wq x out]) ++ [Wq s []], true⟩ := by
      rw [zGR hs]; rfl
    rw [zBA ha]
    have ih := zEa k ls [] p (op ++ [Wq x out]) s h hr'
    have hsuf := zBS k true ls []
    have hlen := zFb k true ls []
    show ((if (Qt k true ls []).2.2 = true then _ else Qt k true (Qt k true ls []).2.1 (out ++ [Wq s (Qt k true ls []).1])).2.2 = false → _) ∧ _
    generalize Qt k true ls [] = R at *
    obtain ⟨o, rest, bad⟩ := R
    cases bad
    · have i1 := ih.1 rfl
      rw [putR_top] at i1
      simp only at i1 hlen hsuf
      have := zEa k rest (out ++ [Wq s o]) p op x (by omega) (hr'.suf hsuf)
      simp only [Bool.false_eq_true, if_false]
      rw [i1]
      exact this
    · have i2 := ih.2 rfl
      simp only [if_true]
      exact ⟨fun h => (by cases h), fun _ => i2⟩
  | k + 1, some .done :: ls, out, p, op, x, _, _ => by
    rw [Qt, if_pos rfl]
    refine ⟨fun _ => ?_, fun h => by cases h⟩
    refine zBA ?_
    show (match (op ++ [Wq x out]).getLast? with | some y => some (zBT ⟨p, true, (op ++ [Wq x out]).dropLast, true⟩ y) | none => none) = _
    simp
  | k + 1, some (.unit _) :: ls, out, p, op, x, _, _ => by
    have e : ∀ n, Qt (k + 1) true (some (.unit n) :: ls) out = (out, some (.unit n) :: ls, true) := fun n => rfl
    rw [e]
    exact ⟨fun h => (by cases h), fun _ => zCL rfl⟩
  | k + 1, some (.tool _) :: ls, out, p, op, x, _, _ => by
    have e : ∀ n, Qt (k + 1) true (some (.tool n) :: ls) out = (out, some (.tool n) :: ls, true) := fun n => rfl
    rw [e]
    exact ⟨fun h => (by cases h), fun _ => zCL rfl⟩
  | k + 1, none :: ls, out, p, op, x, _, _ => by
    have e : Qt (k + 1) true (none :: ls) out = (out, none :: ls, true) := rfl
    rw [e]
    exact ⟨fun h => (by cases h), fun _ => zCL rfl⟩
theorem zGa : ∀ (k : Nat) (ls : List (Option Ln)) (out : List zB) (u : Int) (T : List zS) (b : Bool), ls.length < k → zI7 ls → (b = true ∨ ∀ t ls', ls ≠ some (.tool t) :: ls') →
    ((Qt k false ls out).2.2 = false → ∃ b', zCR ⟨⟨u, T, out⟩, true, [], b⟩ ls = (some ⟨⟨u, T, (Qt k false ls out).1⟩, true, [], b'⟩, 0)) ∧
    ((Qt k false ls out).2.2 = true → BadL (Qt k false ls out).2.1 (zCR ⟨⟨u, T, out⟩, true, [], b⟩ ls))
  | 0, ls, _, _, _, _, h, _, _ => by omega
  | k + 1, [], out, u, T, b, _, _, _ => by
    rw [Qt]
    exact ⟨fun _ => ⟨b, rfl⟩, fun h => by cases h⟩
  | k + 1, some (.step s) :: ls, out, u, T, b, h, hr, hb => by
    simp at h
    rw [Qt]
    have ha : acc ⟨⟨u, T, out⟩, true, [], b⟩ (some (.step s)) = some ⟨⟨u, T, out ++ [s]⟩, true, [], true⟩ := rfl
    rw [zBA ha]
    exact zGa k ls (out ++ [s]) u T true h (hr.suf (List.suffix_cons _ _)) (.inl rfl)
  | k + 1, some (.rep s) :: ls, out, u, T, b, h, hr, hb => by
    simp at h
    rw [Qt]
    have hs : s.Steps = [] := hr s (by simp)
    have hr' := hr.suf (List.suffix_cons _ _)
    have ha : acc ⟨⟨u, T, out⟩, true, [], b⟩ (some (.rep s)) = some ⟨⟨u, T, out⟩, true, [] ++ [Wq s []], true⟩ := by
      rw [zGR hs]; rfl
    rw [zBA ha]
    have ih := zEa k ls [] ⟨u, T, out⟩ [] s h hr'
    have hsuf := zBS k true ls []
    have hlen := zFb k true ls []
    show ((if (Qt k true ls []).2.2 = true then _ else Qt k false (Qt k true ls []).2.1 (out ++ [Wq s (Qt k true ls []).1])).2.2 = false → _) ∧ _
    generalize Qt k true ls [] = R at *
    obtain ⟨o, rest, bad⟩ := R
    cases bad
    · have i1 := ih.1 rfl
      rw [putR_nil] at i1
      simp only at i1 hlen hsuf
      have := zGa k rest (out ++ [Wq s o]) u T true (by omega) (hr'.suf hsuf) (.inl rfl)
      simp only [Bool.false_eq_true, if_false]
      rw [i1]
      exact this
    · have i2 := ih.2 rfl
      simp only [if_true]
      exact ⟨fun h => (by cases h), fun _ => i2⟩
  | k + 1, some .done :: ls, out, u, T, b, _, _, _ => by
    rw [Qt, if_neg (by simp)]
    exact ⟨fun h => (by cases h), fun _ => zCL rfl⟩
  | k + 1, some (.unit _) :: ls, out, u, T, b, _, _, _ => by
    have e : ∀ n, Qt (k + 1) false (some (.unit n) :: ls) out = (out, some (.unit n) :: ls, true) := fun n => rfl
    rw [e]
    exact ⟨fun h => (by cases h), fun _ => zCL rfl⟩
  | k + 1, some (.tool t) :: ls, out, u, T, b, _, _, hb => by
    have e : ∀ n, Qt (k + 1) false (some (.tool n) :: ls) out = (out, some (.tool n) :: ls, true) := fun n => rfl
    rw [e]
    have hb : b = true := hb.resolve_right fun h => h t ls rfl
    subst hb
    exact ⟨fun h => (by cases h), fun _ => zCL rfl⟩
  | k + 1, none :: ls, out, u, T, b, _, _, _ => by
    have e : Qt (k + 1) false (none :: ls) out = (out, none :: ls, true) := rfl
    rw [e]
    exact ⟨fun h => (by cases h), fun _ => zCL rfl⟩
theorem zEV (t : zS) (ls : List (Option Ln)) (a : List zS) : zAW (some (.tool t) :: ls) a = zAW ls (a ++ [t]) := by rw [zAW]
theorem zBC {ls : List (Option Ln)} (h : ∀ t ls', ls ≠ some (.tool t) :: ls') (a : List zS) : zAW ls a = (a, ls) := by
  rw [zAW]
  exact h
theorem zET : ∀ (ls : List (Option Ln)) (a : List zS) (u : Int), zCR ⟨⟨u, a, []⟩, true, [], false⟩ ls = zCR ⟨⟨u, (zAW ls a).1, []⟩, true, [], false⟩ (zAW ls a).2 ∧ (zAW ls a).2 <:+ ls ∧ ∀ t ls', (zAW ls a).2 ≠ some (.tool t) :: ls'
  | [], a, u => by
    rw [zBC (by simp)]
    exact ⟨rfl, List.suffix_refl _, by simp⟩
  | l :: ls, a, u => by
    by_cases h : ∃ t, l = some (.tool t)
    · obtain ⟨t, rfl⟩ := h
      have ih := zET ls (a ++ [t]) u
      rw [zEV]
      exact ⟨(zBA rfl).trans ih.1, ih.2.1.trans (List.suffix_cons _ _), ih.2.2⟩
    · have h' : ∀ t ls', l :: ls ≠ some (.tool t) :: ls' := fun t ls' e => h ⟨t, (List.cons.inj e).1⟩
      rw [zBC h']
      exact ⟨rfl, List.suffix_refl _, h'⟩
theorem run_spec (chk : zi → Option Int) {ls : List (Option Ln)} (hr : zI7 ls) : finL chk 1 ls.length (zCR ⟨zP, false, [], false⟩ ls) = ansL chk (zCt ls) := by
  have first : ∀ (l : Option Ln) (ls : List (Option Ln)), acc ⟨zP, false, [], false⟩ l = none → zCt (l :: ls) = .inl 1 → finL chk 1 (l :: ls).length (zCR ⟨zP, false, [], false⟩ (l :: ls)) = ansL chk (zCt (l :: ls)) := fun l ls h e => by
    rw [zJV h, e]
    show some (zP, 1 + (((l :: ls).length - (l :: ls).length : Nat) : Int), (10 : Int)) = some (zP, 1, 10)
    rw [Nat.sub_self]; rfl
  cases ls with
  | nil => rfl
  | cons l ls =>
    cases l with
    | none => exact first _ _ rfl rfl
    | some l =>
      cases l with
      | tool t => exact first _ _ rfl rfl
      | step s => exact first _ _ rfl rfl
      | rep s => exact first _ _ rfl rfl
      | done => exact first _ _ rfl rfl
      | unit n =>
        have ha : acc ⟨zP, false, [], false⟩ (some (.unit n)) = some ⟨⟨n, [], []⟩, true, [], false⟩ := rfl
        rw [zBA ha]
        obtain ⟨t1, t2, t3⟩ := zET ls [] n
        rw [t1, show zCt (some (.unit n) :: ls) = zDN n (zAW ls []).1 (ls.length + 1) (zAW ls []).2 from rfl, List.length_cons]
        have hlen := t2.length_le
        have hr2 := (hr.suf (List.suffix_cons _ _)).suf t2
        generalize (zAW ls []).1 = T at *
        generalize (zAW ls []).2 = ls2 at *
        obtain ⟨o1, o2⟩ := zGa (ls2.length + 1) ls2 [] n T false (by omega) hr2 (.inr t3)
        have hrl := zFb (ls2.length + 1) false ls2 []
        unfold zDN
        generalize Qt (ls2.length + 1) false ls2 [] = R at *
        obtain ⟨o, rest, bad⟩ := R
        cases bad
        · obtain ⟨b', e⟩ := o1 rfl
          rw [e, if_neg (by simp)]
          show (if true = true ∧ ([] : List zB) = [] then (chk ⟨n, T, o⟩).bind fun e => if e != 0 then some (zP, 0, e) else some (⟨n, T, o⟩, 0, 0) else some (zP, 1 + ((ls.length + 1 : Nat) : Int), (10 : Int))) = _
          rw [if_pos ⟨rfl, rfl⟩]
          rfl
        · rw [if_pos rfl]
          rcases o2 rfl with ⟨h1, e⟩ | ⟨h1, r', e, h2⟩
          · rw [e]
            show some (zP, 1 + ((ls.length + 1 - rest.length : Nat) : Int), (10 : Int)) = some (zP, ((ls.length + 1 - rest.length : Nat) : Int) + 1, 10)
            rw [Int.add_comm]
          · rw [e]
            have h1 : rest = [] := h1
            subst h1
            show (if r'.unit = true ∧ r'.open_ = [] then _ else some (zP, 1 + ((ls.length + 1 : Nat) : Int), (10 : Int))) = some (zP, ((ls.length + 1 - 0 : Nat) : Int) + 1, 10)
            rw [if_neg (fun h => h2 h.2), Int.add_comm]; rfl
theorem linesL_reps (t : ByteArray) : zI7 (WZ t) := fun s hs => by
  unfold WZ at hs
  obtain ⟨z, _, e⟩ := List.mem_map.1 hs
  exact lnZ_rep e
theorem Reads_ok {N : Nat} (hN : 2000000 ≤ N) (t : ByteArray) : KX N t = if 200000 < t.size then some (zP, 0, 2) else ansL (Qg N) (zCt (WZ t)) := by
  rw [ReadP_ok hN, run_spec _ (linesL_reps t)]
theorem zBt {α : Type} (pre : List α) (x : α) (h : pre.length < 9223372036854775807) : w64 ((pre.length : Int) + 1) = ((pre ++ [x]).length : Int) := by
  rw [zGQ (by omega) (by omega)]; simp
theorem zHP (s : ByteArray) : ∀ (m : Nat) (x : Int), Qv s m x = Kc s m x
  | 0, _ => rfl
  | m + 1, x => by
    rw [Qv, Kc]
    split
    · congr 1
      funext c
      rw [zHP s m]
      have e : ((!(((decide (97 ≤ c)) && (decide (c ≤ 122))) || ((decide (65 ≤ c)) && (decide (c ≤ 90))))) && ((x == 0) || ((((decide (c < 48)) || (decide (57 < c))) && (c != 95)) && (c != 45)))) = ((!(((decide (97 ≤ c)) && (decide (c ≤ 122))) || ((decide (65 ≤ c)) && (decide (c ≤ 90))))) && ((x == 0) || (((c != 95) && (c != 45)) && (!((decide (48 ≤ c)) && (decide (c ≤ 57))))))) := by
        have e2 : (decide (c < 48) || decide (57 < c)) = !(decide (48 ≤ c) && decide (c ≤ 57)) := by
          rw [Bool.eq_iff_iff]; simp <;> omega
        rw [e2]
        cases (!(decide (48 ≤ c) && decide (c ≤ 57))) <;> cases (c != 95) <;> cases (c != 45) <;> simp
      rw [e]
    · rfl
theorem zHQ {s : ByteArray} (hs : s.size ≤ 9223372036854775807) : ∀ (m i : Nat), s.size < m + i → i ≤ s.size → ∃ b, Qv s m (i : Int) = some b ∧ (b = true → s.size ≤ 40)
  | 0, i, h, h2 => by omega
  | m + 1, i, h, h2 => by
    rw [Qv]
    by_cases hi : i < s.size
    · rw [if_pos (decide_eq_true (by omega))]
      have hc : ∃ c, zBm s (i : Int) = some c := by
        unfold zBm
        rw [if_pos (by omega)]
        exact ⟨(s[i].toNat : Int), by simp [hi]⟩
      obtain ⟨c, hc⟩ := hc
      rw [hc, Option.bind_some]
      split
      · exact ⟨false, rfl, fun h => by cases h⟩
      · rw [zGQ (by omega) (by omega)]
        exact zHQ hs m (i + 1) (by omega) (by omega)
    · rw [if_neg (by simpa using hi)]
      exact ⟨_, rfl, fun h => by simp at h; omega⟩
theorem zJ3 {N : Nat} {s : ByteArray} (hs : s.size ≤ 9223372036854775807) (hN : s.size < N) : ∃ b, KP N s = some b ∧ zA0 N s = some b ∧ (b = true → s.size ≤ 40) := by
  obtain ⟨b, h1, h2⟩ := zHQ hs N 0 (by omega) (by omega)
  exact ⟨b, h1, (zHP s N 0).symm.trans h1, h2⟩
def zCS (n u : Int) : Bool := decide (-(1000000 / u) ≤ n) && decide (n ≤ 1000000 / u)
theorem isAt_ok {n u : Int} (hu : 1 ≤ u ∧ u ≤ 1000) : VO n u = some (zCS n u) := by
  have h0 : 0 ≤ 1000000 / u := Int.ediv_nonneg (by omega) (by omega)
  have h1 : 1000000 / u ≤ 1000000 := Int.ediv_le_self _ (by omega)
  have e1 : (1000000 : Int).tdiv u = 1000000 / u := Int.tdiv_eq_ediv_of_nonneg (by omega)
  have e2 : (-1000000 : Int).tdiv u = -(1000000 / u) := by rw [show (-1000000 : Int) = -(1000000) from rfl, Int.neg_tdiv, e1]
  unfold VO dv
  rw [if_neg (by omega), if_neg (by omega), Option.bind_some, Option.bind_some, e1, e2, KC (by omega) (by omega), KC (by omega) (by omega)]
  rfl
theorem fits_ok {n u : Int} (hu : 1 ≤ u ∧ u ≤ 1000) : JI n u = some (zCS n u) := by
  have hA : ∀ k : Int, zAY k = some (decide (-1000000 ≤ k) && decide (k ≤ 1000000)) := fun _ => rfl
  unfold JI
  rw [hA, Option.bind_some]
  have h0 : 0 ≤ 1000000 / u := Int.ediv_nonneg (by omega) (by omega)
  have h1 : 1000000 / u ≤ 1000000 := Int.ediv_le_self _ (by omega)
  by_cases hn : -1000000 ≤ n ∧ n ≤ 1000000
  · have e : (decide (-1000000 ≤ n) && decide (n ≤ 1000000)) = true := by simp [hn]
    rw [e, if_pos rfl]
    have hb : -1000000000 ≤ n * u ∧ n * u ≤ 1000000000 := by
      constructor
      · have := Int.mul_le_mul_of_nonneg_right hn.1 (show (0 : Int) ≤ u by omega)
        omega
      · have := Int.mul_le_mul_of_nonneg_right hn.2 (show (0 : Int) ≤ u by omega)
        omega
    rw [KC (by omega) (by omega), hA]
    simp only [Option.bind_some]
    congr 1
    unfold zCS
    rw [Bool.eq_iff_iff]
    simp only [Bool.and_eq_true, decide_eq_true_eq]
    have k1 : n ≤ 1000000 / u ↔ n * u ≤ 1000000 := Int.le_ediv_iff_mul_le (by omega)
    have k2 : -n ≤ 1000000 / u ↔ -n * u ≤ 1000000 := Int.le_ediv_iff_mul_le (by omega)
    rw [Int.neg_mul] at k2
    omega
  · have e : (decide (-1000000 ≤ n) && decide (n ≤ 1000000)) = false := by
      rw [Bool.eq_false_iff]; simpa using hn
    rw [e]
    simp only [Bool.false_eq_true, if_false, Option.bind_some]
    congr 1
    unfold zCS
    symm
    rw [Bool.eq_false_iff]
    simp only [ne_eq, Bool.and_eq_true, decide_eq_true_eq]
    omega
def WR (p : zU) (u : Int) : Bool := zCS p.X u && zCS p.Y u
theorem zIg {p : zU} {u : Int} (hu : 1 ≤ u ∧ u ≤ 1000) : Vo p u = some (WR p u) := by
  unfold Vo WR
  rw [isAt_ok hu, Option.bind_some]
  cases zCS p.X u
  · rfl
  · rw [if_pos rfl, isAt_ok hu]; simp
theorem zFg {p : zU} {u : Int} (hu : 1 ≤ u ∧ u ≤ 1000) : Ka p u = some (WR p u) := by
  unfold Ka WR
  rw [fits_ok hu, Option.bind_some]
  cases zCS p.X u
  · rfl
  · rw [if_pos rfl, fits_ok hu]; simp
def rectE (r : JO) (u : Int) : Int := if (zCS r.X0 u && zCS r.Y0 u && zCS r.X1 u && zCS r.Y1 u) then (if (decide (r.X1 ≤ r.X0) || decide (r.Y1 ≤ r.Y0)) then 13 else 0) else 1
def zEA (u : Int) : List JO → Int
  | [] => 0
  | r :: l => if rectE r u = 0 then zEA u l else rectE r u
theorem zEM {u : Int} (hu : 1 ≤ u ∧ u ≤ 1000) : ∀ (l : List JO) (i : Nat), JW u l i = some (zEA u l)
  | [], _ => rfl
  | r :: l, i => by
    rw [JW, zEA, zEM hu l]
    simp only [isAt_ok hu, Option.bind_some]
    unfold rectE
    generalize (decide (r.X1 ≤ r.X0) || decide (r.Y1 ≤ r.Y0)) = g
    cases zCS r.X0 u <;> cases zCS r.Y0 u <;> cases zCS r.X1 u <;> cases zCS r.Y1 u <;> cases g <;> simp
theorem zDu {u : Int} (hu : 1 ≤ u ∧ u ≤ 1000) : ∀ (suf pre : List JO) (m : Nat), suf.length < m → (pre ++ suf).length ≤ 2000 → Qs (pre ++ suf) u m (pre.length : Int) = some (zEA u suf)
  | [], pre, m, hm, hl => by
    obtain ⟨m, rfl⟩ : ∃ k, m = k + 1 := ⟨m - 1, by omega⟩
    rw [Qs, zE6]; rfl
  | r :: l, pre, m, hm, hl => by
    obtain ⟨m, rfl⟩ : ∃ k, m = k + 1 := ⟨m - 1, by simp at hm; omega⟩
    simp at hm hl
    rw [Qs, zE5, if_pos rfl, VX, Option.bind_some, zEA, up_mid _ r (by omega), zCu, zDu hu l (pre ++ [r]) m (by omega) (by simp; omega)]
    simp only [fits_ok hu, Option.bind_some]
    unfold rectE
    generalize (decide (r.X1 ≤ r.X0) || decide (r.Y1 ≤ r.Y0)) = g
    cases zCS r.X0 u <;> cases zCS r.Y0 u <;> cases zCS r.X1 u <;> cases zCS r.Y1 u <;> cases g <;> simp
def zAj (t : zS) (u : Int) : Int := if (t.Rects.length : Int) = 0 then 9 else if 2000 < (t.Rects.length : Int) then 2 else zEA u t.Rects
theorem zF4 {N : Nat} {t : zS} {u : Int} (hu : 1 ≤ u ∧ u ≤ 1000) {b : Bool} (hb : KP N t.Name = some b) : Vq N t u = some (if b then zAj t u else 5) := by
  unfold Vq
  rw [hb, Option.bind_some]
  cases b
  · rfl
  · simp only [Bool.not_true, Bool.false_eq_true, if_false, if_true, zEM hu, zAj]
    by_cases h0 : (t.Rects.length : Int) = 0
    · rw [if_pos (beq_iff_eq.2 h0), if_pos h0]
    · rw [if_neg (fun h => h0 (beq_iff_eq.1 h)), if_neg h0]
      by_cases h1 : 2000 < (t.Rects.length : Int)
      · rw [if_pos (decide_eq_true h1), if_pos h1]
      · rw [if_neg (by simpa using h1), if_neg h1]
theorem zF5 {N : Nat} {t : zS} {u : Int} (hu : 1 ≤ u ∧ u ≤ 1000) (hN : 3000 ≤ N) : Ki N t.Rects u = some (zAj t u) := by
  unfold Ki zAj
  by_cases h0 : (t.Rects.length : Int) = 0
  · rw [if_pos (beq_iff_eq.2 h0), if_pos h0]
  · rw [if_neg (fun h => h0 (beq_iff_eq.1 h)), if_neg h0]
    by_cases h1 : 2000 < (t.Rects.length : Int)
    · rw [if_pos (decide_eq_true h1), if_pos h1]
    · rw [if_neg (by simpa using h1), if_neg h1]
      exact zDu hu t.Rects [] N (by omega) (by simp; omega)
def zEo (nm : ByteArray) (l : List zS) : Int := zFp (fun t => sEq t.Name nm) l 0
theorem zG3 (nm : ByteArray) : ∀ (l : List zS) (i : Nat), zq nm l i = some (zFp (fun t => sEq t.Name nm) l (i : Int))
  | [], _ => rfl
  | t :: l, i => by
    rw [zq, zFp, zG3 nm l (i + 1)]
    unfold zAU
    rw [Option.bind_some]
    split <;> rfl
theorem toolAt_ok (p : zi) (nm : ByteArray) : zAN p nm = some (zEo nm p.Tools) := by
  unfold zAN JC
  rw [zG3]; rfl
theorem zJP {p : zi} (nm : ByteArray) : ∀ (suf pre : List zS) (m : Nat), p.Tools = pre ++ suf → suf.length < m → (pre ++ suf).length ≤ 2000 → KN p nm m (pre.length : Int) = some (zFp (fun t => sEq t.Name nm) suf (pre.length : Int))
  | [], pre, m, he, hm, hl => by
    obtain ⟨m, rfl⟩ : ∃ k, m = k + 1 := ⟨m - 1, by omega⟩
    rw [KN, he, zE6]; rfl
  | r :: l, pre, m, he, hm, hl => by
    obtain ⟨m, rfl⟩ : ∃ k, m = k + 1 := ⟨m - 1, by simp at hm; omega⟩
    simp at hm hl
    rw [KN, he, zE5, if_pos rfl, VX, Option.bind_some, zFp, up_mid _ r (by omega), zJP nm l (pre ++ [r]) m (by rw [he]; simp) (by omega) (by simp; omega)]
    split
    · rfl
    · simp
theorem tool_ok {N : Nat} {p : zi} (nm : ByteArray) (hN : 3000 ≤ N) (hl : p.Tools.length ≤ 2000) : zBc N p nm = some (zEo nm p.Tools) :=
  zJP nm p.Tools [] N rfl (by omega) hl
def zJI (l : List zU) : List zU → Nat → Bool
  | [], _ => true
  | x :: r, i => if ((x.X == (l.getD ((i + 1) % l.length) ⟨0, 0⟩).X) == (x.Y == (l.getD ((i + 1) % l.length) ⟨0, 0⟩).Y)) then false else zJI l r (i + 1)
theorem next_ok {l : List zU} {i : Nat} (h : i < l.length) (hl : l.length ≤ 9223372036854775807) : ((md (w64 ((i : Int) + 1)) (l.length : Int)).bind fun q => idx l q) = some (l.getD ((i + 1) % l.length) ⟨0, 0⟩) := by
  have hm : (i + 1) % l.length < l.length := Nat.mod_lt _ (by omega)
  unfold md
  rw [zGQ (by omega) (by omega), if_neg (by omega), Option.bind_some, Int.tmod_eq_emod_of_nonneg (by omega)]
  rw [show ((i : Int) + 1) % (l.length : Int) = (((i + 1) % l.length : Nat) : Int) by simp]
  rw [idx_nat hm]
  simp [List.getD, hm]
theorem next_ok2 {β : Type} {l : List zU} {i : Nat} (h : i < l.length) (hl : l.length ≤ 9223372036854775807) (k : zU → Option β) :
    ((md (w64 ((i : Int) + 1)) (l.length : Int)).bind fun q => (idx l q).bind k) = k (l.getD ((i + 1) % l.length) ⟨0, 0⟩) := by
  have := next_ok h hl
  cases hq : md (w64 ((i : Int) + 1)) (l.length : Int) with
  | none => rw [hq] at this; simp at this
  | some q =>
    rw [hq] at this
    simp only [Option.bind_some] at this ⊢
    rw [this, Option.bind_some]
theorem zJA {l : List zU} (hl : l.length ≤ 9223372036854775807) : ∀ (suf : List zU) (i : Nat), i + suf.length = l.length → KM l suf i = some (zJI l suf i)
  | [], _, _ => rfl
  | x :: r, i, h => by
    simp at h
    rw [KM, zJI, next_ok2 (by omega) hl, zJA hl r (i + 1) (by omega)]
    split <;> rfl
theorem IsRowY_ok {l : List zU} (hl : l.length ≤ 9223372036854775807) : zAM l = some (if (l.length : Int) < 4 then false else zJI l l 0) := by
  unfold zAM
  rw [zJA hl l 0 (by omega)]
  split
  · rename_i h; rw [if_pos (by simpa using h)]
  · rename_i h; rw [if_neg (by simpa using h)]
theorem zI1 {l : List zU} (hl : l.length ≤ 2000) : ∀ (suf pre : List zU) (m : Nat), l = pre ++ suf → suf.length < m → JQ l m (pre.length : Int) = some (if zJI l suf pre.length then 0 else 3)
  | [], pre, m, he, hm => by
    obtain ⟨m, rfl⟩ : ∃ k, m = k + 1 := ⟨m - 1, by omega⟩
    rw [JQ]
    rw [show decide ((pre.length : Int) < (l.length : Int)) = false from decide_eq_false (by rw [he]; simp)]
    rfl
  | x :: r, pre, m, he, hm => by
    obtain ⟨m, rfl⟩ : ∃ k, m = k + 1 := ⟨m - 1, by simp at hm; omega⟩
    simp at hm
    have hlen : l.length = pre.length + (r.length + 1) := by rw [he]; simp
    rw [JQ]
    rw [show decide ((pre.length : Int) < (l.length : Int)) = true from decide_eq_true (by omega), if_pos rfl]
    rw [show idx l (pre.length : Int) = some x by rw [he]; exact VX _ _ _, Option.bind_some, next_ok2 (by omega) (by omega), zJI]
    split
    · simp
    · have hx := zBt pre x (by omega)
      rw [hx, zI1 hl r (pre ++ [x]) m (by rw [he]; simp) (by omega)]
      simp
def zI0 (l : List zU) : Int := if 2000 < (l.length : Int) then 2 else if (l.length : Int) < 4 then 3 else if zJI l l 0 then 0 else 3
theorem zI2 {N : Nat} (hN : 3000 ≤ N) {l : List zU} {u : Int} (hu : 1 ≤ u ∧ u ≤ 1000) (hl : l.length ≤ 9223372036854775807) : ∀ (suf pre : List zU) (m : Nat), l = pre ++ suf → suf.length < m →
    JR N l u m (pre.length : Int) = some (if suf.any (fun q => !WR q u) then 1 else zI0 l)
  | [], pre, m, he, hm => by
    obtain ⟨m, rfl⟩ : ∃ k, m = k + 1 := ⟨m - 1, by omega⟩
    rw [JR]
    rw [show decide ((pre.length : Int) < (l.length : Int)) = false from decide_eq_false (by rw [he]; simp)]
    simp only [Bool.false_eq_true, if_false, List.any_nil, zI0]
    by_cases h1 : 2000 < (l.length : Int)
    · rw [if_pos (decide_eq_true h1), if_pos h1]
    · rw [if_neg (by simpa using h1), if_neg h1]
      by_cases h2 : (l.length : Int) < 4
      · rw [if_pos (decide_eq_true h2), if_pos h2]
      · rw [if_neg (by simpa using h2), if_neg h2]
        exact zI1 (by omega) l [] N rfl (by omega)
  | x :: r, pre, m, he, hm => by
    obtain ⟨m, rfl⟩ : ∃ k, m = k + 1 := ⟨m - 1, by simp at hm; omega⟩
    simp at hm
    have hlen : l.length = pre.length + (r.length + 1) := by rw [he]; simp
    rw [JR]
    rw [show decide ((pre.length : Int) < (l.length : Int)) = true from decide_eq_true (by omega), if_pos rfl]
    rw [show idx l (pre.length : Int) = some x by rw [he]; exact VX _ _ _, Option.bind_some, zFg hu, Option.bind_some]
    cases hf : WR x u
    · simp [hf]
    · rw [if_neg (by simp), zBt pre x (by omega), zI2 hN hu hl r (pre ++ [x]) m (by rw [he]; simp) (by omega)]
      simp [hf]
theorem area_ok {N : Nat} {l : List zU} {u : Int} (hu : 1 ≤ u ∧ u ≤ 1000) (hl : l.length ≤ 9223372036854775807) (hN : 3000 ≤ N) (hN2 : l.length < N) : zAF N l u = some (if l.any (fun q => !WR q u) then 1 else zI0 l) :=
  zI2 hN hu hl l [] N rfl hN2
theorem contains_ok {p : zi} {l : List zU} (hu : 1 ≤ p.Unit ∧ p.Unit ≤ 1000) : JY l (fun z0 => Je z0 p) = some (l.any (fun q => !WR q p.Unit)) := by
  have key : ∀ (l : List zU) (i : Nat), Qe (fun z0 => Je z0 p) l i = some (zFp (fun q => !WR q p.Unit) l (i : Int)) := by
    intro l
    induction l with
    | nil => intro i; rfl
    | cons x r ih =>
      intro i
      rw [Qe, zFp, ih]
      have e : Je x p = some (!WR x p.Unit) := by
        unfold Je
        rw [zIg hu]; rfl
      rw [e, Option.bind_some]
      split <;> rfl
  unfold JY Ko
  rw [key, Option.bind_some]
  exact congrArg some (ixOf_any _ l 0 (by omega))
def fieldsB (s : zB) : Bool :=
  (((s.Kind == 3 || sEq s.Name (⟨#[]⟩ : ByteArray)) && ((s.Kind == 4 || s.Kind == 5 || s.Kind == 6 || s.Kind == 8) || JN s.At ⟨0, 0⟩)) && (s.Kind == 7 || (s.Points.length : Int) == 0)) && (s.Kind == 8 || ((s.NX == 0 && s.NY == 0) && (s.Steps.length : Int) == 0))
theorem fieldsOf_ok (k : Int) : WV k = some ⟨k == 3, k == 4 || k == 5 || k == 6 || k == 8, k == 7, k == 8⟩ := by
  unfold WV KJ
  by_cases h3 : k = 3
  · subst h3; rfl
  by_cases h4 : k = 4
  · subst h4; rfl
  by_cases h5 : k = 5
  · subst h5; rfl
  by_cases h6 : k = 6
  · subst h6; rfl
  by_cases h7 : k = 7
  · subst h7; rfl
  by_cases h8 : k = 8
  · subst h8; rfl
  simp [h3, h4, h5, h6, h7, h8]
theorem fields_ok (s : zB) : WK s = some (fieldsB s) := by
  unfold WK Kb JL fieldsB
  generalize s.Kind = k
  by_cases h3 : k = 3
  · subst h3; rfl
  by_cases h4 : k = 4
  · subst h4; rfl
  by_cases h5 : k = 5
  · subst h5; rfl
  by_cases h6 : k = 6
  · subst h6; rfl
  by_cases h7 : k = 7
  · subst h7; rfl
  by_cases h8 : k = 8
  · subst h8; rfl
  have b3 : (k == 3) = false := by simpa using h3
  have b4 : (k == 4) = false := by simpa using h4
  have b5 : (k == 5) = false := by simpa using h5
  have b6 : (k == 6) = false := by simpa using h6
  have b7 : (k == 7) = false := by simpa using h7
  have b8 : (k == 8) = false := by simpa using h8
  simp only [b3, b4, b5, b6, b7, b8, Bool.false_or, Bool.false_eq_true, if_false]
def repE (s : zB) (d : Int) : Int :=
  if (!(decide (1 ≤ s.NX) && decide (s.NX ≤ 100))) || (!(decide (1 ≤ s.NY) && decide (s.NY ≤ 100))) then 1 else if (s.Steps.length : Int) = 0 then 9 else if 5 ≤ d then 2 else 0
def zDq (p : zi) (s : zB) (d : Int) : Int :=
  if !(decide (1 ≤ s.Kind) && decide (s.Kind ≤ 8)) then 4 else if !fieldsB s then 3 else if s.Kind == 3 && decide (zEo s.Name p.Tools < 0) then 5 else if !WR s.At p.Unit then 1
  else if s.Kind == 7 then (if s.Points.any (fun q => !WR q p.Unit) then 1 else zI0 s.Points) else if s.Kind == 8 then repE s d else 0
theorem zJM {N : Nat} {p : zi} {s : zB} {d : Int} (hu : 1 ≤ p.Unit ∧ p.Unit ≤ 1000) (ht : p.Tools.length ≤ 2000) (hl : s.Points.length ≤ 9223372036854775807) (hN : 3000 ≤ N) (hN2 : s.Points.length < N) : Vb N p s d = some (zDq p s d) := by
  unfold Vb zDq
  have hw : ∀ a b c : Int, QQ a b c = some (decide (b ≤ a) && decide (a ≤ c)) := fun _ _ _ => rfl
  simp only [hw, Option.bind_some, fields_ok, tool_ok _ hN ht, zFg hu, area_ok hu hl hN hN2, VI]
  by_cases hk : (decide (1 ≤ s.Kind) && decide (s.Kind ≤ 8)) = true
  · simp only [hk, Bool.not_true, Bool.false_eq_true, if_false]
    cases hf : fieldsB s
    · simp
    · simp only [Bool.not_true, Bool.false_eq_true, if_false]
      by_cases h3 : s.Kind = 3
      · simp only [h3]
        cases hd : decide (zEo s.Name p.Tools < 0) <;> simp [hd]
        cases WR s.At p.Unit <;> simp
      · have h3' : (s.Kind == 3) = false := by simpa using h3
        simp only [h3', Bool.false_eq_true, if_false, Option.bind_some, Bool.false_and]
        cases WR s.At p.Unit
        · simp
        · simp only [Bool.not_true, Bool.false_eq_true, if_false]
          by_cases h7 : s.Kind = 7
          · simp [h7]
          · have h7' : (s.Kind == 7) = false := by simpa using h7
            simp only [h7', Bool.false_eq_true, if_false]
            by_cases h8 : s.Kind = 8
            · simp only [h8, beq_self_eq_true, if_true, repE]
              cases (decide (1 ≤ s.NX) && decide (s.NX ≤ 100))
              · simp
              · simp only [Bool.not_true, Bool.false_eq_true, if_false, Option.bind_some, Bool.false_or]
                cases (decide (1 ≤ s.NY) && decide (s.NY ≤ 100))
                · simp
                · simp only [Bool.not_true, Bool.false_eq_true, if_false]
                  by_cases h0 : (s.Steps.length : Int) = 0
                  · rw [if_pos (beq_iff_eq.2 h0), if_pos h0]
                  · rw [if_neg (fun h => h0 (beq_iff_eq.1 h)), if_neg h0]
                    by_cases h5 : 5 ≤ d
                    · rw [if_pos (decide_eq_true h5), if_pos h5]
                    · rw [if_neg (by simpa using h5), if_neg h5]
            · have h8' : (s.Kind == 8) = false := by simpa using h8
              simp only [h8', Bool.false_eq_true, if_false]
  · have hk' : (decide (1 ≤ s.Kind) && decide (s.Kind ≤ 8)) = false := by simpa using hk
    simp [hk']
theorem J1_join (p0 : zi) (p1 : zB) (p2 : Int) (y : zBP) (a b c d : Bool) : (if a = true then QS p0 p1 p2 y a else if b = true then QS p0 p1 p2 y b else if c = true then QS p0 p1 p2 y c else QS p0 p1 p2 y d) = QS p0 p1 p2 y (a || b || c || d) := by
  cases a <;> cases b <;> cases c <;> cases d <;> rfl
theorem zF6 {p : zi} {s : zB} {d : Int} (hu : 1 ≤ p.Unit ∧ p.Unit ≤ 1000) (hl : s.Points.length ≤ 9223372036854775807) : Vr p s d = some (zDq p s d) := by
  unfold Vr zDq
  have hw : ∀ a b c : Int, Jh a b c = some (decide (b ≤ a) && decide (a ≤ c)) := fun _ _ _ => rfl
  rw [hw, Option.bind_some, fieldsOf_ok]
  by_cases hk : (decide (1 ≤ s.Kind) && decide (s.Kind ≤ 8)) = true
  · simp only [hk, Bool.not_true, Bool.false_eq_true, if_false, Option.bind_some]
    rw [J1_join]
    have hf : (!(s.Kind == 3) && !sEq s.Name (⟨#[]⟩ : ByteArray) || !(s.Kind == 4 || s.Kind == 5 || s.Kind == 6 || s.Kind == 8) && !JN s.At ⟨0, 0⟩ || !(s.Kind == 7) && decide (0 < (s.Points.length : Int)) || !(s.Kind == 8) && (s.NX != 0 || s.NY != 0 || decide (0 < (s.Steps.length : Int)))) = !fieldsB s := by
      unfold fieldsB
      have e1 : decide (0 < (s.Points.length : Int)) = !((s.Points.length : Int) == 0) := by rw [Bool.eq_iff_iff]; simp only [decide_eq_true_eq, Bool.not_eq_true', beq_eq_false_iff_ne, ne_eq]; omega
      have e2 : decide (0 < (s.Steps.length : Int)) = !((s.Steps.length : Int) == 0) := by rw [Bool.eq_iff_iff]; simp only [decide_eq_true_eq, Bool.not_eq_true', beq_eq_false_iff_ne, ne_eq]; omega
      rw [e1, e2]
      simp only [bne, Bool.not_and, Bool.not_or]
    rw [hf]
    unfold QS
    simp only [toolAt_ok, zIg hu, contains_ok hu, IsRowY_ok hl, Option.bind_some, hw]
    cases hfb : fieldsB s
    · simp
    · simp only [Bool.not_true, Bool.false_eq_true, if_false]
      have hpt : s.Kind ≠ 7 → s.Points = [] := by
        intro h7
        unfold fieldsB at hfb
        simp only [Bool.and_eq_true, Bool.or_eq_true, beq_iff_eq] at hfb
        have := hfb.1.2.resolve_left h7
        exact List.eq_nil_of_length_eq_zero (by omega)
      by_cases h3 : s.Kind = 3
      · have hp := hpt (by omega)
        simp only [h3, hp, beq_self_eq_true, if_true, Option.bind_some]
        cases hd : decide (zEo s.Name p.Tools < 0) <;> simp [hd]
        cases WR s.At p.Unit <;> simp
      · have h3' : (s.Kind == 3) = false := by simpa using h3
        simp only [h3', Bool.false_eq_true, if_false, Option.bind_some, Bool.false_and]
        cases WR s.At p.Unit
        · simp
        · simp only [Bool.not_true, Bool.false_eq_true, if_false, Option.bind_some]
          by_cases h7 : s.Kind = 7
          · simp only [h7, beq_self_eq_true, if_true]
            cases s.Points.any (fun q => !WR q p.Unit)
            · simp only [Bool.false_eq_true, if_false, zI0]
              by_cases h1 : 2000 < (s.Points.length : Int)
              · rw [if_pos (decide_eq_true h1), if_pos h1]
              · rw [if_neg (by simpa using h1), if_neg h1]
                by_cases h2 : (s.Points.length : Int) < 4
                · simp [h2]
                · simp only [h2, if_false]
                  cases zJI s.Points s.Points 0 <;> simp
            · simp
          · have h7' : (s.Kind == 7) = false := by simpa using h7
            have hp := hpt h7
            simp only [h7', hp, Bool.false_eq_true, if_false, List.any_nil, List.length_nil, Option.bind_some]
            by_cases h8 : s.Kind = 8
            · simp only [h8, beq_self_eq_true, if_true, repE]
              cases (decide (1 ≤ s.NX) && decide (s.NX ≤ 100))
              · simp
              · simp only [Bool.not_true, Bool.false_eq_true, if_false, Option.bind_some, Bool.false_or]
                cases (decide (1 ≤ s.NY) && decide (s.NY ≤ 100))
                · simp
                · simp only [Bool.not_true, Bool.false_eq_true, if_false]
                  rw [if_neg (by simp)]
                  by_cases h0 : (s.Steps.length : Int) = 0
                  · rw [if_pos (beq_iff_eq.2 h0), if_pos h0]
                  · rw [if_neg (fun h => h0 (beq_iff_eq.1 h)), if_neg h0]
                    by_cases h5 : 5 ≤ d
                    · rw [if_pos (decide_eq_true h5), if_pos h5]
                    · rw [if_neg (by simpa using h5), if_neg h5]
            · have h8' : (s.Kind == 8) = false := by simpa using h8
              simp [h8']
  · have hk' : (decide (1 ≤ s.Kind) && decide (s.Kind ≤ 8)) = false := by simpa using hk
    simp [hk']
mutual
def zIM : zB → Nat
  | ⟨_, n, _, ps, _, _, l⟩ => 1 + n.size + ps.length + JF l
def JF : List zB → Nat
  | [] => 0
  | x :: l => zIM x + JF l
end
mutual
def zIa : zB → Nat
  | ⟨_, _, _, _, _, _, l⟩ => 1 + VW l
def VW : List zB → Nat
  | [] => 0
  | x :: l => zIa x + VW l
end
theorem VQ (x : zB) : zIM x = 1 + x.Name.size + x.Points.length + JF x.Steps := by cases x; rw [zIM]
theorem zEY (x : zB) : zIa x = 1 + VW x.Steps := by cases x; rw [zIa]
theorem Vz (x : zB) (l : List zB) : JF (x :: l) = zIM x + JF l := by rw [JF]
theorem zHE : VW [] = 0 := by rw [VW]
theorem zDS (x : zB) (l : List zB) : VW (x :: l) = zIa x + VW l := by rw [VW]
theorem Vv {x : zB} : ∀ {l : List zB}, x ∈ l → zIM x ≤ JF l
  | y :: l, h => by
    rw [Vz]
    rcases List.mem_cons.1 h with h | h
    · subst h; omega
    · have := Vv h; omega
theorem zCV : ∀ (l : List zB), l.length ≤ JF l
  | [] => by simp
  | x :: l => by
    have := zCV l
    have := VQ x
    rw [Vz, List.length_cons]; omega
def J64 (n : Int) : Prop := -9223372036854775808 ≤ n ∧ n ≤ 9223372036854775807
mutual
def zD0 : zB → Prop
  | ⟨_, n, a, ps, nx, ny, l⟩ => n.size ≤ 9223372036854775807 ∧ (J64 a.X ∧ J64 a.Y) ∧ (ps.length ≤ 9223372036854775807 ∧ ∀ q ∈ ps, J64 q.X ∧ J64 q.Y) ∧ (J64 nx ∧ J64 ny) ∧ l.length ≤ 9223372036854775807 ∧ zCG l
def zCG : List zB → Prop
  | [] => True
  | x :: l => zD0 x ∧ zCG l
end
theorem zBv (x : zB) : zD0 x ↔ x.Name.size ≤ 9223372036854775807 ∧ (J64 x.At.X ∧ J64 x.At.Y) ∧ (x.Points.length ≤ 9223372036854775807 ∧ ∀ q ∈ x.Points, J64 q.X ∧ J64 q.Y) ∧ (J64 x.NX ∧ J64 x.NY) ∧ x.Steps.length ≤ 9223372036854775807 ∧ zCG x.Steps := by cases x; rw [zD0]
theorem zJd (x : zB) (l : List zB) : zCG (x :: l) ↔ zD0 x ∧ zCG l := by rw [zCG]
theorem zBW {x : zB} : ∀ {l : List zB}, zCG l → x ∈ l → zD0 x
  | y :: l, h, hm => by
    rw [zJd] at h
    rcases List.mem_cons.1 hm with e | e
    · subst e; exact h.1
    · exact zBW h.2 e
theorem lenL_of {l : List zB} (h : ∀ x ∈ l, zD0 x) : zCG l := by
  induction l with
  | nil => rw [zCG]; trivial
  | cons x l ih => rw [zJd]; exact ⟨h x List.mem_cons_self, ih (fun y hy => h y (List.mem_cons_of_mem _ hy))⟩
def tm (n : Int) : Int := if 1 ≤ n ∧ n ≤ 100 then n else 1
theorem tm_bd (n : Int) : 1 ≤ tm n ∧ tm n ≤ 100 := by unfold tm; split <;> omega
theorem zJR (n : Int) : Vn n = some (tm n) := by
  unfold Vn tm
  have hw : Jh n 1 100 = some (decide (1 ≤ n) && decide (n ≤ 100)) := rfl
  rw [hw, Option.bind_some]
  by_cases h : 1 ≤ n ∧ n ≤ 100
  · rw [if_pos h, if_pos (by simpa using h)]
  · rw [if_neg h, if_neg (by simpa using h)]
theorem tm_mul (a b : Int) : 1 ≤ tm a * tm b ∧ tm a * tm b ≤ 10000 := by
  have h1 := tm_bd a
  have h2 := tm_bd b
  generalize tm a = x at *
  generalize tm b = y at *
  constructor
  · have := Int.mul_le_mul h1.1 h2.1 (by omega) (by omega); omega
  · have := Int.mul_le_mul h1.2 h2.2 (by omega) (by omega); omega
theorem times_ok (s : zB) : zAy s = some (tm s.NX * tm s.NY) := by
  have := tm_mul s.NX s.NY
  unfold zAy
  rw [zJR, zJR, Option.bind_some, Option.bind_some, KC (by omega) (by omega)]
def CountAs (recp recr : List zB → Option Int) (l : List zB) : Prop := ∃ c, recp l = some c ∧ recr l = some c ∧ 0 ≤ c ∧ c ≤ 3001 ∧ (l = [] → c = 0) ∧ (c ≤ 3000 → (VW l : Int) ≤ c)
theorem zIs {recp recr : List zB → Option Int} : ∀ (suf pre : List zB) (i m : Nat) (x : Int), 0 ≤ x → x ≤ 3000 → (∀ s ∈ suf, CountAs recp recr s.Steps) → suf.length < m → (pre ++ suf).length ≤ 9223372036854775807 →
    ∃ r, QN recp suf i x = some r ∧ QA (pre ++ suf) recr m x (pre.length : Int) = some r ∧ 0 ≤ r ∧ r ≤ 3001 ∧ (suf = [] → r = x) ∧ (r ≤ 3000 → x + (VW suf : Int) ≤ r)
  | [], pre, i, m, x, h0, h1, _, hm, hl => by
    obtain ⟨m, rfl⟩ : ∃ k, m = k + 1 := ⟨m - 1, by omega⟩
    refine ⟨x, rfl, ?_, h0, by omega, fun _ => rfl, fun _ => by rw [zHE]; simp⟩
    rw [QA, zE6, Bool.false_and, if_neg (by simp)]
    congr 1
    omega
  | s :: l, pre, i, m, x, h0, h1, hc, hm, hl => by
    obtain ⟨m, rfl⟩ : ∃ k, m = k + 1 := ⟨m - 1, by simp at hm; omega⟩
    obtain ⟨c, c1, c2, c3, c4, c5, c6⟩ := hc s List.mem_cons_self
    simp at hm hl
    have ht := tm_mul s.NX s.NY
    have hx := tm_bd s.NX
    have hy := tm_bd s.NY
    have hpc : 0 ≤ tm s.NX * tm s.NY * c ∧ tm s.NX * tm s.NY * c ≤ 30010000 ∧ c ≤ tm s.NX * tm s.NY * c := by
      generalize tm s.NX * tm s.NY = t at *
      refine ⟨Int.mul_nonneg (by omega) c3, ?_, ?_⟩
      · have := Int.mul_le_mul ht.2 c4 c3 (by omega); omega
      · have := Int.mul_le_mul_of_nonneg_right ht.1 c3; omega
    have hR : QA (pre ++ s :: l) recr (m + 1) x (pre.length : Int) = QA (pre ++ s :: l) recr m (x + 1 + tm s.NX * tm s.NY * c) ((pre ++ [s]).length : Int) := by
      have hw : ∀ n : Int, QQ n 1 100 = some (decide (1 ≤ n) && decide (n ≤ 100)) := fun _ => rfl
      rw [QA, zE5, Bool.true_and, if_pos (by simpa using h1), VX, Option.bind_some, hw, Option.bind_some]
      have key6 : ∀ a b : Int, a = tm s.NX → b = tm s.NY → Kr (pre ++ s :: l) recr x (pre.length : Int) (QA (pre ++ s :: l) recr m) a b = QA (pre ++ s :: l) recr m (x + 1 + tm s.NX * tm s.NY * c) ((pre ++ [s]).length : Int) := by
        intro a b ha hb
        subst ha; subst hb
        unfold Kr
        rw [VX, Option.bind_some, c2, Option.bind_some, zBt _ s (by omega), KC (x := tm s.NX * tm s.NY) (by omega) (by omega), KC (x := tm s.NX * tm s.NY * c) (by omega) (by omega), KC (x := x + 1) (by omega) (by omega), KC (by omega) (by omega)]
      have key7 : ∀ a : Int, a = tm s.NX → Kq (pre ++ s :: l) recr x (pre.length : Int) (QA (pre ++ s :: l) recr m) a = QA (pre ++ s :: l) recr m (x + 1 + tm s.NX * tm s.NY * c) ((pre ++ [s]).length : Int) := by
        intro a ha
        unfold Kq
        rw [VX, Option.bind_some, hw, Option.bind_some]
        by_cases h : 1 ≤ s.NY ∧ s.NY ≤ 100
        · rw [if_pos (by simpa using h)]; exact key6 _ _ ha (by unfold tm; rw [if_pos h])
        · rw [if_neg (by simpa using h)]; exact key6 _ _ ha (by unfold tm; rw [if_neg h])
      by_cases h : 1 ≤ s.NX ∧ s.NX ≤ 100
      · rw [if_pos (by simpa using h)]; exact key7 _ (by unfold tm; rw [if_pos h])
      · rw [if_neg (by simpa using h)]; exact key7 _ (by unfold tm; rw [if_neg h])
    have hP : QN recp (s :: l) i x = KI (QN recp l (i + 1)) (x + 1 + tm s.NX * tm s.NY * c) := by
      rw [QN]
      by_cases he : s.Steps = []
      · rw [if_neg (by rw [he]; simp), c5 he, KC (by omega) (by omega)]; simp
      · have : 0 < (s.Steps.length : Int) := by
          have := List.length_pos_iff.2 he; omega
        rw [if_pos (decide_eq_true this), times_ok, Option.bind_some, c1, Option.bind_some, KC (x := tm s.NX * tm s.NY * c) (by omega) (by omega), KC (x := x + 1) (by omega) (by omega), KC (by omega) (by omega)]
    rw [hP, hR]
    unfold KI
    by_cases hb : 3000 < x + 1 + tm s.NX * tm s.NY * c
    · rw [if_pos (decide_eq_true hb)]
      refine ⟨3001, rfl, ?_, by omega, by omega, fun h => (by cases h), fun h => by omega⟩
      obtain ⟨m, rfl⟩ : ∃ k, m = k + 1 := ⟨m - 1, by omega⟩
      rw [QA, if_neg (by simp; omega)]
      congr 1; omega
    · rw [if_neg (by simpa using hb), zCu]
      obtain ⟨r, r1, r2, r3, r4, r5, r6⟩ := zIs l (pre ++ [s]) (i + 1) m (x + 1 + tm s.NX * tm s.NY * c) (by omega) (by omega) (fun t ht => hc t (List.mem_cons_of_mem _ ht)) (by omega) (by simp; omega)
      refine ⟨r, r1, r2, r3, r4, fun h => (by cases h), fun h => ?_⟩
      have := r6 h
      have := c6 (by omega)
      rw [zDS, zEY]
      omega
theorem count_ok : ∀ (k : Nat) (l : List zB) (N : Nat), JF l ≤ k → k + 5 ≤ N → l.length ≤ 9223372036854775807 → zCG l → CountAs (VM N) (Kg N) l
  | k, l, N, hk, hN, hl, hA => by
    obtain ⟨N, rfl⟩ : ∃ n, N = n + 1 := ⟨N - 1, by omega⟩
    have hlen := zCV l
    have hrec : ∀ s ∈ l, CountAs (VM N) (Kg N) s.Steps := by
      intro s hs
      have h1 := Vv hs
      have h2 := VQ s
      have h3 := (zBv s).1 (zBW hA hs)
      cases k with
      | zero => omega
      | succ k => exact count_ok k s.Steps N (by omega) (by omega) h3.2.2.2.2.1 h3.2.2.2.2.2
    obtain ⟨r, r1, r2, r3, r4, r5, r6⟩ := zIs l [] 0 N 0 (by omega) (by omega) hrec (by omega) (by simpa using hl)
    exact ⟨r, r1, r2, r3, r4, r5, fun h => by have := r6 h; omega⟩
def goodS (nm : Nat) (s : zB) : Prop := s.Points.length ≤ 2000 ∧ s.Name.size ≤ nm
mutual
def goodT (nm : Nat) : zB → Prop
  | ⟨k, n, a, ps, nx, ny, l⟩ => goodS nm ⟨k, n, a, ps, nx, ny, l⟩ ∧ zBX nm l
def zBX (nm : Nat) : List zB → Prop
  | [] => True
  | x :: l => goodT nm x ∧ zBX nm l
end
theorem goodT_eq (nm : Nat) (x : zB) : goodT nm x ↔ goodS nm x ∧ zBX nm x.Steps := by cases x; rw [goodT]
theorem goodL_nil (nm : Nat) : zBX nm [] := by rw [zBX]; trivial
theorem zFC (nm : Nat) (x : zB) (l : List zB) : zBX nm (x :: l) ↔ goodT nm x ∧ zBX nm l := by rw [zBX]
theorem zJt {nm : Nat} {x : zB} : ∀ {l : List zB}, zBX nm l → x ∈ l → goodT nm x
  | y :: l, h, hm => by
    rw [zFC] at h
    rcases List.mem_cons.1 hm with e | e
    · subst e; exact h.1
    · exact zJt h.2 e
def namesOk (nm : Nat) (p : zi) : Prop := ∀ t ∈ p.Tools, t.Name.size ≤ nm
theorem zJQ {nm : ByteArray} {l : List zS} (h : ¬ zEo nm l < 0) : ∃ t ∈ l, t.Name = nm := by
  have : ∀ (l : List zS) (i : Int), 0 ≤ i → ¬ zFp (fun t => sEq t.Name nm) l i < 0 → ∃ t ∈ l, t.Name = nm := by
    intro l
    induction l with
    | nil => intro i _ h; simp [zFp] at h
    | cons t l ih =>
      intro i hi h
      unfold zFp at h
      by_cases ht : sEq t.Name nm = true
      · exact ⟨t, List.mem_cons_self, WA.1 ht⟩
      · rw [if_neg ht] at h
        obtain ⟨x, hx, he⟩ := ih (i + 1) (by omega) h
        exact ⟨x, List.mem_cons_of_mem _ hx, he⟩
  exact this l 0 (by omega) h
theorem stepE_good {nm : Nat} {p : zi} {s : zB} {d : Int} (hp : namesOk nm p) (h : zDq p s d = 0) : goodS nm s := by
  unfold zDq at h
  split at h
  · cases h
  split at h
  · cases h
  rename_i hk hf
  have hf : fieldsB s = true := by simpa using hf
  unfold fieldsB at hf
  simp only [Bool.and_eq_true, Bool.or_eq_true, beq_iff_eq] at hf
  split at h
  · cases h
  rename_i ht
  have hname : s.Name.size ≤ nm := by
    rcases hf.1.1.1 with h3 | h3
    · simp only [h3, beq_self_eq_true, Bool.true_and, decide_eq_true_eq] at ht
      obtain ⟨t, h1, h2⟩ := zJQ ht
      rw [← h2]; exact hp t h1
    · rw [WA.1 h3]; exact Nat.zero_le _
  split at h
  · cases h
  refine ⟨?_, hname⟩
  rcases hf.1.2 with h7 | h7
  · simp only [h7, beq_self_eq_true, if_true] at h
    split at h
    · cases h
    · unfold zI0 at h
      split at h
      · cases h
      · omega
  · omega
def ErrAs (p : zi) (nm : Nat) (recp recr : zi → List zB → Int → Option Int) (l : List zB) (d : Int) : Prop := ∃ e, recp p l d = some e ∧ recr p l d = some e ∧ (e = 0 → zBX nm l)
theorem zDv {nm N : Nat} {p : zi} {d : Int} (hN : 3000 ≤ N) (hu : 1 ≤ p.Unit ∧ p.Unit ≤ 1000) (ht : p.Tools.length ≤ 2000) (hp : namesOk nm p) {recp recr : zi → List zB → Int → Option Int} : ∀ (suf pre : List zB) (i m : Nat),
    (∀ s ∈ suf, ErrAs p nm recp recr s.Steps (w64 (d + 1))) → (∀ s ∈ suf, s.Points.length ≤ 9223372036854775807 ∧ s.Points.length < N) → suf.length < m → (pre ++ suf).length ≤ 9223372036854775807 →
    ∃ e, Qn p d recp suf i = some e ∧ JJ N p (pre ++ suf) d recr m (pre.length : Int) = some e ∧ (e = 0 → zBX nm suf)
  | [], pre, i, m, _, _, hm, hl => by
    obtain ⟨m, rfl⟩ : ∃ k, m = k + 1 := ⟨m - 1, by omega⟩
    refine ⟨0, rfl, ?_, fun _ => goodL_nil nm⟩
    rw [JJ, zE6, if_neg (by simp)]
  | s :: l, pre, i, m, hr, hs, hm, hl => by
    obtain ⟨m, rfl⟩ : ∃ k, m = k + 1 := ⟨m - 1, by simp at hm; omega⟩
    obtain ⟨e, e1, e2, e3⟩ := hr s List.mem_cons_self
    obtain ⟨s1, s2⟩ := hs s List.mem_cons_self
    simp at hm hl
    rw [Qn, JJ, zE5, if_pos rfl, VX, Option.bind_some, zF6 hu s1, zJM hu ht s1 hN s2, Option.bind_some, Option.bind_some]
    by_cases h0 : zDq p s d = 0
    · rw [if_neg (by simp [h0]), if_neg (by simp [h0]), Option.bind_some, e1, e2, Option.bind_some, Option.bind_some]
      by_cases h1 : e = 0
      · subst h1
        rw [if_neg (by simp), if_neg (by simp), zBt _ s (by omega), zCu]
        obtain ⟨r, r1, r2, r3⟩ := zDv hN hu ht hp l (pre ++ [s]) (i + 1) m (fun x hx => hr x (List.mem_cons_of_mem _ hx)) (fun x hx => hs x (List.mem_cons_of_mem _ hx)) (by omega) (by simp; omega)
        exact ⟨r, r1, r2, fun h => (zFC _ _ _).2 ⟨(goodT_eq _ _).2 ⟨stepE_good hp h0, e3 rfl⟩, r3 h⟩⟩
      · rw [if_pos (by simpa using h1), if_pos (by simpa using h1)]
        exact ⟨e, rfl, rfl, fun h => absurd h h1⟩
    · rw [if_pos (by simpa using h0), if_pos (by simpa using h0)]
      exact ⟨_, rfl, rfl, fun h => absurd h h0⟩
set_option maxRecDepth 100000 in
theorem zEt {nm : Nat} {p : zi} (hu : 1 ≤ p.Unit ∧ p.Unit ≤ 1000) (ht : p.Tools.length ≤ 2000) (hp : namesOk nm p) : ∀ (k : Nat) (l : List zB) (N : Nat) (d : Int), JF l ≤ k → k + 3001 ≤ N → l.length ≤ 9223372036854775807 → zCG l →
    ErrAs p nm (KA N) (Jg N) l d
  | k, l, N, d, hk, hN, hl, hA => by
    obtain ⟨N, rfl⟩ : ∃ n, N = n + 1 := ⟨N - 1, by omega⟩
    have hlen := zCV l
    have hrec : ∀ s ∈ l, ErrAs p nm (KA N) (Jg N) s.Steps (w64 (d + 1)) := by
      intro s hs
      have h1 := Vv hs
      have h2 := VQ s
      have h3 := (zBv s).1 (zBW hA hs)
      cases k with
      | zero => omega
      | succ k => exact zEt hu ht hp k s.Steps N _ (by omega) (by omega) h3.2.2.2.2.1 h3.2.2.2.2.2
    exact zDv (by omega) hu ht hp l [] 0 N hrec (fun s hs => by
      have h1 := Vv hs
      have h2 := VQ s
      have h3 := (zBv s).1 (zBW hA hs)
      exact ⟨h3.2.2.1.1, by omega⟩) (by omega) (by simpa using hl)
structure zJ4 (p : zi) : Prop where
  unit : 1 ≤ p.Unit ∧ p.Unit ≤ 1000
  few : p.Tools.length ≤ 200
  tools : ∀ t ∈ p.Tools, t.Name.size ≤ 40 ∧ t.Rects.length ≤ 2000
  steps : zBX 40 p.Steps
  nd : VW p.Steps ≤ 3000
structure zI9 (p : zi) : Prop where
  unit : J64 p.Unit
  tools : ∀ t ∈ p.Tools, t.Name.size ≤ 9223372036854775807 ∧ ∀ r ∈ t.Rects, (J64 r.X0 ∧ J64 r.Y0) ∧ J64 r.X1 ∧ J64 r.Y1
  sl : p.Steps.length ≤ 9223372036854775807
  steps : zCG p.Steps
def zDL : List zS → Nat
  | [] => 0
  | t :: l => 1 + t.Name.size + zDL l
theorem zD9 {t : zS} : ∀ {l : List zS}, t ∈ l → t.Name.size < zDL l
  | x :: l, h => by
    rw [zDL]
    rcases List.mem_cons.1 h with e | e
    · subst e; omega
    · have := zD9 e; omega
def Fu (p : zi) (N : Nat) : Prop := JF p.Steps + zDL p.Tools + 10000 ≤ N
theorem toolE_good {t : zS} {u : Int} (h : zAj t u = 0) : t.Rects.length ≤ 2000 := by
  unfold zAj at h
  split at h
  · cases h
  split at h
  · cases h
  · omega
theorem check_end {N : Nat} {p : zi} (hN : Fu p N) (hL : zI9 p) (hu : 1 ≤ p.Unit ∧ p.Unit ≤ 1000) (ht : p.Tools.length ≤ 200) (hp : ∀ t ∈ p.Tools, t.Name.size ≤ 40 ∧ t.Rects.length ≤ 2000) :
    ∃ e, ((VM N p.Steps).bind fun y112 => if (decide (3000 < y112)) then some 2 else (KA N p p.Steps 0).bind fun y113 => some y113) = some e ∧
      ((Kg N p.Steps).bind fun y112 => if (decide (3000 < y112)) then some 2 else (Jg N p p.Steps 0).bind fun y113 => some y113) = some e ∧ (e = 0 → zJ4 p) := by
  unfold Fu at hN
  obtain ⟨c, c1, c2, c3, c4, c5, c6⟩ := count_ok (JF p.Steps) p.Steps N (Nat.le_refl _) (by omega) hL.sl hL.steps
  rw [c1, c2, Option.bind_some, Option.bind_some]
  by_cases hc : 3000 < c
  · rw [if_pos (decide_eq_true hc), if_pos (decide_eq_true hc)]
    exact ⟨2, rfl, rfl, fun h => by cases h⟩
  · rw [if_neg (by simpa using hc), if_neg (by simpa using hc)]
    obtain ⟨e, e1, e2, e3⟩ := zEt (nm := 40) (p := p) hu (by omega) (fun t h => (hp t h).1) (JF p.Steps) p.Steps N 0 (Nat.le_refl _) (by omega) hL.sl hL.steps
    rw [e1, e2]
    exact ⟨e, rfl, rfl, fun h => ⟨hu, ht, hp, e3 h, by have := c6 (by omega); omega⟩⟩
theorem zIy {N : Nat} {p : zi} (hN : Fu p N) (hL : zI9 p) (hu : 1 ≤ p.Unit ∧ p.Unit ≤ 1000) (ht : p.Tools.length ≤ 200) : ∀ (suf pre : List zS) (m : Nat), p.Tools = pre ++ suf → (∀ t ∈ pre, t.Name.size ≤ 40 ∧ t.Rects.length ≤ 2000) → suf.length < m →
    ∃ e, QT N p suf pre.length = some e ∧ Qw N p m (pre.length : Int) = some e ∧ (e = 0 → zJ4 p)
  | [], pre, m, he, hp, hm => by
    obtain ⟨m, rfl⟩ : ∃ k, m = k + 1 := ⟨m - 1, by omega⟩
    rw [QT, Qw, show decide ((pre.length : Int) < (p.Tools.length : Int)) = false from decide_eq_false (by rw [he]; simp), if_neg (by simp)]
    exact check_end hN hL hu ht (fun t h => hp t (by rw [he] at h; simpa using h))
  | t :: l, pre, m, he, hp, hm => by
    obtain ⟨m, rfl⟩ : ∃ k, m = k + 1 := ⟨m - 1, by simp at hm; omega⟩
    simp at hm
    have hlen : p.Tools.length = pre.length + (l.length + 1) := by rw [he]; simp
    have hmem : t ∈ p.Tools := by rw [he]; simp
    have hsz := zD9 hmem
    have hN' := hN
    unfold Fu at hN'
    obtain ⟨b, b1, b2, b3⟩ := zJ3 (N := N) (hL.tools t hmem).1 (by omega)
    rw [QT, Qw, show decide ((pre.length : Int) < (p.Tools.length : Int)) = true from decide_eq_true (by omega), if_pos rfl, show idx p.Tools (pre.length : Int) = some t by rw [he]; exact VX _ _ _,
      Option.bind_some, zF4 hu b1, Option.bind_some, b2, Option.bind_some]
    cases b
    · exact ⟨5, rfl, rfl, fun h => by cases h⟩
    simp only [if_true, Bool.not_true, Bool.false_eq_true, if_false]
    rw [zF5 hu (by omega), Option.bind_some]
    by_cases h0 : zAj t p.Unit = 0
    · have hz0 : (zAj t p.Unit != 0) = false := by simp [h0]
      simp only [hz0, Bool.false_eq_true, if_false]
      have hgo : ∃ e, QT N p l (pre.length + 1) = some e ∧ Qw N p m (w64 ((pre.length : Int) + 1)) = some e ∧ (e = 0 → zJ4 p) := by
        have := zIy hN hL hu ht l (pre ++ [t]) m (by rw [he]; simp) (fun x hx => by
          rcases List.mem_append.1 hx with h | h
          · exact hp x h
          · simp at h; subst h; exact ⟨b3 rfl, toolE_good h0⟩) (by omega)
        rw [zBt _ t (by omega)]
        simpa using this
      by_cases hz : pre = []
      · subst hz
        simpa using hgo
      · have hpos : 0 < (pre.length : Int) := by
          have := List.length_pos_iff.2 hz; omega
        simp only [decide_eq_true hpos, if_true]
        rw [KC (x := (pre.length : Int) - 1) (by omega) (by omega)]
        obtain ⟨x, hx, _⟩ := idx_lt (l := p.Tools) (i := (pre.length : Int) - 1) (by omega) (by omega)
        simp only [hx, Option.bind_some]
        split
        · exact ⟨8, rfl, rfl, fun h => by cases h⟩
        · exact hgo
    · have hz0 : (zAj t p.Unit != 0) = true := by simpa using h0
      simp only [hz0, if_true]
      exact ⟨_, rfl, rfl, fun h => absurd h h0⟩
theorem zGI {N : Nat} {p : zi} (hN : Fu p N) (hL : zI9 p) : ∃ e, Qg N p = some e ∧ Vd N p = some e ∧ (e = 0 → zJ4 p) := by
  have hw : Jh p.Unit 1 1000 = some (decide (1 ≤ p.Unit) && decide (p.Unit ≤ 1000)) := rfl
  have hw2 : QQ p.Unit 1 1000 = some (decide (1 ≤ p.Unit) && decide (p.Unit ≤ 1000)) := rfl
  unfold Qg Vd
  rw [hw, hw2, Option.bind_some, Option.bind_some]
  by_cases hu : 1 ≤ p.Unit ∧ p.Unit ≤ 1000
  · have e : (decide (1 ≤ p.Unit) && decide (p.Unit ≤ 1000)) = true := by simpa using hu
    simp only [e, Bool.not_true, Bool.false_eq_true, if_false]
    by_cases ht : 200 < (p.Tools.length : Int)
    · rw [if_pos (decide_eq_true ht), if_pos (decide_eq_true ht)]
      exact ⟨2, rfl, rfl, fun h => by cases h⟩
    · rw [if_neg (by simpa using ht), if_neg (by simpa using ht)]
      have hN' := hN
      unfold Fu at hN'
      exact zIy hN hL hu (by omega) p.Tools [] N rfl (fun t h => by cases h) (by omega)
  · have e : (decide (1 ≤ p.Unit) && decide (p.Unit ≤ 1000)) = false := by
      rw [Bool.eq_false_iff]; simpa using hu
    rw [e]
    exact ⟨1, rfl, rfl, fun h => by cases h⟩
theorem zFY : ∀ (suf pre : List zU) (m : Nat), suf.length < m → (pre ++ suf).length ≤ 9223372036854775807 → QO (pre ++ suf) (pre ++ suf) m (pre.length : Int) = some true
  | [], pre, m, hm, hl => by
    obtain ⟨m, rfl⟩ : ∃ k, m = k + 1 := ⟨m - 1, by omega⟩
    rw [QO, zE6, if_neg (by simp)]
  | q :: l, pre, m, hm, hl => by
    obtain ⟨m, rfl⟩ : ∃ k, m = k + 1 := ⟨m - 1, by simp at hm; omega⟩
    simp at hm hl
    rw [QO, zE5, if_pos rfl, VX, Option.bind_some, Option.bind_some, show JN q q = true from zDc.2 rfl, if_neg (by simp), zBt _ q (by omega), zCu, zFY l (pre ++ [q]) m (by omega) (by simp; omega)]
theorem samePts_ok {N : Nat} {l : List zU} (hN : l.length < N) (hl : l.length ≤ 9223372036854775807) : Jf N l l = some true := by
  unfold Jf
  rw [if_neg (by simp)]
  exact zFY l [] N hN hl
theorem zFX : ∀ (suf pre : List JO) (m : Nat), suf.length < m → (pre ++ suf).length ≤ 9223372036854775807 → QZ (pre ++ suf) (pre ++ suf) m (pre.length : Int) = some true
  | [], pre, m, hm, hl => by
    obtain ⟨m, rfl⟩ : ∃ k, m = k + 1 := ⟨m - 1, by omega⟩
    rw [QZ, zE6, if_neg (by simp)]
  | q :: l, pre, m, hm, hl => by
    obtain ⟨m, rfl⟩ : ∃ k, m = k + 1 := ⟨m - 1, by simp at hm; omega⟩
    simp at hm hl
    rw [QZ, zE5, if_pos rfl, VX, Option.bind_some, Option.bind_some, show zDb q q = true from eqTRect_iff.2 rfl, if_neg (by simp), zBt _ q (by omega), zCu, zFX l (pre ++ [q]) m (by omega) (by simp; omega)]
theorem sameRcs_ok {N : Nat} {l : List JO} (hN : l.length < N) (hl : l.length ≤ 9223372036854775807) : Jv N l l = some true := by
  unfold Jv
  rw [if_neg (by simp)]
  exact zFX l [] N hN hl
theorem zFW {N : Nat} {rec : List zB → List zB → Option Bool} : ∀ (suf pre : List zB) (m : Nat), suf.length < m → (pre ++ suf).length ≤ 9223372036854775807 → (∀ x ∈ suf, x.Points.length < N ∧ x.Points.length ≤ 9223372036854775807 ∧ rec x.Steps x.Steps = some true) → QY N (pre ++ suf) (pre ++ suf) rec m (pre.length : Int) = some true
  | [], pre, m, hm, hl, h => by
    obtain ⟨m, rfl⟩ : ∃ k, m = k + 1 := ⟨m - 1, by omega⟩
    rw [QY, zE6, if_neg (by simp)]
  | x :: l, pre, m, hm, hl, h => by
    obtain ⟨m, rfl⟩ : ∃ k, m = k + 1 := ⟨m - 1, by simp at hm; omega⟩
    simp at hm hl
    obtain ⟨h1, h2, h3⟩ := h x List.mem_cons_self
    rw [QY, zE5, if_pos rfl, VX, Option.bind_some, Option.bind_some]
    simp only [bne_self_eq_false, WA.2 rfl, zDc.2 rfl, Bool.not_true, Bool.or_self, Bool.false_eq_true, if_false, samePts_ok h1 h2, h3, Option.bind_some]
    rw [zBt _ x (by omega), zCu, zFW l (pre ++ [x]) m (by omega) (by simp; omega) (fun y hy => h y (List.mem_cons_of_mem _ hy))]
theorem zIQ : ∀ (k : Nat) (l : List zB) (N : Nat), JF l ≤ k → k + 5 ≤ N → l.length ≤ 9223372036854775807 → zCG l → Ju N l l = some true
  | k, l, N, hk, hN, hl, hA => by
    obtain ⟨N, rfl⟩ : ∃ n, N = n + 1 := ⟨N - 1, by omega⟩
    have hlen := zCV l
    show Ja N _ l l = _
    unfold Ja
    rw [if_neg (by simp)]
    exact zFW l [] N (by omega) (by simpa using hl) (fun s hs => by
      have h1 := Vv hs
      have h2 := VQ s
      have h3 := (zBv s).1 (zBW hA hs)
      cases k with
      | zero => omega
      | succ k => exact ⟨by omega, h3.2.2.1.1, zIQ k s.Steps N (by omega) (by omega) h3.2.2.2.2.1 h3.2.2.2.2.2⟩)
theorem zG9 {N : Nat} {p : zi} : ∀ (suf pre : List zS) (m : Nat), p.Tools = pre ++ suf → suf.length < m → p.Tools.length ≤ 9223372036854775807 → (∀ t ∈ suf, t.Rects.length < N ∧ t.Rects.length ≤ 9223372036854775807) → Qf N p p m (pre.length : Int) = some true
  | [], pre, m, he, hm, hl, h => by
    obtain ⟨m, rfl⟩ : ∃ k, m = k + 1 := ⟨m - 1, by omega⟩
    rw [Qf, if_neg (by rw [he]; simp)]
  | t :: l, pre, m, he, hm, hl, h => by
    obtain ⟨m, rfl⟩ : ∃ k, m = k + 1 := ⟨m - 1, by simp at hm; omega⟩
    simp at hm
    have hlen : p.Tools.length = pre.length + (l.length + 1) := by rw [he]; simp
    obtain ⟨h1, h2⟩ := h t List.mem_cons_self
    have hj : idx p.Tools (pre.length : Int) = some t := by rw [he]; exact VX _ _ _
    rw [Qf, if_pos (by simp; omega), hj]
    simp only [Option.bind_some, WA.2 rfl, Bool.not_true, Bool.false_eq_true, if_false, sameRcs_ok h1 h2]
    rw [zBt _ t (by omega), zG9 l (pre ++ [t]) m (by rw [he]; simp) (by omega) hl (fun y hy => h y (List.mem_cons_of_mem _ hy))]
theorem samePl_ok {N : Nat} {p : zi} (hN : JF p.Steps + 5 ≤ N) (hs : p.Steps.length ≤ 9223372036854775807) (hL : zCG p.Steps) (ht : p.Tools.length < N) (ht2 : p.Tools.length ≤ 9223372036854775807) (hr : ∀ t ∈ p.Tools, t.Rects.length < N ∧ t.Rects.length ≤ 9223372036854775807) : KG N p p = some true := by
  unfold KG
  simp only [bne_self_eq_false, Bool.or_self, Bool.false_eq_true, if_false, zIQ (JF p.Steps) p.Steps N (Nat.le_refl _) hN hs hL, Option.bind_some, Bool.not_true]
  exact zG9 p.Tools [] N rfl ht ht2 hr
theorem numV_J64 {s : ByteArray} (h : Vw s = true) : J64 (zFj s) := by
  have ha := atoiF_ok h
  unfold zHN at ha
  split at ha
  · rename_i hs
    have ha : Lib.atoi (bs s) = some (zFj s) := ha
    have := Lib.atoi_bound ha (by rw [← Jz]; exact hs)
    exact ⟨by omega, by omega⟩
  · cases ha
theorem zED {l : List ByteArray} {m : List Int} (h : nums l = some m) : ∀ n ∈ m, J64 n := by
  unfold nums at h
  split at h
  · rename_i ha
    have := Option.some.inj h; subst this
    intro n hn
    obtain ⟨s, hs, rfl⟩ := List.mem_map.1 hn
    exact numV_J64 (List.all_eq_true.1 ha s hs)
  · cases h
theorem zCg : J64 0 := ⟨by decide, by decide⟩
def FineLn : Ln → Prop
  | .unit n => J64 n
  | .tool t => t.Name.size ≤ 9223372036854775807 ∧ t.Rects.length ≤ 9223372036854775807 ∧ ∀ r ∈ t.Rects, (J64 r.X0 ∧ J64 r.Y0) ∧ J64 r.X1 ∧ J64 r.Y1
  | .step s => zD0 s
  | .rep s => zD0 s
  | .done => True
theorem zFm {k : Int} {nm : ByteArray} {x y : Int} {P : List zU} {a b : Int} (h1 : nm.size ≤ 9223372036854775807) (hx : J64 x) (hy : J64 y) (hp : P.length ≤ 9223372036854775807) (hP : ∀ q ∈ P, J64 q.X ∧ J64 q.Y) (ha : J64 a) (hb : J64 b) : zD0 ⟨k, nm, ⟨x, y⟩, P, a, b, []⟩ := by
  rw [zBv]
  exact ⟨h1, ⟨hx, hy⟩, ⟨hp, hP⟩, ⟨ha, hb⟩, by simp, by rw [zCG]; trivial⟩
theorem pts_fine : ∀ (m : List Int), (∀ n ∈ m, J64 n) → (pts m).length ≤ m.length ∧ ∀ q ∈ pts m, J64 q.X ∧ J64 q.Y
  | [], _ => ⟨by simp [pts], fun q h => by cases h⟩
  | [a], _ => ⟨by simp [pts], fun q h => by cases h⟩
  | a :: b :: l, h => by
    obtain ⟨h1, h2⟩ := pts_fine l (fun n hn => h n (by simp [hn]))
    refine ⟨by simp [pts]; omega, fun q hq => ?_⟩
    rw [pts] at hq
    rcases List.mem_cons.1 hq with rfl | hq
    · exact ⟨h a (by simp), h b (by simp)⟩
    · exact h2 q hq
theorem rcs_fine : ∀ (n : Nat) (m : List Int), m.length ≤ n → (∀ n ∈ m, J64 n) → (rcs m).length ≤ m.length ∧ ∀ r ∈ rcs m, (J64 r.X0 ∧ J64 r.Y0) ∧ J64 r.X1 ∧ J64 r.Y1
  | _, [], _, _ => ⟨by simp [rcs], fun q h => by cases h⟩
  | _, [a], _, _ => ⟨by simp [rcs], fun q h => by cases h⟩
  | _, [a, b], _, _ => ⟨by simp [rcs], fun q h => by cases h⟩
  | _, [a, b, c], _, _ => ⟨by simp [rcs], fun q h => by cases h⟩
  | 0, a :: b :: c :: d :: l, hn, _ => by simp at hn
  | n + 1, a :: b :: c :: d :: l, hn, h => by
    obtain ⟨h1, h2⟩ := rcs_fine n l (by simp at hn; omega) (fun n hn => h n (by simp [hn]))
    refine ⟨by simp [rcs]; omega, fun q hq => ?_⟩
    rw [rcs] at hq
    rcases List.mem_cons.1 hq with rfl | hq
    · exact ⟨⟨h a (by simp), h b (by simp)⟩, h c (by simp), h d (by simp)⟩
    · exact h2 q hq
theorem lnOf_fine {ws : List ByteArray} (hw : ∀ w ∈ ws, w.size ≤ 4294967296) (hl : ws.length ≤ 300000) {l : Ln} (h : WE ws = some l) : FineLn l := by
  cases ws with
  | nil => cases h
  | cons k r =>
    rw [KL] at h
    have hr : ∀ w ∈ r, w.size ≤ 4294967296 := fun w hm => hw w (List.mem_cons_of_mem _ hm)
    simp at hl
    cases hd : Vy k with
    | none => rw [hd] at h; cases h
    | some d =>
      rw [hd, Option.bind_some] at h
      have e0s : e0.size ≤ 9223372036854775807 := by show (0 : Nat) ≤ _; omega
      have no : ∀ q ∈ ([] : List zU), J64 q.X ∧ J64 q.Y := fun q h => by cases h
      have stp : ∀ k : Int, zD0 (st0 k) := fun k => zFm e0s zCg zCg (by simp) no zCg zCg
      have pt : ∀ k : Int, zA6 k (nums r) = some l → FineLn l := fun k h => by
        obtain ⟨x, y, e, rfl⟩ := Ve h
        have := zED e
        show zD0 _
        exact zFm e0s (this x (by simp)) (this y (by simp)) (by simp) no zCg zCg
      cases d with
      | rept =>
        obtain ⟨a, b, c, d, e, rfl⟩ := zBG (show zCw (nums r) = _ from h)
        have := zED e
        show zD0 _
        exact zFm e0s (this c (by simp)) (this d (by simp)) (by simp) no (this a (by simp)) (this b (by simp))
      | unit =>
        have h : zBE (nums r) = some l := h
        unfold zBE at h
        split at h
        · rename_i n e
          obtain rfl := Option.some.inj h
          exact zED e n (by simp)
        · cases h
      | tool =>
        cases r with
        | nil => cases h
        | cons nm r2 =>
          have h : (if rowOk nm = true then zBF nm (nums r2) else none) = some l := h
          split at h
          · obtain ⟨m, e, _, rfl⟩ := zCZ h
            have h1 := zED e
            have h2 := zIZ e
            obtain ⟨h3, h4⟩ := rcs_fine m.length m (Nat.le_refl _) h1
            have := hr nm (by simp)
            simp at hl
            exact ⟨by show nm.size ≤ _; omega, by show (rcs m).length ≤ _; omega, h4⟩
          · cases h
      | dark =>
        have h : (if r = [] then some (Ln.step (st0 1)) else none) = some l := h
        split at h
        · obtain rfl := Option.some.inj h; exact stp 1
        · cases h
      | clear =>
        have h : (if r = [] then some (Ln.step (st0 2)) else none) = some l := h
        split at h
        · obtain rfl := Option.some.inj h; exact stp 2
        · cases h
      | done =>
        have h : (if r = [] then some Ln.done else none) = some l := h
        split at h
        · obtain rfl := Option.some.inj h; trivial
        · cases h
      | use =>
        cases r with
        | nil => cases h
        | cons nm r2 =>
          cases r2 with
          | nil =>
            have h : (if rowOk nm = true then some (Ln.step ⟨3, nm, ⟨0, 0⟩, [], 0, 0, []⟩) else none) = some l := h
            split at h
            · obtain rfl := Option.some.inj h
              have := hr nm (by simp)
              show zD0 _
              exact zFm (by omega) zCg zCg (by simp) no zCg zCg
            · cases h
          | cons _ _ => cases h
      | move => exact pt 4 h
      | flash => exact pt 5 h
      | line => exact pt 6 h
      | area =>
        obtain ⟨m, e, _, rfl⟩ := zAb (show zBH (nums r) = _ from h)
        have h1 := zED e
        have h2 := zIZ e
        obtain ⟨h3, h4⟩ := pts_fine m h1
        show zD0 _
        exact zFm e0s zCg zCg (by omega) h4 zCg zCg
def zJB (ls : List (Option Ln)) : Prop := ∀ l, some l ∈ ls → FineLn l
theorem zJB.suf {ls ls' : List (Option Ln)} (h : zJB ls) (hs : ls' <:+ ls) : zJB ls' := fun s hm => h s (hs.subset hm)
theorem zJc {l : List zB} {x : zB} (h : zCG l) (hx : zD0 x) : zCG (l ++ [x]) := lenL_of fun y hy => by
  rcases List.mem_append.1 hy with hy | hy
  · exact zBW h hy
  · simp at hy; subst hy; exact hx
theorem zEW : ∀ (n : Nat) (inner : Bool) (ls : List (Option Ln)) (out : List zB), ls.length ≤ 1000000 → zJB ls → zCG out → zCG (Qt n inner ls out).1 ∧ (Qt n inner ls out).1.length + (Qt n inner ls out).2.1.length ≤ out.length + ls.length
  | 0, _, ls, out, _, _, h => by rw [Qt]; exact ⟨h, Nat.le_refl _⟩
  | n + 1, inner, [], out, _, _, h => by rw [Qt]; exact ⟨h, Nat.le_refl _⟩
  | n + 1, inner, some (.step s) :: ls, out, hl, hf, h => by
    simp at hl
    rw [Qt]
    have ih := zEW n inner ls (out ++ [s]) (by omega) (hf.suf (List.suffix_cons _ _)) (zJc h (hf (.step s) (by simp)))
    refine ⟨ih.1, ?_⟩
    have := ih.2
    simp at this ⊢; omega
  | n + 1, inner, some (.rep s) :: ls, out, hl, hf, h => by
    simp at hl
    rw [Qt]
    have hf' := hf.suf (List.suffix_cons _ _)
    have hs : zD0 s := hf (.rep s) (by simp)
    have ih := zEW n true ls [] (by omega) hf' (by rw [zCG]; trivial)
    have hsuf := zBS n true ls []
    generalize Qt n true ls [] = R at *
    obtain ⟨o, rest, bad⟩ := R
    obtain ⟨i1, i2⟩ := ih
    simp only at i1 i2 hsuf
    simp at i2
    cases bad
    · simp only [Bool.false_eq_true, if_false]
      have hx : zD0 ⟨s.Kind, s.Name, s.At, s.Points, s.NX, s.NY, o⟩ := by
        rw [zBv] at hs ⊢
        exact ⟨hs.1, hs.2.1, hs.2.2.1, hs.2.2.2.1, by show o.length ≤ _; omega, i1⟩
      have i3 := zEW n inner rest (out ++ [⟨s.Kind, s.Name, s.At, s.Points, s.NX, s.NY, o⟩]) (by omega) (hf'.suf hsuf) (zJc h hx)
      refine ⟨i3.1, ?_⟩
      have := i3.2
      simp at this ⊢; omega
    · simp only [if_true]
      exact ⟨h, by simp; omega⟩
  | n + 1, inner, some .done :: ls, out, _, _, h => by
    rw [Qt]
    split
    · exact ⟨h, by simp⟩
    · exact ⟨h, Nat.le_refl _⟩
  | n + 1, inner, some (.unit _) :: ls, out, _, _, h => ⟨h, Nat.le_refl _⟩
  | n + 1, inner, some (.tool _) :: ls, out, _, _, h => ⟨h, Nat.le_refl _⟩
  | n + 1, inner, none :: ls, out, _, _, h => ⟨h, Nat.le_refl _⟩
def FineT (t : zS) : Prop := t.Name.size ≤ 9223372036854775807 ∧ t.Rects.length ≤ 9223372036854775807 ∧ ∀ r ∈ t.Rects, (J64 r.X0 ∧ J64 r.Y0) ∧ J64 r.X1 ∧ J64 r.Y1
theorem zJW : ∀ (ls : List (Option Ln)) (a : List zS), zJB ls → (∀ t ∈ a, FineT t) → (∀ t ∈ (zAW ls a).1, FineT t) ∧ (zAW ls a).1.length + (zAW ls a).2.length ≤ a.length + ls.length
  | [], a, _, h => by
    rw [zBC (by simp)]
    exact ⟨h, Nat.le_refl _⟩
  | l :: ls, a, hf, h => by
    by_cases hh : ∃ t, l = some (.tool t)
    · obtain ⟨t, rfl⟩ := hh
      have ht : FineT t := hf (.tool t) (by simp)
      have ih := zJW ls (a ++ [t]) (hf.suf (List.suffix_cons _ _)) (fun y hy => by
        rcases List.mem_append.1 hy with hy | hy
        · exact h y hy
        · simp at hy; subst hy; exact ht)
      rw [zEV]
      refine ⟨ih.1, ?_⟩
      have := ih.2
      simp at this ⊢; omega
    · have h' : ∀ t ls', l :: ls ≠ some (.tool t) :: ls' := fun t ls' e => hh ⟨t, (List.cons.inj e).1⟩
      rw [zBC h']
      exact ⟨h, Nat.le_refl _⟩
end Go.Proofs.YtokanbmnoghafaaGreatDoor
