/- Plain words: counting loops over lists, numbers in range. No program. Conditions: none beyond each theorem's own. Names in order; counts by name, sorted. Plain Lean about the plain functions. Conditions: none beyond each theorem's own. The panel's check, as the program and the reference compute it: the same error. Plain Lean about the plain functions. Bodies and places: their checks give an error each time; places without error have short types. Plain Lean about the plain functions. Conditions: none beyond each theorem's own. What is needed of each type: counted once, and times boards. Plain Lean about the plain functions. Conditions: none beyond each theorem's own. The panel's check, ended: slots, marks, and the whole check of the program and of the reference. Plain Lean about the plain functions. A checked panel, with fuel. Plain Lean about the plain functions. The small region of the laws over all chapters. Plain Lean about the plain functions. -/
import Derived.Test.YtejfmgjfdnmmgaaGreatDoorJ2
import Derived.Test.YtejfmgjfdnmmgaaGreatDoorXF
namespace Go.Proofs.YtejfmgjfdnmmgaaGreatDoor
theorem w64_id {x : Int} (h1 : -4611686018427387904 ≤ x) (h2 : x ≤ 4611686018427387904) : w64 x = x := w64_eq (by omega) (by omega)
theorem idx_mid {α : Type} (pre suf : List α) (x : α) : idx (pre ++ x :: suf) (pre.length : Int) = some x := by
  unfold idx
  rw [if_pos (by omega)]
  simp
theorem idx_nat {α : Type} {l : List α} {i : Nat} (h : i < l.length) : idx l (i : Int) = some l[i] := by
  unfold idx
  rw [if_pos (by omega)]
  simp [h]
theorem idx_lt {α : Type} {l : List α} {i : Int} (h0 : 0 ≤ i) (h : i < l.length) : ∃ x, idx l i = some x ∧ l[i.toNat]? = some x := by
  unfold idx
  rw [if_pos h0]
  exact ⟨l[i.toNat]'(by omega), by simp, by simp⟩
theorem lt_mid {α : Type} (pre suf : List α) (x : α) : decide ((pre.length : Int) < ((pre ++ x :: suf).length : Int)) = true := decide_eq_true (by simp; omega)
theorem lt_end {α : Type} (pre : List α) : decide ((pre.length : Int) < ((pre ++ []).length : Int)) = false := decide_eq_false (by simp)
theorem up_mid {α : Type} (pre : List α) (x : α) (h : pre.length ≤ 4611686018427387903) : w64 ((pre.length : Int) + 1) = ((pre ++ [x]).length : Int) := by
  rw [w64_id (by omega) (by omega)]; simp
theorem snoc_mid {α : Type} (pre suf : List α) (x : α) : pre ++ x :: suf = (pre ++ [x]) ++ suf := by simp
theorem apd_ok {α : Type} {l m : List α} (h : l.length + m.length ≤ 4294967296) : apd l m = some (l ++ m) := if_pos h
theorem cut_ok {α : Type} {l : List α} {n : Nat} (h : n ≤ l.length) : cut l 0 (n : Int) = some (l.take n) := by
  unfold cut
  rw [if_pos (by omega)]
  simp
theorem sEq_comm (s t : ByteArray) : sEq s t = sEq t s := by rw [sEq_dec, sEq_dec]; exact decide_eq_decide.2 eq_comm
def within (n lo hi : Int) : Bool := decide (lo ≤ n) && decide (n ≤ hi)
theorem within_iff {n lo hi : Int} : within n lo hi = true ↔ lo ≤ n ∧ n ≤ hi := by simp [within]
/-- The first place at which g holds, counted from i on; -1: none. -/
def ixOf {α : Type} (g : α → Bool) : List α → Int → Int
  | [], _ => -1
  | x :: l, i => if g x then i else ixOf g l (i + 1)
theorem ixOf_any {α : Type} (g : α → Bool) : ∀ (l : List α) (i : Int), 0 ≤ i → decide (0 ≤ ixOf g l i) = l.any g
  | [], _, _ => by simp [ixOf]
  | x :: l, i, hi => by
    unfold ixOf
    rw [List.any_cons]
    cases g x
    · simp [ixOf_any g l (i + 1) (by omega)]
    · simp [hi]
theorem ixOf_lo {α : Type} (g : α → Bool) : ∀ (l : List α) (i : Int), 0 ≤ i → (ixOf g l i = -1 ∧ l.any g = false) ∨ (i ≤ ixOf g l i ∧ ixOf g l i < i + l.length ∧ ∃ x, l[(ixOf g l i - i).toNat]? = some x ∧ g x = true)
  | [], _, _ => by simp [ixOf]
  | x :: l, i, hi => by
    have ih := ixOf_lo g l (i + 1) (by omega)
    unfold ixOf
    rw [List.any_cons]
    cases hg : g x
    · simp only [Bool.false_eq_true, if_false, Bool.false_or, List.length_cons]
      rcases ih with ih | ⟨h1, h2, y, h3, h4⟩
      · exact .inl ih
      · refine .inr ⟨by omega, by omega, y, ?_, h4⟩
        rw [show (ixOf g l (i + 1) - i).toNat = (ixOf g l (i + 1) - (i + 1)).toNat + 1 by omega]
        simpa using h3
    · right
      simp only [if_true, List.length_cons]
      exact ⟨by omega, by omega, x, by simp, hg⟩
end Go.Proofs.YtejfmgjfdnmmgaaGreatDoor
namespace Go.Proofs.YtejfmgjfdnmmgaaGreatDoor
open Lib (compareBytes)
theorem cmpB_self : ∀ l : List UInt8, compareBytes l l = 0
  | [] => rfl
  | a :: l => by
    unfold compareBytes
    rw [if_neg (UInt8.lt_irrefl a), if_neg (UInt8.lt_irrefl a)]
    exact cmpB_self l
theorem u8_eq {a b : UInt8} (h : ¬ a < b) (h' : ¬ b < a) : a = b := by
  apply UInt8.toNat_inj.1
  have h1 : ¬ a.toNat < b.toNat := fun x => h (UInt8.lt_iff_toNat_lt.2 x)
  have h2 : ¬ b.toNat < a.toNat := fun x => h' (UInt8.lt_iff_toNat_lt.2 x)
  omega
theorem cmpB_eq : ∀ {a b : List UInt8}, compareBytes a b = 0 → a = b
  | [], [], _ => rfl
  | [], _ :: _, h => by simp [compareBytes] at h
  | _ :: _, [], h => by simp [compareBytes] at h
  | x :: a, y :: b, h => by
    unfold compareBytes at h
    split at h
    · simp at h
    · rename_i h1
      split at h
      · simp at h
      · rename_i h2
        rw [u8_eq h1 h2, cmpB_eq h]
theorem cmpB_tri : ∀ (a b : List UInt8), compareBytes a b < 0 ∨ a = b ∨ compareBytes b a < 0
  | [], [] => .inr (.inl rfl)
  | [], _ :: _ => .inl (by simp [compareBytes])
  | _ :: _, [] => .inr (.inr (by simp [compareBytes]))
  | x :: a, y :: b => by
    unfold compareBytes
    by_cases h1 : x < y
    · rw [if_pos h1]; exact .inl (by omega)
    · by_cases h2 : y < x
      · rw [if_neg h1, if_pos h2, if_pos h2]; exact .inr (.inr (by omega))
      · rw [if_neg h1, if_neg h2, if_neg h2, if_neg h1, u8_eq h1 h2]
        rcases cmpB_tri a b with h | h | h
        · exact .inl h
        · exact .inr (.inl (by rw [h]))
        · exact .inr (.inr h)
theorem u8_trans {a b c : UInt8} (h : a < b) (k : b < c) : a < c := UInt8.lt_trans h k
theorem cmpB_trans : ∀ {a b c : List UInt8}, compareBytes a b < 0 → compareBytes b c < 0 → compareBytes a c < 0
  | [], [], _, h, _ => by simp [compareBytes] at h
  | [], _ :: _, [], _, k => by simp [compareBytes] at k
  | [], _ :: _, _ :: _, _, _ => by simp [compareBytes]
  | _ :: _, [], _, h, _ => by simp [compareBytes] at h
  | _ :: _, _ :: _, [], _, k => by simp [compareBytes] at k
  | x :: a, y :: b, z :: c, h, k => by
    unfold compareBytes at h k ⊢
    by_cases h1 : x < y
    · by_cases k1 : y < z
      · rw [if_pos (u8_trans h1 k1)]; omega
      · rw [if_neg k1] at k
        by_cases k2 : z < y
        · rw [if_pos k2] at k; omega
        · rw [← u8_eq k1 k2, if_pos h1]; omega
    · rw [if_neg h1] at h
      by_cases h2 : y < x
      · rw [if_pos h2] at h; omega
      · rw [if_neg h2] at h
        have hxy := u8_eq h1 h2
        subst hxy
        by_cases k1 : x < z
        · rw [if_pos k1]; omega
        · rw [if_neg k1] at k ⊢
          by_cases k2 : z < x
          · rw [if_pos k2] at k; omega
          · rw [if_neg k2] at k ⊢
            exact cmpB_trans h k
theorem ba_eq {a b : ByteArray} (h : a.data.toList = b.data.toList) : a = b := by
  cases a; cases b
  simp only [ByteArray.mk.injEq]
  exact Array.toList_inj.1 h
def cT (x y : TCount) : Option Int := F_mount_counts_1 x y
theorem cT_eq (x y : TCount) : F_mount_counts_1 x y = some (compareBytes x.Type_.data.toList y.Type_.data.toList) := rfl
theorem ltT (x y : TCount) : ltC (fun z0 z1 => F_mount_counts_1 z0 z1) x y = decide (compareBytes x.Type_.data.toList y.Type_.data.toList < 0) := rfl
theorem counts_sort (l : List TCount) (hl : l.length < 4611686018427387904) : SortOk (fun z0 z1 => F_mount_counts_1 z0 z1) l :=
  ⟨hl, fun x _ y _ => ⟨_, cT_eq x y⟩, fun x _ => by rw [ltT, cmpB_self]; rfl,
   fun x _ y _ z _ h k => by rw [ltT] at *; exact decide_eq_true (cmpB_trans (of_decide_eq_true h) (of_decide_eq_true k)),
   fun x _ y _ z _ h k => by
    rw [ltT] at *
    have h := of_decide_eq_false h
    have k := of_decide_eq_false k
    refine decide_eq_false fun hh => ?_
    rcases cmpB_tri x.Type_.data.toList y.Type_.data.toList with h1 | h1 | h1
    · exact h h1
    · rw [h1] at hh; exact k hh
    · exact k (cmpB_trans h1 hh)⟩
/-- Counts, each name once: sorted they are one list, in whatever order they come. -/
theorem counts_uniq {l m : List TCount} (hp : l.Perm m) (hk : ∀ x ∈ m, ∀ y ∈ m, x.Type_ = y.Type_ → x = y)
    (h1 : l.Pairwise fun x y => ltC (fun z0 z1 => F_mount_counts_1 z0 z1) y x = false) (h2 : m.Pairwise fun x y => ltC (fun z0 z1 => F_mount_counts_1 z0 z1) y x = false) : l = m := by
  refine hp.eq_of_pairwise (fun a b ha hb g1 g2 => ?_) h1 h2
  rw [ltT] at g1 g2
  have g1 := of_decide_eq_false g1
  have g2 := of_decide_eq_false g2
  rcases cmpB_tri a.Type_.data.toList b.Type_.data.toList with h | h | h
  · exact absurd h g2
  · exact hk a (hp.mem_iff.1 ha) b hb (ba_eq h)
  · exact absurd h g1
theorem keysApart {κ α : Type} : ∀ {l : List (κ × α)}, (l.Pairwise fun e e' => e.1 ≠ e'.1) → ∀ {x y : κ × α}, x ∈ l → y ∈ l → x ≠ y → x.1 ≠ y.1
  | z :: l, hd, x, y, hx, hy, hne => by
    obtain ⟨h1, h2⟩ := List.pairwise_cons.1 hd
    rcases List.mem_cons.1 hx with hx | hx
    · rcases List.mem_cons.1 hy with hy | hy
      · exact absurd (hx.trans hy.symm) hne
      · rw [hx]; exact h1 y hy
    · rcases List.mem_cons.1 hy with hy | hy
      · rw [hy]; exact fun h => h1 x hx h.symm
      · exact keysApart h2 hx hy hne
theorem counts_ok {m : List (ByteArray × Int)} {r : List TCount} (hl : m.length ≤ 1000000) (hd : m.Pairwise fun e e' => e.1 ≠ e'.1) (hp : r.Perm (cntM m)) (hs : r.Pairwise fun x y => ltC (fun z0 z1 => F_mount_counts_1 z0 z1) y x = false) : F_mount_counts m = some r := by
  unfold F_mount_counts
  rw [if_pos (by omega)]
  refine permO_of fun π hπ => ?_
  have hcl : (cntM m).length ≤ m.length := by unfold cntM; rw [List.length_map]; exact List.length_filter_le _ _
  obtain ⟨q, hq⟩ := srtF_ok (counts_sort π (by rw [hπ.length_eq]; omega))
  obtain ⟨_, hq1, hq2⟩ := srtF_some hq
  rw [hq]
  congr 1
  refine counts_uniq ((hq1.trans hπ).trans hp.symm) (fun x hx y hy hxy => ?_) hq2 hs
  have hx := hp.mem_iff.1 hx
  have hy := hp.mem_iff.1 hy
  unfold cntM at hx hy
  obtain ⟨e, he, rfl⟩ := List.mem_map.1 hx
  obtain ⟨e', he', rfl⟩ := List.mem_map.1 hy
  have he := (List.mem_filter.1 he).1
  have he' := (List.mem_filter.1 he').1
  simp only at hxy
  have : e = e' := by
    cases Classical.em (e = e') with
    | inl h => exact h
    | inr h => exact absurd hxy (keysApart hd he he' h)
  rw [this]
theorem counts_some {m : List (ByteArray × Int)} (hl : m.length ≤ 1000000) (hd : m.Pairwise fun e e' => e.1 ≠ e'.1) : ∃ r, F_mount_counts m = some r ∧ r.Perm (cntM m) ∧ r.Pairwise fun x y => ltC (fun z0 z1 => F_mount_counts_1 z0 z1) y x = false := by
  have hcl : (cntM m).length ≤ m.length := by unfold cntM; rw [List.length_map]; exact List.length_filter_le _ _
  obtain ⟨q, hq⟩ := srtF_ok (counts_sort (cntM m) (by omega))
  obtain ⟨_, hq1, hq2⟩ := srtF_some hq
  exact ⟨q, counts_ok hl hd hq1 hq2, hq1, hq2⟩
end Go.Proofs.YtejfmgjfdnmmgaaGreatDoor
namespace Go.Proofs.YtejfmgjfdnmmgaaGreatDoor
/-- Fuel that is enough for a panel. -/
structure Fuel (N : Nat) (p : TPanel) : Prop where
  big : 20000000 ≤ N
  kinds : p.Kinds.length < N
  slots : p.Slots.length < N
  marks : p.Marks.length < N
  names : ∀ k ∈ p.Kinds, k.Name.size < N
/-- What is known of an argument's lists. -/
structure Arg (p : TPanel) : Prop where
  kinds : p.Kinds.length ≤ 4611686018427387903
  slots : p.Slots.length ≤ 4611686018427387903
  marks : p.Marks.length ≤ 4611686018427387903
  names : ∀ k ∈ p.Kinds, k.Name.size ≤ 9223372036854775807
-- names
theorem strAt_ok {s : ByteArray} {i : Int} (h0 : 0 ≤ i) (h : i < s.size) : ∃ c, strAt s i = some c := by
  unfold strAt
  rw [if_pos h0]
  have : i.toNat < s.size := by omega
  exact ⟨_, by rw [getElem?_pos s i.toNat this]; rfl⟩
theorem IsName_some (s : ByteArray) (hs : s.size ≤ 9223372036854775807) : ∀ (r m : Nat) (x : Int), 0 ≤ x → x ≤ s.size → (s.size : Int) - x = r → r < m → ∃ b, F_plot_IsName_L1 s m x = some b ∧ ∀ m', r < m' → F_plot_IsName_L1 s m' x = some b
  | 0, m + 1, x, h0, h1, h2, _ => by
    have : x = s.size := by omega
    subst this
    refine ⟨_, by rw [F_plot_IsName_L1.eq_2, if_neg (by simp)], fun m' hm' => ?_⟩
    cases m' with
    | zero => omega
    | succ m' => rw [F_plot_IsName_L1.eq_2, if_neg (by simp)]
  | r + 1, m + 1, x, h0, h1, h2, h3 => by
    have hlt : x < s.size := by omega
    obtain ⟨c, hc⟩ := strAt_ok h0 hlt
    obtain ⟨b, hb, hb'⟩ := IsName_some s hs r m (x + 1) (by omega) (by omega) (by omega) (by omega)
    have hw : w64 (x + 1) = x + 1 := w64_eq (by omega) (by omega)
    have key : ∀ m', r + 1 < m' + 1 → F_plot_IsName_L1 s (m' + 1) x = if ((!(((decide (97 ≤ c)) && (decide (c ≤ 122))) || ((decide (65 ≤ c)) && (decide (c ≤ 90))))) && ((x == 0) || ((((decide (c < 48)) || (decide (57 < c))) && (c != 95)) && (c != 45)))) then some false else some b := fun m' hm' => by
      rw [F_plot_IsName_L1.eq_2, if_pos (by simpa using hlt), hc, Option.bind_some, hw, hb' m' (by omega)]
    generalize ((!(((decide (97 ≤ c)) && (decide (c ≤ 122))) || ((decide (65 ≤ c)) && (decide (c ≤ 90))))) && ((x == 0) || ((((decide (c < 48)) || (decide (57 < c))) && (c != 95)) && (c != 45)))) = g at key
    cases g
    · refine ⟨b, by rw [key m (by omega)]; rfl, fun m' hm' => ?_⟩
      obtain ⟨m2, rfl⟩ : ∃ m2, m' = m2 + 1 := ⟨m' - 1, by omega⟩
      rw [key m2 (by omega)]; rfl
    · refine ⟨false, by rw [key m (by omega)]; rfl, fun m' hm' => ?_⟩
      obtain ⟨m2, rfl⟩ : ∃ m2, m' = m2 + 1 := ⟨m' - 1, by omega⟩
      rw [key m2 (by omega)]; rfl
/-- Is this a name? -/
def nameOk (s : ByteArray) : Bool := (F_plot_IsName_L1 s (s.size + 1) 0).getD false
theorem IsName_ok {s : ByteArray} {N : Nat} (hs : s.size ≤ 9223372036854775807) (hN : s.size < N) : F_plot_IsName N s = some (nameOk s) := by
  obtain ⟨b, hb, hb'⟩ := IsName_some s hs s.size (s.size + 1) 0 (by omega) (by omega) (by omega) (by omega)
  unfold F_plot_IsName nameOk
  rw [hb, hb' N hN]; rfl
theorem within_ok (n lo hi : Int) : F_panel_within n lo hi = some (within n lo hi) := rfl
-- kinds
/-- The error of the kinds, the name before known. -/
def kindsErr : Option ByteArray → List TBoardKind → Int
  | _, [] => 0
  | prev, k :: rest => if nameOk k.Name = false then 5 else if within k.W 1 1000000 = false ∨ within k.H 1 1000000 = false then 1
      else if (prev.any fun q => sLt k.Name q || sEq k.Name q) = true then 8 else kindsErr (some k.Name) rest
def checkKinds (l : List TBoardKind) : Int := if 50 < l.length then 2 else kindsErr none l
def prevOf (pre : List TBoardKind) : Option ByteArray := pre.getLast?.map (·.Name)
theorem kinds_loop {N : Nat} : ∀ (suf pre : List TBoardKind), (pre ++ suf).length ≤ 50 → (∀ k ∈ suf, k.Name.size ≤ 9223372036854775807 ∧ k.Name.size < N) → F_panel_checkKinds_L1 N (pre ++ suf) suf pre.length = some (kindsErr (prevOf pre) suf)
  | [], pre, _, _ => by rw [F_panel_checkKinds_L1.eq_1]; rfl
  | k :: suf, pre, hl, hn => by
    have ih := kinds_loop (N := N) suf (pre ++ [k]) (by simpa using hl) (fun k' hk' => hn k' (by simp [hk']))
    obtain ⟨h1, h2⟩ := hn k (by simp)
    have hpr : prevOf (pre ++ [k]) = some k.Name := by simp [prevOf]
    rw [hpr, ← snoc_mid, show (pre ++ [k]).length = pre.length + 1 by simp] at ih
    rw [F_panel_checkKinds_L1.eq_2, IsName_ok h1 h2, Option.bind_some]
    unfold kindsErr
    cases nameOk k.Name
    · rfl
    simp only [Bool.not_true, Bool.false_eq_true, if_false, reduceCtorEq, within_ok, Option.bind_some]
    cases hW : within k.W 1 1000000
    · simp
    cases hH : within k.H 1 1000000
    · simp
    simp only [Bool.not_true, Bool.false_eq_true, if_false, Option.bind_some, or_self, reduceCtorEq]
    rcases List.eq_nil_or_concat pre with rfl | ⟨pre', q, rfl⟩
    · simp only [List.length_nil, prevOf, List.getLast?_nil, Option.map_none, Option.any_none, Bool.false_eq_true, if_false]
      rw [if_neg (by simp), Option.bind_some]
      simp only [Bool.false_eq_true, if_false]
      simpa using ih
    · rw [List.concat_eq_append] at hl ih ⊢
      have hq : prevOf (pre' ++ [q]) = some q.Name := by simp [prevOf]
      rw [hq, if_pos (by simp), w64_id (by simp <;> omega) (by simp at hl ⊢ <;> omega), show (((pre' ++ [q]).length : Int) - 1) = (pre'.length : Int) by simp, List.append_assoc, List.singleton_append, idx_mid, Option.bind_some, Option.bind_some]
      rw [List.append_assoc, List.singleton_append] at ih
      simp only [Option.any_some]
      rw [ih]
      split <;> rfl
theorem checkKinds_ok {N : Nat} {l : List TBoardKind} (hn : ∀ k ∈ l, k.Name.size ≤ 9223372036854775807 ∧ k.Name.size < N) : F_panel_checkKinds N l = some (checkKinds l) := by
  unfold F_panel_checkKinds checkKinds
  by_cases h : 50 < l.length
  · rw [if_pos (by simp; omega), if_pos h]
  · rw [if_neg (by simp; omega), if_neg h]
    have := kinds_loop (N := N) l [] (by simp; omega) hn
    simpa [prevOf] using this
-- the same of the reference
-- a kind by its name
def kindIx (l : List TBoardKind) (nm : ByteArray) : Int := ixOf (fun k => sEq k.Name nm) l 0
theorem IndexK_ok {g : TBoardKind → Bool} {f : TBoardKind → Option Bool} : ∀ (l : List TBoardKind) (i : Nat), (∀ x ∈ l, f x = some (g x)) → F_slices_IndexFunc_BoardKind_L1 f l i = some (ixOf g l i)
  | [], i, _ => rfl
  | x :: l, i, h => by
    rw [F_slices_IndexFunc_BoardKind_L1.eq_2, h x (by simp), Option.bind_some, IndexK_ok l (i + 1) (fun y hy => h y (by simp [hy])), ixOf, show ((i + 1 : Nat) : Int) = (i : Int) + 1 by omega]
    cases g x <;> rfl
theorem kindAt_ok (p : TPanel) (nm : ByteArray) : F_panel_kindAt p nm = some (kindIx p.Kinds nm) := by
  unfold F_panel_kindAt F_slices_IndexFunc_BoardKind
  rw [IndexK_ok (f := fun z0 => F_panel_kindAt_1 z0 nm) (g := fun k => sEq k.Name nm) p.Kinds 0 (fun x _ => rfl)]
  rfl
-- sizes and cells
def sizeW (k : TBoardKind) (q : Int) : Int := if Int.tmod q 2 = 1 then k.H else k.W
def sizeH (k : TBoardKind) (q : Int) : Int := if Int.tmod q 2 = 1 then k.W else k.H
theorem sizeOf_ok (k : TBoardKind) (q : Int) : F_panel_sizeOf k q = some (sizeW k q, sizeH k q) := by
  unfold F_panel_sizeOf sizeW sizeH
  by_cases h : Int.tmod q 2 = 1 <;> simp [h]
def kindAtI (l : List TBoardKind) (i : Int) : TBoardKind := (l[i.toNat]?).getD ⟨ByteArray.empty, 0, 0⟩
def kindOf (l : List TBoardKind) (nm : ByteArray) : TBoardKind := kindAtI l (kindIx l nm)
theorem kindIx_lo (l : List TBoardKind) (nm : ByteArray) : (kindIx l nm = -1) ∨ (0 ≤ kindIx l nm ∧ idx l (kindIx l nm) = some (kindOf l nm) ∧ kindOf l nm ∈ l ∧ (kindOf l nm).Name = nm) := by
  rcases ixOf_lo (fun k : TBoardKind => sEq k.Name nm) l 0 (by omega) with ⟨h, _⟩ | ⟨h1, h2, x, h3, h4⟩
  · exact .inl h
  · right
    have h3' : l[(kindIx l nm).toNat]? = some x := by
      have : (ixOf (fun k : TBoardKind => sEq k.Name nm) l 0 - 0).toNat = (kindIx l nm).toNat := by unfold kindIx; omega
      rw [← this]; exact h3
    have hk : kindOf l nm = x := by unfold kindOf kindAtI; rw [h3']; rfl
    have h1' : 0 ≤ kindIx l nm := h1
    refine ⟨h1', ?_, ?_, ?_⟩
    · unfold idx; rw [if_pos h1', h3', hk]
    · rw [hk]; exact List.mem_of_getElem? h3'
    · rw [hk]; exact sEq_iff.1 h4
/-- The cell of a slot (in whole numbers). -/
def cellOf (p : TPanel) (s : TSlot) : TRect := ⟨s.At.X, s.At.Y, s.At.X + sizeW (kindOf p.Kinds s.Board) s.Quarters, s.At.Y + sizeH (kindOf p.Kinds s.Board) s.Quarters⟩
/-- The bounds that a checked panel's numbers have. -/
structure PB (p : TPanel) : Prop where
  w0 : 1 ≤ p.W
  w1 : p.W ≤ 1000000
  h0 : 1 ≤ p.H
  h1 : p.H ≤ 1000000
  r0 : 0 ≤ p.Rail
  r1 : p.Rail ≤ 1000000
  g0 : 0 ≤ p.Gap
  g1 : p.Gap ≤ 1000000
  kinds : ∀ k ∈ p.Kinds, 1 ≤ k.W ∧ k.W ≤ 1000000 ∧ 1 ≤ k.H ∧ k.H ≤ 1000000
  klen : p.Kinds.length ≤ 50
theorem kindsErr_ok : ∀ {l : List TBoardKind} {q : Option ByteArray}, kindsErr q l = 0 → ∀ k ∈ l, 1 ≤ k.W ∧ k.W ≤ 1000000 ∧ 1 ≤ k.H ∧ k.H ≤ 1000000
  | [], _, _, k, hk => by cases hk
  | a :: l, q, h, k, hk => by
    unfold kindsErr at h
    split at h
    · omega
    · split at h
      · omega
      · rename_i h2
        split at h
        · omega
        · rcases List.mem_cons.1 hk with rfl | hk
          · have a1 : within k.W 1 1000000 = true := by cases hh : within k.W 1 1000000 <;> simp_all
            have a2 : within k.H 1 1000000 = true := by cases hh : within k.H 1 1000000 <;> simp_all
            have := within_iff.1 a1; have := within_iff.1 a2
            omega
          · exact kindsErr_ok h k hk
theorem sizeWH {p : TPanel} (hB : PB p) {nm : ByteArray} (h : kindIx p.Kinds nm ≠ -1) (q : Int) : 1 ≤ sizeW (kindOf p.Kinds nm) q ∧ sizeW (kindOf p.Kinds nm) q ≤ 1000000 ∧ 1 ≤ sizeH (kindOf p.Kinds nm) q ∧ sizeH (kindOf p.Kinds nm) q ≤ 1000000 := by
  rcases kindIx_lo p.Kinds nm with h' | ⟨_, _, hm, _⟩
  · exact absurd h' h
  · have := hB.kinds _ hm
    unfold sizeW sizeH
    split <;> omega
theorem cellOf_ok {p : TPanel} {s : TSlot} (hB : PB p) (hk : kindIx p.Kinds s.Board ≠ -1) (hx : -1000000000 ≤ s.At.X ∧ s.At.X ≤ 1000000000) (hy : -1000000000 ≤ s.At.Y ∧ s.At.Y ≤ 1000000000) : F_panel_cellOf p s = some (cellOf p s) := by
  have hs := sizeWH hB hk s.Quarters
  rcases kindIx_lo p.Kinds s.Board with h' | ⟨_, hi, _, _⟩
  · exact absurd h' hk
  · unfold F_panel_cellOf cellOf
    rw [kindAt_ok, Option.bind_some, hi, Option.bind_some, sizeOf_ok, Option.bind_some]
    simp only [w64_id (x := s.At.X + sizeW (kindOf p.Kinds s.Board) s.Quarters) (by omega) (by omega), w64_id (x := s.At.Y + sizeH (kindOf p.Kinds s.Board) s.Quarters) (by omega) (by omega)]
-- slots
def apart (a b : TRect) (gap : Int) : Bool := ((decide (a.X1 + gap ≤ b.X0) || decide (b.X1 + gap ≤ a.X0)) || decide (a.Y1 + gap ≤ b.Y0)) || decide (b.Y1 + gap ≤ a.Y0)
def RB (r : TRect) : Prop := (-1000000000 ≤ r.X0 ∧ r.X0 ≤ 1000000000) ∧ (-1000000000 ≤ r.Y0 ∧ r.Y0 ≤ 1000000000) ∧ (-1000000000 ≤ r.X1 ∧ r.X1 ≤ 1000000000) ∧ (-1000000000 ≤ r.Y1 ∧ r.Y1 ≤ 1000000000)
theorem apart_ok {a b : TRect} {gap : Int} (ha : RB a) (hb : RB b) (h0 : 0 ≤ gap) (h1 : gap ≤ 1000000) : F_panel_isApart a b gap = some (apart a b gap) := by
  unfold RB at ha hb
  unfold F_panel_isApart apart
  rw [w64_id (x := a.X1 + gap) (by omega) (by omega), w64_id (x := b.X1 + gap) (by omega) (by omega), w64_id (x := a.Y1 + gap) (by omega) (by omega), w64_id (x := b.Y1 + gap) (by omega) (by omega)]
/-- Does the cell lie within the rail? -/
def okAt (p : TPanel) (s : TSlot) : Bool := (decide (p.Rail ≤ s.At.X) && decide ((cellOf p s).X1 ≤ p.W - p.Rail)) && (decide (p.Rail ≤ s.At.Y) && decide ((cellOf p s).Y1 ≤ p.H - p.Rail))
def slotErr (p : TPanel) (prev : List TRect) (s : TSlot) : Int :=
  if kindIx p.Kinds s.Board = -1 then 5 else if within s.Quarters 0 3 = false then 1 else if okAt p s = false then 1 else if (prev.any fun d => !apart (cellOf p s) d p.Gap) = true then 12 else 0
def slotsErr (p : TPanel) : List TRect → List TSlot → Int
  | _, [] => 0
  | prev, s :: rest => if slotErr p prev s = 0 then slotsErr p (prev ++ [cellOf p s]) rest else slotErr p prev s
structure SlotOk (p : TPanel) (s : TSlot) : Prop where
  kind : kindIx p.Kinds s.Board ≠ -1
  q0 : 0 ≤ s.Quarters
  q1 : s.Quarters ≤ 3
  x0 : p.Rail ≤ s.At.X
  y0 : p.Rail ≤ s.At.Y
  x1 : (cellOf p s).X1 ≤ p.W - p.Rail
  y1 : (cellOf p s).Y1 ≤ p.H - p.Rail
theorem slotErr_ok {p : TPanel} {prev : List TRect} {s : TSlot} (h : slotErr p prev s = 0) : SlotOk p s := by
  unfold slotErr at h
  split at h
  · omega
  · rename_i h1
    split at h
    · omega
    · rename_i h2
      split at h
      · omega
      · rename_i h3
        have a1 : within s.Quarters 0 3 = true := by cases hh : within s.Quarters 0 3 <;> simp_all
        have a2 : okAt p s = true := by cases hh : okAt p s <;> simp_all
        have b1 := within_iff.1 a1
        unfold okAt at a2
        simp only [Bool.and_eq_true, decide_eq_true_eq] at a2
        exact ⟨h1, b1.1, b1.2, a2.1.1, a2.2.1, a2.1.2, a2.2.2⟩
theorem SlotOk.bd {p : TPanel} {s : TSlot} (hB : PB p) (h : SlotOk p s) : (-1000000000 ≤ s.At.X ∧ s.At.X ≤ 1000000000) ∧ (-1000000000 ≤ s.At.Y ∧ s.At.Y ≤ 1000000000) ∧ RB (cellOf p s) ∧ (cellOf p s).X0 < (cellOf p s).X1 ∧ (cellOf p s).Y0 < (cellOf p s).Y1 ∧ 0 ≤ (cellOf p s).X0 ∧ 0 ≤ (cellOf p s).Y0 ∧ (cellOf p s).X1 ≤ 1000000 ∧ (cellOf p s).Y1 ≤ 1000000 := by
  obtain ⟨h1, h2, h3, h4, h5, h6, h7⟩ := h
  have hs := sizeWH hB h1 s.Quarters
  have b1 := hB.w1; have b2 := hB.h1; have b3 := hB.r0; have b4 := hB.r1
  unfold RB
  unfold cellOf at *
  dsimp only at *
  omega
theorem ContainsR_ok {g : TRect → Bool} {f : TRect → Option Bool} {l : List TRect} (h : ∀ x ∈ l, f x = some (g x)) : F_slices_ContainsFunc_Rect l f = some (l.any g) := by
  have key : ∀ (l : List TRect) (i : Nat), (∀ x ∈ l, f x = some (g x)) → F_slices_IndexFunc_Rect_L1 f l i = some (ixOf g l i) := by
    intro l
    induction l with
    | nil => intro i _; rfl
    | cons x l ih =>
      intro i h
      rw [F_slices_IndexFunc_Rect_L1.eq_2, h x (by simp), Option.bind_some, ih (i + 1) (fun y hy => h y (by simp [hy])), ixOf, show ((i + 1 : Nat) : Int) = (i : Int) + 1 by omega]
      cases g x <;> rfl
  unfold F_slices_ContainsFunc_Rect F_slices_IndexFunc_Rect
  rw [key l 0 h, Option.bind_some, show ((0 : Nat) : Int) = 0 from rfl, ixOf_any g l 0 (by omega)]
theorem slot_step {p : TPanel} (hB : PB p) {prev : List TRect} {s : TSlot} (hprev : ∀ r ∈ prev, RB r) {K : List TRect → Option (List TRect × Int)} :
    ((F_panel_kindAt p s.Board).bind fun y34 =>
    if (decide (y34 < 0)) then
      some (([] : List TRect), 5)
    else
      (F_panel_within s.Quarters 0 3).bind fun y35 =>
      (if (!y35) then some true else (F_panel_within s.At.X 0 p.W).bind fun y38 => some (!y38)).bind fun g37 =>
      (if g37 then some true else (F_panel_within s.At.Y 0 p.H).bind fun y41 => some (!y41)).bind fun g40 =>
      if g40 then
        some (([] : List TRect), 1)
      else
        (F_panel_cellOf p s).bind fun y42 =>
        (F_panel_isOn p y42).bind fun y43 =>
        if (!y43) then
          some (([] : List TRect), 1)
        else
          (F_slices_ContainsFunc_Rect prev (fun z0 => F_panel_cells_1 z0 y42 p)).bind fun y44 =>
          if y44 then
            some (([] : List TRect), 12)
          else
            (apd prev [y42]).bind fun l45 => K l45) =
    if slotErr p prev s = 0 then (apd prev [cellOf p s]).bind K else some ([], slotErr p prev s) := by
  have b1 := hB.w0; have b2 := hB.w1; have b3 := hB.h0; have b4 := hB.h1; have b5 := hB.r0; have b6 := hB.r1
  rw [kindAt_ok, Option.bind_some]
  unfold slotErr
  rcases kindIx_lo p.Kinds s.Board with hk | ⟨hk, _, _, _⟩
  · rw [if_pos hk, hk]; simp
  have hk1 : kindIx p.Kinds s.Board ≠ -1 := by omega
  rw [if_neg (by simpa using hk), if_neg hk1]
  simp only [within_ok, Option.bind_some]
  cases hQ : within s.Quarters 0 3
  · simp
  have hsz := sizeWH hB hk1 s.Quarters
  simp only [Bool.not_true, Bool.false_eq_true, if_false, Option.bind_some, reduceCtorEq]
  by_cases hat : within s.At.X 0 p.W = true ∧ within s.At.Y 0 p.H = true
  · obtain ⟨hX, hY⟩ := hat
    have wx := within_iff.1 hX; have wy := within_iff.1 hY
    rw [hX, hY]
    simp only [Bool.not_true, Bool.false_eq_true, if_false, Option.bind_some]
    rw [cellOf_ok hB hk1 (by omega) (by omega), Option.bind_some]
    unfold F_panel_isOn
    rw [Option.bind_some, w64_id (x := p.W - p.Rail) (by omega) (by omega), w64_id (x := p.H - p.Rail) (by omega) (by omega)]
    have hon : ((((((decide (p.Rail ≤ (cellOf p s).X0)) && (decide (p.Rail ≤ (cellOf p s).Y0))) && (decide ((cellOf p s).X0 ≤ p.W))) && (decide ((cellOf p s).Y0 ≤ p.H))) && (decide ((cellOf p s).X1 ≤ p.W - p.Rail))) && (decide ((cellOf p s).Y1 ≤ p.H - p.Rail))) = okAt p s := by
      unfold okAt cellOf
      rw [Bool.eq_iff_iff]
      simp only [Bool.and_eq_true, decide_eq_true_eq]
      omega
    rw [hon]
    cases hO : okAt p s
    · simp
    have hsl : SlotOk p s := by
      have a2 := hO
      unfold okAt at a2
      simp only [Bool.and_eq_true, decide_eq_true_eq] at a2
      exact ⟨hk1, (within_iff.1 hQ).1, (within_iff.1 hQ).2, a2.1.1, a2.2.1, a2.1.2, a2.2.2⟩
    have hrb := (hsl.bd hB).2.2.1
    rw [ContainsR_ok (g := fun d => !apart (cellOf p s) d p.Gap) (fun d hd => by
      unfold F_panel_cells_1
      rw [apart_ok hrb (hprev d hd) hB.g0 hB.g1]; rfl)]
    simp only [Bool.not_true, Bool.false_eq_true, if_false, Option.bind_some, reduceCtorEq]
    cases hA : (prev.any fun d => !apart (cellOf p s) d p.Gap)
    · simp
    · simp
  · have hO : okAt p s = false := by
      rw [Bool.eq_false_iff]
      intro hO
      unfold okAt cellOf at hO
      simp only [Bool.and_eq_true, decide_eq_true_eq] at hO
      refine hat ⟨within_iff.2 (by omega), within_iff.2 (by omega)⟩
    rw [hO]
    cases hX : within s.At.X 0 p.W
    · simp
    cases hY : within s.At.Y 0 p.H
    · simp
    · exact absurd ⟨hX, hY⟩ hat
theorem cells_loop {p : TPanel} (hB : PB p) : ∀ (suf : List TSlot) (i : Nat) (prev : List TRect), prev.length + suf.length ≤ 500 → (∀ r ∈ prev, RB r) →
    F_panel_cells_L1 p suf i prev = some (if slotsErr p prev suf = 0 then (prev ++ suf.map (cellOf p), 0) else ([], slotsErr p prev suf))
  | [], i, prev, _, _ => by rw [F_panel_cells_L1.eq_1]; simp [slotsErr]
  | s :: suf, i, prev, hl, hr => by
    rw [F_panel_cells_L1.eq_2, slot_step hB hr, slotsErr]
    by_cases he : slotErr p prev s = 0
    · have hok := slotErr_ok he
      rw [if_pos he, if_pos he, apd_ok (by simp at hl ⊢; omega), Option.bind_some, cells_loop hB suf (i + 1) (prev ++ [cellOf p s]) (by simp at hl ⊢; omega) (fun r hr' => by
        rcases List.mem_append.1 hr' with h | h
        · exact hr r h
        · simp at h; subst h; exact (hok.bd hB).2.2.1)]
      simp
    · rw [if_neg he, if_neg he, if_neg he]
def cellsErr (p : TPanel) : Int := if 500 < p.Slots.length then 2 else slotsErr p [] p.Slots
theorem cells_ok {p : TPanel} (hB : PB p) : F_panel_cells p = some (if cellsErr p = 0 then (p.Slots.map (cellOf p), 0) else ([], cellsErr p)) := by
  unfold F_panel_cells cellsErr
  by_cases h : 500 < p.Slots.length
  · rw [if_pos (by simp; omega), if_pos h]; rfl
  · rw [if_neg (by simp; omega), if_neg h, cells_loop hB p.Slots 0 [] (by simp; omega) (fun r hr => by cases hr)]
    simp
theorem slotsErr_ok {p : TPanel} : ∀ {l : List TSlot} {prev : List TRect}, slotsErr p prev l = 0 → ∀ s ∈ l, SlotOk p s
  | [], _, _, s, hs => by cases hs
  | a :: l, prev, h, s, hs => by
    unfold slotsErr at h
    split at h
    · rename_i h1
      rcases List.mem_cons.1 hs with rfl | hs
      · exact slotErr_ok h1
      · exact slotsErr_ok h s hs
    · rename_i h1; exact absurd h h1
end Go.Proofs.YtejfmgjfdnmmgaaGreatDoor
namespace Go.Proofs.YtejfmgjfdnmmgaaGreatDoor
theorem IsWord_some (s : ByteArray) (hs : s.size ≤ 9223372036854775807) : ∀ (r m : Nat) (x : Int), 0 ≤ x → x ≤ s.size → (s.size : Int) - x = r → r < m → ∃ b, F_netlist_IsWord_L1 s m x = some b ∧ (b = true → s.size ≤ 40)
  | 0, m + 1, x, h0, h1, h2, _ => by
    have : x = s.size := by omega
    subst this
    refine ⟨_, by rw [F_netlist_IsWord_L1.eq_2, if_neg (by simp)], fun hb => ?_⟩
    simp at hb; omega
  | r + 1, m + 1, x, h0, h1, h2, h3 => by
    have hlt : x < s.size := by omega
    obtain ⟨c, hc⟩ := strAt_ok h0 hlt
    obtain ⟨b, hb, hb'⟩ := IsWord_some s hs r m (x + 1) (by omega) (by omega) (by omega) (by omega)
    have hw : w64 (x + 1) = x + 1 := w64_eq (by omega) (by omega)
    rw [F_netlist_IsWord_L1.eq_2, if_pos (by simpa using hlt), hc, Option.bind_some, hw, hb]
    have : ∃ g, (if ((((decide (c < 65)) || (decide (90 < c))) && ((decide (c < 97)) || (decide (122 < c)))) && ((decide (c < 48)) || (decide (57 < c)))) then
        (ixbF (⟨#[95, 43, 45, 35]⟩) c).bind fun y115 => some (decide (y115 < 0)) else some false) = some g := by
      split
      · exact ⟨_, rfl⟩
      · exact ⟨_, rfl⟩
    obtain ⟨g, hg⟩ := this
    rw [hg, Option.bind_some]
    cases g
    · exact ⟨b, rfl, hb'⟩
    · exact ⟨false, rfl, fun h => by cases h⟩
theorem IsWord_ok {s : ByteArray} {N : Nat} (hs : s.size ≤ 9223372036854775807) (hN : s.size < N) : ∃ b, F_netlist_IsWord N s = some b ∧ (b = true → s.size ≤ 40) :=
  IsWord_some s hs s.size N 0 (by omega) (by omega) (by omega) hN
theorem splitB_sz (sep : ByteArray) (save : Nat) : ∀ (k : Nat) (s : ByteArray), ∀ x ∈ Lib.splitB sep save k s, x.size ≤ s.size
  | 0, s, x, hx => by
    rw [Lib.splitB_zero] at hx
    simp at hx; subst hx; exact Nat.le_refl _
  | k + 1, s, x, hx => by
    unfold Lib.splitB at hx
    split at hx
    · simp at hx; subst hx; exact Nat.le_refl _
    · rcases List.mem_cons.1 hx with h | h
      · subst h; rw [ByteArray.size_extract]; omega
      · have := splitB_sz sep save k _ x h
        rw [ByteArray.size_extract] at this; omega
theorem IxS_some {f : ByteArray → Option Bool} : ∀ (l : List ByteArray) (i : Nat), (∀ x ∈ l, ∃ b, f x = some b) → ∃ k, F_slices_IndexFunc_string_L1 f l i = some k
  | [], i, _ => ⟨_, by rw [F_slices_IndexFunc_string_L1.eq_1]⟩
  | x :: l, i, h => by
    obtain ⟨b, hb⟩ := h x (by simp)
    obtain ⟨k, hk⟩ := IxS_some l (i + 1) fun y hy => h y (by simp [hy])
    rw [F_slices_IndexFunc_string_L1.eq_2, hb, Option.bind_some, hk]
    cases b
    · exact ⟨k, rfl⟩
    · exact ⟨_, rfl⟩
theorem IsPath_ok {s : ByteArray} {N : Nat} (hN : 1000 ≤ N) : ∃ b, F_netlist_IsPath N s = some b := by
  unfold F_netlist_IsPath
  by_cases hs : (s.size : Int) ≤ 200
  · rw [if_pos (by simpa using hs)]
    have h1 : splitF s ⟨#[47]⟩ = some (Lib.splitB ⟨#[47]⟩ 0 (Lib.countB s ⟨#[47]⟩) s) := by
      unfold splitF
      rw [if_pos ⟨by omega, by decide⟩]
    rw [h1, Option.bind_some]
    obtain ⟨k, hk⟩ := IxS_some (f := fun z0 => F_netlist_IsPath_1 N z0) (Lib.splitB ⟨#[47]⟩ 0 (Lib.countB s ⟨#[47]⟩) s) 0 fun x hx => by
      have hsz := splitB_sz _ _ _ _ x hx
      obtain ⟨b, hb, _⟩ := IsWord_ok (s := x) (N := N) (by omega) (by omega)
      exact ⟨!b, by show F_netlist_IsPath_1 N x = _; unfold F_netlist_IsPath_1; rw [hb]; rfl⟩
    unfold F_slices_ContainsFunc_string F_slices_IndexFunc_string
    rw [hk]
    exact ⟨_, rfl⟩
  · rw [if_neg (by simpa using hs)]; exact ⟨_, rfl⟩
theorem bs_some {l : List TBody} {s : ByteArray} {c : TBody → ByteArray → Option Int} (hc : ∀ x ∈ l, ∃ k, c x s = some k) (hl : l.length ≤ 1000000) : ∀ (m : Nat) (i j : Int), 0 ≤ i → i ≤ j → j ≤ l.length → j - i < m →
    ∃ k b, F_slices_BinarySearchFunc_string_L1 l s c m i j = some (k, b) ∧ (b = true → ∃ x, idx l k = some x ∧ x ∈ l ∧ c x s = some 0)
  | 0, i, j, h0, h1, h2, h3 => by omega
  | m + 1, i, j, h0, h1, h2, h3 => by
    rw [F_slices_BinarySearchFunc_string_L1.eq_2]
    by_cases hij : i < j
    · rw [if_pos (by simpa using hij)]
      have e1 : w64 (i + j) = i + j := w64_id (by omega) (by omega)
      have e2 : uO (i + j) = some (i + j) := if_pos ⟨by omega, by omega⟩
      have e3 : uO ((i + j) / 2) = some ((i + j) / 2) := if_pos ⟨by omega, by omega⟩
      obtain ⟨x, hx1, hx2⟩ := idx_lt (l := l) (i := (i + j) / 2) (by omega) (by omega)
      obtain ⟨k, hk⟩ := hc x (List.mem_of_getElem? hx2)
      rw [e1, e2, Option.bind_some, e3, Option.bind_some, hx1, Option.bind_some, hk, Option.bind_some]
      have e4 : w64 ((i + j) / 2 + 1) = (i + j) / 2 + 1 := w64_id (by omega) (by omega)
      by_cases h4 : k < 0
      · rw [if_pos (by simpa using h4), e4]
        exact bs_some hc hl m _ j (by omega) (by omega) h2 (by omega)
      · rw [if_neg (by simpa using h4)]
        exact bs_some hc hl m i _ h0 (by omega) (by omega) (by omega)
    · rw [if_neg (by simpa using hij)]
      by_cases h4 : i < l.length
      · rw [if_pos (by simpa using h4)]
        obtain ⟨x, hx1, hx2⟩ := idx_lt (l := l) (i := i) h0 h4
        obtain ⟨k, hk⟩ := hc x (List.mem_of_getElem? hx2)
        rw [hx1, Option.bind_some, hk]
        refine ⟨i, (k == 0), rfl, fun hb => ⟨x, hx1, List.mem_of_getElem? hx2, ?_⟩⟩
        have : k = 0 := by simpa using hb
        rw [hk, this]
      · rw [if_neg (by simpa using h4)]
        exact ⟨i, false, rfl, fun h => by cases h⟩
theorem bodyOf_ok {N : Nat} {l : List TBody} {s : ByteArray} (hl : l.length ≤ 1000000) (hN : 2000000 ≤ N) : ∃ x b, F_mount_bodyOf N l s = some (x, b) ∧ (b = true → ∃ x ∈ l, x.Type_ = s) := by
  unfold F_mount_bodyOf F_slices_BinarySearchFunc_string
  obtain ⟨k, b, h1, h2⟩ := bs_some (l := l) (s := s) (c := fun z0 z1 => F_mount_bodyOf_1 z0 z1) (fun x _ => ⟨_, rfl⟩) hl N 0 l.length (by omega) (by omega) (by omega) (by omega)
  rw [h1, Option.bind_some]
  cases b
  · exact ⟨_, false, rfl, fun h => by cases h⟩
  · obtain ⟨x, hx1, hx2, hx3⟩ := h2 rfl
    refine ⟨x, true, ?_, fun _ => ⟨x, hx2, ?_⟩⟩
    · show (idx l k).bind _ = _
      rw [hx1]; rfl
    · have : F_mount_bodyOf_1 x s = some (Lib.compareBytes x.Type_.data.toList s.data.toList) := rfl
      rw [this] at hx3
      exact ba_eq (cmpB_eq (Option.some.inj hx3))
theorem mwithin_ok (n lo hi : Int) : F_mount_within n lo hi = some (within n lo hi) := rfl
theorem ifb {α : Type} {g : Bool} {a b : Option α} {P : α → Prop} (ha : ∃ x, a = some x ∧ P x) (hb : ∃ x, b = some x ∧ P x) : ∃ x, (if g = true then a else b) = some x ∧ P x := by
  cases g
  · exact hb
  · exact ha
theorem prev_ok {α : Type} {l pre suf : List α} {x : α} (h : l = pre ++ x :: suf) (hl : l.length ≤ 1000000) (f : α → Bool) : ∃ g, (if (decide (0 < ((pre.length : Nat) : Int))) then (idx l (w64 ((pre.length : Int) - 1))).bind fun x124 => some (f x124) else some false) = some g := by
  by_cases h0 : 0 < pre.length
  · rw [if_pos (by simpa using h0)]
    have hlen : pre.length ≤ l.length := by rw [h]; simp
    have e1 : w64 ((pre.length : Int) - 1) = ((pre.length - 1 : Nat) : Int) := by rw [w64_id (by omega) (by omega)]; omega
    have hlt : pre.length - 1 < l.length := by rw [h]; simp; omega
    rw [e1, idx_nat hlt]
    exact ⟨_, rfl⟩
  · rw [if_neg (by simpa using h0)]; exact ⟨_, rfl⟩
theorem CheckBodies_loop {N : Nat} {l : List TBody} (hl : l.length ≤ 1000000) (hN : ∀ x ∈ l, (x.Type_.size ≤ 9223372036854775807 ∧ x.Type_.size < N) ∧ (x.Nozzle.size ≤ 9223372036854775807 ∧ x.Nozzle.size < N)) : ∀ (suf pre : List TBody), l = pre ++ suf →
    ∃ f, F_mount_CheckBodies_L1 N l suf pre.length = some f ∧ (f = 0 → ∀ x ∈ suf, x.Type_.size ≤ 40)
  | [], pre, _ => ⟨0, by rw [F_mount_CheckBodies_L1.eq_1], fun _ x hx => by cases hx⟩
  | x :: suf, pre, h => by
    obtain ⟨⟨t1, t2⟩, n1, n2⟩ := hN x (by rw [h]; simp)
    obtain ⟨b1, hb1, hb1'⟩ := IsWord_ok t1 t2
    obtain ⟨b2, hb2, _⟩ := IsWord_ok n1 n2
    obtain ⟨f, hf, hf'⟩ := CheckBodies_loop hl hN suf (pre ++ [x]) (by rw [h]; simp)
    rw [List.length_append] at hf
    obtain ⟨g, hg⟩ := prev_ok h hl (fun y => sLt x.Type_ y.Type_ || sEq x.Type_ y.Type_)
    rw [F_mount_CheckBodies_L1.eq_2, hb1, Option.bind_some]
    cases b1
    · exact ⟨5, rfl, fun h => by omega⟩
    · have hsz := hb1' rfl
      simp only [Bool.not_true, Bool.false_eq_true, if_false, mwithin_ok, Option.bind_some]
      have e1 : ∀ (a b : Bool), (if a = true then some true else some b) = some (a || b) := fun a b => by cases a <;> rfl
      rw [e1, Option.bind_some, e1, Option.bind_some]
      refine ifb ⟨1, rfl, fun h => by omega⟩ ?_
      rw [hb2, Option.bind_some]
      refine ifb ⟨5, rfl, fun h => by omega⟩ ?_
      rw [hg, Option.bind_some]
      refine ifb ⟨8, rfl, fun h => by omega⟩ ⟨f, hf, fun h0 y hy => ?_⟩
      rcases List.mem_cons.1 hy with rfl | hy
      · exact hsz
      · exact hf' h0 y hy
theorem CheckPlaces_loop {N : Nat} (hN : 2000000 ≤ N) {b : List TBody} {l : List TPlace} (hb : b.length ≤ 1000000) (hl : l.length ≤ 1000000) (hsz : ∀ x ∈ b, x.Type_.size ≤ 40) : ∀ (suf pre : List TPlace), l = pre ++ suf →
    ∃ f, F_mount_CheckPlaces_L1 N b l suf pre.length = some f ∧ (f = 0 → ∀ x ∈ suf, x.Type_.size ≤ 40)
  | [], pre, _ => ⟨0, by rw [F_mount_CheckPlaces_L1.eq_1], fun _ x hx => by cases hx⟩
  | x :: suf, pre, h => by
    obtain ⟨B, t, hB, hB'⟩ := bodyOf_ok (s := x.Type_) hb hN
    obtain ⟨pb, hpb⟩ := IsPath_ok (s := x.Part) (N := N) (by omega)
    obtain ⟨f, hf, hf'⟩ := CheckPlaces_loop hN hb hl hsz suf (pre ++ [x]) (by rw [h]; simp)
    rw [List.length_append] at hf
    obtain ⟨g, hg⟩ := prev_ok h hl (fun y => sLt x.Part y.Part || sEq x.Part y.Part)
    have hpt : ∃ q, F_shape_IsPoint x.At = some q := by
      unfold F_shape_IsPoint F_shape_IsAt F_shape_within
      simp only [Option.bind_some]
      split
      · exact ⟨_, rfl⟩
      · exact ⟨_, rfl⟩
    obtain ⟨q, hq⟩ := hpt
    rw [F_mount_CheckPlaces_L1.eq_2, hB, Option.bind_some, hpb, Option.bind_some]
    refine ifb ⟨5, rfl, fun h => by omega⟩ ?_
    cases t
    · exact ⟨9, rfl, fun h => by omega⟩
    · obtain ⟨y, hy1, hy2⟩ := hB' rfl
      simp only [Bool.not_true, Bool.false_eq_true, if_false, mwithin_ok, Option.bind_some, hq]
      have e1 : ∀ (a b : Bool), (if a = true then some true else some b) = some (a || b) := fun a b => by cases a <;> rfl
      rw [e1, Option.bind_some]
      refine ifb ⟨1, rfl, fun h => by omega⟩ ?_
      rw [hg, Option.bind_some]
      refine ifb ⟨8, rfl, fun h => by omega⟩ ⟨f, hf, fun h0 z hz => ?_⟩
      rcases List.mem_cons.1 hz with rfl | hz
      · rw [← hy2]; exact hsz y hy1
      · exact hf' h0 z hz
structure FuelM (N : Nat) (b : List TBody) : Prop where
  big : 2000000 ≤ N
  names : ∀ x ∈ b, (x.Type_.size ≤ 9223372036854775807 ∧ x.Type_.size < N) ∧ (x.Nozzle.size ≤ 9223372036854775807 ∧ x.Nozzle.size < N)
theorem CheckPlaces_ok {N : Nat} {b : List TBody} {l : List TPlace} (h : FuelM N b) : ∃ f, F_mount_CheckPlaces N b l = some f ∧ (f = 0 → l.length ≤ 1000 ∧ ∀ x ∈ l, x.Type_.size ≤ 40) := by
  unfold F_mount_CheckPlaces F_mount_CheckBodies
  by_cases hb : (200 : Int) < (b.length : Int)
  · rw [if_pos (by simpa using hb)]
    exact ⟨2, rfl, fun h => by omega⟩
  · rw [if_neg (by simpa using hb)]
    obtain ⟨f, hf, hf'⟩ := CheckBodies_loop (N := N) (l := b) (by omega) h.names b [] rfl
    rw [List.length_nil] at hf
    rw [hf, Option.bind_some]
    by_cases h0 : f = 0
    · subst h0
      rw [if_neg (by simp)]
      by_cases hl : (1000 : Int) < (l.length : Int)
      · rw [if_pos (by simpa using hl)]
        exact ⟨2, rfl, fun h => by omega⟩
      · rw [if_neg (by simpa using hl)]
        obtain ⟨f2, hf2, hf2'⟩ := CheckPlaces_loop h.big (b := b) (l := l) (by omega) (by omega) (hf' rfl) l [] rfl
        rw [List.length_nil] at hf2
        exact ⟨f2, hf2, fun h => ⟨by omega, hf2' h⟩⟩
    · rw [if_pos (by simpa using h0)]
      exact ⟨f, rfl, fun h => absurd h h0⟩
end Go.Proofs.YtejfmgjfdnmmgaaGreatDoor
namespace Go.Proofs.YtejfmgjfdnmmgaaGreatDoor
/-- What places need, put to a map. -/
def nd (n : Int) : List TPlace → List (ByteArray × Int) → List (ByteArray × Int)
  | [], m => m
  | p :: l, m => nd n l (kput m p.Type_ ((kget m p.Type_).getD 0 + n))
theorem kget_mem {κ : Type} [DecidableEq κ] {k : κ} {v : Int} : ∀ {m : List (κ × Int)}, kget m k = some v → (k, v) ∈ m
  | p :: m, h => by
    unfold kget at h
    split at h
    · rename_i h1
      have := Option.some.inj h
      subst this; subst h1
      simp
    · exact List.mem_cons_of_mem _ (kget_mem h)
/-- Keys apart, values from 0 to v. -/
structure MOk (v : Int) (m : List (ByteArray × Int)) : Prop where
  keys : m.Pairwise fun e e' => e.1 ≠ e'.1
  vals : ∀ e ∈ m, 0 ≤ e.2 ∧ e.2 ≤ v
theorem kput_ok {m : List (ByteArray × Int)} {k : ByteArray} {v a : Int} (h : MOk v m) (h0 : 0 ≤ a) (ha : a ≤ v) : MOk v (kput m k a) ∧ (kput m k a).length ≤ m.length + 1 := by
  rcases kat k m with ⟨h1, _, h3⟩ | ⟨pre, b, z, h1, h2, h3, h4⟩
  · rw [h3]
    refine ⟨⟨List.pairwise_append.2 ⟨h.keys, by simp, fun e he e' he' => ?_⟩, fun e he => ?_⟩, by simp⟩
    · simp at he'; subst he'; exact h1 e he
    · rcases List.mem_append.1 he with he | he
      · exact h.vals e he
      · simp at he; subst he; exact ⟨h0, ha⟩
  · rw [h4]
    have hk := h.keys
    rw [h1] at hk
    obtain ⟨k1, k2, k3⟩ := List.pairwise_append.1 hk
    obtain ⟨k4, k5⟩ := List.pairwise_cons.1 k2
    refine ⟨⟨List.pairwise_append.2 ⟨k1, List.pairwise_cons.2 ⟨fun e he => k4 e he, k5⟩, fun e he e' he' => ?_⟩, fun e he => ?_⟩, by rw [h1]; simp⟩
    · rcases List.mem_cons.1 he' with rfl | he'
      · exact h2 e he
      · exact k3 e he e' (List.mem_cons_of_mem _ he')
    · rcases List.mem_append.1 he with he | he
      · exact h.vals e (by rw [h1]; exact List.mem_append_left _ he)
      · rcases List.mem_cons.1 he with rfl | he
        · exact ⟨h0, ha⟩
        · exact h.vals e (by rw [h1]; exact List.mem_append_right _ (List.mem_cons_of_mem _ he))
theorem MOk.mono {v v' : Int} {m : List (ByteArray × Int)} (h : MOk v m) (hv : v ≤ v') : MOk v' m := ⟨h.keys, fun e he => ⟨(h.vals e he).1, Int.le_trans (h.vals e he).2 hv⟩⟩
theorem kget_val {m : List (ByteArray × Int)} {k : ByteArray} {v : Int} (h : MOk v m) (hv : 0 ≤ v) : 0 ≤ (kget m k).getD 0 ∧ (kget m k).getD 0 ≤ v := by
  cases hg : kget m k with
  | none => exact ⟨Int.le_refl _, hv⟩
  | some a => exact h.vals _ (kget_mem hg)
theorem needed_loop {n : Int} (h0 : 0 ≤ n) (hn : n ≤ 1000) : ∀ (l : List TPlace) (i : Nat) (m : List (ByteArray × Int)) (t : Nat), (∀ p ∈ l, p.Type_.size ≤ 40) → MOk (t * n) m → m.length ≤ t → t + l.length ≤ 1000 →
    F_mount_needed_L1 n l i m = some (nd n l m) ∧ MOk ((t + l.length : Nat) * n) (nd n l m) ∧ (nd n l m).length ≤ t + l.length
  | [], i, m, t, _, hm, hl, _ => ⟨by rw [F_mount_needed_L1.eq_1]; rfl, by show MOk _ m; simpa using hm, by simpa [nd] using hl⟩
  | p :: l, i, m, t, hp, hm, hl, ht => by
    simp only [List.length_cons] at ht
    have hsz := hp p (by simp)
    have hok : okS p.Type_ = true := decide_eq_true (by omega)
    have htn : (t : Int) * n ≤ 1000 * 1000 := Int.mul_le_mul (by omega) hn h0 (by omega)
    have htn0 : 0 ≤ (t : Int) * n := Int.mul_nonneg (by omega) h0
    obtain ⟨g0, g1⟩ := kget_val (k := p.Type_) hm htn0
    have e1 : kgetO okS m p.Type_ = some ((kget m p.Type_).getD 0) := if_pos hok
    have e2 : w64 ((kget m p.Type_).getD 0 + n) = (kget m p.Type_).getD 0 + n := w64_id (by omega) (by omega)
    have e3 : ∀ a, kputO okS m p.Type_ a = some (kput m p.Type_ a) := fun a => if_pos hok
    have e4 : ((t + 1 : Nat) : Int) * n = t * n + n := by rw [Int.natCast_add, Int.add_mul]; simp
    obtain ⟨k1, k2⟩ := kput_ok (k := p.Type_) (a := (kget m p.Type_).getD 0 + n) (hm.mono (v' := ((t + 1 : Nat) : Int) * n) (by omega)) (by omega) (by omega)
    obtain ⟨i1, i2, i3⟩ := needed_loop h0 hn l (i + 1) _ (t + 1) (fun q hq => hp q (by simp [hq])) k1 (by omega) (by omega)
    rw [F_mount_needed_L1.eq_2, e1, Option.bind_some, e2, e3, Option.bind_some]
    have e5 : t + (l.length + 1) = t + 1 + l.length := by omega
    simp only [List.length_cons]
    rw [e5]
    exact ⟨i1, i2, i3⟩
/-- A map, times a number. -/
def tms (k : Int) (m : List (ByteArray × Int)) : List (ByteArray × Int) := m.map fun e => (e.1, e.2 * k)
theorem kget_tms (k : Int) (x : ByteArray) : ∀ m : List (ByteArray × Int), kget (tms k m) x = (kget m x).map (· * k)
  | [] => rfl
  | p :: m => by
    unfold tms
    simp only [List.map_cons, kget]
    by_cases h : p.1 = x
    · rw [if_pos h, if_pos h]; rfl
    · rw [if_neg h, if_neg h]; exact kget_tms k x m
theorem kput_tms (k : Int) (x : ByteArray) (a : Int) : ∀ m : List (ByteArray × Int), kput (tms k m) x (a * k) = tms k (kput m x a)
  | [] => rfl
  | p :: m => by
    unfold tms
    simp only [List.map_cons, kput]
    by_cases h : p.1 = x
    · rw [if_pos h, if_pos h]; rfl
    · rw [if_neg h, if_neg h]
      simp only [List.map_cons]
      congr 1
      exact kput_tms k x a m
theorem nd_tms (k : Int) : ∀ (l : List TPlace) (m : List (ByteArray × Int)), nd k l (tms k m) = tms k (nd 1 l m)
  | [], _ => rfl
  | p :: l, m => by
    unfold nd
    have e1 : (kget (tms k m) p.Type_).getD 0 + k = ((kget m p.Type_).getD 0 + 1) * k := by
      rw [kget_tms, Int.add_mul, Int.one_mul]
      cases kget m p.Type_ <;> simp
    rw [e1, kput_tms]
    exact nd_tms k l _
/-- All counts are of 1 or more. -/
theorem nd_pos : ∀ (l : List TPlace) (m : List (ByteArray × Int)), (∀ e ∈ m, 1 ≤ e.2) → ∀ e ∈ nd 1 l m, 1 ≤ e.2
  | [], _, h => h
  | p :: l, m, h => by
    refine nd_pos l _ fun e he => ?_
    have hg : 0 ≤ (kget m p.Type_).getD 0 := by
      cases hg : kget m p.Type_ with
      | none => exact Int.le_refl _
      | some a => have := h _ (kget_mem hg); simp only at this; show 0 ≤ a; omega
    rcases kat p.Type_ m with ⟨_, _, h3⟩ | ⟨pre, b, z, h1, _, _, h4⟩
    · rw [h3] at he
      rcases List.mem_append.1 he with he | he
      · exact h e he
      · simp at he; subst he; show 1 ≤ (kget m p.Type_).getD 0 + 1; omega
    · rw [h4] at he
      rcases List.mem_append.1 he with he | he
      · exact h e (by rw [h1]; exact List.mem_append_left _ he)
      · rcases List.mem_cons.1 he with rfl | he
        · show 1 ≤ (kget m p.Type_).getD 0 + 1; omega
        · exact h e (by rw [h1]; exact List.mem_append_right _ (List.mem_cons_of_mem _ he))
def sclT (k : Int) (x : TCount) : TCount := ⟨x.Type_, x.Many * k⟩
theorem cntM_pos {m : List (ByteArray × Int)} (h : ∀ e ∈ m, 0 < e.2) : cntM m = m.map fun e => ⟨e.1, e.2⟩ := by
  unfold cntM
  rw [List.filter_eq_self.2 fun e he => decide_eq_true (h e he)]
/-- What boards need: for one, and for k of them. -/
theorem Needed_ok {N : Nat} {b : List TBody} {l : List TPlace} (h : FuelM N b) : (∃ f, f ≠ 0 ∧ ∀ k, F_mount_Needed N b l k = some ([], f)) ∨
    ∃ r : List TCount, (∀ x ∈ r, 1 ≤ x.Many ∧ x.Many ≤ 1000) ∧ F_mount_Needed N b l 1 = some (r, 0) ∧ (∀ k, 1 ≤ k → k ≤ 1000 → F_mount_Needed N b l k = some (r.map (sclT k), 0)) ∧ F_mount_Needed N b l 0 = some ([], 0) ∧ ∀ k, ¬ (0 ≤ k ∧ k ≤ 1000) → F_mount_Needed N b l k = some ([], 1) := by
  obtain ⟨f, hf, hf'⟩ := CheckPlaces_ok (l := l) h
  by_cases h0 : f = 0
  · subst h0
    obtain ⟨hl, hsz⟩ := hf' rfl
    right
    have hwi : ∀ k, F_mount_isBoards k = some (within k 0 1000) := fun k => rfl
    have hu : ∀ k, F_mount_Needed N b l k = if (!(within k 0 1000)) = true then some ([], 1) else (F_mount_needed l k).bind fun y102 => (F_mount_counts y102).bind fun y104 => some (y104, 0) := fun k => by
      unfold F_mount_Needed
      rw [hf, Option.bind_some, if_neg (by simp), hwi, Option.bind_some]
    have hin : ∀ k, 0 ≤ k → k ≤ 1000 → F_mount_Needed N b l k = (F_mount_counts (nd k l [])).bind (fun y104 => some (y104, 0)) ∧ MOk (1000 * k) (nd k l []) ∧ (nd k l []).length ≤ 1000 := fun k k0 k1 => by
      obtain ⟨i1, i2, i3⟩ := needed_loop k0 k1 l 0 [] 0 hsz ⟨.nil, fun e he => by cases he⟩ (Nat.zero_le _) (by omega)
      refine ⟨?_, i2.mono (Int.mul_le_mul_of_nonneg_right (by omega) k0), by omega⟩
      rw [hu, if_neg (by simp [within, k0, k1])]
      unfold F_mount_needed
      rw [i1]; rfl
    have hpos := nd_pos l [] (fun e he => by cases he)
    obtain ⟨e1, m1, l1⟩ := hin 1 (by omega) (by omega)
    obtain ⟨r, r1, r2, r3⟩ := counts_some (m := nd 1 l []) (by omega) m1.keys
    have hcp : cntM (nd 1 l []) = (nd 1 l []).map fun e => ⟨e.1, e.2⟩ := cntM_pos fun e he => by have := hpos e he; omega
    have hrm : ∀ x ∈ r, 1 ≤ x.Many ∧ x.Many ≤ 1000 := fun x hx => by
      have := r2.mem_iff.1 hx
      rw [hcp] at this
      obtain ⟨e, he, rfl⟩ := List.mem_map.1 this
      exact ⟨hpos e he, by have := (m1.vals e he).2; simp only at this ⊢; omega⟩
    refine ⟨r, hrm, ?_, fun k k1 k2 => ?_, ?_, fun k hk => ?_⟩
    · rw [e1, r1]; rfl
    · obtain ⟨e2, m2, l2⟩ := hin k (by omega) k2
      have e3 : nd k l [] = tms k (nd 1 l []) := nd_tms k l []
      rw [e2]
      have hc : F_mount_counts (nd k l []) = some (r.map (sclT k)) := by
        refine counts_ok (by omega) m2.keys ?_ ?_
        · rw [e3, cntM_pos (m := tms k (nd 1 l [])) (fun e he => ?_)]
          · unfold tms
            rw [List.map_map]
            have : (r.map (sclT k)).Perm ((cntM (nd 1 l [])).map (sclT k)) := r2.map _
            rw [hcp, List.map_map] at this
            exact this
          · unfold tms at he
            obtain ⟨e', he', rfl⟩ := List.mem_map.1 he
            have := hpos e' he'
            exact Int.mul_pos (by omega) (by omega)
        · rw [List.pairwise_map]
          exact r3
      rw [hc]; rfl
    · obtain ⟨e2, m2, l2⟩ := hin 0 (by omega) (by omega)
      have hc0 : cntM (nd 0 l []) = [] := by
        unfold cntM
        rw [List.filter_eq_nil_iff.2 fun e he => ?_]
        · rfl
        · have := m2.vals e he
          simp; omega
      have hc : F_mount_counts (nd 0 l []) = some [] := counts_ok (by omega) m2.keys (by rw [hc0]) .nil
      rw [e2, hc]; rfl
    · rw [hu, if_pos]
      unfold within
      by_cases h1 : 0 ≤ k
      · have : ¬ k ≤ 1000 := fun h2 => hk ⟨h1, h2⟩
        simp [this]
      · simp [h1]
  · left
    refine ⟨f, h0, fun k => ?_⟩
    unfold F_mount_Needed
    rw [hf, Option.bind_some, if_pos (by simpa using h0)]
end Go.Proofs.YtejfmgjfdnmmgaaGreatDoor
namespace Go.Proofs.YtejfmgjfdnmmgaaGreatDoor
-- marks
instance : DecidableEq TPoint := fun _ _ => decidable_of_iff _ eqTPoint_iff
def inside (r : TRect) (m : TPoint) : Bool := (((decide (r.X0 < m.X)) && (decide (m.X < r.X1))) && (decide (r.Y0 < m.Y))) && (decide (m.Y < r.Y1))
def markErr (p : TPanel) (prev : List TPoint) (m : TPoint) : Int :=
  if within m.X 0 p.W = false ∨ within m.Y 0 p.H = false then 1 else if ((p.Slots.map (cellOf p)).any fun r => inside r m) = true then 12 else if m ∈ prev then 7 else 0
def marksErr (p : TPanel) : List TPoint → List TPoint → Int
  | _, [] => 0
  | prev, m :: rest => if markErr p prev m = 0 then marksErr p (prev ++ [m]) rest else markErr p prev m
theorem eqP {a b : TPoint} : eqTPoint a b = decide (a = b) := by
  by_cases h : a = b
  · rw [eqTPoint_iff.2 h, decide_eq_true h]
  · rw [decide_eq_false h, Bool.eq_false_iff]; exact fun h' => h (eqTPoint_iff.1 h')
theorem ContainsP_ok (l : List TPoint) (m : TPoint) : F_slices_Contains_Point l m = some (decide (m ∈ l)) := by
  have key : ∀ (l : List TPoint) (i : Nat), F_slices_Index_Point_L1 m l i = some (ixOf (fun x => eqTPoint m x) l i) := by
    intro l
    induction l with
    | nil => intro i; rfl
    | cons x l ih =>
      intro i
      rw [F_slices_Index_Point_L1.eq_2, ih (i + 1), ixOf, show ((i + 1 : Nat) : Int) = (i : Int) + 1 by omega]
      cases eqTPoint m x <;> rfl
  unfold F_slices_Contains_Point F_slices_Index_Point
  rw [key l 0, Option.bind_some, show ((0 : Nat) : Int) = 0 from rfl, ixOf_any _ l 0 (by omega)]
  congr 1
  rw [Bool.eq_iff_iff]
  simp [eqTPoint_iff]
theorem marks_loop {p : TPanel} {y : List TRect × Int} (hy : y.1 = p.Slots.map (cellOf p)) : ∀ (suf pre : List TPoint), p.Marks = pre ++ suf → 
    F_panel_open_L1 p y suf pre.length = some (if marksErr p pre suf = 0 then (p.Slots.map (cellOf p), 0) else ([], marksErr p pre suf))
  | [], pre, hp => by rw [F_panel_open_L1.eq_1, hy]; simp [marksErr]
  | m :: suf, pre, hp => by
    have ih := marks_loop hy suf (pre ++ [m]) (by rw [hp]; simp)
    rw [show (pre ++ [m]).length = pre.length + 1 by simp] at ih
    rw [F_panel_open_L1.eq_2, ih, marksErr, markErr, hy]
    unfold F_panel_isOnPanel
    simp only [within_ok, Option.bind_some]
    cases hX : within m.X 0 p.W
    · simp
    cases hY : within m.Y 0 p.H
    · simp
    have hc : F_slices_ContainsFunc_Rect (p.Slots.map (cellOf p)) (fun z0 => F_panel_open_1 z0 m) = some ((p.Slots.map (cellOf p)).any fun r => inside r m) := ContainsR_ok (fun r _ => rfl)
    rw [hc, show Proofs.YtejfmgjfdnmmgaaGreatDoor.pre p.Marks (pre.length : Int) = some pre by rw [hp]; unfold Proofs.YtejfmgjfdnmmgaaGreatDoor.pre; rw [if_pos ⟨by omega, by simp; omega⟩]; simp]
    simp only [if_true, Bool.not_true, Bool.false_eq_true, if_false, Option.bind_some, or_self, reduceCtorEq, ContainsP_ok, decide_eq_true_eq]
    cases ((p.Slots.map (cellOf p)).any fun r => inside r m)
    · by_cases hm : m ∈ pre <;> simp [hm]
    · simp
/-- The panel's error. -/
def openErr (p : TPanel) : Int :=
  if within p.W 1 1000000 = false ∨ within p.H 1 1000000 = false ∨ within p.Rail 0 1000000 = false ∨ within p.Gap 0 1000000 = false then 1
  else if checkKinds p.Kinds = 0 then
    if cellsErr p = 0 then if 10 < p.Marks.length then 2 else marksErr p [] p.Marks
    else cellsErr p
  else checkKinds p.Kinds
theorem PB_of {p : TPanel} (h : ¬ (within p.W 1 1000000 = false ∨ within p.H 1 1000000 = false ∨ within p.Rail 0 1000000 = false ∨ within p.Gap 0 1000000 = false)) (hk : checkKinds p.Kinds = 0) : PB p := by
  simp only [not_or, Bool.not_eq_false] at h
  obtain ⟨h1, h2, h3, h4⟩ := h
  have h1 := within_iff.1 h1; have h2 := within_iff.1 h2; have h3 := within_iff.1 h3; have h4 := within_iff.1 h4
  unfold checkKinds at hk
  split at hk
  · omega
  · exact ⟨h1.1, h1.2, h2.1, h2.2, h3.1, h3.2, h4.1, h4.2, kindsErr_ok hk, by omega⟩
theorem open_ok {N : Nat} {p : TPanel} (hn : ∀ k ∈ p.Kinds, k.Name.size ≤ 9223372036854775807 ∧ k.Name.size < N) : F_panel_open N p = some (if openErr p = 0 then (p.Slots.map (cellOf p), 0) else ([], openErr p)) := by
  unfold F_panel_open openErr
  simp only [within_ok, Option.bind_some]
  by_cases h : within p.W 1 1000000 = false ∨ within p.H 1 1000000 = false ∨ within p.Rail 0 1000000 = false ∨ within p.Gap 0 1000000 = false
  · rw [if_pos h]
    generalize within p.W 1 1000000 = a at *
    generalize within p.H 1 1000000 = b at *
    generalize within p.Rail 0 1000000 = c at *
    generalize within p.Gap 0 1000000 = d at *
    cases a <;> cases b <;> cases c <;> cases d <;> first | rfl | exact absurd h (by decide)
  · rw [if_neg h]
    have h' := h
    simp only [not_or, Bool.not_eq_false] at h'
    obtain ⟨h1, h2, h3, h4⟩ := h'
    rw [h1, h2, h3, h4, checkKinds_ok hn]
    simp only [Bool.not_true, Bool.false_eq_true, if_false, Option.bind_some]
    by_cases hk : checkKinds p.Kinds = 0
    · have hB := PB_of h hk
      rw [hk, cells_ok hB]
      simp only [Option.bind_some, if_true, bne_self_eq_false, Bool.false_eq_true, if_false]
      by_cases hc : cellsErr p = 0
      · simp only [if_pos hc]
        simp only [bne_self_eq_false, Bool.false_eq_true, if_false]
        by_cases hm : 10 < p.Marks.length
        · simp only [if_pos hm]; rw [if_pos (by simp; omega)]; rfl
        · simp only [if_neg hm]; rw [if_neg (by simp; omega)]
          exact marks_loop rfl p.Marks [] rfl
      · simp only [if_neg hc]
        rw [if_pos (by simpa using hc)]
    · rw [if_pos (by simpa using hk), if_neg hk, if_neg hk]
-- the reference's marks
theorem openErr_ok {p : TPanel} (h : openErr p = 0) : PB p ∧ p.Slots.length ≤ 500 ∧ p.Marks.length ≤ 10 ∧ (∀ s ∈ p.Slots, SlotOk p s) := by
  unfold openErr at h
  split at h
  · omega
  · rename_i h0
    split at h
    · rename_i hk
      have hB := PB_of h0 hk
      split at h
      · rename_i hc
        unfold cellsErr at hc
        split at hc
        · omega
        · split at h
          · omega
          · exact ⟨hB, by omega, by omega, slotsErr_ok hc⟩
      · rename_i hc; exact absurd h hc
    · rename_i hk; exact absurd h hk
end Go.Proofs.YtejfmgjfdnmmgaaGreatDoor
namespace Go.Proofs.YtejfmgjfdnmmgaaGreatDoor
structure FuelP (N : Nat) (p : TPanel) : Prop where
  big : 20000000 ≤ N
  kinds : p.Kinds.length < N
  names : ∀ k ∈ p.Kinds, k.Name.size ≤ 9223372036854775807 ∧ k.Name.size < N
theorem checkPanelP_ok {N : Nat} {p : TPanel} (h : FuelP N p) : F_panel_CheckPanel N p = some (openErr p) := by
  unfold F_panel_CheckPanel
  rw [open_ok h.names, Option.bind_some]
  by_cases he : openErr p = 0 <;> simp [he]
theorem eif (a b : Bool) : (if a = true then some b else some false) = some (a && b) := by cases a <;> rfl
end Go.Proofs.YtejfmgjfdnmmgaaGreatDoor
namespace Go.Proofs.YtejfmgjfdnmmgaaGreatDoor
theorem srtF_one {α : Type} {a : α} {c : α → α → Option Int} {k : Int} (h : c a a = some k) (hk : ¬ k < 0) : srtF [a] c = some [a] := by
  have hs : SortOk c [a] := ⟨by simp, fun x hx y hy => by simp at hx hy; subst hx hy; exact ⟨k, h⟩, fun x hx => by simp at hx; subst hx; simp [ltC, h]; omega, fun x hx y hy z hz h1 => by
    simp at hx hy; subst hx hy; simp [ltC, h] at h1; omega, fun x hx y hy z hz _ _ => by simp at hx hz; subst hx hz; simp [ltC, h]; omega⟩
  obtain ⟨m, hm⟩ := srtF_ok hs
  obtain ⟨_, hp, _⟩ := srtF_some hm
  rw [hm, List.perm_singleton.1 hp]
def r23 : TRect := ⟨0, 0, 2, 3⟩
theorem set23 (m : Nat) : F_shape_SetOf (m + 10) [r23] = some [⟨0, 3, [0, 2]⟩] := by
  have h1 : srtF [r23] (fun z0 z1 => F_shape_SetOf_1 z0 z1) = some [r23] := srtF_one (k := 0) rfl (by decide)
  have h2 : srtF [r23] (fun z0 z1 => F_shape_stretches_1 z0 z1) = some [r23] := srtF_one (k := 0) rfl (by decide)
  have h3 : srtI [0, 3] = some [0, 3] := by
    unfold srtI
    rw [if_pos (by simp), List.mergeSort_of_pairwise (by simp)]
  have h4 : F_shape_stretches [r23] = some ([0, 2], [r23]) := by
    unfold F_shape_stretches
    rw [h2]; rfl
  have h5 : cpI [0, 3] = some [0, 3] := rfl
  unfold F_shape_SetOf F_slices_Clone_Rect
  rw [show apd ([] : List TRect) [r23] = some [r23] from rfl, Option.bind_some, Option.bind_some, h1, Option.bind_some, F_shape_SetOf_L1.eq_2, show apd ([] : List Int) [r23.Y0, r23.Y1] = some [0, 3] from rfl, Option.bind_some, F_shape_SetOf_L1.eq_1, h3, Option.bind_some, h5, Option.bind_some,
    F_shape_SetOf_L4.eq_2, if_pos (by decide), show F_slices_DeleteFunc_Rect (m + 10) ([] : List TRect) (fun z0 => F_shape_SetOf_2 z0 [0, 3] 0) = some [] from rfl, Option.bind_some, F_shape_SetOf_L5.eq_2]
  show ((some (decide (r23.Y0 ≤ 0))).bind fun g261 => if g261 then _ else _) = _
  rw [Option.bind_some, if_pos (by decide)]
  show F_shape_SetOf_L5 [r23] [0, 3] 0 [] (F_shape_SetOf_L4 (m + 10) [r23] [0, 3] (m + 9)) (m + 9) [r23] 1 = _
  rw [F_shape_SetOf_L5.eq_2]
  show (((F_shape_stretches [r23]).bind fun y270 => (F_shape_Set__push [] (TBand.mk 0 3 y270.1)).bind fun y274 => F_shape_SetOf_L4 (m + 10) [r23] [0, 3] (m + 9) 1 y274 y270.2 1)) = _
  rw [h4]
  show F_shape_SetOf_L4 (m + 10) [r23] [0, 3] (m + 9) 1 [⟨0, 3, [0, 2]⟩] [r23] 1 = _
  rw [F_shape_SetOf_L4.eq_2, if_neg (by decide)]
theorem alive_ok {N : Nat} (hN : 10 ≤ N) : F_etchhousetop_alive N = some true := by
  obtain ⟨m, rfl⟩ : ∃ m, N = m + 10 := ⟨N - 10, by omega⟩
  unfold F_etchhousetop_alive F_shape_Area F_shape_CheckRegion
  rw [show F_shape_CheckRects [TRect.mk 0 0 2 3] = some 0 from rfl, Option.bind_some, if_neg (by decide), F_shape_CheckRegion_L1.eq_2, if_neg (by decide)]
  have := set23 m
  unfold r23 at this
  rw [this]
  rfl
end Go.Proofs.YtejfmgjfdnmmgaaGreatDoor
