/- The order of work of a panel: what the program computes. Plain Lean about the plain functions. -/
import Derived.Test.YtfddmjoldoddlaaA2
import Derived.Test.YtfddmjoldoddlaaD0
import Derived.Test.YtfddmjoldoddlaaH25
namespace Go.Proofs.Ytfddmjoldoddlaa
theorem strict_uniq {l m : List Int} (hl : l.Pairwise fun x y => x < y) (hm : m.Pairwise fun x y => x < y) (h : ∀ x, x ∈ l ↔ x ∈ m) : l = m := by
  have hp : l.Perm m := (List.perm_ext_iff_of_nodup (hl.imp fun h => by omega) (hm.imp fun h => by omega)).2 h
  exact hp.eq_of_pairwise (fun a b _ _ h1 h2 => by omega) hl hm
theorem mget_put {α : Type} (k : Int) (l : List α) (k' : Int) : ∀ m : List (Int × List α), mget (mput m k l) k' = if k = k' then l else mget m k'
  | [] => by simp [mput, mget]
  | p :: m => by
    unfold mput
    by_cases h : p.1 = k
    · rw [if_pos h]
      by_cases h' : k = k'
      · simp [mget, h']
      · simp [mget, h, h']
    · rw [if_neg h]
      simp only [mget]
      rw [mget_put k l k' m]
      by_cases h' : k = k'
      · subst h'; simp [h]
      · simp [h']
theorem mget_set {α : Type} (k : Int) (l : List α) {k' : Int} (hne : k ≠ k') : ∀ m : List (Int × List α), mget (mset m k l) k' = mget m k'
  | [] => rfl
  | p :: m => by
    unfold mset
    by_cases h : p.1 = k
    · rw [if_pos h]; simp [mget, h, hne]
    · rw [if_neg h]; simp only [mget]; rw [mget_set k l hne m]
def xAt (cs : List TRect) (i : Int) : Int := ((cs[i.toNat]?).map (·.X0)).getD 0
def yAt (cs : List TRect) (i : Int) : Int := ((cs[i.toNat]?).map (·.Y0)).getD 0
/-- The numbers of cells. -/
def ix (n : Nat) : List Int := (List.range n).map Int.ofNat
theorem ix_succ (n : Nat) : ix (n + 1) = ix n ++ [(n : Int)] := by simp [ix, List.range_succ]
theorem mem_ix {n : Nat} {i : Int} : i ∈ ix n ↔ 0 ≤ i ∧ i < n := by
  unfold ix
  rw [List.mem_map]
  constructor
  · rintro ⟨a, ha, rfl⟩
    have := List.mem_range.1 ha
    exact ⟨Int.natCast_nonneg _, by show (a : Int) < n; omega⟩
  · rintro ⟨h1, h2⟩
    exact ⟨i.toNat, List.mem_range.2 (by omega), by show ((i.toNat : Nat) : Int) = i; omega⟩
theorem ix_nodup (n : Nat) : (ix n).Nodup := by
  unfold ix
  exact List.pairwise_map.2 (List.nodup_range.imp fun h e => h (Int.ofNat.inj e))
theorem ix_len (n : Nat) : (ix n).length = n := by simp [ix]
/-- The numbers of the cells that begin at a height. -/
def rowI (cs : List TRect) (n : Nat) (y : Int) : List Int := (ix n).filter fun i => yAt cs i == y
/-- The cells of a height, by their first numbers. -/
def srow (cs : List TRect) (y : Int) : List Int := (rowI cs cs.length y).mergeSort fun i j => decide (xAt cs i ≤ xAt cs j)
/-- Cells of one height differ. -/
def DX (cs : List TRect) : Prop := ∀ i ∈ ix cs.length, ∀ j ∈ ix cs.length, yAt cs i = yAt cs j → xAt cs i = xAt cs j → i = j
structure RowOk (cs : List TRect) (y : Int) (l : List Int) : Prop where
  perm : l.Perm (rowI cs cs.length y)
  srt : l.Pairwise fun i j => xAt cs i < xAt cs j
theorem RowOk.uniq {cs : List TRect} {y : Int} {l m : List Int} (hl : RowOk cs y l) (hm : RowOk cs y m) : l = m :=
  (hl.perm.trans hm.perm.symm).eq_of_pairwise (fun a b _ _ h1 h2 => by omega) hl.srt hm.srt
theorem mem_rowI {cs : List TRect} {n : Nat} {y i : Int} : i ∈ rowI cs n y ↔ (0 ≤ i ∧ i < n) ∧ yAt cs i = y := by
  unfold rowI
  rw [List.mem_filter, mem_ix]; simp
theorem rowI_nodup (cs : List TRect) (n : Nat) (y : Int) : (rowI cs n y).Nodup := (ix_nodup n).sublist List.filter_sublist
/-- A row in order, where cells of one height differ. -/
theorem row_strict {cs : List TRect} (hd : DX cs) {y : Int} {l : List Int} (hp : l.Perm (rowI cs cs.length y)) (hs : l.Pairwise fun i j => xAt cs i ≤ xAt cs j) : RowOk cs y l := by
  refine ⟨hp, ?_⟩
  have hn : l.Nodup := hp.nodup_iff.2 (rowI_nodup _ _ _)
  have h2 := hs.and hn
  refine h2.imp_of_mem fun {a b} ha hb ⟨h1, h3⟩ => ?_
  have ha' := mem_rowI.1 (hp.subset ha)
  have hb' := mem_rowI.1 (hp.subset hb)
  rcases Int.lt_or_eq_of_le h1 with h | h
  · exact h
  · exact absurd (hd a (mem_ix.2 ha'.1) b (mem_ix.2 hb'.1) (ha'.2.trans hb'.2.symm) h) h3
theorem srow_ok {cs : List TRect} (hd : DX cs) (y : Int) : RowOk cs y (srow cs y) := by
  refine row_strict hd (List.mergeSort_perm _ _) ?_
  have := List.pairwise_mergeSort (le := fun i j => decide (xAt cs i ≤ xAt cs j)) (fun a b c h1 h2 => by simp at *; omega) (fun a b => by simp; omega) (rowI cs cs.length y)
  exact this.imp fun h => by simpa using h
def ordG (cs : List TRect) : List Int → Nat → List Int
  | [], _ => []
  | y :: ys, k => (if k % 2 = 1 then (srow cs y).reverse else srow cs y) ++ ordG cs ys (k + 1)
/-- The order of work. -/
def ordS (cs : List TRect) : List Int := ordG cs (srtd (cs.map (·.Y0))) 0
theorem sort_keyI {c : Int → Int → Option Int} {k : Int → Int} {l : List Int} (hl : l.length ≤ 1000000000) (hc : ∀ x ∈ l, ∀ y ∈ l, c x y = some (k x - k y)) : ∃ m, srtF l c = some m ∧ m.Perm l ∧ m.Pairwise fun x y => k x ≤ k y := by
  have hlt : ∀ x ∈ l, ∀ y ∈ l, ltC c x y = decide (k x < k y) := fun x hx y hy => by
    unfold ltC
    rw [hc x hx y hy, Option.getD_some]
    exact decide_eq_decide.2 (by omega)
  have hs : SortOk c l := ⟨by omega, fun x hx y hy => ⟨_, hc x hx y hy⟩, fun x hx => by rw [hlt x hx x hx]; simp, fun x hx y hy z hz h1 h2 => by
    rw [hlt x hx y hy] at h1; rw [hlt y hy z hz] at h2; rw [hlt x hx z hz]; simp at *; omega, fun x hx y hy z hz h1 h2 => by
    rw [hlt x hx y hy] at h1; rw [hlt y hy z hz] at h2; rw [hlt x hx z hz]; simp at *; omega⟩
  obtain ⟨m, hm⟩ := srtF_ok hs
  obtain ⟨_, hp, hw⟩ := srtF_some hm
  refine ⟨m, hm, hp, hw.imp_of_mem fun {x y} hx hy h => ?_⟩
  rw [hlt y (hp.subset hy) x (hp.subset hx)] at h
  simp at h
  exact h
theorem sets_mid {α : Type} (pre suf : List α) (x v : α) : sets (pre ++ x :: suf) (pre.length : Int) v = some (pre ++ v :: suf) := by
  unfold sets
  rw [if_pos ⟨by omega, by simp⟩]
  simp
theorem Reverse_loop : ∀ (n : Nat) (mid a b : List Int) (m : Nat), mid.length ≤ n → mid.length < m → (a ++ mid ++ b).length ≤ 100000000 → F_slices_Reverse_int_L1 m (a ++ mid ++ b) (a.length : Int) ((a.length : Int) + mid.length - 1) = some (a ++ mid.reverse ++ b)
  | _, _, _, _, 0, _, h, _ => absurd h (Nat.not_lt_zero _)
  | n, [], a, b, m + 1, _, _, _ => by
    rw [F_slices_Reverse_int_L1.eq_2, if_neg (by simp; omega)]; simp
  | n, [x], a, b, m + 1, _, _, _ => by
    rw [F_slices_Reverse_int_L1.eq_2, if_neg (by simp)]; simp
  | 0, x :: y :: mid, a, b, m + 1, h, _, _ => by simp at h
  | n + 1, x :: y0 :: mid0, a, b, m + 1, h1, h2, h3 => by
    obtain ⟨mid, y, hmid⟩ : ∃ mid y, y0 :: mid0 = mid ++ [y] := by
      rcases List.eq_nil_or_concat (y0 :: mid0) with h | ⟨j, q, h⟩
      · cases h
      · exact ⟨j, q, by simpa using h⟩
    have hml : mid0.length = mid.length := by have := congrArg List.length hmid; simp at this; exact this
    rw [hmid] at h3 ⊢
    simp only [List.length_cons] at h1 h2
    have hal : a.length + mid.length + b.length + 2 ≤ 100000000 := by simp at h3; omega
    have hj : (a.length : Int) + ((x :: (mid ++ [y])).length : Nat) - 1 = (((a ++ x :: mid).length : Nat) : Int) := by simp; omega
    rw [hj]
    have q1 : a ++ x :: (mid ++ [y]) ++ b = (a ++ x :: mid) ++ y :: b := by simp
    have q2 : a ++ x :: (mid ++ [y]) ++ b = a ++ x :: (mid ++ y :: b) := by simp
    have i1 : idx (a ++ x :: (mid ++ [y]) ++ b) ((a ++ x :: mid).length : Int) = some y := by rw [q1]; exact idx_mid _ b y
    have i2 : idx (a ++ x :: (mid ++ [y]) ++ b) (a.length : Int) = some x := by rw [q2]; exact idx_mid a _ x
    have s1 : sets (a ++ x :: (mid ++ [y]) ++ b) (a.length : Int) y = some (a ++ y :: (mid ++ y :: b)) := by rw [q2]; exact sets_mid a _ x y
    have hl2 : (a ++ x :: mid).length = (a ++ y :: mid).length := by simp
    have i3 : idx (a ++ y :: (mid ++ y :: b)) ((a ++ x :: mid).length : Int) = some y := by
      rw [hl2, show a ++ y :: (mid ++ y :: b) = (a ++ y :: mid) ++ y :: b by simp]; exact idx_mid _ b y
    have s2 : sets (a ++ y :: (mid ++ y :: b)) ((a ++ x :: mid).length : Int) x = some ((a ++ y :: mid) ++ x :: b) := by
      rw [hl2, show a ++ y :: (mid ++ y :: b) = (a ++ y :: mid) ++ y :: b by simp]; exact sets_mid _ b y x
    rw [F_slices_Reverse_int_L1.eq_2, if_pos (by simp; omega), i1, Option.bind_some, i2, Option.bind_some, Option.bind_some, s1, Option.bind_some, i3, Option.bind_some, s2, Option.bind_some]
    have w1 : w64 ((a.length : Int) + 1) = ((a ++ [y]).length : Int) := by rw [w64_id (by omega) (by omega)]; simp
    have w2 : w64 (((a ++ x :: mid).length : Int) - 1) = ((a ++ [y]).length : Int) + mid.length - 1 := by rw [w64_id (by simp; omega) (by simp; omega)]; simp; omega
    rw [w1, w2]
    have := Reverse_loop n mid (a ++ [y]) (x :: b) m (by omega) (by omega) (by simp; omega)
    rw [show (a ++ y :: mid) ++ x :: b = (a ++ [y]) ++ mid ++ (x :: b) by simp, this]
    simp
theorem Reverse_ok {N : Nat} {l : List Int} (hN : l.length < N) (hl : l.length ≤ 100000000) : F_slices_Reverse_int N l = some l.reverse := by
  unfold F_slices_Reverse_int
  rw [w64_id (by omega) (by omega)]
  have := Reverse_loop l.length l [] [] N (Nat.le_refl _) hN (by simpa using hl)
  simpa using this
/-- Cells within bounds. -/
def CB (cs : List TRect) : Prop := ∀ r ∈ cs, (-1000000000 ≤ r.X0 ∧ r.X0 ≤ 1000000000) ∧ (-1000000000 ≤ r.Y0 ∧ r.Y0 ≤ 1000000000)
theorem at_idx {cs : List TRect} {i : Int} (h : 0 ≤ i ∧ i < cs.length) : ∃ r, idx cs i = some r ∧ r ∈ cs ∧ r.X0 = xAt cs i ∧ r.Y0 = yAt cs i := by
  obtain ⟨x, h1, h2⟩ := idx_lt h.1 h.2
  exact ⟨x, h1, List.mem_of_getElem? h2, by unfold xAt; rw [h2]; rfl, by unfold yAt; rw [h2]; rfl⟩
theorem cmp_ok {cs : List TRect} (hb : CB cs) {i j : Int} (hi : 0 ≤ i ∧ i < cs.length) (hj : 0 ≤ j ∧ j < cs.length) : F_panel_Order_1 i j cs = some (xAt cs i - xAt cs j) := by
  obtain ⟨r, r1, r2, r3, r4⟩ := at_idx hi
  obtain ⟨s, s1, s2, s3, s4⟩ := at_idx hj
  have b1 := hb r r2; have b2 := hb s s2
  unfold F_panel_Order_1
  rw [r1, Option.bind_some, s1, Option.bind_some, w64_id (by omega) (by omega), r3, s3]
theorem order6 {N : Nat} {cs : List TRect} (hb : CB cs) (hd : DX cs) (hl : cs.length ≤ 1000) (hN : 2000 < N) : ∀ (suf : List Int) (k : Nat) (m : List (Int × List Int)) (o : List Int), (∀ y ∈ suf, inR y = true ∧ mget m y = rowI cs cs.length y) → suf.Pairwise (fun x y => x < y) → o.length + 1000 * suf.length ≤ 100000000 →
    F_panel_Order_L6 N (cs, 0) suf k m o = some (o ++ ordG cs suf k, 0)
  | [], k, m, o, _, _, _ => by rw [F_panel_Order_L6.eq_1]; simp [ordG]
  | y :: suf, k, m, o, h1, h2, h3 => by
    obtain ⟨y1, y2⟩ := h1 y List.mem_cons_self
    obtain ⟨p1, p2⟩ := List.pairwise_cons.1 h2
    have hg : mgetO m y = some (rowI cs cs.length y) := by unfold mgetO; rw [if_pos y1, y2]
    have hrl : (rowI cs cs.length y).length ≤ 1000 := by
      unfold rowI
      exact Nat.le_trans (List.length_filter_le _ _) (by rw [ix_len]; exact hl)
    obtain ⟨r, r1, r2, r3⟩ := sort_keyI (c := fun z0 z1 => F_panel_Order_1 z0 z1 cs) (k := xAt cs) (l := rowI cs cs.length y) (by omega) (fun i hi j hj => cmp_ok hb (mem_rowI.1 hi).1 (mem_rowI.1 hj).1)
    have hr : r = srow cs y := (row_strict hd r2 r3).uniq (srow_ok hd y)
    have hsl : (srow cs y).length ≤ 1000 := by rw [← hr, r2.length_eq]; exact hrl
    subst hr
    simp only [List.length_cons] at h3
    have go : ∀ l : List Int, l.length = (srow cs y).length → F_panel_Order_J7 m o (F_panel_Order_L6 N (cs, 0) suf (k + 1)) y l = some (o ++ l ++ ordG cs suf (k + 1), 0) := fun l hle => by
      unfold F_panel_Order_J7
      rw [apd_ok (by omega), Option.bind_some]
      exact order6 hb hd hl hN suf (k + 1) _ _ (fun y' hy' => ⟨(h1 y' (List.mem_cons_of_mem _ hy')).1, by rw [mget_set y l (by have := p1 y' hy'; omega)]; exact (h1 y' (List.mem_cons_of_mem _ hy')).2⟩) p2 (by simp; omega)
    have hk2 : Int.tmod (k : Int) 2 = ((k % 2 : Nat) : Int) := by rw [Int.tmod_eq_emod_of_nonneg (by omega)]; omega
    rw [F_panel_Order_L6.eq_2, hg, Option.bind_some, r1, Option.bind_some, hk2]
    by_cases hk : k % 2 = 1
    · rw [if_pos (by simp; omega), Reverse_ok (by omega) (by omega), Option.bind_some, go _ (by simp)]
      simp [ordG, hk]
    · rw [if_neg (by simp; omega), go _ rfl]
      simp [ordG, hk]
theorem order3 {N : Nat} {cs : List TRect} (hb : CB cs) (hd : DX cs) (hl : cs.length ≤ 1000) (hN : 2000 < N) : ∀ (suf pre : List TRect) (m : List (Int × List Int)) (o : List Int), cs = pre ++ suf → (∀ y, mget m y = rowI cs pre.length y) → o.Nodup → (∀ y, y ∈ o ↔ y ∈ pre.map (·.Y0)) → o.length ≤ pre.length →
    F_panel_Order_L3 N (cs, 0) suf pre.length m o = some (ordS cs, 0)
  | [], pre, m, o, h1, h2, h3, h4, h5 => by
    have hpre : pre = cs := by rw [h1]; simp
    subst hpre
    rw [F_panel_Order_L3.eq_1, srtI_ok (by omega), Option.bind_some]
    have hs : (o.mergeSort fun x y => decide (x ≤ y)) = srtd (pre.map (·.Y0)) := by
      refine strict_uniq ?_ (srtd_strict _) fun y => ?_
      · have a := List.pairwise_mergeSort (le := fun x y : Int => decide (x ≤ y)) (fun a b c h1 h2 => by simp at *; omega) (fun a b => by simp; omega) o
        have b : (o.mergeSort fun x y => decide (x ≤ y)).Nodup := (List.mergeSort_perm o _).nodup_iff.2 h3
        exact (a.and b).imp fun ⟨h1, h2⟩ => by
          have := of_decide_eq_true h1
          rcases Int.lt_or_eq_of_le this with h | h
          · exact h
          · exact absurd h h2
      · rw [List.mem_mergeSort, h4, srtd_mem]
    rw [hs]
    have hsl : (srtd (pre.map (·.Y0))).length ≤ 1000 := by
      rw [← hs, List.length_mergeSort]; omega
    have := order6 hb hd hl hN (srtd (pre.map (·.Y0))) 0 m [] (fun y hy => ⟨by
      obtain ⟨r, hr, rfl⟩ := List.mem_map.1 ((srtd_mem _ _).1 hy)
      have := (hb r hr).2
      unfold inR
      simp only [Bool.and_eq_true, decide_eq_true_eq]; omega, h2 y⟩) (srtd_strict _) (by simp; omega)
    rw [this]; rfl
  | c :: suf, pre, m, o, h1, h2, h3, h4, h5 => by
    have hcm : c ∈ cs := by rw [h1]; simp
    have hpl : pre.length < 1000 := by rw [h1] at hl; simp at hl; omega
    have hbc := hb c hcm
    have hR : inR c.Y0 = true := by
      unfold inR
      simp only [Bool.and_eq_true, decide_eq_true_eq]; omega
    have hg : mgetO m c.Y0 = some (rowI cs pre.length c.Y0) := by unfold mgetO; rw [if_pos hR, h2]
    have hyc : yAt cs (pre.length : Int) = c.Y0 := by unfold yAt; rw [h1]; simp
    have hlen : (rowI cs pre.length c.Y0).length ≤ 1000 := by
      unfold rowI
      exact Nat.le_trans (List.length_filter_le _ _) (by rw [ix_len]; omega)
    have go : ∀ o' : List Int, o'.Nodup → (∀ y, y ∈ o' ↔ y ∈ (pre ++ [c]).map (·.Y0)) → o'.length ≤ (pre ++ [c]).length → F_panel_Order_J8 (F_panel_Order_L3 N (cs, 0) suf (pre.length + 1)) c pre.length m o' = some (ordS cs, 0) := fun o' g1 g2 g3 => by
      unfold F_panel_Order_J8
      have hp : mputO m c.Y0 (rowI cs pre.length c.Y0 ++ [(pre.length : Int)]) = some (mput m c.Y0 (rowI cs pre.length c.Y0 ++ [(pre.length : Int)])) := by unfold mputO; rw [if_pos ⟨hR, by simp⟩]
      rw [hg, Option.bind_some, apd_ok (by simp; omega), Option.bind_some, hp, Option.bind_some]
      have := order3 hb hd hl hN suf (pre ++ [c]) (mput m c.Y0 (rowI cs pre.length c.Y0 ++ [(pre.length : Int)])) o' (by rw [h1]; simp) (fun y => by
        rw [mget_put, List.length_append, List.length_singleton]
        have e : rowI cs (pre.length + 1) y = rowI cs pre.length y ++ (if c.Y0 = y then [(pre.length : Int)] else []) := by
          unfold rowI
          rw [ix_succ, List.filter_append]
          congr 1
          by_cases hy : c.Y0 = y
          · simp [hyc, hy]
          · simp [hyc, hy]
        rw [e]
        by_cases hy : c.Y0 = y
        · subst hy; simp
        · simp [hy, h2]) g1 g2 g3
      rw [List.length_append, List.length_singleton] at this
      exact this
    rw [F_panel_Order_L3.eq_2, hg, Option.bind_some]
    by_cases hm : c.Y0 ∈ pre.map (·.Y0)
    · have hne : (rowI cs pre.length c.Y0).isEmpty = false := by
        obtain ⟨r, hr, hry⟩ := List.mem_map.1 hm
        obtain ⟨j, hj, rfl⟩ := List.mem_iff_getElem.1 hr
        have : (j : Int) ∈ rowI cs pre.length c.Y0 := mem_rowI.2 ⟨⟨by omega, by omega⟩, by
          unfold yAt
          rw [h1]
          simp [List.getElem?_append_left hj, hj, hry]⟩
        cases hh : rowI cs pre.length c.Y0 with
        | nil => rw [hh] at this; cases this
        | cons _ _ => rfl
      rw [hne, if_neg (by simp)]
      exact go o h3 (fun y => by rw [h4, List.map_append, List.mem_append]; simp; intro e; subst e; simpa using hm) (by simp; omega)
    · have hne : (rowI cs pre.length c.Y0).isEmpty = true := by
        cases hh : rowI cs pre.length c.Y0 with
        | nil => rfl
        | cons i _ =>
          have hi := mem_rowI.1 (show i ∈ rowI cs pre.length c.Y0 by rw [hh]; simp)
          refine absurd (List.mem_map.2 ⟨pre[i.toNat]'(by omega), List.getElem_mem _, ?_⟩) hm
          have := hi.2
          unfold yAt at this
          rw [h1, List.getElem?_append_left (by omega), List.getElem?_eq_getElem (by omega)] at this
          simpa using this
      rw [hne, if_pos rfl, apd_ok (by simp; omega), Option.bind_some]
      refine go (o ++ [c.Y0]) ?_ (fun y => by rw [List.map_append, List.mem_append, List.mem_append, h4]; simp) (by simp; omega)
      rw [List.nodup_append]
      exact ⟨h3, by simp, fun a ha b hb e => by simp at hb; subst hb; subst e; exact hm ((h4 _).1 ha)⟩
def SepR (a b : TRect) : Prop := a.X1 ≤ b.X0 ∨ b.X1 ≤ a.X0 ∨ a.Y1 ≤ b.Y0 ∨ b.Y1 ≤ a.Y0
/-- The cells lie apart. -/
theorem slots_apart {p : TPanel} (hg : 0 ≤ p.Gap) : ∀ {l : List TSlot} {prev : List TRect}, slotsErr p prev l = 0 → (∀ s ∈ l, ∀ d ∈ prev, SepR (cellOf p s) d) ∧ l.Pairwise fun s t => SepR (cellOf p s) (cellOf p t)
  | [], prev, _ => ⟨by simp, List.Pairwise.nil⟩
  | s :: l, prev, h => by
    unfold slotsErr at h
    split at h
    · rename_i h1
      obtain ⟨i1, i2⟩ := slots_apart hg h
      have hno : (prev.any fun d => !apart (cellOf p s) d p.Gap) = false := by
        unfold slotErr at h1
        split at h1
        · omega
        · split at h1
          · omega
          · split at h1
            · omega
            · split at h1
              · omega
              · rename_i h5; exact Bool.eq_false_iff.2 h5
      have hs : ∀ d ∈ prev, SepR (cellOf p s) d := fun d hd => by
        rw [List.any_eq_false] at hno
        have := hno d hd
        unfold apart at this
        simp only [Bool.not_eq_true', Bool.not_eq_false, Bool.or_eq_true, decide_eq_true_eq] at this
        unfold SepR
        omega
      refine ⟨fun t ht d hd => ?_, List.pairwise_cons.2 ⟨fun t ht => ?_, i2⟩⟩
      · rcases List.mem_cons.1 ht with rfl | ht
        · exact hs d hd
        · exact i1 t ht d (by simp [hd])
      · have := i1 t ht (cellOf p s) (by simp)
        unfold SepR at *
        omega
    · rename_i h1; exact absurd h h1
theorem openErr_slots {p : TPanel} (h : openErr p = 0) : slotsErr p [] p.Slots = 0 := by
  unfold openErr at h
  split at h
  · omega
  · split at h
    · split at h
      · rename_i hc
        unfold cellsErr at hc
        split at hc
        · omega
        · exact hc
      · rename_i hc; exact absurd h hc
    · rename_i hk; exact absurd h hk
theorem cells_DX {p : TPanel} (h : openErr p = 0) : DX (p.Slots.map (cellOf p)) ∧ CB (p.Slots.map (cellOf p)) := by
  obtain ⟨hB, _, _, hs⟩ := openErr_ok h
  have hcb : CB (p.Slots.map (cellOf p)) := fun r hr => by
    obtain ⟨s, h1, rfl⟩ := List.mem_map.1 hr
    have := ((hs s h1).bd hB).2.2.1
    exact ⟨this.1, this.2.1⟩
  refine ⟨fun i hi j hj hy hx => ?_, hcb⟩
  have hap := (slots_apart hB.g0 (openErr_slots h)).2
  have hap2 : (p.Slots.map (cellOf p)).Pairwise SepR := List.pairwise_map.2 hap
  have hi := mem_ix.1 hi; have hj := mem_ix.1 hj
  have key : ∀ a b : Nat, (ha : a < (p.Slots.map (cellOf p)).length) → (hb : b < (p.Slots.map (cellOf p)).length) → a < b → (p.Slots.map (cellOf p))[a].X0 = (p.Slots.map (cellOf p))[b].X0 → (p.Slots.map (cellOf p))[a].Y0 = (p.Slots.map (cellOf p))[b].Y0 → False := fun a b ha hb hab ex ey => by
    have := List.pairwise_iff_getElem.1 hap2 a b ha hb hab
    have sz : ∀ r ∈ p.Slots.map (cellOf p), r.X0 < r.X1 ∧ r.Y0 < r.Y1 := fun r hr => by
      obtain ⟨s, h1, rfl⟩ := List.mem_map.1 hr
      have := (hs s h1).bd hB
      exact ⟨this.2.2.2.1, this.2.2.2.2.1⟩
    have s1 := sz _ (List.getElem_mem ha)
    have s2 := sz _ (List.getElem_mem hb)
    unfold SepR at this
    omega
  have ei : xAt (p.Slots.map (cellOf p)) i = ((p.Slots.map (cellOf p))[i.toNat]'(by omega)).X0 ∧ yAt (p.Slots.map (cellOf p)) i = ((p.Slots.map (cellOf p))[i.toNat]'(by omega)).Y0 := by
    unfold xAt yAt; rw [List.getElem?_eq_getElem (by omega)]; exact ⟨rfl, rfl⟩
  have ej : xAt (p.Slots.map (cellOf p)) j = ((p.Slots.map (cellOf p))[j.toNat]'(by omega)).X0 ∧ yAt (p.Slots.map (cellOf p)) j = ((p.Slots.map (cellOf p))[j.toNat]'(by omega)).Y0 := by
    unfold xAt yAt; rw [List.getElem?_eq_getElem (by omega)]; exact ⟨rfl, rfl⟩
  rw [ei.1, ej.1] at hx
  rw [ei.2, ej.2] at hy
  rcases Nat.lt_trichotomy i.toNat j.toNat with hh | hh | hh
  · exact (key _ _ _ _ hh hx hy).elim
  · omega
  · exact (key _ _ _ _ hh hx.symm hy.symm).elim
theorem Order_ok {N : Nat} {p : TPanel} (hN : 3000 ≤ N) (hn : ∀ k ∈ p.Kinds, k.Name.size ≤ 9223372036854775807 ∧ k.Name.size < N) :
    F_panel_Order N p = some (if openErr p = 0 then (ordS (p.Slots.map (cellOf p)), 0) else ([], openErr p)) := by
  unfold F_panel_Order
  rw [open_ok hn, Option.bind_some]
  by_cases he : openErr p = 0
  · obtain ⟨hB, hl, _, hs⟩ := openErr_ok he
    obtain ⟨d1, d2⟩ := cells_DX he
    rw [if_pos he, if_pos he, if_neg (by simp)]
    exact order3 d2 d1 (by simp; omega) (by omega) (p.Slots.map (cellOf p)) [] [] [] rfl (fun y => rfl) .nil (fun y => by simp) (by simp)
  · rw [if_neg he, if_neg he, if_pos (by simpa using he)]
end Go.Proofs.Ytfddmjoldoddlaa
