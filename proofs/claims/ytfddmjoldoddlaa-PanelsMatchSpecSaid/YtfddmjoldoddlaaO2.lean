/- The order of work of a panel: what the reference computes. Plain Lean about the plain functions. -/
import Derived.Test.YtfddmjoldoddlaaO1
namespace Go.Proofs.Ytfddmjoldoddlaa
/-- Something laid into a list in order by a key. -/
theorem insK {κ : Int → Int} {l : List Int} {x : Int} {k : Nat} (hs : l.Pairwise fun a b => κ a < κ b) (hA : ∀ a ∈ l.take k, κ a < κ x) (hB : ∀ b ∈ l.drop k, κ x < κ b) :
    ((l.take k ++ [x] ++ l.drop k).Pairwise fun a b => κ a < κ b) ∧ (l.take k ++ [x] ++ l.drop k).Perm (l ++ [x]) := by
  refine ⟨?_, ?_⟩
  · rw [List.append_assoc, List.pairwise_append]
    refine ⟨hs.sublist (List.take_sublist _ _), ?_, fun a ha b hb => ?_⟩
    · show (x :: l.drop k).Pairwise _
      rw [List.pairwise_cons]
      exact ⟨hB, hs.sublist (List.drop_sublist _ _)⟩
    · have := hA a ha
      rcases List.mem_cons.1 (show b ∈ x :: l.drop k from hb) with rfl | hb
      · exact this
      · have := hB b hb; omega
  · have h1 : (l.take k ++ [x] ++ l.drop k).Perm (l.take k ++ (l.drop k ++ [x])) := by
      rw [List.append_assoc]
      exact List.Perm.append_left _ List.perm_append_comm
    rw [← List.append_assoc, List.take_append_drop] at h1
    exact h1
theorem ins_ok {l : List Int} {x : Int} {k : Nat} (hs : l.Pairwise fun a b => a < b) (hA : ∀ a ∈ l.take k, a < x) (hB : ∀ b ∈ l.drop k, x < b) :
    ((l.take k ++ [x] ++ l.drop k).Pairwise fun a b => a < b) ∧ (∀ z, z ∈ l.take k ++ [x] ++ l.drop k ↔ z = x ∨ z ∈ l) := by
  obtain ⟨h1, h2⟩ := insK (κ := id) hs hA hB
  refine ⟨h1, fun z => ?_⟩
  rw [h2.mem_iff, List.mem_append]
  simp [or_comm]
theorem number_loop {l : List Int} {x : Int} (hs : l.Pairwise fun a b => a < b) (hl : l.length ≤ 1000000000) : ∀ (k m : Nat), k < m → k ≤ l.length → (∀ b ∈ l.drop k, x < b) →
    ∃ l', F_etchhouseref9_number_L1 l x m (k : Int) = some l' ∧ (l'.Pairwise fun a b => a < b) ∧ (∀ z, z ∈ l' ↔ z = x ∨ z ∈ l) ∧ l'.length ≤ l.length + 1
  | k, 0, h, _, _ => absurd h (Nat.not_lt_zero _)
  | 0, m + 1, h1, h2, h3 => by
    have e3 : cut l ((0 : Nat) : Int) (l.length : Int) = some (l.drop 0) := by
      unfold cut
      rw [if_pos ⟨by omega, by omega, by omega⟩]; simp
    have e2 : pre l ((0 : Nat) : Int) = some (l.take 0) := by
      unfold pre
      rw [if_pos ⟨by omega, by omega⟩]; simp
    rw [F_etchhouseref9_number_L1.eq_2, if_neg (by simp), Option.bind_some, if_neg (by simp), if_neg (by simp), Option.bind_some, if_neg (by simp), e2, Option.bind_some, apd_ok (by simp), Option.bind_some, apd_ok (by simp), Option.bind_some, e3, Option.bind_some, apd_ok (by simp; omega), Option.bind_some, List.nil_append]
    obtain ⟨g1, g2⟩ := ins_ok (k := 0) hs (fun a ha => by simp at ha) h3
    exact ⟨_, rfl, g1, g2, by simp⟩
  | k + 1, m + 1, h1, h2, h3 => by
    have hk : k < l.length := by omega
    have hw : w64 (((k + 1 : Nat) : Int) - 1) = (k : Int) := by rw [w64_id (by omega) (by omega)]; omega
    rw [F_etchhouseref9_number_L1.eq_2, if_pos (by simp), hw, idx_nat hk, Option.bind_some, Option.bind_some]
    have hd : l.drop k = l[k] :: l.drop (k + 1) := List.drop_eq_getElem_cons hk
    by_cases hc : x < l[k]
    · rw [if_pos (by simpa using hc)]
      exact number_loop hs hl k m (by omega) (by omega) (fun b hb => by
        rw [hd] at hb
        rcases List.mem_cons.1 hb with rfl | hb
        · exact hc
        · exact h3 b hb)
    · rw [if_neg (by simpa using hc), if_pos (by simp), Option.bind_some, Option.bind_some]
      by_cases he : l[k] = x
      · rw [if_pos (by simpa using he)]
        exact ⟨l, rfl, hs, fun z => ⟨fun h => .inr h, fun h => by rcases h with rfl | h; exact he ▸ List.getElem_mem hk; exact h⟩, by omega⟩
      · rw [if_neg (by simpa using he)]
        have e2 : pre l ((k + 1 : Nat) : Int) = some (l.take (k + 1)) := by
          unfold pre
          rw [if_pos ⟨by omega, by omega⟩]; simp
        have e3 : cut l ((k + 1 : Nat) : Int) (l.length : Int) = some (l.drop (k + 1)) := by
          unfold cut
          rw [if_pos ⟨by omega, by omega, by omega⟩]; simp
        rw [e2, Option.bind_some, apd_ok (by simp; omega), Option.bind_some, apd_ok (by simp; omega), Option.bind_some, e3, Option.bind_some, apd_ok (by simp; omega), Option.bind_some, List.nil_append]
        obtain ⟨g1, g2⟩ := ins_ok (x := x) (k := k + 1) hs (fun a ha => by
          obtain ⟨i, hi, rfl⟩ := List.mem_iff_getElem.1 ha
          simp at hi
          simp only [List.getElem_take]
          rcases Nat.lt_or_ge i k with h | h
          · have := List.pairwise_iff_getElem.1 hs i k (by omega) hk h; omega
          · have : i = k := by omega
            subst this; omega) h3
        exact ⟨_, rfl, g1, g2, by simp; omega⟩
theorem number_ok {N : Nat} {l : List Int} {x : Int} (hs : l.Pairwise fun a b => a < b) (hl : l.length ≤ 1000000000) (hN : l.length < N) : ∃ l', F_etchhouseref9_number N l x = some l' ∧ (l'.Pairwise fun a b => a < b) ∧ (∀ z, z ∈ l' ↔ z = x ∨ z ∈ l) ∧ l'.length ≤ l.length + 1 :=
  number_loop hs hl l.length N hN (Nat.le_refl _) (fun b hb => by simp at hb)
/-- The key by which a row is in order: upwards, or downwards. -/
def keyO (cs : List TRect) (k : Nat) (i : Int) : Int := if k % 2 = 0 then xAt cs i else - xAt cs i
theorem orderR14 {cs : List TRect} {kk : Nat} {i : Int} {K : List Int → Int → Option (List Int × Int)} {l : List Int} (hi : 0 ≤ i ∧ i < cs.length) (hlm : ∀ j ∈ l, 0 ≤ j ∧ j < cs.length) (hne : ∀ j ∈ l, xAt cs j ≠ xAt cs i) (hs : l.Pairwise fun a b => keyO cs kk a < keyO cs kk b) (hl : l.length ≤ 1000000) :
    ∀ (k m : Nat), k < m → k ≤ l.length → (∀ b ∈ l.drop k, keyO cs kk i < keyO cs kk b) →
    ∃ l', F_etchhouseref9_Order_L14 cs (kk : Int) l i K m (k : Int) = K l' (w64 (i + 1)) ∧ (l'.Pairwise fun a b => keyO cs kk a < keyO cs kk b) ∧ l'.Perm (l ++ [i])
  | k, 0, h, _, _ => absurd h (Nat.not_lt_zero _)
  | k, m + 1, h1, h2, h3 => by
    have e2 : pre l (k : Int) = some (l.take k) := by
      unfold pre
      rw [if_pos ⟨by omega, by omega⟩]; simp
    have e3 : cut l (k : Int) (l.length : Int) = some (l.drop k) := by
      unfold cut
      rw [if_pos ⟨by omega, by omega, by omega⟩]; simp
    have fin : (∀ a ∈ l.take k, keyO cs kk a < keyO cs kk i) → ∃ l', ((pre l (k : Int)).bind fun l450 => (apd ([] : List Int) l450).bind fun l451 => (apd l451 [i]).bind fun l453 => (cut l (k : Int) (l.length : Int)).bind fun l454 => (apd l453 l454).bind fun l455 => K l455 (w64 (i + 1))) = K l' (w64 (i + 1)) ∧ (l'.Pairwise fun a b => keyO cs kk a < keyO cs kk b) ∧ l'.Perm (l ++ [i]) := fun hA => by
      obtain ⟨g1, g2⟩ := insK (x := i) (k := k) hs hA h3
      refine ⟨_, ?_, g1, g2⟩
      rw [e2, Option.bind_some, apd_ok (by simp; omega), Option.bind_some, apd_ok (by simp; omega), Option.bind_some, e3, Option.bind_some, apd_ok (by simp; omega), Option.bind_some, List.nil_append]
    match k, h1, h2, h3, fin, e2, e3 with
    | 0, h1, h2, h3, fin, _, _ =>
      rw [F_etchhouseref9_Order_L14.eq_2, if_neg (by simp), Option.bind_some, if_neg (by simp)]
      exact fin (fun a ha => by simp at ha)
    | k + 1, h1, h2, h3, fin, _, _ =>
      have hk : k < l.length := by omega
      have hw : w64 (((k + 1 : Nat) : Int) - 1) = (k : Int) := by rw [w64_id (by omega) (by omega)]; omega
      obtain ⟨r, r1, r2, r3, r4⟩ := at_idx (hlm l[k] (List.getElem_mem hk))
      obtain ⟨s, s1, s2, s3, s4⟩ := at_idx hi
      have hn := hne l[k] (List.getElem_mem hk)
      have hk2 : Int.tmod (kk : Int) 2 = ((kk % 2 : Nat) : Int) := by rw [Int.tmod_eq_emod_of_nonneg (by omega)]; omega
      have hc : ((decide (s.X0 < r.X0)) == ((Int.tmod (kk : Int) 2) == 0)) = decide (keyO cs kk i < keyO cs kk l[k]) := by
        rw [hk2, r3, s3]
        unfold keyO
        rcases Nat.mod_two_eq_zero_or_one kk with h | h
        · rw [h, if_pos rfl, if_pos rfl]; simp
        · rw [h, if_neg (by simp), if_neg (by simp)]
          by_cases hh : xAt cs i < xAt cs l[k]
          · simp [hh]; omega
          · have : xAt cs l[k] < xAt cs i := by omega
            simp [this]; omega
      rw [F_etchhouseref9_Order_L14.eq_2, if_pos (by simp), hw, idx_nat hk, Option.bind_some, r1, Option.bind_some, s1, Option.bind_some, hc, Option.bind_some]
      have hd : l.drop k = l[k] :: l.drop (k + 1) := List.drop_eq_getElem_cons hk
      by_cases hlt : keyO cs kk i < keyO cs kk l[k]
      · rw [if_pos (by simpa using hlt)]
        exact orderR14 hi hlm hne hs hl k m (by omega) (by omega) (fun b hb => by
          rw [hd] at hb
          rcases List.mem_cons.1 hb with rfl | hb
          · exact hlt
          · exact h3 b hb)
      · rw [if_neg (by simpa using hlt)]
        have hkn : keyO cs kk l[k] ≠ keyO cs kk i := fun e => hn (by
          unfold keyO at e
          split at e <;> omega)
        exact fin (fun a ha => by
          obtain ⟨j, hj, rfl⟩ := List.mem_iff_getElem.1 ha
          simp at hj
          simp only [List.getElem_take]
          rcases Nat.lt_or_ge j k with h | h
          · have := List.pairwise_iff_getElem.1 hs j k (by omega) hk h; omega
          · have : j = k := by omega
            subst this; omega)
theorem orderR13 {N : Nat} {cs : List TRect} {ys out : List Int} {kk : Nat} {y : Int} {K : List Int → Int → Option (List Int × Int)} (hd : DX cs) (hl : cs.length ≤ 1000) (hN : 2000 < N) (hy : idx ys (kk : Int) = some y) (ho : out.length ≤ 1000000) : ∀ (suf pre : List TRect) (m : Nat) (l : List Int), cs = pre ++ suf → suf.length < m → (l.Pairwise fun a b => keyO cs kk a < keyO cs kk b) → l.Perm (rowI cs pre.length y) →
    F_etchhouseref9_Order_L13 N cs ys out (kk : Int) K m l (pre.length : Int) = K (out ++ if kk % 2 = 1 then (srow cs y).reverse else srow cs y) (w64 ((kk : Int) + 1))
  | suf, pre, 0, _, _, h, _, _ => absurd h (Nat.not_lt_zero _)
  | [], pre, m + 1, l, h1, h2, h3, h4 => by
    have hpre : pre = cs := by rw [h1]; simp
    subst hpre
    have hll : l.length ≤ 1000 := by
      rw [h4.length_eq]; unfold rowI
      exact Nat.le_trans (List.length_filter_le _ _) (by rw [ix_len]; exact hl)
    have hlr : l = if kk % 2 = 1 then (srow pre y).reverse else srow pre y := by
      rcases Nat.mod_two_eq_zero_or_one kk with h | h
      · rw [if_neg (by omega)]
        exact RowOk.uniq ⟨h4, h3.imp fun hh => by unfold keyO at hh; simpa [h] using hh⟩ (srow_ok hd y)
      · rw [if_pos h]
        have : l.reverse = srow pre y := RowOk.uniq ⟨(List.reverse_perm l).trans h4, List.pairwise_reverse.2 (h3.imp fun hh => by unfold keyO at hh; simp [h] at hh; omega)⟩ (srow_ok hd y)
        rw [← this, List.reverse_reverse]
    rw [F_etchhouseref9_Order_L13.eq_2, if_neg (by simp), apd_ok (by omega), Option.bind_some, ← hlr]
  | c :: suf, pre, m + 1, l, h1, h2, h3, h4 => by
    have hpl : pre.length < cs.length := by rw [h1]; simp
    have hid : idx cs (pre.length : Int) = some c := by rw [h1]; exact idx_mid pre suf c
    have hyc : yAt cs (pre.length : Int) = c.Y0 := by unfold yAt; rw [h1]; simp
    have hrow : rowI cs (pre.length + 1) y = rowI cs pre.length y ++ (if c.Y0 = y then [(pre.length : Int)] else []) := by
      unfold rowI
      rw [ix_succ, List.filter_append]
      congr 1
      by_cases hy : c.Y0 = y
      · simp [hyc, hy]
      · simp [hyc, hy]
    have hup : w64 ((pre.length : Int) + 1) = ((pre ++ [c]).length : Int) := up_mid pre c (by omega)
    rw [F_etchhouseref9_Order_L13.eq_2, if_pos (by simp; omega), hid, Option.bind_some, hy, Option.bind_some]
    by_cases hcy : c.Y0 = y
    · rw [if_neg (by simpa using hcy)]
      have hmem : ∀ j ∈ l, (0 ≤ j ∧ j < pre.length) ∧ yAt cs j = y := fun j hj => mem_rowI.1 (h4.subset hj)
      have hll : l.length ≤ 1000 := by
        rw [h4.length_eq]; unfold rowI
        exact Nat.le_trans (List.length_filter_le _ _) (by rw [ix_len]; omega)
      obtain ⟨l', e1, e2, e3⟩ := orderR14 (cs := cs) (kk := kk) (i := (pre.length : Int)) (K := F_etchhouseref9_Order_L13 N cs ys out (kk : Int) K m) (l := l) ⟨by omega, by omega⟩ (fun j hj => ⟨(hmem j hj).1.1, by have := (hmem j hj).1.2; omega⟩) (fun j hj e => by
        have hj' := hmem j hj
        have := hd j (mem_ix.2 ⟨hj'.1.1, by omega⟩) (pre.length : Int) (mem_ix.2 ⟨by omega, by omega⟩) (by rw [hj'.2, hyc, hcy]) e
        omega) h3 (by omega) l.length N (by omega) (Nat.le_refl _) (fun b hb => by simp at hb)
      rw [e1, hup]
      exact orderR13 hd hl hN hy ho suf (pre ++ [c]) m l' (by rw [h1]; simp) (by simp at h2; omega) e2 (by
        rw [List.length_append, List.length_singleton, hrow, if_pos hcy]
        exact e3.trans (h4.append_right _))
    · rw [if_pos (by simpa using hcy), hup]
      exact orderR13 hd hl hN hy ho suf (pre ++ [c]) m l (by rw [h1]; simp) (by simp at h2; omega) h3 (by
        rw [List.length_append, List.length_singleton, hrow, if_neg hcy, List.append_nil]
        exact h4)
theorem row_len {cs : List TRect} (hd : DX cs) (y : Int) : (srow cs y).length ≤ cs.length := by
  rw [(srow_ok hd y).perm.length_eq]; unfold rowI
  exact Nat.le_trans (List.length_filter_le _ _) (by rw [ix_len]; omega)
theorem orderR10 {N : Nat} {cs : List TRect} {ys : List Int} (hd : DX cs) (hl : cs.length ≤ 1000) (hN : 2000 < N) (hys : ys.length ≤ 1000) : ∀ (suf pre : List Int) (m : Nat) (o : List Int), ys = pre ++ suf → suf.length < m → o.length ≤ 1000 * pre.length →
    F_etchhouseref9_Order_L10 N cs ys m o (pre.length : Int) = some (o ++ ordG cs suf pre.length, 0)
  | suf, pre, 0, _, _, h, _ => absurd h (Nat.not_lt_zero _)
  | [], pre, m + 1, o, h1, h2, h3 => by
    rw [F_etchhouseref9_Order_L10.eq_2, if_neg (by rw [h1]; simp)]
    simp [ordG]
  | y :: suf, pre, m + 1, o, h1, h2, h3 => by
    have hpl : pre.length < 1000 := by rw [h1] at hys; simp at hys; omega
    have hy : idx ys (pre.length : Int) = some y := by rw [h1]; exact idx_mid pre suf y
    have hr := row_len hd y
    rw [F_etchhouseref9_Order_L10.eq_2, if_pos (by rw [h1]; exact lt_mid pre suf y)]
    have := orderR13 (N := N) (out := o) (kk := pre.length) (K := F_etchhouseref9_Order_L10 N cs ys m) hd hl hN hy (by omega) cs [] N [] rfl (by omega) .nil (by unfold rowI ix; simp)
    rw [show (([] : List TRect).length : Int) = 0 from rfl] at this
    rw [this, up_mid pre y (by omega), orderR10 hd hl hN hys suf (pre ++ [y]) m _ (by rw [h1]; simp) (by simp at h2; omega) (by
      rw [List.length_append, List.length_append, List.length_singleton]
      split
      · rw [List.length_reverse]; omega
      · omega)]
    rw [List.length_append, List.length_singleton, List.append_assoc]
    rfl
theorem orderR1 {N : Nat} {cs : List TRect} (hd : DX cs) (hl : cs.length ≤ 1000) (hN : 2000 < N) : ∀ (suf pre : List TRect) (m : Nat) (o : List Int), cs = pre ++ suf → suf.length < m → (o.Pairwise fun a b => a < b) → (∀ y, y ∈ o ↔ y ∈ pre.map (·.Y0)) → o.length ≤ pre.length →
    F_etchhouseref9_Order_L1 N cs m o (pre.length : Int) = some (ordS cs, 0)
  | suf, pre, 0, _, _, h, _, _, _ => absurd h (Nat.not_lt_zero _)
  | [], pre, m + 1, o, h1, h2, h3, h4, h5 => by
    have hpre : pre = cs := by rw [h1]; simp
    subst hpre
    have ho : o = srtd (pre.map (·.Y0)) := strict_uniq h3 (srtd_strict _) fun z => by rw [srtd_mem, h4]
    have := orderR10 (N := N) (ys := o) hd hl hN (by omega) o [] N [] rfl (by omega) (by simp)
    rw [show (([] : List Int).length : Int) = 0 from rfl] at this
    rw [F_etchhouseref9_Order_L1.eq_2, if_neg (by simp), this, ho]
    rfl
  | c :: suf, pre, m + 1, o, h1, h2, h3, h4, h5 => by
    have hpl : pre.length < 1000 := by rw [h1] at hl; simp at hl; omega
    have hid : idx cs (pre.length : Int) = some c := by rw [h1]; exact idx_mid pre suf c
    obtain ⟨o', n1, n2, n3, n4⟩ := number_ok (N := N) (x := c.Y0) h3 (by omega) (by omega)
    rw [F_etchhouseref9_Order_L1.eq_2, if_pos (by rw [h1]; exact lt_mid pre suf c), hid, Option.bind_some, n1, Option.bind_some, up_mid pre c (by omega)]
    exact orderR1 hd hl hN suf (pre ++ [c]) m o' (by rw [h1]; simp) (by simp at h2; omega) n2 (fun y => by rw [n3, h4, List.map_append, List.mem_append]; simp [or_comm, eq_comm]) (by simp; omega)
theorem cellsR_ok {N : Nat} {p : TPanel} (hB : PB p) (hsl : p.Slots.length ≤ 500) (hs : ∀ s ∈ p.Slots, SlotOk p s) (hN : 600 ≤ N) : F_etchhouseref9_cells N p = some (p.Slots.map (cellOf p)) := by
  have key : ∀ (suf pre : List TSlot) (n : Nat), p.Slots = pre ++ suf → suf.length < n → F_etchhouseref9_cells_L1 N p n (pre.map (cellOf p)) pre.length = some (p.Slots.map (cellOf p)) := by
    intro suf
    induction suf with
    | nil =>
      intro pre n h1 h2
      obtain ⟨n, rfl⟩ : ∃ m, n = m + 1 := ⟨n - 1, by omega⟩
      rw [F_etchhouseref9_cells_L1.eq_2, if_neg (by rw [h1]; simp), h1]; simp
    | cons s suf ih =>
      intro pre n h1 h2
      obtain ⟨n, rfl⟩ : ∃ m, n = m + 1 := ⟨n - 1, by omega⟩
      have hkl := hB.klen
      have hsk := hs s (by rw [h1]; simp)
      have hl : pre.length ≤ 500 := by rw [h1] at hsl; simp at hsl; omega
      have hid : idx p.Slots (pre.length : Int) = some s := by rw [h1]; exact idx_mid pre suf s
      rw [F_etchhouseref9_cells_L1.eq_2, if_pos (by rw [h1]; exact lt_mid pre suf s), hid, Option.bind_some, cellOfR_ok hB (by omega) hsk.kind (hsk.bd hB).1 (hsk.bd hB).2.1, Option.bind_some, apd_ok (by simp; omega), Option.bind_some, up_mid pre s (by omega)]
      have := ih (pre ++ [s]) n (by rw [h1]; simp) (by simp at h2; omega)
      simpa using this
  exact key p.Slots [] N rfl (by omega)
theorem OrderR_ok {N : Nat} {p : TPanel} (hN : 3000 ≤ N) (hk : p.Kinds.length < N) (hn : ∀ k ∈ p.Kinds, k.Name.size ≤ 9223372036854775807 ∧ k.Name.size < N) :
    F_etchhouseref9_Order N p = some (if openErr p = 0 then (ordS (p.Slots.map (cellOf p)), 0) else ([], openErr p)) := by
  unfold F_etchhouseref9_Order
  rw [checkPanel_ok (by omega) hk hn, Option.bind_some]
  by_cases he : openErr p = 0
  · obtain ⟨hB, hl, _, hs⟩ := openErr_ok he
    obtain ⟨d1, d2⟩ := cells_DX he
    rw [if_neg (by simpa using he), if_pos he, cellsR_ok hB hl hs (by omega), Option.bind_some]
    exact orderR1 d1 (by simp; omega) (by omega) (p.Slots.map (cellOf p)) [] N [] rfl (by simp; omega) .nil (fun y => by simp) (by simp)
  · rw [if_pos (by simpa using he), if_neg he]
end Go.Proofs.Ytfddmjoldoddlaa
