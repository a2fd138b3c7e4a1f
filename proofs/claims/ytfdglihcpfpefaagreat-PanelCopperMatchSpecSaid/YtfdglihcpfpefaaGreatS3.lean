/- Sets of rectangles: the reference's bands are the ones. Plain Lean about the plain functions. -/
import Derived.Test.YtfdglihcpfpefaaGreatS2
namespace Go.Proofs.YtfdglihcpfpefaaGreat
def toSp (p : Int × Int) : TSpan := ⟨p.1, p.2⟩
def toRB (b : Bd) : Tetchhouseref1Band := ⟨b.1, b.2.1, b.2.2.map toSp⟩
theorem toSp_inj {l m : List (Int × Int)} (h : l.map toSp = m.map toSp) : l = m := by
  induction l generalizing m with
  | nil => cases m with | nil => rfl | cons q m => simp at h
  | cons p l ih =>
    cases m with
    | nil => simp at h
    | cons q m =>
      rw [List.map_cons, List.map_cons] at h
      injection h with h1 h2
      rw [ih h2]
      unfold toSp at h1
      injection h1 with h3 h4
      congr 1
      obtain ⟨a, b⟩ := p; obtain ⟨c, d⟩ := q
      simp only at h3 h4
      rw [h3, h4]
/-- A number more in a strictly ascending list. -/
theorem put_loop {l : List Int} {x : Int} (hs : l.Pairwise fun a b => a < b) (hl : l.length ≤ 1000000000) : ∀ (n lo hi m : Nat), hi - lo ≤ n → n < m → lo ≤ hi → hi ≤ l.length → (∀ i, (h : i < l.length) → i < lo → l[i] < x) → (∀ i, (h : i < l.length) → hi ≤ i → x ≤ l[i]) →
    ∃ l', F_etchhouseref1_put_L1 l x m lo hi = some l' ∧ (l'.Pairwise fun a b => a < b) ∧ (∀ z, z ∈ l' ↔ z = x ∨ z ∈ l) ∧ l'.length ≤ l.length + 1
  | n, lo, hi, 0, _, h, _, _, _, _ => absurd h (Nat.not_lt_zero _)
  | n, lo, hi, m + 1, h1, h2, h3, h4, h5, h6 => by
    by_cases hlt : lo < hi
    · have hmid : (lo + hi) / 2 < l.length := by omega
      have hw : w64 (Int.tdiv (w64 ((lo : Int) + hi)) 2) = (((lo + hi) / 2 : Nat) : Int) := by
        rw [w64_id (x := (lo : Int) + hi) (by omega) (by omega), Int.tdiv_eq_ediv_of_nonneg (by omega), w64_id (by omega) (by omega)]
        omega
      rw [F_etchhouseref1_put_L1.eq_2, if_pos (by simpa using hlt), hw, idx_nat hmid, Option.bind_some]
      obtain ⟨n, rfl⟩ : ∃ k, n = k + 1 := ⟨n - 1, by omega⟩
      have hord : ∀ i j, (hi : i < l.length) → (hj : j < l.length) → i ≤ j → l[i] ≤ l[j] := fun i j hi hj hij => by
        rcases Nat.lt_or_eq_of_le hij with h | h
        · exact Int.le_of_lt (List.pairwise_iff_getElem.1 hs i j hi hj h)
        · subst h; exact Int.le_refl _
      by_cases hc : l[(lo + hi) / 2] < x
      · rw [if_pos (by simpa using hc), w64_id (by omega) (by omega)]
        have := put_loop hs hl n ((lo + hi) / 2 + 1) hi m (by omega) (by omega) (by omega) h4 (fun i hi' hlt' => by have := hord i _ hi' hmid (by omega); omega) h6
        simpa using this
      · rw [if_neg (by simpa using hc)]
        exact put_loop hs hl n lo ((lo + hi) / 2) m (by omega) (by omega) (by omega) (by omega) h5 (fun i hi' hle => by have := hord _ i hmid hi' hle; omega)
    · have heq : lo = hi := by omega
      subst heq
      rw [F_etchhouseref1_put_L1.eq_2, if_neg (by simp)]
      have hsplit : l = l.take lo ++ l.drop lo := (List.take_append_drop lo l).symm
      have hA : ∀ a ∈ l.take lo, a < x := fun a ha => by
        obtain ⟨i, hi, rfl⟩ := List.mem_iff_getElem.1 ha
        simp at hi
        have := h5 i (by omega) (by omega)
        simpa using this
      have hB : ∀ b ∈ l.drop lo, x ≤ b := fun b hb => by
        obtain ⟨i, hi, rfl⟩ := List.mem_iff_getElem.1 hb
        simp at hi
        have := h6 (lo + i) (by omega) (by omega)
        simpa using this
      by_cases hin : x ∈ l
      · have hxlo : lo < l.length ∧ ∀ h : lo < l.length, l[lo] = x := by
          rw [hsplit] at hin
          rcases List.mem_append.1 hin with h | h
          · have := hA x h; omega
          · have hne : lo < l.length := by
              have := List.length_pos_of_mem h
              simp at this; omega
            refine ⟨hne, fun _ => ?_⟩
            have hd : l.drop lo = l[lo] :: l.drop (lo + 1) := List.drop_eq_getElem_cons hne
            rw [hd] at h
            rcases List.mem_cons.1 h with h | h
            · exact h.symm
            · have a := hB l[lo] (by rw [hd]; exact List.mem_cons_self)
              have hs2 : (l[lo] :: l.drop (lo + 1)).Pairwise fun a b => a < b := by rw [← hd]; exact hs.sublist (List.drop_sublist _ _)
              have b := (List.pairwise_cons.1 hs2).1 x h
              omega
        rw [if_pos (by simpa using hxlo.1), idx_nat hxlo.1, Option.bind_some, hxlo.2 hxlo.1, Option.bind_some, if_pos (by simp)]
        exact ⟨l, rfl, hs, fun z => ⟨fun h => .inr h, fun h => by rcases h with rfl | h; exact hin; exact h⟩, by omega⟩
      · have hcond : ((if (decide ((lo : Int) < (l.length : Int))) then (idx l (lo : Int)).bind fun x113 => some (x113 == x) else some false).bind fun g112 => if g112 then some l else
            (pre l (lo : Int)).bind fun l114 => (apd ([] : List Int) l114).bind fun l115 => (apd l115 [x]).bind fun l117 => (cut l (lo : Int) (l.length : Int)).bind fun l118 => (apd l117 l118).bind fun l119 => some l119) = some (l.take lo ++ [x] ++ l.drop lo) := by
          have e1 : (if (decide ((lo : Int) < (l.length : Int))) then (idx l (lo : Int)).bind fun x113 => some (x113 == x) else some false) = some false := by
            by_cases hlo : lo < l.length
            · rw [if_pos (by simpa using hlo), idx_nat hlo, Option.bind_some]
              have : l[lo] ≠ x := fun e => hin (e ▸ List.getElem_mem hlo)
              simp [this]
            · rw [if_neg (by simpa using hlo)]
          have e2 : pre l (lo : Int) = some (l.take lo) := by
            unfold pre
            rw [if_pos ⟨by omega, by omega⟩]; simp
          have e3 : cut l (lo : Int) (l.length : Int) = some (l.drop lo) := by
            unfold cut
            rw [if_pos ⟨by omega, by omega, by omega⟩]; simp
          rw [e1, Option.bind_some, if_neg (by simp), e2, Option.bind_some, apd_ok (by simp; omega), Option.bind_some, apd_ok (by simp; omega), Option.bind_some, e3, Option.bind_some, apd_ok (by simp; omega), Option.bind_some]
          simp
        rw [hcond]
        have hB' : ∀ b ∈ l.drop lo, x < b := fun b hb => by
          have := hB b hb
          have hne : b ≠ x := fun e => hin (by rw [hsplit]; exact List.mem_append_right _ (e ▸ hb))
          omega
        refine ⟨_, rfl, ?_, fun z => ?_, by simp; omega⟩
        · rw [List.append_assoc, List.pairwise_append]
          refine ⟨hs.sublist (List.take_sublist _ _), ?_, fun a ha b hb => ?_⟩
          · show (x :: l.drop lo).Pairwise _
            rw [List.pairwise_cons]
            exact ⟨hB', hs.sublist (List.drop_sublist _ _)⟩
          · have := hA a ha
            rcases List.mem_cons.1 (show b ∈ x :: l.drop lo from hb) with rfl | hb
            · exact this
            · have := hB' b hb; omega
        · rw [List.append_assoc, List.mem_append]
          show (z ∈ l.take lo ∨ z ∈ x :: l.drop lo) ↔ _
          rw [List.mem_cons]
          have : z ∈ l ↔ z ∈ l.take lo ∨ z ∈ l.drop lo := by
            rw [← List.mem_append, List.take_append_drop]
          rw [this]
          constructor
          · rintro (h | h | h)
            · exact .inr (.inl h)
            · exact .inl h
            · exact .inr (.inr h)
          · rintro (h | h | h)
            · exact .inr (.inl h)
            · exact .inl h
            · exact .inr (.inr h)
theorem put_ok {N : Nat} {l : List Int} {x : Int} (hN : 10000000000 ≤ N) (hs : l.Pairwise fun a b => a < b) (hl : l.length ≤ 1000000000) : ∃ l', F_etchhouseref1_put N l x = some l' ∧ (l'.Pairwise fun a b => a < b) ∧ (∀ z, z ∈ l' ↔ z = x ∨ z ∈ l) ∧ l'.length ≤ l.length + 1 :=
  put_loop hs hl l.length 0 l.length N (by omega) (by omega) (by omega) (by omega) (fun i _ h => by omega) (fun i h h' => by omega)
theorem heights_ok {N : Nat} {l : List TRect} (hN : 10000000000 ≤ N) (hl : l.length ≤ 100000000) : F_etchhouseref1_heights N l = some (srtd (ysOfR l)) := by
  have key : ∀ (suf pre : List TRect) (m : Nat) (out : List Int), l = pre ++ suf → suf.length < m → out.Pairwise (fun a b => a < b) → (∀ z, z ∈ out ↔ z ∈ ysOfR pre) → out.length ≤ 2 * pre.length → F_etchhouseref1_heights_L1 N l m out pre.length = some (srtd (ysOfR l)) := by
    intro suf
    induction suf with
    | nil =>
      intro pre m out h1 h2 h3 h4 h5
      obtain ⟨m, rfl⟩ : ∃ k, m = k + 1 := ⟨m - 1, by omega⟩
      rw [List.append_nil] at h1
      subst h1
      rw [F_etchhouseref1_heights_L1.eq_2, if_neg (by simp)]
      congr 1
      exact strict_uniq h3 (srtd_strict _) fun z => by rw [srtd_mem, h4]
    | cons r suf ih =>
      intro pre m out h1 h2 h3 h4 h5
      obtain ⟨m, rfl⟩ : ∃ k, m = k + 1 := ⟨m - 1, by omega⟩
      have hpl : pre.length + 1 ≤ 100000000 := by rw [h1] at hl; simp at hl; omega
      have hid : idx l (pre.length : Int) = some r := by rw [h1]; exact idx_mid pre suf r
      obtain ⟨o1, p1, p2, p3, p4⟩ := put_ok (x := r.Y0) hN h3 (by omega)
      obtain ⟨o2, q1, q2, q3, q4⟩ := put_ok (x := r.Y1) hN p2 (by omega)
      rw [F_etchhouseref1_heights_L1.eq_2, if_pos (by rw [h1]; exact lt_mid pre suf r), hid, Option.bind_some, Option.bind_some, p1, Option.bind_some, q1, Option.bind_some, up_mid pre r (by omega)]
      refine ih (pre ++ [r]) m o2 (by rw [h1]; simp) (by simp at h2; omega) q2 (fun z => ?_) (by simp; omega)
      rw [q3, p3, h4, mem_ysOfR, mem_ysOfR]
      constructor
      · rintro (h | h | ⟨s, hs, h⟩)
        · exact ⟨r, by simp, .inr h⟩
        · exact ⟨r, by simp, .inl h⟩
        · exact ⟨s, by simp [hs], h⟩
      · rintro ⟨s, hs, h⟩
        rcases List.mem_append.1 hs with hs | hs
        · exact .inr (.inr ⟨s, hs, h⟩)
        · simp at hs; subst hs
          rcases h with h | h
          · exact .inr (.inl h)
          · exact .inl h
  exact key l [] N [] rfl (by omega) .nil (fun z => by simp [ysOfR]) (by simp)
theorem join2_loop {p0 pre : List (Int × Int)} (hl : p0.length ≤ 1000000000) (hpl : pre.length ≤ 1000000000) : ∀ (suf pre2 : List (Int × Int)) (m : Nat) (a b : Int), p0 = pre2 ++ suf → suf.length < m → F_etchhouseref1_joined_L2 (p0.map toSp) (pre.map toSp) m a b pre2.length = some ((pre ++ joinGo a b suf).map toSp)
  | [], pre2, m + 1, a, b, h1, _ => by
    have hc : cut (p0.map toSp) (pre2.length : Int) ((p0.map toSp).length : Int) = some [] := by
      unfold cut
      rw [h1, if_pos ⟨by omega, by simp, by omega⟩]; simp
    rw [F_etchhouseref1_joined_L2.eq_2, if_neg (by rw [h1]; simp), Option.bind_some, if_neg (by simp), apd_ok (by simp; omega), Option.bind_some, hc, Option.bind_some, apd_ok (by simp; omega), Option.bind_some]
    simp [joinGo, toSp]
  | q :: suf, pre2, m + 1, a, b, h1, h2 => by
    have hp2 : pre2.length ≤ 1000000000 := by rw [h1] at hl; simp at hl; omega
    have hm : p0.map toSp = pre2.map toSp ++ toSp q :: suf.map toSp := by rw [h1]; simp
    have hlen : pre2.length = (pre2.map toSp).length := by simp
    have hid : idx (p0.map toSp) (pre2.length : Int) = some (toSp q) := by rw [hm, hlen]; exact idx_mid _ _ _
    rw [F_etchhouseref1_joined_L2.eq_2, if_pos (by rw [h1]; simp; omega), hid, Option.bind_some, Option.bind_some]
    unfold joinGo
    by_cases hle : q.1 ≤ b
    · rw [if_pos (decide_eq_true (show (toSp q).from_ ≤ b from hle)), if_pos hle, Option.bind_some, Option.bind_some, up_mid pre2 q (by omega)]
      exact join2_loop hl hpl suf (pre2 ++ [q]) m _ _ (by rw [h1]; simp) (by simp at h2; omega)
    · have hc : cut (p0.map toSp) (pre2.length : Int) ((p0.map toSp).length : Int) = some ((q :: suf).map toSp) := by
        unfold cut
        rw [h1, if_pos ⟨by omega, by simp; omega, by omega⟩, Int.toNat_natCast, Int.toNat_natCast, List.take_length, List.map_append, show pre2.length = (pre2.map toSp).length by simp, List.drop_left]
      have hsl : suf.length ≤ 1000000000 := by rw [h1] at hl; simp at hl; omega
      rw [if_neg (show ¬ decide ((toSp q).from_ ≤ b) = true from by rw [decide_eq_true_eq]; exact hle), if_neg hle, apd_ok (by simp; omega), Option.bind_some, hc, Option.bind_some, apd_ok (by simp; omega), Option.bind_some]
      simp [toSp]
theorem join_loop {N : Nat} {p0 : List (Int × Int)} {p : Int × Int} (hN : 10000000000 ≤ N) (hl : p0.length ≤ 1000000000) : ∀ (suf pre : List (Int × Int)) (m : Nat), p0 = pre ++ suf → suf.length < m → F_etchhouseref1_joined_L1 N (p0.map toSp) (toSp p) m (pre.map toSp) pre.length = some ((pre ++ join1 suf p).map toSp)
  | [], pre, m + 1, h1, _ => by
    have hp2 : pre.length ≤ 1000000000 := by rw [h1] at hl; simp at hl; omega
    rw [F_etchhouseref1_joined_L1.eq_2, if_neg (by rw [h1]; simp), Option.bind_some, if_neg (by simp)]
    exact join2_loop hl hp2 [] pre N p.1 p.2 h1 (by simp; omega)
  | q :: suf, pre, m + 1, h1, h2 => by
    have hp2 : pre.length ≤ 1000000000 := by rw [h1] at hl; simp at hl; omega
    have hm : p0.map toSp = pre.map toSp ++ toSp q :: suf.map toSp := by rw [h1]; simp
    have hlen : pre.length = (pre.map toSp).length := by simp
    have hid : idx (p0.map toSp) (pre.length : Int) = some (toSp q) := by rw [hm, hlen]; exact idx_mid _ _ _
    rw [F_etchhouseref1_joined_L1.eq_2, if_pos (by rw [h1]; simp; omega), hid, Option.bind_some, Option.bind_some]
    unfold join1
    by_cases hlt : q.2 < p.1
    · rw [if_pos (decide_eq_true (show (toSp q).to_ < (toSp p).from_ from hlt)), if_pos hlt, Option.bind_some, apd_ok (by simp; omega), Option.bind_some, up_mid pre q (by omega)]
      have := join_loop (p := p) hN hl suf (pre ++ [q]) m (by rw [h1]; simp) (by simp at h2; omega)
      rw [show (pre.map toSp ++ [toSp q]) = (pre ++ [q]).map toSp by simp, this]
      simp
    · rw [if_neg (show ¬ decide ((toSp q).to_ < (toSp p).from_) = true from by rw [decide_eq_true_eq]; exact hlt), if_neg hlt]
      exact join2_loop hl hp2 (q :: suf) pre N p.1 p.2 h1 (by rw [h1] at hl; simp at hl ⊢; omega)
theorem joined_ok {N : Nat} {l : List (Int × Int)} {p : Int × Int} (hN : 10000000000 ≤ N) (hl : l.length ≤ 1000000000) : F_etchhouseref1_joined N (l.map toSp) (toSp p) = some ((join1 l p).map toSp) :=
  join_loop hN hl l [] N rfl (by omega)
theorem row_ok {N : Nat} {l : List TRect} {y : Int} (hN : 10000000000 ≤ N) (hl : l.length ≤ 100000000) : F_etchhouseref1_row N l y = some ((rowS l y).map toSp) := by
  have key : ∀ (suf pre : List TRect) (m : Nat) (out : List (Int × Int)), l = pre ++ suf → suf.length < m → out.length ≤ pre.length → F_etchhouseref1_row_L1 N l y m (out.map toSp) pre.length = some ((((suf.filter fun r => decide (r.Y0 ≤ y) && decide (y < r.Y1)).map xsR).foldl join1 out).map toSp) := by
    intro suf
    induction suf with
    | nil =>
      intro pre m out h1 h2 h3
      obtain ⟨m, rfl⟩ : ∃ k, m = k + 1 := ⟨m - 1, by omega⟩
      rw [F_etchhouseref1_row_L1.eq_2, if_neg (by rw [h1]; simp)]; rfl
    | cons r suf ih =>
      intro pre m out h1 h2 h3
      obtain ⟨m, rfl⟩ : ∃ k, m = k + 1 := ⟨m - 1, by omega⟩
      have hpl : pre.length + 1 ≤ 100000000 := by rw [h1] at hl; simp at hl; omega
      have hid : idx l (pre.length : Int) = some r := by rw [h1]; exact idx_mid pre suf r
      rw [F_etchhouseref1_row_L1.eq_2, if_pos (by rw [h1]; exact lt_mid pre suf r), hid, Option.bind_some, Option.bind_some, up_mid pre r (by omega), List.filter_cons]
      cases hc : (decide (r.Y0 ≤ y) && decide (y < r.Y1))
      · have hg : (if (decide (r.Y0 ≤ y)) then some (decide (y < r.Y1)) else some false) = some false := by
          cases h1 : decide (r.Y0 ≤ y)
          · rfl
          · rw [h1, Bool.true_and] at hc; rw [if_pos rfl, hc]
        rw [hg, Option.bind_some, if_neg (by simp), if_neg (by simp)]
        exact ih (pre ++ [r]) m out (by rw [h1]; simp) (by simp at h2; omega) (by simp; omega)
      · have hg : (if (decide (r.Y0 ≤ y)) then some (decide (y < r.Y1)) else some false) = some true := by
          rw [Bool.and_eq_true] at hc
          rw [if_pos hc.1, hc.2]
        have hj := joined_ok (N := N) (l := out) (p := xsR r) hN (by omega)
        rw [hg, Option.bind_some, if_pos rfl, if_pos rfl, Option.bind_some, Option.bind_some]
        show (F_etchhouseref1_joined N (out.map toSp) (toSp (xsR r))).bind _ = _
        rw [hj, Option.bind_some, List.map_cons, List.foldl_cons]
        have := join1_len out (xsR r)
        exact ih (pre ++ [r]) m _ (by rw [h1]; simp) (by simp at h2; omega) (by simp; omega)
  exact key l [] N [] rfl (by omega) (by simp)
theorem sameSpans_ok {N : Nat} {l m : List (Int × Int)} (hN : 10000000000 ≤ N) (hl : l.length ≤ 1000000000) : F_etchhouseref1_sameSpans N (l.map toSp) (m.map toSp) = some (decide (l = m)) := by
  have key : ∀ (s1 s2 p1 p2 : List (Int × Int)) (n : Nat), l = p1 ++ s1 → m = p2 ++ s2 → p1.length = p2.length → s1.length = s2.length → s1.length < n → F_etchhouseref1_sameSpans_L1 (l.map toSp) (m.map toSp) n p1.length = some (decide (s1 = s2)) := by
    intro s1
    induction s1 with
    | nil =>
      intro s2 p1 p2 n h1 h2 h3 h4 h5
      obtain ⟨n, rfl⟩ : ∃ k, n = k + 1 := ⟨n - 1, by omega⟩
      have : s2 = [] := List.eq_nil_of_length_eq_zero h4.symm
      subst this
      rw [F_etchhouseref1_sameSpans_L1.eq_2, if_neg (by rw [h1]; simp)]; rfl
    | cons q s1 ih =>
      intro s2 p1 p2 n h1 h2 h3 h4 h5
      obtain ⟨n, rfl⟩ : ∃ k, n = k + 1 := ⟨n - 1, by omega⟩
      cases s2 with
      | nil => simp at h4
      | cons q2 s2 =>
        have hp : p1.length ≤ 1000000000 := by rw [h1] at hl; simp at hl; omega
        have e1 : idx (l.map toSp) (p1.length : Int) = some (toSp q) := by
          rw [h1, List.map_append, List.map_cons, show p1.length = (p1.map toSp).length by simp]; exact idx_mid _ _ _
        have e2 : idx (m.map toSp) (p1.length : Int) = some (toSp q2) := by
          rw [h2, List.map_append, List.map_cons, h3, show p2.length = (p2.map toSp).length by simp]; exact idx_mid _ _ _
        rw [F_etchhouseref1_sameSpans_L1.eq_2, if_pos (by rw [h1]; simp; omega), e1, Option.bind_some, e2, Option.bind_some, up_mid p1 q (by omega)]
        by_cases hq : q = q2
        · subst hq
          rw [eqTSpan_iff.2 rfl, if_neg (by simp), ih s2 (p1 ++ [q]) (p2 ++ [q]) n (by rw [h1]; simp) (by rw [h2]; simp) (by simp; omega) (by simpa using h4) (by simp at h5; omega)]
          simp
        · have : eqTSpan (toSp q) (toSp q2) = false := by
            rw [Bool.eq_false_iff]
            intro h
            have := eqTSpan_iff.1 h
            unfold toSp at this
            injection this with a b
            exact hq (by obtain ⟨x, y⟩ := q; obtain ⟨z, w⟩ := q2; simp only at a b; rw [a, b])
          rw [this, if_pos (by simp)]
          simp [hq]
  unfold F_etchhouseref1_sameSpans
  by_cases h : l.length = m.length
  · rw [if_neg (by simp; omega)]
    exact key l m [] [] N rfl rfl rfl h (by omega)
  · rw [if_pos (by simp; omega)]
    have : l ≠ m := fun e => h (by rw [e])
    simp [this]
theorem stacked_ok {N : Nat} {l : List Bd} {b : Bd} (hN : 10000000000 ≤ N) (hl : l.length ≤ 1000000000) (hs : ∀ c ∈ l, c.2.2.length ≤ 1000000000) : F_etchhouseref1_stacked N (l.map toRB) (toRB b) = some ((pushB l b).map toRB) := by
  unfold F_etchhouseref1_stacked
  by_cases he : b.2.2 = []
  · rw [if_pos (by show (((b.2.2.map toSp).length : Int) == 0) = true; rw [he]; rfl), pushB_empty he]
  · have hpos : 0 < b.2.2.length := List.length_pos_iff.2 he
    rw [if_neg (by show ¬ (((b.2.2.map toSp).length : Int) == 0) = true; simp; exact he)]
    rcases List.eq_nil_or_concat l with rfl | ⟨j, c, h⟩
    · rw [pushB_nil he, if_neg (by simp), Option.bind_some, if_neg (by simp), Option.bind_some, if_neg (by simp)]
      rfl
    · rw [List.concat_eq_append] at h
      subst h
      simp only [List.length_append, List.length_singleton] at hl
      have hm : (j ++ [c]).map toRB = j.map toRB ++ toRB c :: [] := by simp
      have hw : w64 ((((j ++ [c]).map toRB).length : Int) - 1) = ((j.map toRB).length : Int) := by
        rw [w64_id (by first | (simp; done) | (simp; omega)) (by first | (simp; done) | (simp; omega))]; simp
      have hid : idx ((j ++ [c]).map toRB) ((j.map toRB).length : Int) = some (toRB c) := by rw [hm]; exact idx_mid _ [] _
      have hss := sameSpans_ok (N := N) (l := c.2.2) (m := b.2.2) hN (hs c (by simp))
      rw [pushB_snoc he, hw, if_pos (by first | (simp; done) | (simp; omega)), hid, Option.bind_some, Option.bind_some, Option.bind_some]
      by_cases h1 : c.2.1 = b.1
      · have e1 : ((toRB c).to_ == (toRB b).from_) = true := by simpa [toRB] using h1
        rw [e1, if_pos rfl]
        show (((F_etchhouseref1_sameSpans N (c.2.2.map toSp) (b.2.2.map toSp)).bind fun y110 => some y110).bind _) = _
        rw [hss, Option.bind_some, Option.bind_some]
        by_cases h2 : c.2.2 = b.2.2
        · rw [decide_eq_true h2, if_pos rfl, if_pos ⟨h1, h2⟩]
          have hset : sets ((j ++ [c]).map toRB) ((j.map toRB).length : Int) (Tetchhouseref1Band.mk (toRB c).from_ (toRB b).to_ (toRB c).spans) = some ((j ++ [(c.1, b.2.1, c.2.2)]).map toRB) := by
            unfold sets
            rw [if_pos ⟨by omega, by simp⟩, hm]
            simp [toRB]
          rw [Option.bind_some, hset]; rfl
        · rw [decide_eq_false h2, if_neg (by simp), if_neg (fun h => h2 h.2), apd_ok (by simp; omega), Option.bind_some]
          simp
      · have e1 : ((toRB c).to_ == (toRB b).from_) = false := by simpa [toRB] using h1
        rw [e1, if_neg (by simp), Option.bind_some, if_neg (by simp), if_neg (fun h => h1 h.1), apd_ok (by simp; omega), Option.bind_some]
        simp
end Go.Proofs.YtfdglihcpfpefaaGreat
