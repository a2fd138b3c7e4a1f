/- Scores: what the reference computes. Plain Lean about the plain functions. -/
import Derived.Test.YtfddmjoldoddlaaL2
import Derived.Test.YtfddmjoldoddlaaL3
namespace Go.Proofs.Ytfddmjoldoddlaa
theorem strict_uniq {l m : List Int} (hl : l.Pairwise fun x y => x < y) (hm : m.Pairwise fun x y => x < y) (h : ∀ x, x ∈ l ↔ x ∈ m) : l = m := by
  have hp : l.Perm m := (List.perm_ext_iff_of_nodup (hl.imp fun h => by omega) (hm.imp fun h => by omega)).2 h
  exact hp.eq_of_pairwise (fun a b _ _ h1 h2 => by omega) hl hm
/-- A number laid into a strictly ascending list. -/
theorem ins_ok {l : List Int} {x : Int} {k : Nat} (hs : l.Pairwise fun a b => a < b) (hA : ∀ a ∈ l.take k, a < x) (hB : ∀ b ∈ l.drop k, x < b) :
    ((l.take k ++ [x] ++ l.drop k).Pairwise fun a b => a < b) ∧ (∀ z, z ∈ l.take k ++ [x] ++ l.drop k ↔ z = x ∨ z ∈ l) := by
  refine ⟨?_, fun z => ?_⟩
  · rw [List.append_assoc, List.pairwise_append]
    refine ⟨hs.sublist (List.take_sublist _ _), ?_, fun a ha b hb => ?_⟩
    · show (x :: l.drop k).Pairwise _
      rw [List.pairwise_cons]
      exact ⟨hB, hs.sublist (List.drop_sublist _ _)⟩
    · have := hA a ha
      rcases List.mem_cons.1 (show b ∈ x :: l.drop k from hb) with rfl | hb
      · exact this
      · have := hB b hb; omega
  · rw [List.append_assoc, List.mem_append]
    show (z ∈ l.take k ∨ z ∈ x :: l.drop k) ↔ _
    rw [List.mem_cons]
    have : z ∈ l ↔ z ∈ l.take k ∨ z ∈ l.drop k := by
      rw [← List.mem_append, List.take_append_drop]
    rw [this]
    constructor
    · rintro (h | h | h)
      · exact .inr (.inl h)
      · exact .inl h
      · exact .inr (.inr h)
    · rintro (h | h | h)
      · exact .inr (.inl h)
      · exact .inl h
      · exact .inr (.inr h)
theorem number_loop {l : List Int} {x : Int} (hs : l.Pairwise fun a b => a < b) (hl : l.length ≤ 1000000000) : ∀ (k m : Nat), k < m → k ≤ l.length → (∀ b ∈ l.drop k, x < b) →
    ∃ l', F_etchhouseref9_number_L1 l x m (k : Int) = some l' ∧ (l'.Pairwise fun a b => a < b) ∧ (∀ z, z ∈ l' ↔ z = x ∨ z ∈ l) ∧ l'.length ≤ l.length + 1
  | k, 0, h, _, _ => absurd h (Nat.not_lt_zero _)
  | 0, m + 1, h1, h2, h3 => by
    have e3 : cut l ((0 : Nat) : Int) (l.length : Int) = some (l.drop 0) := by
      unfold cut
      rw [if_pos ⟨by omega, by omega, by omega⟩]; simp
    have e2 : pre l ((0 : Nat) : Int) = some (l.take 0) := by
      unfold pre
      rw [if_pos ⟨by omega, by omega⟩]; simp
    rw [F_etchhouseref9_number_L1.eq_2, if_neg (by simp), Option.bind_some, if_neg (by simp), if_neg (by simp), Option.bind_some, if_neg (by simp), e2, Option.bind_some, apd_ok (by simp), Option.bind_some, apd_ok (by simp), Option.bind_some, e3, Option.bind_some, apd_ok (by simp; omega), Option.bind_some, List.nil_append]
    obtain ⟨g1, g2⟩ := ins_ok (k := 0) hs (fun a ha => by simp at ha) h3
    exact ⟨_, rfl, g1, g2, by simp⟩
  | k + 1, m + 1, h1, h2, h3 => by
    have hk : k < l.length := by omega
    have hw : w64 (((k + 1 : Nat) : Int) - 1) = (k : Int) := by rw [w64_id (by omega) (by omega)]; omega
    rw [F_etchhouseref9_number_L1.eq_2, if_pos (by simp), hw, idx_nat hk, Option.bind_some, Option.bind_some]
    have hd : l.drop k = l[k] :: l.drop (k + 1) := List.drop_eq_getElem_cons hk
    by_cases hc : x < l[k]
    · rw [if_pos (by simpa using hc)]
      exact number_loop hs hl k m (by omega) (by omega) (fun b hb => by
        rw [hd] at hb
        rcases List.mem_cons.1 hb with rfl | hb
        · exact hc
        · exact h3 b hb)
    · rw [if_neg (by simpa using hc), if_pos (by simp), Option.bind_some, Option.bind_some]
      by_cases he : l[k] = x
      · rw [if_pos (by simpa using he)]
        exact ⟨l, rfl, hs, fun z => ⟨fun h => .inr h, fun h => by rcases h with rfl | h; exact he ▸ List.getElem_mem hk; exact h⟩, by omega⟩
      · rw [if_neg (by simpa using he)]
        have e2 : pre l ((k + 1 : Nat) : Int) = some (l.take (k + 1)) := by
          unfold pre
          rw [if_pos ⟨by omega, by omega⟩]; simp
        have e3 : cut l ((k + 1 : Nat) : Int) (l.length : Int) = some (l.drop (k + 1)) := by
          unfold cut
          rw [if_pos ⟨by omega, by omega, by omega⟩]; simp
        rw [e2, Option.bind_some, apd_ok (by simp; omega), Option.bind_some, apd_ok (by simp; omega), Option.bind_some, e3, Option.bind_some, apd_ok (by simp; omega), Option.bind_some, List.nil_append]
        obtain ⟨g1, g2⟩ := ins_ok (x := x) (k := k + 1) hs (fun a ha => by
          obtain ⟨i, hi, rfl⟩ := List.mem_iff_getElem.1 ha
          simp at hi
          simp only [List.getElem_take]
          rcases Nat.lt_or_ge i k with h | h
          · have := List.pairwise_iff_getElem.1 hs i k (by omega) hk h; omega
          · have : i = k := by omega
            subst this; omega) h3
        exact ⟨_, rfl, g1, g2, by simp; omega⟩
theorem number_ok {N : Nat} {l : List Int} {x : Int} (hs : l.Pairwise fun a b => a < b) (hl : l.length ≤ 1000000000) (hN : l.length < N) : ∃ l', F_etchhouseref9_number N l x = some l' ∧ (l'.Pairwise fun a b => a < b) ∧ (∀ z, z ∈ l' ↔ z = x ∨ z ∈ l) ∧ l'.length ≤ l.length + 1 :=
  number_loop hs hl l.length N hN (Nat.le_refl _) (fun b hb => by simp at hb)
theorem scores21 {N : Nat} {p0 : List TRect} {o : List Int} {x : Int} {K : List Int → Int → Option (List Int)} {z : Int} (hl : p0.length ≤ 1000000) : ∀ (suf pre : List TRect) (m : Nat) (t : Bool), p0 = pre ++ suf → suf.length < m →
    F_etchhouseref9_scores_L21 N p0 o x K z m t pre.length = if (!(t || crs (suf.map (al true)) z)) = true then (F_etchhouseref9_number N o z).bind fun y => K y (w64 (x + 1)) else K o (w64 (x + 1))
  | suf, pre, 0, _, _, h => absurd h (Nat.not_lt_zero _)
  | [], pre, m + 1, t, h1, h2 => by
    rw [F_etchhouseref9_scores_L21.eq_2, if_neg (by rw [h1]; simp)]
    simp [crs]
  | r :: suf, pre, m + 1, t, h1, h2 => by
    have hp : pre.length ≤ 1000000 := by rw [h1] at hl; simp at hl; omega
    have hid : idx p0 (pre.length : Int) = some r := by rw [h1]; exact idx_mid pre suf r
    rw [F_etchhouseref9_scores_L21.eq_2, if_pos (by rw [h1]; exact lt_mid pre suf r), hid]
    have e1 : (if t = true then some true else ((some r).bind fun x231 => (if (decide (x231.Y0 < z)) = true then (some r).bind fun x234 => some (decide (z < x234.Y1)) else some false).bind fun g233 => some g233)) = some (t || (decide (r.Y0 < z) && decide (z < r.Y1))) := by
      cases t
      · simp only [Bool.false_eq_true, if_false, Option.bind_some, Bool.false_or]
        by_cases hh : r.Y0 < z
        · simp [hh]
        · simp [hh]
      · rfl
    rw [e1, Option.bind_some, up_mid pre r (by omega), scores21 hl suf (pre ++ [r]) m _ (by rw [h1]; simp) (by simp at h2; omega)]
    have a1 : crs ((r :: suf).map (al true)) z = ((decide (r.Y0 < z) && decide (z < r.Y1)) || crs (suf.map (al true)) z) := by simp [crs, al]
    rw [a1, Bool.or_assoc]
theorem scores15 {N : Nat} {p0 : List TRect} (hl : p0.length ≤ 1000000) (hN : 2 * p0.length + 3 < N) : ∀ (suf pre : List TRect) (m : Nat) (o : List Int), p0 = pre ++ suf → suf.length < m → (o.Pairwise fun a b => a < b) → (∀ z, z ∈ o ↔ z ∈ ends pre true ∧ crs (p0.map (al true)) z = false) → o.length ≤ 2 * pre.length →
    ∃ o', F_etchhouseref9_scores_L15 N p0 m o pre.length = some o' ∧ (o'.Pairwise fun a b => a < b) ∧ (∀ z, z ∈ o' ↔ z ∈ ends p0 true ∧ crs (p0.map (al true)) z = false)
  | suf, pre, 0, _, _, h, _, _, _ => absurd h (Nat.not_lt_zero _)
  | [], pre, m + 1, o, h1, h2, h3, h4, h5 => by
    rw [F_etchhouseref9_scores_L15.eq_2, if_neg (by rw [h1]; simp)]
    refine ⟨o, rfl, h3, fun z => ?_⟩
    rw [h4, show p0 = pre by rw [h1]; simp]
  | r :: suf, pre, m + 1, o, h1, h2, h3, h4, h5 => by
    have hp : pre.length + 1 ≤ p0.length := by rw [h1]; simp
    have hid : idx p0 (pre.length : Int) = some r := by rw [h1]; exact idx_mid pre suf r
    -- one number more
    have step : ∀ (o : List Int) (z : Int) (S : Int → Prop), (o.Pairwise fun a b => a < b) → (∀ y, y ∈ o ↔ S y ∧ crs (p0.map (al true)) y = false) → o.length ≤ 2 * p0.length + 1 →
        ∃ o', (∀ (x : Int) (K : List Int → Int → Option (List Int)), F_etchhouseref9_scores_J22 N p0 o x K z = K o' (w64 (x + 1))) ∧ (o'.Pairwise fun a b => a < b) ∧ (∀ y, y ∈ o' ↔ (S y ∨ y = z) ∧ crs (p0.map (al true)) y = false) ∧ o'.length ≤ o.length + 1 := by
      intro o z S g1 g2 g3
      have e : ∀ (x : Int) (K : List Int → Int → Option (List Int)), F_etchhouseref9_scores_J22 N p0 o x K z = if (!(false || crs (p0.map (al true)) z)) = true then (F_etchhouseref9_number N o z).bind fun y => K y (w64 (x + 1)) else K o (w64 (x + 1)) := fun x K => by
        unfold F_etchhouseref9_scores_J22
        exact scores21 hl p0 [] N false rfl (by omega)
      cases hc : crs (p0.map (al true)) z with
      | true =>
        refine ⟨o, fun x K => ?_, g1, fun y => ?_, by omega⟩
        · rw [e, hc]; simp
        · rw [g2]
          constructor
          · rintro ⟨a, b⟩; exact ⟨.inl a, b⟩
          · rintro ⟨a | a, b⟩
            · exact ⟨a, b⟩
            · subst a; rw [hc] at b; cases b
      | false =>
        obtain ⟨o', n1, n2, n3, n4⟩ := number_ok (N := N) (x := z) g1 (by omega) (by omega)
        refine ⟨o', fun x K => ?_, n2, fun y => ?_, n4⟩
        · rw [e, hc, n1]; simp
        · rw [n3, g2]
          constructor
          · rintro (rfl | ⟨a, b⟩)
            · exact ⟨.inr rfl, hc⟩
            · exact ⟨.inl a, b⟩
          · rintro ⟨a | a, b⟩
            · exact .inr ⟨a, b⟩
            · exact .inl a
    obtain ⟨o1, a1, a2, a3, a4⟩ := step o r.Y0 (fun y => y ∈ ends pre true) h3 h4 (by omega)
    obtain ⟨o2, b1, b2, b3, b4⟩ := step o1 r.Y1 (fun y => y ∈ ends pre true ∨ y = r.Y0) a2 a3 (by omega)
    have w1 : w64 (0 + 1) = 1 := rfl
    have w2 : w64 (1 + 1) = 2 := rfl
    obtain ⟨n, rfl⟩ : ∃ n, N = n + 3 := ⟨N - 3, by omega⟩
    rw [F_etchhouseref9_scores_L15.eq_2, if_pos (by rw [h1]; exact lt_mid pre suf r), F_etchhouseref9_scores_L20.eq_2, if_pos (by decide), hid, Option.bind_some, if_neg (by decide), a1, w1,
      F_etchhouseref9_scores_L20.eq_2, if_pos (by decide), hid, Option.bind_some, if_pos (by decide), Option.bind_some, b1, w2, F_etchhouseref9_scores_L20.eq_2, if_neg (by decide), up_mid pre r (by omega)]
    refine scores15 hl hN suf (pre ++ [r]) m o2 (by rw [h1]; simp) (by simp at h2; omega) b2 (fun z => ?_) (by simp; omega)
    rw [b3]
    have : z ∈ ends (pre ++ [r]) true ↔ (z ∈ ends pre true ∨ z = r.Y0) ∨ z = r.Y1 := by
      unfold ends
      simp [al, or_assoc]
    rw [this]
theorem scoresR_ok {N : Nat} {l : List TRect} (hl : l.length ≤ 1000000) (hN : 2 * l.length + 3 < N) : F_etchhouseref9_scores N l = some (scP l true) := by
  obtain ⟨o', h1, h2, h3⟩ := scores15 hl hN l [] N [] rfl (by omega) .nil (fun z => by simp [ends]) (by simp)
  unfold F_etchhouseref9_scores
  rw [show (([] : List TRect).length : Int) = 0 from rfl] at h1
  rw [h1]
  congr 1
  refine strict_uniq h2 ((srtd_strict _).sublist List.filter_sublist) fun z => ?_
  rw [h3]
  unfold scP
  rw [List.mem_filter, srtd_mem]
  simp
theorem scP_trn (l : List TRect) : scP (l.map trn) true = scP l false := by
  unfold scP
  rw [al_trn]
  have : ends (l.map trn) true = ends l false := by
    unfold ends
    rw [List.flatMap_map]; rfl
  rw [this]
theorem scoresR3 {p : TPanel} {ys : List Int} (hl : ys.length ≤ 1000000) : ∀ (suf pre : List Int) (m : Nat) (o : List TCut), ys = pre ++ suf → suf.length < m → o.length ≤ 1000000 + pre.length →
    F_etchhouseref9_Scores_L3 p ys m o pre.length = some (o ++ suf.map (TCut.mk (wholeP p) false), 0)
  | suf, pre, 0, _, _, h, _ => absurd h (Nat.not_lt_zero _)
  | [], pre, m + 1, o, h1, h2, _ => by
    rw [F_etchhouseref9_Scores_L3.eq_2, if_neg (by rw [h1]; simp)]
    simp
  | z :: suf, pre, m + 1, o, h1, h2, h3 => by
    have hp : pre.length ≤ 1000000 := by rw [h1] at hl; simp at hl; omega
    have hid : idx ys (pre.length : Int) = some z := by rw [h1]; exact idx_mid pre suf z
    rw [F_etchhouseref9_Scores_L3.eq_2, if_pos (by rw [h1]; exact lt_mid pre suf z), hid, Option.bind_some, apd_ok (by simp; omega), Option.bind_some, up_mid pre z (by omega), scoresR3 hl suf (pre ++ [z]) m _ (by rw [h1]; simp) (by simp at h2; omega) (by simp; omega)]
    simp [wholeP]
theorem scoresR2 {N : Nat} {p : TPanel} {ys xs : List Int} (hl : ys.length ≤ 1000000) (hx : xs.length ≤ 1000000) (hN : xs.length < N) : ∀ (suf pre : List Int) (m : Nat) (o : List TCut), ys = pre ++ suf → suf.length < m → o.length ≤ pre.length →
    F_etchhouseref9_Scores_L2 N p ys xs m o pre.length = some (o ++ suf.map (TCut.mk (wholeP p) true) ++ xs.map (TCut.mk (wholeP p) false), 0)
  | suf, pre, 0, _, _, h, _ => absurd h (Nat.not_lt_zero _)
  | [], pre, m + 1, o, h1, h2, h3 => by
    rw [F_etchhouseref9_Scores_L2.eq_2, if_neg (by rw [h1]; simp)]
    have := scoresR3 (p := p) hx xs [] N o rfl hN (by rw [h1] at hl; simp at hl; simp; omega)
    rw [show (([] : List Int).length : Int) = 0 from rfl] at this
    rw [this]; simp
  | z :: suf, pre, m + 1, o, h1, h2, h3 => by
    have hp : pre.length ≤ 1000000 := by rw [h1] at hl; simp at hl; omega
    have hid : idx ys (pre.length : Int) = some z := by rw [h1]; exact idx_mid pre suf z
    rw [F_etchhouseref9_Scores_L2.eq_2, if_pos (by rw [h1]; exact lt_mid pre suf z), hid, Option.bind_some, apd_ok (by simp; omega), Option.bind_some, up_mid pre z (by omega), scoresR2 hl hx hN suf (pre ++ [z]) m _ (by rw [h1]; simp) (by simp at h2; omega) (by simp; omega)]
    simp [wholeP]
theorem scoresR1 {N : Nat} {p : TPanel} {l : List TRect} (hl : l.length ≤ 1000000) : ∀ (suf pre : List TRect) (m : Nat), l = pre ++ suf → suf.length < m →
    F_etchhouseref9_Scores_L1 N p l m (pre.map trn) pre.length = (F_etchhouseref9_scores N l).bind fun y125 => (F_etchhouseref9_scores N (l.map trn)).bind fun y127 => F_etchhouseref9_Scores_L2 N p y125 y127 N ([] : List TCut) 0
  | suf, pre, 0, _, h => absurd h (Nat.not_lt_zero _)
  | [], pre, m + 1, h1, h2 => by
    rw [F_etchhouseref9_Scores_L1.eq_2, if_neg (by rw [h1]; simp)]
    rw [h1, List.append_nil]
  | r :: suf, pre, m + 1, h1, h2 => by
    have hp : pre.length ≤ 1000000 := by rw [h1] at hl; simp at hl; omega
    have hid : idx l (pre.length : Int) = some r := by rw [h1]; exact idx_mid pre suf r
    have e : F_etchhouseref9_turned r = some (trn r) := rfl
    rw [F_etchhouseref9_Scores_L1.eq_2, if_pos (by rw [h1]; exact lt_mid pre suf r), hid, Option.bind_some, e, Option.bind_some, apd_ok (by simp; omega), Option.bind_some, up_mid pre r (by omega)]
    have := scoresR1 (N := N) (p := p) hl suf (pre ++ [r]) m (by rw [h1]; simp) (by simp at h2; omega)
    rw [← this]; simp
theorem cellsR_ok {N : Nat} {p : TPanel} (hB : PB p) (hsl : p.Slots.length ≤ 500) (hs : ∀ s ∈ p.Slots, SlotOk p s) (hN : 600 ≤ N) : F_etchhouseref9_cells N p = some (p.Slots.map (cellOf p)) := by
  have key : ∀ (suf pre : List TSlot) (n : Nat), p.Slots = pre ++ suf → suf.length < n → F_etchhouseref9_cells_L1 N p n (pre.map (cellOf p)) pre.length = some (p.Slots.map (cellOf p)) := by
    intro suf
    induction suf with
    | nil =>
      intro pre n h1 h2
      obtain ⟨n, rfl⟩ : ∃ m, n = m + 1 := ⟨n - 1, by omega⟩
      rw [F_etchhouseref9_cells_L1.eq_2, if_neg (by rw [h1]; simp), h1]; simp
    | cons s suf ih =>
      intro pre n h1 h2
      obtain ⟨n, rfl⟩ : ∃ m, n = m + 1 := ⟨n - 1, by omega⟩
      have hkl := hB.klen
      have hsk := hs s (by rw [h1]; simp)
      have hl : pre.length ≤ 500 := by rw [h1] at hsl; simp at hsl; omega
      have hid : idx p.Slots (pre.length : Int) = some s := by rw [h1]; exact idx_mid pre suf s
      rw [F_etchhouseref9_cells_L1.eq_2, if_pos (by rw [h1]; exact lt_mid pre suf s), hid, Option.bind_some, cellOfR_ok hB (by omega) hsk.kind (hsk.bd hB).1 (hsk.bd hB).2.1, Option.bind_some, apd_ok (by simp; omega), Option.bind_some, up_mid pre s (by omega)]
      have := ih (pre ++ [s]) n (by rw [h1]; simp) (by simp at h2; omega)
      simpa using this
  exact key p.Slots [] N rfl (by omega)
theorem ScoresR_ok {N : Nat} {p : TPanel} (hN : 2000 ≤ N) (hk : p.Kinds.length < N) (hn : ∀ k ∈ p.Kinds, k.Name.size ≤ 9223372036854775807 ∧ k.Name.size < N) :
    F_etchhouseref9_Scores N p = some (if openErr p = 0 then (scT p (p.Slots.map (cellOf p)), 0) else ([], openErr p)) := by
  unfold F_etchhouseref9_Scores
  rw [checkPanel_ok (by omega) hk hn, Option.bind_some]
  by_cases he : openErr p = 0
  · obtain ⟨hB, hl, _, hs⟩ := openErr_ok he
    have l0 : (p.Slots.map (cellOf p)).length ≤ 500 := by simp; omega
    have l1 := scP_len (p.Slots.map (cellOf p)) true
    have l2 := scP_len (p.Slots.map (cellOf p)) false
    rw [if_neg (by simpa using he), if_pos he, cellsR_ok hB hl hs (by omega), Option.bind_some]
    have := scoresR1 (N := N) (p := p) (l := p.Slots.map (cellOf p)) (by omega) (p.Slots.map (cellOf p)) [] N rfl (by omega)
    rw [List.map_nil, show (([] : List TRect).length : Int) = 0 from rfl] at this
    rw [this, scoresR_ok (by omega) (by omega), Option.bind_some, scoresR_ok (by rw [List.length_map]; omega) (by rw [List.length_map]; omega), Option.bind_some, scP_trn]
    have h2 := scoresR2 (N := N) (p := p) (ys := scP (p.Slots.map (cellOf p)) true) (xs := scP (p.Slots.map (cellOf p)) false) (by omega) (by omega) (by omega) (scP (p.Slots.map (cellOf p)) true) [] N [] rfl (by omega) (by simp)
    rw [show (([] : List Int).length : Int) = 0 from rfl] at h2
    rw [h2]
    rfl
  · rw [if_pos (by simpa using he), if_neg he]
theorem CutsR_ok {N : Nat} {p : TPanel} (hN : 2000 ≤ N) (hk : p.Kinds.length < N) (hn : ∀ k ∈ p.Kinds, k.Name.size ≤ 9223372036854775807 ∧ k.Name.size < N) :
    F_etchhouseref9_Cuts N p = some (if openErr p = 0 then ((cutS p.Slots.length (wholeP p) (p.Slots.map (cellOf p))).1, (cutS p.Slots.length (wholeP p) (p.Slots.map (cellOf p))).2, 0) else ([], false, openErr p)) := by
  unfold F_etchhouseref9_Cuts
  rw [checkPanel_ok (by omega) hk hn, Option.bind_some]
  by_cases he : openErr p = 0
  · obtain ⟨hB, hl, _, hs⟩ := openErr_ok he
    rw [if_neg (by simpa using he), if_pos he, cellsR_ok hB hl hs (by omega), Option.bind_some]
    have := cutR_ok p.Slots.length (wholeP p) (p.Slots.map (cellOf p)) N (by simp) (by simp; omega) (by simp; omega) (fun r hr => by
      obtain ⟨s, h1, rfl⟩ := List.mem_map.1 hr
      have := (hs s h1).bd hB
      exact ⟨this.2.2.2.1, this.2.2.2.2.1⟩)
    unfold wholeP at this ⊢
    rw [this, Option.bind_some]
  · rw [if_pos (by simpa using he), if_neg he]
end Go.Proofs.Ytfddmjoldoddlaa
