/- Marks of a panel and how it lies: the law that program and reference agree. Plain Lean about the plain functions. -/
import Derived.Test.YtgabfobigjmckaaM1
namespace Go.Proofs.Ytgabfobigjmckaa
theorem marksErr_ok {p : TPanel} (hB : PB p) : ∀ (suf prev : List TPoint), marksErr p prev suf = 0 → prev.Nodup → (∀ q ∈ suf, Near q) ∧ (prev ++ suf).Nodup
  | [], prev, _, h => ⟨fun q h => by simp at h, by simpa using h⟩
  | m :: suf, prev, h, hn => by
    unfold marksErr at h
    split at h
    · rename_i h0
      unfold markErr at h0
      split at h0
      · omega
      · rename_i hw
        split at h0
        · omega
        · split at h0
          · omega
          · rename_i hm
            have hw' : within m.X 0 p.W = true ∧ within m.Y 0 p.H = true := by
              refine ⟨?_, ?_⟩
              · cases hx : within m.X 0 p.W
                · exact absurd (Or.inl hx) hw
                · rfl
              · cases hy : within m.Y 0 p.H
                · exact absurd (Or.inr hy) hw
                · rfl
            have hnd : (prev ++ [m]).Nodup := by
              rw [List.nodup_append]
              exact ⟨hn, by simp, fun a ha b hb => by simp at hb; subst hb; exact fun e => hm (e ▸ ha)⟩
            obtain ⟨i1, i2⟩ := marksErr_ok hB suf (prev ++ [m]) h hnd
            have hb1 := hB.w1; have hb2 := hB.h1
            obtain ⟨w1, w2⟩ := hw'
            rw [within_iff] at w1 w2
            refine ⟨fun q hq => ?_, by simpa using i2⟩
            rcases List.mem_cons.1 hq with rfl | hq
            · exact ⟨by omega, by omega⟩
            · exact i1 q hq
    · rename_i h0; exact absurd h h0
theorem marks_ok {p : TPanel} (h : openErr p = 0) : (∀ q ∈ p.Marks, Near q) ∧ p.Marks.Nodup := by
  have hB := (openErr_ok h).1
  unfold openErr at h
  split at h
  · omega
  · split at h
    · split at h
      · split at h
        · omega
        · simpa using marksErr_ok hB p.Marks [] h (by simp)
      · rename_i hc; exact absurd h hc
    · rename_i hk; exact absurd h hk
def nearB (q : TPoint) : Bool := within q.X (-1000000) 1000000 && within q.Y (-1000000) 1000000
theorem nearB_iff {q : TPoint} : nearB q = true ↔ Near q := by
  unfold nearB Near
  rw [Bool.and_eq_true, within_iff, within_iff]
theorem IsPoint_ok (q : TPoint) : F_shape_IsPoint q = some (nearB q) := by
  unfold F_shape_IsPoint F_shape_IsAt F_shape_within nearB within
  simp only [Option.bind_some]
  cases decide (-1000000 ≤ q.X) && decide (q.X ≤ 1000000) <;> rfl
theorem IsPointR_ok (q : TPoint) : F_etchhouseref1_IsPoint q = some (nearB q) := IsPoint_ok q
theorem chk_same (t : TTurn) : F_etchhouseref1_CheckTurn t = F_shape_CheckTurn t := rfl
theorem chk_ok (t : TTurn) : F_shape_CheckTurn t = some (if within t.Quarters 0 3 && nearB t.At then 0 else 1) := by
  unfold F_shape_CheckTurn
  rw [IsPoint_ok]
  unfold F_shape_within within
  simp only [Option.bind_some]
  cases decide (0 ≤ t.Quarters) && decide (t.Quarters ≤ 3) <;> cases nearB t.At <;> rfl
theorem GoodMarks_ok {N : Nat} {p : TPanel} (h : FuelP N p) : ∃ g e, F_panel_GoodMarks N p = some (g, e) ∧ F_etchhouseref9_GoodMarks N p = some (g, e) := by
  have hbig := h.big
  unfold F_panel_GoodMarks F_etchhouseref9_GoodMarks
  rw [checkPanelP_ok h, Option.bind_some, checkPanel_ok (by omega) h.kinds h.names, Option.bind_some]
  by_cases he : openErr p = 0
  · obtain ⟨hB, _, hml, _⟩ := openErr_ok he
    obtain ⟨hm, _⟩ := marks_ok he
    have hne : (openErr p != 0) = false := by simp [he]
    simp only [hne, Bool.false_eq_true, if_false]
    by_cases h2 : 2 ≤ p.Marks.length
    · obtain ⟨a, ha⟩ : ∃ a, idx p.Marks 0 = some a := ⟨_, idx_nat (l := p.Marks) (i := 0) (by omega)⟩
      have hna : Near a := hm a (List.mem_of_getElem? (idx_some ha).2.2)
      obtain ⟨m0, m1, m2, m3, e1, s0, s1, s2, s3⟩ := turns_ok (N := N) (by omega) ha hm hm (by omega) hna
      have e2 := turnsR_ok (N := N) (by omega) ha hm hm (by omega) (by omega) hna rfl
      have hlen : (m0 ++ m1 ++ m2 ++ m3).length = (grp 0 a p.Marks p.Marks ++ grp 1 a p.Marks p.Marks ++ grp 2 a p.Marks p.Marks ++ grp 3 a p.Marks p.Marks).length := by
        simp [s0.1.length_eq, s1.1.length_eq, s2.1.length_eq, s3.1.length_eq]
      rw [if_pos (by simp; omega), if_pos (by simp; omega), e1, e2, Option.bind_some, Option.bind_some, hlen]
      exact ⟨_, _, rfl, rfl⟩
    · rw [if_neg (by simp; omega), if_neg (by simp; omega)]
      exact ⟨_, _, rfl, rfl⟩
  · have hne : (openErr p != 0) = true := by simpa using he
    simp only [hne, if_true]
    exact ⟨_, _, rfl, rfl⟩
/-- The first of the program's turns is the least of the reference's first quarters. -/
def HeadOk (P R : List TTurn) : Prop := (P = [] ∧ R = []) ∨ ∃ h hs t ts, P = h :: hs ∧ R = t :: ts ∧ h.Quarters = t.Quarters ∧ h ∈ R ∧ ∀ x ∈ R, x.Quarters = t.Quarters → ltT x h = false
theorem HeadOk.step {m g P R : List TTurn} {q : Int} (hs : Sorted m g) (hq : ∀ t ∈ g, t.Quarters = q) (hR : ∀ t ∈ R, t.Quarters ≠ q) (h : HeadOk P R) : HeadOk (m ++ P) (g ++ R) := by
  obtain ⟨hp, hw⟩ := hs
  cases g with
  | nil =>
    have : m = [] := List.eq_nil_of_length_eq_zero hp.length_eq
    subst this
    exact h
  | cons t ts =>
    cases m with
    | nil => have := hp.length_eq; simp at this
    | cons b hs =>
      have hb : b ∈ t :: ts := hp.subset (by simp)
      refine .inr ⟨b, hs ++ P, t, ts ++ R, rfl, rfl, by rw [hq b hb, hq t (by simp)], List.mem_append_left _ hb, fun x hx hxq => ?_⟩
      rcases List.mem_append.1 hx with hx | hx
      · have hxm : x ∈ b :: hs := hp.symm.subset hx
        rcases List.mem_cons.1 hxm with rfl | hxm
        · unfold ltT; simp
        · exact (List.pairwise_cons.1 hw).1 x hxm
      · exact absurd (hxq.trans (hq t (by simp))) (hR x hx)
section
variable {N : Nat} {l to : List TPoint} {a : TPoint} (hN : 5000 ≤ N) (hla : idx l 0 = some a) (hl : ∀ q ∈ l, Near q) (hto : ∀ x ∈ to, Near x) (hl1 : l.length ≤ 1000) (hto1 : to.length ≤ 1000)
include hN hla hl hto hl1 hto1
theorem heads_ok (hlen : l.length = to.length) : ∃ P R, F_panel_turns N l to = some P ∧ F_etchhouseref9_turns N l to = some R ∧ HeadOk P R ∧ (∀ t ∈ R, TOk t) ∧ R.length ≤ 4000 ∧ R = grp 0 a l to ++ grp 1 a l to ++ grp 2 a l to ++ grp 3 a l to := by
  have ha : Near a := hl a (List.mem_of_getElem? (idx_some hla).2.2)
  obtain ⟨m0, m1, m2, m3, e1, s0, s1, s2, s3⟩ := turns_ok (N := N) (by omega) hla hl hto hto1 ha
  have e2 := turnsR_ok (N := N) (by omega) hla hl hto hl1 hto1 ha hlen
  have q0 : ∀ t ∈ grp 0 a l to, TOk t ∧ t.Quarters = 0 := fun t h => grp_mem (by omega) ha hto h
  have q1 : ∀ t ∈ grp 1 a l to, TOk t ∧ t.Quarters = 1 := fun t h => grp_mem (by omega) ha hto h
  have q2 : ∀ t ∈ grp 2 a l to, TOk t ∧ t.Quarters = 2 := fun t h => grp_mem (by omega) ha hto h
  have q3 : ∀ t ∈ grp 3 a l to, TOk t ∧ t.Quarters = 3 := fun t h => grp_mem (by omega) ha hto h
  have h3 : HeadOk (m3 ++ []) (grp 3 a l to ++ []) := HeadOk.step (q := 3) s3 (fun t h => (q3 t h).2) (by simp) (.inl ⟨rfl, rfl⟩)
  rw [List.append_nil, List.append_nil] at h3
  have h2 := HeadOk.step (q := 2) s2 (fun t h => (q2 t h).2) (fun t h => by rw [(q3 t h).2]; decide) h3
  have h1 := HeadOk.step (q := 1) s1 (fun t h => (q1 t h).2) (fun t h => by
    rcases List.mem_append.1 h with h | h
    · rw [(q2 t h).2]; decide
    · rw [(q3 t h).2]; decide) h2
  have h0 := HeadOk.step (q := 0) s0 (fun t h => (q0 t h).2) (fun t h => by
    rcases List.mem_append.1 h with h | h
    · rw [(q1 t h).2]; decide
    · rcases List.mem_append.1 h with h | h
      · rw [(q2 t h).2]; decide
      · rw [(q3 t h).2]; decide) h1
  have hg : ∀ (q : Int), (grp q a l to).length ≤ 1000 := fun q => by
    unfold grp
    exact Nat.le_trans (List.length_filter_le _ _) (by simpa using hto1)
  refine ⟨_, _, e1, e2, by simpa [List.append_assoc] using h0, fun t ht => ?_, by have := hg 0; have := hg 1; have := hg 2; have := hg 3; simp; omega, rfl⟩
  rcases List.mem_append.1 ht with ht | ht
  · rcases List.mem_append.1 ht with ht | ht
    · rcases List.mem_append.1 ht with ht | ht
      · exact (q0 t ht).1
      · exact (q1 t ht).1
    · exact (q2 t ht).1
  · exact (q3 t ht).1
end
/-- The reference's search for the least. -/
theorem best_loop {y : List TTurn} (hy : y.length ≤ 4000) : ∀ (r m i : Nat) (b : TTurn), i + r = y.length → r < m → b ∈ y → (∀ x ∈ y.take i, x.Quarters = b.Quarters → ltT x b = false) →
    ∃ b', F_etchhouseref9_Lie_L5 y m b.Flip b.Quarters b.At.X b.At.Y i = ((F_shape_CheckTurn b').bind fun e => if (e != 0) then some ((TTurn.mk false 0 (TPoint.mk 0 0)), false, e) else some (b', true, 0)) ∧ b' ∈ y ∧ b'.Quarters = b.Quarters ∧ ∀ x ∈ y, x.Quarters = b.Quarters → ltT x b' = false
  | 0, m + 1, i, b, h1, _, hb, hx => by
    rw [F_etchhouseref9_Lie_L5.eq_2, if_neg (by simp; omega)]
    exact ⟨b, rfl, hb, rfl, fun x hxm => hx x (by rw [List.take_of_length_le (by omega)]; exact hxm)⟩
  | r + 1, m + 1, i, b, h1, h2, hb, hx => by
    have hlt : i < y.length := by omega
    have htake : ∀ x ∈ y.take (i + 1), x ∈ y.take i ∨ x = y[i] := fun x h => by
      rw [List.take_succ_eq_append_getElem hlt] at h
      rcases List.mem_append.1 h with h | h
      · exact .inl h
      · exact .inr (by simpa using h)
    rw [F_etchhouseref9_Lie_L5.eq_2, if_pos (by simp; omega), idx_nat hlt, Option.bind_some, w64_id (x := (i : Int) + 1) (by omega) (by omega)]
    by_cases hc : y[i].Quarters = b.Quarters ∧ ltT y[i] b = true
    · obtain ⟨hq, hlt'⟩ := hc
      rw [if_pos (by simp [hq]; unfold ltT at hlt'; simpa using hlt')]
      obtain ⟨b', e1, e2, e3, e4⟩ := best_loop hy r m (i + 1) y[i] (by omega) (by omega) (List.getElem_mem hlt) (fun x hxm hxq => by
        rcases htake x hxm with h | rfl
        · have := hx x h (by rw [hxq, hq])
          unfold ltT at *; simp at *; omega
        · unfold ltT; simp)
      rw [Int.natCast_succ] at e1
      exact ⟨b', e1, e2, e3.trans hq, fun x hxm hxq => e4 x hxm (hxq.trans hq.symm)⟩
    · rw [if_neg (by
        intro h; simp at h
        exact hc ⟨h.1, by unfold ltT; simpa using h.2⟩)]
      obtain ⟨b', e1, e2, e3, e4⟩ := best_loop hy r m (i + 1) b (by omega) (by omega) hb (fun x hxm hxq => by
        rcases htake x hxm with h | rfl
        · exact hx x h hxq
        · cases hb' : ltT y[i] b
          · rfl
          · exact absurd ⟨hxq, hb'⟩ hc)
      rw [Int.natCast_succ] at e1
      exact ⟨b', e1, e2, e3, e4⟩
def zT : TTurn := ⟨false, 0, ⟨0, 0⟩⟩
/-- What is seen: its error. -/
def seenErr : List TPoint → List TPoint → Int
  | _, [] => 0
  | prev, x :: suf => if nearB x = false then 1 else if x ∈ prev then 7 else seenErr (prev ++ [x]) suf
theorem seenErr_cons (prev : List TPoint) (x : TPoint) (suf : List TPoint) : seenErr prev (x :: suf) = if nearB x = false then 1 else if x ∈ prev then 7 else seenErr (prev ++ [x]) suf := rfl
theorem seenErr_ok : ∀ (suf prev : List TPoint), seenErr prev suf = 0 → ∀ x ∈ suf, Near x
  | [], _, _, x, h => by simp at h
  | y :: suf, prev, h, x, hx => by
    unfold seenErr at h
    split at h
    · omega
    · rename_i hn
      split at h
      · omega
      · rcases List.mem_cons.1 hx with rfl | hx
        · exact nearB_iff.1 (by simpa using hn)
        · exact seenErr_ok suf _ h x hx
section
variable {N : Nat} {p : TPanel} {seen : List TPoint} {r : TTurn × Bool × Int} (hN : 5000 ≤ N) (hlen : seen.length ≤ 10)
include hlen
omit hlen in
theorem lie_loop (hend : seenErr [] seen = 0 → F_panel_Lie_L1 N p seen [] seen.length = some r) : ∀ (suf prev : List TPoint), seen = prev ++ suf → (seenErr [] seen = seenErr prev suf) →
    F_panel_Lie_L1 N p seen suf prev.length = if seenErr [] seen = 0 then some r else some (zT, false, seenErr [] seen)
  | [], prev, hs, he => by
    have h0 : seenErr [] seen = 0 := he
    rw [if_pos h0]
    have := hend h0
    rw [show prev = seen by rw [hs]; simp]
    exact this
  | x :: suf, prev, hs, he => by
    have hpre : Proofs.Ytgabfobigjmckaa.pre seen (prev.length : Int) = some prev := by
      unfold Proofs.Ytgabfobigjmckaa.pre
      rw [hs, if_pos ⟨by omega, by simp; omega⟩]; simp
    rw [F_panel_Lie_L1.eq_2, IsPoint_ok, Option.bind_some, hpre, Option.bind_some, ContainsP_ok, Option.bind_some, he, seenErr_cons]
    cases hn : nearB x
    · simp [zT]
    · by_cases hm : x ∈ prev
      · simp [hm, zT]
      · have ih := lie_loop hend suf (prev ++ [x]) (by rw [hs]; simp) (by rw [he, seenErr_cons]; simp [hn, hm])
        rw [show (prev ++ [x]).length = prev.length + 1 by simp, he, seenErr_cons] at ih
        simp [hn, hm] at ih ⊢
        exact ih
include hN
omit hN in
theorem lieR_in {K : Int → Option (TTurn × Bool × Int)} {prev suf : List TPoint} {x : TPoint} (hs : seen = prev ++ x :: suf) : ∀ (r m i : Nat), i + r = prev.length → r < m →
    F_etchhouseref9_Lie_L4 seen prev.length K m i = if x ∈ prev.drop i then some (zT, false, 7) else K (w64 ((prev.length : Int) + 1))
  | 0, m + 1, i, h1, _ => by rw [F_etchhouseref9_Lie_L4.eq_2, if_neg (by simp; omega), List.drop_of_length_le (by omega)]; simp
  | r + 1, m + 1, i, h1, h2 => by
    have hlt : i < prev.length := by omega
    have ih := lieR_in (K := K) hs r m (i + 1) (by omega) (by omega)
    have e1 : idx seen (i : Int) = some prev[i] := by
      rw [idx_nat (by rw [hs]; simp; omega)]
      congr 1
      subst hs
      exact List.getElem_append_left hlt
    have e2 : idx seen (prev.length : Int) = some x := by rw [hs]; exact idx_mid prev suf x
    have hpl : prev.length ≤ 10 := by rw [hs] at hlen; simp at hlen; omega
    have hmem : (x ∈ prev.drop i) ↔ (x = prev[i] ∨ x ∈ prev.drop (i + 1)) := by rw [List.drop_eq_getElem_cons hlt]; exact List.mem_cons
    rw [F_etchhouseref9_Lie_L4.eq_2, if_pos (by simp; omega), e1, Option.bind_some, e2, Option.bind_some, w64_id (x := (i : Int) + 1) (by omega) (by omega)]
    rw [Int.natCast_succ] at ih
    rw [ih, eqP]
    by_cases hx : prev[i] = x
    · simp [hmem, hx, zT]
    · have hx' : ¬ x = prev[i] := fun h => hx h.symm
      simp [hmem, hx, hx']
theorem lieR_loop (hend : ∀ m, seenErr [] seen = 0 → F_etchhouseref9_Lie_L3 N p seen (m + 1) seen.length = some r) : ∀ (suf prev : List TPoint) (m : Nat), seen = prev ++ suf → suf.length < m → (seenErr [] seen = seenErr prev suf) →
    F_etchhouseref9_Lie_L3 N p seen m prev.length = if seenErr [] seen = 0 then some r else some (zT, false, seenErr [] seen)
  | [], prev, m + 1, hs, _, he => by
    have h0 : seenErr [] seen = 0 := he
    rw [if_pos h0]
    have := hend m h0
    rw [show prev = seen by rw [hs]; simp]
    exact this
  | x :: suf, prev, m + 1, hs, hm, he => by
    have hpl : prev.length ≤ 10 := by rw [hs] at hlen; simp at hlen; omega
    have e2 : idx seen (prev.length : Int) = some x := by rw [hs]; exact idx_mid prev suf x
    rw [F_etchhouseref9_Lie_L3.eq_2, if_pos (by rw [hs]; exact lt_mid prev suf x), e2, Option.bind_some, IsPointR_ok, Option.bind_some]
    have hin := lieR_in (K := F_etchhouseref9_Lie_L3 N p seen m) hlen hs prev.length N 0 (by omega) (by omega)
    rw [show ((0 : Nat) : Int) = 0 from rfl, List.drop_zero] at hin
    rw [hin, he, seenErr_cons]
    cases hn : nearB x
    · simp [hn, zT]
    · by_cases hmm : x ∈ prev
      · simp [hn, hmm, zT]
      · have ih := lieR_loop hend suf (prev ++ [x]) m (by rw [hs]; simp) (by simp at hm; omega) (by rw [he, seenErr_cons]; simp [hn, hmm])
        rw [he, seenErr_cons] at ih
        have hsucc : w64 ((prev.length : Int) + 1) = ((prev ++ [x]).length : Int) := up_mid prev x (by omega)
        rw [if_neg (by simp), if_neg hmm, hsucc, ih]
        simp [hn, hmm]
end
/-- How a panel lies: the program and the reference agree. -/
theorem Lie_ok {N : Nat} {p : TPanel} (h : FuelP N p) (seen : List TPoint) : ∃ r, F_panel_Lie N p seen = some r ∧ F_etchhouseref9_Lie N p seen = some r := by
  have hbig := h.big
  unfold F_panel_Lie F_etchhouseref9_Lie
  rw [checkPanelP_ok h, Option.bind_some, checkPanel_ok (by omega) h.kinds h.names, Option.bind_some]
  by_cases he : openErr p = 0
  · obtain ⟨hB, _, hml, _⟩ := openErr_ok he
    obtain ⟨hm, _⟩ := marks_ok he
    have hne : (openErr p != 0) = false := by simp [he]
    simp only [hne, Bool.false_eq_true, if_false]
    by_cases h10 : 10 < seen.length
    · rw [if_pos (by simp; omega), if_pos (by simp; omega)]; exact ⟨_, rfl, rfl⟩
    rw [if_neg (by simp; omega), if_neg (by simp; omega)]
    have hends : seenErr [] seen = 0 → ∃ r, F_panel_Lie_L1 N p seen [] seen.length = some r ∧ ∀ m, F_etchhouseref9_Lie_L3 N p seen (m + 1) seen.length = some r := fun h0 => by
      have hto := seenErr_ok seen [] h0
      have eR : ∀ m, F_etchhouseref9_Lie_L3 N p seen (m + 1) seen.length = ((F_etchhouseref9_turns N p.Marks seen).bind fun y143 =>
          if ((y143.length : Int) == 0) then some ((TTurn.mk false 0 (TPoint.mk 0 0)), false, 0) else
            (idx y143 0).bind fun x145 => F_etchhouseref9_Lie_L5 y143 N x145.Flip x145.Quarters x145.At.X x145.At.Y 0) := fun m => by
        rw [F_etchhouseref9_Lie_L3.eq_2, if_neg (by simp)]
      rw [F_panel_Lie_L1.eq_1]
      by_cases hz : p.Marks.length = 0 ∨ seen.length ≠ p.Marks.length
      · rw [if_pos (by simp; rcases hz with hz | hz; exact .inl (List.eq_nil_of_length_eq_zero hz); exact .inr (by omega))]
        refine ⟨_, rfl, fun m => ?_⟩
        rw [eR]
        unfold F_etchhouseref9_turns
        rw [if_pos (by simp; rcases hz with hz | hz; exact .inl (List.eq_nil_of_length_eq_zero hz); exact .inr (by omega))]
        rfl
      · rw [if_neg (fun hc => hz (by simp at hc; rcases hc with hc | hc; exact .inl (by rw [hc]; rfl); exact .inr (by omega)))]
        obtain ⟨a, ha⟩ : ∃ a, idx p.Marks 0 = some a := ⟨_, idx_nat (l := p.Marks) (i := 0) (by omega)⟩
        obtain ⟨P, R, e1, e2, hH, hT, hR4, _⟩ := heads_ok (N := N) (by omega) ha hm hto (by omega) (by omega) (by omega : p.Marks.length = seen.length)
        simp only [eR, e1, e2, Option.bind_some]
        rcases hH with ⟨rfl, rfl⟩ | ⟨b, bs, t, ts, rfl, rfl, hq, hbR, hmin⟩
        · exact ⟨_, rfl, fun _ => rfl⟩
        · have hi1 : idx (b :: bs) 0 = some b := rfl
          have hi2 : idx (t :: ts) 0 = some t := rfl
          rw [hi1, hi2, if_neg (by simp; omega), if_neg (by simp; omega), Option.bind_some, Option.bind_some]
          obtain ⟨b', f1, f2, f3, f4⟩ := best_loop hR4 (t :: ts).length N 0 t (by omega) (by omega) (by simp) (by simp)
          have hbb : b' = b := by
            have c1 := hmin b' f2 f3
            have c2 := f4 b hbR hq
            have g1 := (hT b' f2).flip
            have g2 := (hT b hbR).flip
            have hqq : b'.Quarters = b.Quarters := f3.trans hq.symm
            obtain ⟨fl, qq, ⟨bx, by_⟩⟩ := b
            obtain ⟨fl', qq', ⟨bx', by_'⟩⟩ := b'
            unfold ltT at c1 c2
            simp at c1 c2 g1 g2 hqq
            subst g1 g2 hqq
            simp; omega
          subst hbb
          rw [show ((0 : Nat) : Int) = 0 from rfl] at f1
          rw [chk_ok] at f1 ⊢
          simp only [Option.bind_some, f1]
          split <;> exact ⟨_, rfl, fun _ => rfl⟩
    by_cases h0 : seenErr [] seen = 0
    · obtain ⟨r, r1, r2⟩ := hends h0
      have l1 := lie_loop (N := N) (p := p) (r := r) (fun _ => r1) seen [] (by simp) rfl
      have l2 := lieR_loop (N := N) (p := p) (r := r) (by omega) (by omega) (fun m _ => r2 m) seen [] N (by simp) (by omega) rfl
      rw [if_pos h0] at l1 l2
      exact ⟨r, l1, l2⟩
    · have l1 := lie_loop (N := N) (p := p) (r := (zT, false, 0)) (fun h => absurd h h0) seen [] (by simp) rfl
      have l2 := lieR_loop (N := N) (p := p) (r := (zT, false, 0)) (by omega) (by omega) (fun m h => absurd h h0) seen [] N (by simp) (by omega) rfl
      rw [if_neg h0] at l1 l2
      exact ⟨_, l1, l2⟩
  · have hne : (openErr p != 0) = true := by simpa using he
    simp only [hne, if_true]
    exact ⟨_, rfl, rfl⟩
theorem marksMatch_ok {N : Nat} {p : TPanel} (h : FuelP N p) (seen : List TPoint) : F_etchhouselaw9_MarksMatchSpec N p seen = some true := by
  obtain ⟨g, e, g1, g2⟩ := GoodMarks_ok h
  obtain ⟨r, r1, r2⟩ := Lie_ok h seen
  unfold F_etchhouselaw9_MarksMatchSpec
  rw [g1, g2, r1, r2]
  simp only [Option.bind_some]
  rw [awakeP_ok (by have := h.big; omega), eqTTurn_iff.2 rfl]
  simp
end Go.Proofs.Ytgabfobigjmckaa
