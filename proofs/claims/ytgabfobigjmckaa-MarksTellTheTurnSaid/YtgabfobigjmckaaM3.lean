/- Marks tell the turn: what is seen of good marks tells the one turn. Plain Lean about the plain functions. -/
import Derived.Test.YtgabfobigjmckaaM2
namespace Go.Proofs.Ytgabfobigjmckaa
theorem quarter_cases {q : Int} (h : 0 ≤ q ∧ q ≤ 3) : q = 0 ∨ q = 1 ∨ q = 2 ∨ q = 3 := by omega
theorem tkP_inj {t : TTurn} (ht : TOk t) {a b : TPoint} (h : tkP t a = tkP t b) : a = b := by
  obtain ⟨ax, ay⟩ := a
  obtain ⟨bx, by_⟩ := b
  unfold tkP at h
  simp only [TPoint.mk.injEq] at h ⊢
  rcases quarter_cases ht.q with hq | hq | hq | hq <;> rw [hq] at h <;> simp [rotX, rotY] at h <;> omega
/-- u, then t taken back. -/
def backT (t u : TTurn) : TTurn :=
  if u.Quarters - t.Quarters = 0 then ⟨false, 0, ⟨rotX ((4 - t.Quarters) % 4) (u.At.X - t.At.X) (u.At.Y - t.At.Y), rotY ((4 - t.Quarters) % 4) (u.At.X - t.At.X) (u.At.Y - t.At.Y)⟩⟩
  else if u.Quarters - t.Quarters = 1 ∨ u.Quarters - t.Quarters = -3 then ⟨false, 1, ⟨rotX ((4 - t.Quarters) % 4) (u.At.X - t.At.X) (u.At.Y - t.At.Y), rotY ((4 - t.Quarters) % 4) (u.At.X - t.At.X) (u.At.Y - t.At.Y)⟩⟩
  else if u.Quarters - t.Quarters = 2 ∨ u.Quarters - t.Quarters = -2 then ⟨false, 2, ⟨rotX ((4 - t.Quarters) % 4) (u.At.X - t.At.X) (u.At.Y - t.At.Y), rotY ((4 - t.Quarters) % 4) (u.At.X - t.At.X) (u.At.Y - t.At.Y)⟩⟩
  else ⟨false, 3, ⟨rotX ((4 - t.Quarters) % 4) (u.At.X - t.At.X) (u.At.Y - t.At.Y), rotY ((4 - t.Quarters) % 4) (u.At.X - t.At.X) (u.At.Y - t.At.Y)⟩⟩
theorem backT_tk {t u : TTurn} (ht : TOk t) (hu : TOk u) {a b : TPoint} (h : tkP u a = tkP t b) : tkP (backT t u) a = b := by
  obtain ⟨ax, ay⟩ := a
  obtain ⟨bx, by_⟩ := b
  unfold tkP at h ⊢
  simp only [TPoint.mk.injEq] at h ⊢
  unfold backT
  rcases quarter_cases ht.q with hq | hq | hq | hq <;> rcases quarter_cases hu.q with hv | hv | hv | hv <;> rw [hq, hv] at h <;> simp only [hq, hv] <;> simp [rotX, rotY] at h ⊢ <;> omega
theorem backT_q {t u : TTurn} (ht : TOk t) (hu : TOk u) : 0 ≤ (backT t u).Quarters ∧ (backT t u).Quarters ≤ 3 := by
  unfold backT
  split
  · exact ⟨by simp, by simp⟩
  · split
    · exact ⟨by simp, by simp⟩
    · split <;> exact ⟨by simp, by simp⟩
theorem backT_flip (t u : TTurn) : (backT t u).Flip = false := by
  unfold backT
  split
  · rfl
  · split
    · rfl
    · split <;> rfl
theorem backT_id {t u : TTurn} (ht : TOk t) (hu : TOk u) (h : backT t u = ⟨false, 0, ⟨0, 0⟩⟩) : u = t := by
  have f1 := ht.flip
  have f2 := hu.flip
  have q1 := quarter_cases ht.q
  have q2 := quarter_cases hu.q
  obtain ⟨fl, q, ⟨x, y⟩⟩ := t
  obtain ⟨fl', q', ⟨x', y'⟩⟩ := u
  simp only at f1 f2 q1 q2
  subst f1 f2
  unfold backT at h
  rcases q1 with rfl | rfl | rfl | rfl <;> rcases q2 with rfl | rfl | rfl | rfl <;> simp [rotX, rotY] at h ⊢ <;> omega
theorem turnAt_tk {v : TTurn} (hf : v.Flip = false) (a : TPoint) : turnAt v.Quarters a (tkP v a) = v := by
  obtain ⟨fl, q, ⟨x, y⟩⟩ := v
  simp only at hf
  subst hf
  unfold turnAt tkP
  simp; omega
theorem mem_grp {v : TTurn} {a : TPoint} {l to : List TPoint} (hf : v.Flip = false) (ha : a ∈ l) (hlen : l.length = to.length) (h : ∀ q ∈ l, tkP v q ∈ to) : v ∈ grp v.Quarters a l to := by
  unfold grp
  rw [List.mem_filter]
  refine ⟨List.mem_map.2 ⟨tkP v a, h a ha, turnAt_tk hf a⟩, ?_⟩
  unfold takesB
  rw [Bool.and_eq_true, List.all_eq_true]
  exact ⟨by simpa using hlen, fun q hq => by simpa using h q hq⟩
theorem grp_takes {q : Int} {a : TPoint} {l to : List TPoint} {t : TTurn} (h : t ∈ grp q a l to) : ∀ x ∈ l, tkP t x ∈ to := by
  unfold grp at h
  rw [List.mem_filter] at h
  have h2 := h.2
  unfold takesB at h2
  rw [Bool.and_eq_true, List.all_eq_true] at h2
  exact fun x hx => by simpa using h2.2 x hx
/-- All four groups. -/
def allT (a : TPoint) (l to : List TPoint) : List TTurn := grp 0 a l to ++ grp 1 a l to ++ grp 2 a l to ++ grp 3 a l to
theorem mem_allT {a : TPoint} {l to : List TPoint} {v : TTurn} (hq : 0 ≤ v.Quarters ∧ v.Quarters ≤ 3) (h : v ∈ grp v.Quarters a l to) : v ∈ allT a l to := by
  unfold allT
  rcases quarter_cases hq with e | e | e | e <;> rw [e] at h <;> simp [h]
theorem allT_mem {a : TPoint} {l to : List TPoint} {v : TTurn} (h : v ∈ allT a l to) : ∃ q, (0 ≤ q ∧ q ≤ 3) ∧ v ∈ grp q a l to := by
  unfold allT at h
  rcases List.mem_append.1 h with h | h
  · rcases List.mem_append.1 h with h | h
    · rcases List.mem_append.1 h with h | h
      · exact ⟨0, by omega, h⟩
      · exact ⟨1, by omega, h⟩
    · exact ⟨2, by omega, h⟩
  · exact ⟨3, by omega, h⟩
/-- What is seen of marks, the last first. -/
def seenOf (t : TTurn) (l : List TPoint) : List TPoint := (l.map (tkP t)).reverse
theorem mem_seenOf {t : TTurn} {l : List TPoint} {x : TPoint} : x ∈ seenOf t l ↔ ∃ q ∈ l, tkP t q = x := by unfold seenOf; simp
theorem only_one {t u : TTurn} {a : TPoint} {l : List TPoint} (ht : TOk t) (ha : a ∈ l) (hna : ∀ q ∈ l, Near q) (hto : ∀ x ∈ seenOf t l, Near x) (h1 : (allT a l l).length = 1) (hu : u ∈ allT a l (seenOf t l)) : u = t := by
  obtain ⟨q, hq, hg⟩ := allT_mem hu
  have huo := (grp_mem hq (hna a ha) hto hg).1
  have htk := grp_takes hg
  have hv : backT t u ∈ allT a l l := mem_allT (backT_q ht huo) (mem_grp (backT_flip t u) ha rfl fun x hx => by
    obtain ⟨m, hm, e⟩ := mem_seenOf.1 (htk x hx)
    rw [backT_tk ht huo e.symm]; exact hm)
  have hi : (⟨false, 0, ⟨0, 0⟩⟩ : TTurn) ∈ allT a l l := mem_allT (by simp) (mem_grp rfl ha rfl fun x hx => by simpa [tkP, rotX, rotY] using hx)
  obtain ⟨w, hw⟩ := List.length_eq_one_iff.1 h1
  rw [hw] at hv hi
  simp only [List.mem_singleton] at hv hi
  exact backT_id ht huo (hv.trans hi.symm)
theorem seenErr_zero : ∀ (suf prev : List TPoint), (∀ x ∈ suf, Near x) → (prev ++ suf).Nodup → seenErr prev suf = 0
  | [], _, _, _ => rfl
  | x :: suf, prev, h, hn => by
    rw [seenErr_cons, if_neg (by rw [nearB_iff.2 (h x (by simp))]; simp), if_neg (fun hm => by
      rw [List.nodup_append] at hn
      exact hn.2.2 x hm x (by simp) rfl)]
    exact seenErr_zero suf _ (fun y hy => h y (by simp [hy])) (by simpa using hn)
theorem seenOf_nodup {t : TTurn} (ht : TOk t) {l : List TPoint} (h : l.Nodup) : (seenOf t l).Nodup := by
  unfold seenOf
  refine List.Perm.nodup (List.reverse_perm _).symm ?_
  exact List.Pairwise.map _ (fun a b hab e => hab (tkP_inj ht e)) h
/-- A good check tells that the panel has one turn to itself. -/
theorem good_one {N : Nat} {p : TPanel} (h : FuelP N p) {e : Int} (hg : F_panel_GoodMarks N p = some (true, e)) (he : e = 0) : openErr p = 0 ∧ ∃ a, idx p.Marks 0 = some a ∧ (allT a p.Marks p.Marks).length = 1 := by
  have hbig := h.big
  unfold F_panel_GoodMarks at hg
  rw [checkPanelP_ok h, Option.bind_some] at hg
  by_cases ho : openErr p = 0
  · refine ⟨ho, ?_⟩
    obtain ⟨hB, _, hml, _⟩ := openErr_ok ho
    obtain ⟨hm, _⟩ := marks_ok ho
    have hne : (openErr p != 0) = false := by simp [ho]
    simp only [hne, Bool.false_eq_true, if_false] at hg
    by_cases h2 : 2 ≤ p.Marks.length
    · obtain ⟨a, ha⟩ : ∃ a, idx p.Marks 0 = some a := ⟨_, idx_nat (l := p.Marks) (i := 0) (by omega)⟩
      have hna : Near a := hm a (List.mem_of_getElem? (idx_some ha).2.2)
      obtain ⟨m0, m1, m2, m3, e1, s0, s1, s2, s3⟩ := turns_ok (N := N) (by omega) ha hm hm (by omega) hna
      have hlen : (m0 ++ m1 ++ m2 ++ m3).length = (allT a p.Marks p.Marks).length := by
        unfold allT
        simp [s0.1.length_eq, s1.1.length_eq, s2.1.length_eq, s3.1.length_eq]
      rw [if_pos (by simp; omega), e1, Option.bind_some, hlen, Option.bind_some] at hg
      simp at hg
      exact ⟨a, ha, by omega⟩
    · rw [if_neg (by simp; omega), Option.bind_some] at hg
      simp at hg
  · have hne : (openErr p != 0) = true := by simpa using ho
    simp only [hne, if_true] at hg
    simp at hg
/-- The lie of a panel whose marks were turned. -/
theorem Lie_tells {N : Nat} {p : TPanel} (h : FuelP N p) {t : TTurn} (ht : TOk t) (hc : (within t.Quarters 0 3 && nearB t.At) = true) (ho : openErr p = 0) {a : TPoint} (ha : idx p.Marks 0 = some a) (h1 : (allT a p.Marks p.Marks).length = 1)
    (hn : ∀ q ∈ p.Marks, Near (tkP t q)) : F_panel_Lie N p (seenOf t p.Marks) = some (t, true, 0) := by
  have hbig := h.big
  obtain ⟨hB, _, hml, _⟩ := openErr_ok ho
  obtain ⟨hm, hnd⟩ := marks_ok ho
  have hlen : (seenOf t p.Marks).length = p.Marks.length := by simp [seenOf]
  have hto : ∀ x ∈ seenOf t p.Marks, Near x := fun x hx => by
    obtain ⟨q, hq, rfl⟩ := mem_seenOf.1 hx
    exact hn q hq
  have ham : a ∈ p.Marks := List.mem_of_getElem? (idx_some ha).2.2
  have hpos : 0 < p.Marks.length := List.length_pos_of_mem ham
  have hz : seenErr [] (seenOf t p.Marks) = 0 := seenErr_zero _ _ hto (by simpa using seenOf_nodup ht hnd)
  unfold F_panel_Lie
  rw [checkPanelP_ok h, Option.bind_some]
  have hne : (openErr p != 0) = false := by simp [ho]
  simp only [hne, Bool.false_eq_true, if_false]
  rw [if_neg (by simp [hlen]; omega)]
  have hend : F_panel_Lie_L1 N p (seenOf t p.Marks) [] (seenOf t p.Marks).length = some (t, true, 0) := by
    rw [F_panel_Lie_L1.eq_1, if_neg (fun hc => by
      simp at hc
      rcases hc with hc | hc
      · rw [hc] at hpos; simp at hpos
      · exact absurd hlen (by omega))]
    obtain ⟨P, R, e1, e2, hH, hT, hR4, hR⟩ := heads_ok (N := N) (by omega) ha hm hto (by omega) (by omega) hlen.symm
    have htR : t ∈ R := by
      rw [hR]
      exact mem_allT ht.q (mem_grp ht.flip ham hlen.symm fun x hx => mem_seenOf.2 ⟨x, hx, rfl⟩)
    rcases hH with ⟨rfl, rfl⟩ | ⟨b, bs, t', ts, rfl, rfl, hq, hbR, _⟩
    · simp at htR
    · rw [hR] at hbR
      have hb : b = t := only_one ht ham hm hto h1 hbR
      subst hb
      have hi1 : idx (b :: bs) 0 = some b := rfl
      rw [e1, Option.bind_some, if_neg (by simp; omega), hi1, Option.bind_some, chk_ok, hc]
      simp
  have l1 := lie_loop (N := N) (p := p) (r := (t, true, 0)) (fun _ => hend) (seenOf t p.Marks) [] (by simp) rfl
  rw [if_pos hz] at l1
  exact l1
theorem Turned_ok {N : Nat} {t : TTurn} {q : TPoint} (hN : 5 ≤ N) (ht : TOk t) (hc : (within t.Quarters 0 3 && nearB t.At) = true) (hq : Near q) : F_shape_Turned N q t = some (if nearB (tkP t q) then (tkP t q, 0) else (⟨0, 0⟩, 1)) := by
  unfold F_shape_Turned
  rw [chk_ok, hc, Option.bind_some, IsPoint_ok, nearB_iff.2 hq, if_neg (by simp), Option.bind_some, if_neg (by simp), ht.p hN hq, Option.bind_some, IsPoint_ok, Option.bind_some]
  cases nearB (tkP t q) <;> simp
section
variable {N : Nat} {p : TPanel} {t : TTurn} (h : FuelP N p) (ht : TOk t) (hc : (within t.Quarters 0 3 && nearB t.At) = true) (hm : ∀ q ∈ p.Marks, Near q) (hml : p.Marks.length ≤ 10)
include h ht hc hm hml
theorem tell_loop (hend : (∀ q ∈ p.Marks, Near (tkP t q)) → F_panel_Lie N p (seenOf t p.Marks) = some (t, true, 0)) : ∀ (i m : Nat), i ≤ p.Marks.length → i < m → (∀ q ∈ p.Marks.drop i, Near (tkP t q)) →
    F_etchhouselaw9_MarksTellTheTurn_L1 N p t m (seenOf t (p.Marks.drop i)) ((i : Int) - 1) = some true
  | 0, m + 1, _, _, hn => by
    have hbig := h.big
    rw [F_etchhouselaw9_MarksTellTheTurn_L1.eq_2, if_neg (by simp)]
    rw [List.drop_zero] at hn ⊢
    rw [hend hn, Option.bind_some, eqTTurn_iff.2 rfl, awakeP_ok (by omega)]
    simp
  | i + 1, m + 1, hi, him, hn => by
    have hbig := h.big
    have hlt : i < p.Marks.length := by omega
    have hq : Near p.Marks[i] := hm _ (List.getElem_mem hlt)
    rw [F_etchhouselaw9_MarksTellTheTurn_L1.eq_2, if_pos (by simp), show (((i + 1 : Nat) : Int) - 1) = (i : Int) by omega, idx_nat hlt, Option.bind_some, Turned_ok (by omega) ht hc hq, Option.bind_some]
    cases hb : nearB (tkP t p.Marks[i])
    · simp [awakeP_ok (show 3 ≤ N by omega)]
    · have hd : p.Marks.drop i = p.Marks[i] :: p.Marks.drop (i + 1) := List.drop_eq_getElem_cons hlt
      have hs : seenOf t (p.Marks.drop i) = seenOf t (p.Marks.drop (i + 1)) ++ [tkP t p.Marks[i]] := by unfold seenOf; rw [hd, List.map_cons, List.reverse_cons]
      have ih := tell_loop hend i m (by omega) (by omega) (fun q hq => by
        rw [hd] at hq
        rcases List.mem_cons.1 hq with rfl | hq
        · exact nearB_iff.1 hb
        · exact hn q hq)
      have hl : (seenOf t (p.Marks.drop (i + 1))).length + 1 ≤ 4294967296 := by simp [seenOf]; omega
      simp only [if_true, bne_self_eq_false, Bool.false_eq_true, if_false]
      rw [apd_ok (by simpa using hl), Option.bind_some, ← hs, w64_id (by omega) (by omega)]
      exact ih
end
theorem tells_ok {N : Nat} {p : TPanel} (h : FuelP N p) (t : TTurn) : F_etchhouselaw9_MarksTellTheTurn N p t = some true := by
  have hbig := h.big
  have haw := awakeP_ok (N := N) (by omega)
  unfold F_etchhouselaw9_MarksTellTheTurn
  obtain ⟨g, e, g1, _⟩ := GoodMarks_ok h
  rw [g1, chk_ok]
  simp only [Option.bind_some, haw]
  by_cases hbad : e = 0 ∧ g = true
  · obtain ⟨rfl, rfl⟩ := hbad
    obtain ⟨ho, a, ha, h1⟩ := good_one h g1 rfl
    cases hf : t.Flip
    · cases hc : (within t.Quarters 0 3 && nearB t.At)
      · simp
      · have hc' := hc
        rw [Bool.and_eq_true, within_iff, nearB_iff] at hc'
        obtain ⟨c1, c2, c3⟩ := hc'
        have ht : TOk t := ⟨hf, c1, by omega, by omega⟩
        obtain ⟨_, _, hml, _⟩ := openErr_ok ho
        obtain ⟨hm, _⟩ := marks_ok ho
        have := tell_loop h ht hc hm hml (fun hn => Lie_tells h ht hc ho ha h1 hn) p.Marks.length N (Nat.le_refl _) (by omega) (by simp)
        simp only [List.drop_length] at this
        simp [w64_id (x := (p.Marks.length : Int) - 1) (by omega) (by omega)]
        exact this
    · simp
  · have hg : g = true → e = 0 := fun hgt => by
      subst hgt
      unfold F_panel_GoodMarks at g1
      rw [checkPanelP_ok h, Option.bind_some] at g1
      split at g1
      · simp at g1
      · revert g1
        cases (if (decide (2 ≤ (p.Marks.length : Int))) then (F_panel_turns N p.Marks p.Marks).bind fun y105 => some ((y105.length : Int) == 1) else some false) with
        | none => simp
        | some b => simp; exact fun _ h => h.symm
    have hgf : g = false := by
      cases g
      · rfl
      · exact absurd ⟨hg rfl, rfl⟩ hbad
    subst hgf
    simp
end Go.Proofs.Ytgabfobigjmckaa
