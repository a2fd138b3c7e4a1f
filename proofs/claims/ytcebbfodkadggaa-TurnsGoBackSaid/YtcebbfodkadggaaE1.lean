/- Chapter 1: turns of points. Plain Lean about the plain functions. -/
import Derived.Test.YtcebbfodkadggaaE0
namespace Go.Proofs.Ytcebbfodkadggaa
def nearB (q : TPoint) : Bool := within q.X (-1000000) 1000000 && within q.Y (-1000000) 1000000
theorem nearB_iff {q : TPoint} : nearB q = true ↔ (-1000000 ≤ q.X ∧ q.X ≤ 1000000) ∧ (-1000000 ≤ q.Y ∧ q.Y ≤ 1000000) := by
  unfold nearB
  rw [Bool.and_eq_true, within_iff, within_iff]
theorem IsPoint_ok (q : TPoint) : F_shape_IsPoint q = some (nearB q) := by
  unfold F_shape_IsPoint F_shape_IsAt F_shape_within nearB within
  simp only [Option.bind_some]
  cases decide (-1000000 ≤ q.X) && decide (q.X ≤ 1000000) <;> rfl
theorem IsPointR_ok (q : TPoint) : F_etchhouseref1_IsPoint q = some (nearB q) := IsPoint_ok q
def chk (t : TTurn) : Bool := within t.Quarters 0 3 && nearB t.At
theorem chk_iff {t : TTurn} : chk t = true ↔ (0 ≤ t.Quarters ∧ t.Quarters ≤ 3) ∧ (-1000000 ≤ t.At.X ∧ t.At.X ≤ 1000000) ∧ (-1000000 ≤ t.At.Y ∧ t.At.Y ≤ 1000000) := by
  unfold chk
  rw [Bool.and_eq_true, within_iff, nearB_iff]
theorem CheckTurn_ok (t : TTurn) : F_shape_CheckTurn t = some (if chk t then 0 else 1) := by
  unfold F_shape_CheckTurn
  rw [IsPoint_ok]
  unfold F_shape_within chk within
  simp only [Option.bind_some]
  cases decide (0 ≤ t.Quarters) && decide (t.Quarters ≤ 3) <;> cases nearB t.At <;> rfl
theorem CheckTurnR_ok (t : TTurn) : F_etchhouseref1_CheckTurn t = some (if chk t then 0 else 1) := CheckTurn_ok t
def rX (q x y : Int) : Int := if q = 0 then x else if q = 1 then -y else if q = 2 then -x else y
def rY (q x y : Int) : Int := if q = 0 then y else if q = 1 then x else if q = 2 then -y else -x
/-- Where a turn takes a point. -/
def tk (t : TTurn) (q : TPoint) : TPoint := ⟨rX t.Quarters (if t.Flip then -q.X else q.X) q.Y + t.At.X, rY t.Quarters (if t.Flip then -q.X else q.X) q.Y + t.At.Y⟩
theorem q_cases {q : Int} (h : 0 ≤ q ∧ q ≤ 3) : q = 0 ∨ q = 1 ∨ q = 2 ∨ q = 3 := by omega
theorem turn_ok {N : Nat} (hN : 5 ≤ N) {t : TTurn} {p : TPoint} (hq : 0 ≤ t.Quarters ∧ t.Quarters ≤ 3) (ha : (-1000000 ≤ t.At.X ∧ t.At.X ≤ 1000000) ∧ (-1000000 ≤ t.At.Y ∧ t.At.Y ≤ 1000000)) (hp : nearB p = true) : F_shape_TurnPoint N p t = some (tk t p) := by
  obtain ⟨m, rfl⟩ : ∃ m, N = m + 5 := ⟨N - 5, by omega⟩
  rw [nearB_iff] at hp
  obtain ⟨fl, q, ⟨ax, ay⟩⟩ := t
  obtain ⟨px, py⟩ := p
  simp only at hq ha hp
  unfold F_shape_TurnPoint F_shape_TurnPoint_J2 tk
  rcases q_cases hq with rfl | rfl | rfl | rfl <;> cases fl <;> simp (disch := omega) [F_shape_TurnPoint_L1, w64_id, rX, rY]
theorem around_ok {N : Nat} (hN : 5 ≤ N) {t : TTurn} {p : TPoint} (hq : 0 ≤ t.Quarters ∧ t.Quarters ≤ 3) (hp : nearB p = true) : F_etchhouseref1_around N p t = some (tk ⟨t.Flip, t.Quarters, ⟨0, 0⟩⟩ p) := by
  obtain ⟨m, rfl⟩ : ∃ m, N = m + 5 := ⟨N - 5, by omega⟩
  rw [nearB_iff] at hp
  obtain ⟨fl, q, ⟨ax, ay⟩⟩ := t
  obtain ⟨px, py⟩ := p
  simp only at hq hp
  unfold F_etchhouseref1_around F_etchhouseref1_around_J2 tk
  rcases q_cases hq with rfl | rfl | rfl | rfl <;> cases fl <;> simp (disch := omega) [F_etchhouseref1_around_L1, w64_id, rX, rY]
theorem tk_zero (t : TTurn) (p : TPoint) : tk t p = ⟨(tk ⟨t.Flip, t.Quarters, ⟨0, 0⟩⟩ p).X + t.At.X, (tk ⟨t.Flip, t.Quarters, ⟨0, 0⟩⟩ p).Y + t.At.Y⟩ := by
  unfold tk; simp
theorem tk0_bd {f : Bool} {q : Int} {p : TPoint} (hp : nearB p = true) : nearB (tk ⟨f, q, ⟨0, 0⟩⟩ p) = true := by
  rw [nearB_iff] at hp ⊢
  unfold tk rX rY
  simp only
  repeat' split <;> omega
theorem turnR_ok {N : Nat} (hN : 5 ≤ N) {t : TTurn} {p : TPoint} (hq : 0 ≤ t.Quarters ∧ t.Quarters ≤ 3) (ha : (-1000000 ≤ t.At.X ∧ t.At.X ≤ 1000000) ∧ (-1000000 ≤ t.At.Y ∧ t.At.Y ≤ 1000000)) (hp : nearB p = true) : F_etchhouseref1_TurnPoint N p t = some (tk t p) := by
  unfold F_etchhouseref1_TurnPoint
  rw [around_ok hN hq hp, Option.bind_some, tk_zero t p]
  have := nearB_iff.1 (tk0_bd (f := t.Flip) (q := t.Quarters) hp)
  rw [w64_id (by omega) (by omega), w64_id (by omega) (by omega)]
def zT : TTurn := ⟨false, 0, ⟨0, 0⟩⟩
def turnedV (t : TTurn) (p : TPoint) : TPoint × Int := if chk t = true ∧ nearB p = true ∧ nearB (tk t p) = true then (tk t p, 0) else (⟨0, 0⟩, 1)
def thenQ (t u : TTurn) : Int := Int.tmod ((if u.Flip then 4 - t.Quarters else t.Quarters) + u.Quarters) 4
def thenV (t u : TTurn) : TTurn × Int := if chk t = true ∧ chk u = true ∧ nearB (tk u t.At) = true then (⟨t.Flip != u.Flip, thenQ t u, tk u t.At⟩, 0) else (zT, 1)
def backQ (t : TTurn) : Int := if t.Flip then t.Quarters else Int.tmod (4 - t.Quarters) 4
def backT (t : TTurn) : TTurn := ⟨t.Flip, backQ t, ⟨-(tk ⟨t.Flip, backQ t, ⟨0, 0⟩⟩ t.At).X, -(tk ⟨t.Flip, backQ t, ⟨0, 0⟩⟩ t.At).Y⟩⟩
def backV (t : TTurn) : TTurn × Int := if chk t = true then (backT t, 0) else (zT, 1)
theorem backQ_ok {t : TTurn} (h : 0 ≤ t.Quarters ∧ t.Quarters ≤ 3) : 0 ≤ backQ t ∧ backQ t ≤ 3 := by
  unfold backQ
  rcases q_cases h with e | e | e | e <;> rw [e] <;> cases t.Flip <;> decide
theorem thenQ_ok {t u : TTurn} (h : 0 ≤ t.Quarters ∧ t.Quarters ≤ 3) (k : 0 ≤ u.Quarters ∧ u.Quarters ≤ 3) : 0 ≤ thenQ t u ∧ thenQ t u ≤ 3 := by
  unfold thenQ
  rcases q_cases h with e | e | e | e <;> rcases q_cases k with e' | e' | e' | e' <;> rw [e, e'] <;> cases u.Flip <;> decide
section
variable {N : Nat} (hN : 5 ≤ N)
include hN
theorem Turned_ok (t : TTurn) (p : TPoint) : F_shape_Turned N p t = some (turnedV t p) := by
  unfold F_shape_Turned turnedV
  rw [CheckTurn_ok, Option.bind_some]
  cases hc : chk t
  · simp
  · obtain ⟨c1, c2⟩ := chk_iff.1 hc
    rw [IsPoint_ok]
    cases hp : nearB p
    · simp
    · rw [turn_ok hN c1 c2 hp]
      simp only [if_true, Option.bind_some, bne_self_eq_false, Bool.false_eq_true, if_false, Bool.not_true]
      rw [IsPoint_ok, Option.bind_some]
      cases nearB (tk t p) <;> simp
theorem TurnedR_ok (t : TTurn) (p : TPoint) : F_etchhouseref1_Turned N p t = some (turnedV t p) := by
  unfold F_etchhouseref1_Turned turnedV
  rw [CheckTurnR_ok, Option.bind_some]
  cases hc : chk t
  · simp
  · obtain ⟨c1, c2⟩ := chk_iff.1 hc
    rw [IsPointR_ok]
    cases hp : nearB p
    · simp
    · rw [turnR_ok hN c1 c2 hp]
      simp only [if_true, Option.bind_some, bne_self_eq_false, Bool.false_eq_true, if_false, Bool.not_true]
      rw [IsPointR_ok, Option.bind_some]
      cases nearB (tk t p) <;> simp
theorem Then_ok (t u : TTurn) : F_shape_Then N t u = some (thenV t u) := by
  unfold F_shape_Then thenV
  rw [CheckTurn_ok, CheckTurn_ok, Option.bind_some]
  cases hc : chk t
  · simp [zT]
  · cases hd : chk u
    · simp [zT]
    · obtain ⟨c1, c2, c3⟩ := chk_iff.1 hc
      obtain ⟨d1, d2⟩ := chk_iff.1 hd
      have ht := turn_ok hN (p := t.At) d1 d2 (nearB_iff.2 ⟨c2, c3⟩)
      have key : ∀ x, -10 ≤ x ∧ x ≤ 10 → F_shape_Then_J1 N t u x = some (if nearB (tk u t.At) = true then (⟨t.Flip != u.Flip, Int.tmod (x + u.Quarters) 4, tk u t.At⟩, 0) else (zT, 1)) := fun x hx => by
        unfold F_shape_Then_J1
        rw [ht, Option.bind_some, IsPoint_ok, Option.bind_some, w64_id (by omega) (by omega)]
        cases nearB (tk u t.At) <;> simp [zT]
      unfold thenQ
      cases hf : u.Flip
      · simp [key t.Quarters ⟨by omega, by omega⟩]
        split <;> simp_all
      · simp [w64_id (x := 4 - t.Quarters) (by omega) (by omega), key (4 - t.Quarters) ⟨by omega, by omega⟩]
        split <;> simp_all
theorem ThenR_ok (t u : TTurn) : F_etchhouseref1_Then N t u = some (thenV t u) := by
  unfold F_etchhouseref1_Then thenV
  rw [CheckTurnR_ok, CheckTurnR_ok, Option.bind_some]
  cases hc : chk t
  · simp [zT]
  · cases hd : chk u
    · simp [zT]
    · obtain ⟨c1, c2, c3⟩ := chk_iff.1 hc
      obtain ⟨d1, d2⟩ := chk_iff.1 hd
      have ht := turnR_ok hN (p := t.At) d1 d2 (nearB_iff.2 ⟨c2, c3⟩)
      have key : ∀ x, -10 ≤ x ∧ x ≤ 10 → F_etchhouseref1_ThenOf_J1 N t u x = some ⟨t.Flip != u.Flip, Int.tmod (x + u.Quarters) 4, tk u t.At⟩ := fun x hx => by
        unfold F_etchhouseref1_ThenOf_J1
        rw [ht, Option.bind_some, w64_id (by omega) (by omega), Int.add_comm]
      have hto : F_etchhouseref1_ThenOf N t u = some ⟨t.Flip != u.Flip, thenQ t u, tk u t.At⟩ := by
        unfold F_etchhouseref1_ThenOf thenQ
        cases hf : u.Flip
        · simp [key t.Quarters ⟨by omega, by omega⟩, hf]
        · simp [w64_id (x := 4 - t.Quarters) (by omega) (by omega), key (4 - t.Quarters) ⟨by omega, by omega⟩, hf]
      rw [hto]
      simp only [if_true, Option.bind_some, bne_self_eq_false, Bool.false_eq_true, if_false]
      rw [IsPointR_ok, Option.bind_some]
      cases nearB (tk u t.At) <;> simp [zT]
theorem Back_ok (t : TTurn) : F_shape_Back N t = some (backV t) := by
  unfold F_shape_Back backV
  rw [CheckTurn_ok, Option.bind_some]
  cases hc : chk t
  · simp [zT]
  · obtain ⟨c1, c2, c3⟩ := chk_iff.1 hc
    have hp := nearB_iff.2 ⟨c2, c3⟩
    have hb := nearB_iff.1 (tk0_bd (f := t.Flip) (q := backQ t) hp)
    have key : F_shape_Back_J1 N t (backQ t) = some (backT t, 0) := by
      unfold F_shape_Back_J1 backT
      rw [turn_ok hN (t := ⟨t.Flip, backQ t, ⟨0, 0⟩⟩) (backQ_ok c1) ⟨by simp, by simp⟩ hp, Option.bind_some, w64_id (by omega) (by omega), w64_id (by omega) (by omega)]
      simp
    simp only [if_true, bne_self_eq_false, Bool.false_eq_true, if_false]
    rw [← key]
    unfold backQ
    cases hf : t.Flip
    · simp [w64_id (x := 4 - t.Quarters) (by omega) (by omega)]
    · simp
theorem BackR_ok (t : TTurn) : F_etchhouseref1_Back N t = some (backV t) := by
  unfold F_etchhouseref1_Back backV
  rw [CheckTurnR_ok, Option.bind_some]
  cases hc : chk t
  · simp [zT]
  · obtain ⟨c1, c2, c3⟩ := chk_iff.1 hc
    have hp := nearB_iff.2 ⟨c2, c3⟩
    have hb := nearB_iff.1 (tk0_bd (f := t.Flip) (q := backQ t) hp)
    have key : F_etchhouseref1_Back_J1 N t (backQ t) = some (backT t, 0) := by
      unfold F_etchhouseref1_Back_J1 backT
      have ha : F_etchhouseref1_around N t.At ⟨t.Flip, backQ t, ⟨0, 0⟩⟩ = some (tk ⟨t.Flip, backQ t, ⟨0, 0⟩⟩ t.At) := around_ok hN (t := ⟨t.Flip, backQ t, ⟨0, 0⟩⟩) (backQ_ok c1) hp
      rw [ha, Option.bind_some, w64_id (by omega) (by omega), w64_id (by omega) (by omega)]
      simp
    simp only [if_true, bne_self_eq_false, Bool.false_eq_true, if_false]
    rw [← key]
    unfold backQ
    cases hf : t.Flip
    · simp [w64_id (x := 4 - t.Quarters) (by omega) (by omega)]
    · simp
end
theorem eqP_self (a : TPoint) : eqTPoint a a = true := eqTPoint_iff.2 rfl
theorem eqT_self (a : TTurn) : eqTTurn a a = true := eqTTurn_iff.2 rfl
theorem turnsMatch_ok {N : Nat} (hN : 10 ≤ N) (t u : TTurn) (p : TPoint) : F_etchhouselaw1_TurnsMatchSpec N t u p = some true := by
  unfold F_etchhouselaw1_TurnsMatchSpec
  rw [Turned_ok (by omega), TurnedR_ok (by omega), CheckTurn_ok, CheckTurnR_ok, Then_ok (by omega), ThenR_ok (by omega), Back_ok (by omega), BackR_ok (by omega), awake1_ok hN]
  simp [eqP_self, eqT_self]
theorem tk_back {t : TTurn} (h : 0 ≤ t.Quarters ∧ t.Quarters ≤ 3) (p : TPoint) : tk (backT t) (tk t p) = p := by
  obtain ⟨fl, q, ⟨ax, ay⟩⟩ := t
  obtain ⟨px, py⟩ := p
  simp only at h
  unfold backT tk backQ
  rcases q_cases h with rfl | rfl | rfl | rfl <;> cases fl <;> simp [rX, rY] <;> omega
theorem chk_back {t : TTurn} (h : chk t = true) : chk (backT t) = true := by
  obtain ⟨c1, c2, c3⟩ := chk_iff.1 h
  have hb := nearB_iff.1 (tk0_bd (f := t.Flip) (q := backQ t) (nearB_iff.2 ⟨c2, c3⟩))
  rw [chk_iff]
  refine ⟨backQ_ok c1, ?_, ?_⟩
  · unfold backT; simp only; omega
  · unfold backT; simp only; omega
theorem tk_then {t u : TTurn} (h : 0 ≤ t.Quarters ∧ t.Quarters ≤ 3) (k : 0 ≤ u.Quarters ∧ u.Quarters ≤ 3) (p : TPoint) : tk ⟨t.Flip != u.Flip, thenQ t u, tk u t.At⟩ p = tk u (tk t p) := by
  obtain ⟨fl, q, ⟨ax, ay⟩⟩ := t
  obtain ⟨fl', q', ⟨ax', ay'⟩⟩ := u
  obtain ⟨px, py⟩ := p
  simp only at h k
  unfold tk thenQ
  rcases q_cases h with rfl | rfl | rfl | rfl <;> rcases q_cases k with rfl | rfl | rfl | rfl <;> cases fl <;> cases fl' <;> simp [rX, rY] <;> omega
theorem goBack_ok {N : Nat} (hN : 10 ≤ N) (t u : TTurn) (p : TPoint) : F_etchhouselaw1_TurnsGoBack N t u p = some true := by
  unfold F_etchhouselaw1_TurnsGoBack
  simp only [Turned_ok (N := N) (by omega), Then_ok (N := N) (by omega), Back_ok (N := N) (by omega), awake1_ok hN, Option.bind_some]
  by_cases h : chk t = true ∧ nearB p = true ∧ nearB (tk t p) = true
  · obtain ⟨h1, h2, h3⟩ := h
    have c1 := (chk_iff.1 h1).1
    have e1 : turnedV t p = (tk t p, 0) := if_pos ⟨h1, h2, h3⟩
    have e2 : backV t = (backT t, 0) := if_pos h1
    have e3 : turnedV (backT t) (tk t p) = (p, 0) := by
      unfold turnedV
      rw [tk_back c1, if_pos ⟨chk_back h1, h3, h2⟩]
    rw [e1, e2]
    simp only [bne_self_eq_false, Bool.false_eq_true, if_false, e3, eqP_self, Bool.not_true, Bool.or_self]
    by_cases hu : chk u = true ∧ nearB (tk u t.At) = true ∧ nearB (tk u (tk t p)) = true
    · obtain ⟨u1, u2, u3⟩ := hu
      have d1 := (chk_iff.1 u1).1
      have e4 : thenV t u = (⟨t.Flip != u.Flip, thenQ t u, tk u t.At⟩, 0) := if_pos ⟨h1, u1, u2⟩
      have e5 : turnedV u (tk t p) = (tk u (tk t p), 0) := if_pos ⟨u1, h3, u3⟩
      have hv : chk ⟨t.Flip != u.Flip, thenQ t u, tk u t.At⟩ = true := by
        rw [chk_iff]; exact ⟨thenQ_ok c1 d1, nearB_iff.1 u2⟩
      have e6 : turnedV ⟨t.Flip != u.Flip, thenQ t u, tk u t.At⟩ p = (tk u (tk t p), 0) := by
        unfold turnedV
        rw [tk_then c1 d1, if_pos ⟨hv, h2, u3⟩]
      rw [e4, e5]
      simp [e6, eqP_self]
    · have : ((thenV t u).2 != 0 || (turnedV u (tk t p)).2 != 0) = true := by
        unfold thenV turnedV
        by_cases u1 : chk u = true
        · by_cases u2 : nearB (tk u t.At) = true
          · have u3 : ¬ nearB (tk u (tk t p)) = true := fun h => hu ⟨u1, u2, h⟩
            rw [if_neg (c := chk u = true ∧ nearB (tk t p) = true ∧ nearB (tk u (tk t p)) = true) (fun h => u3 h.2.2)]
            simp
          · rw [if_neg (c := chk t = true ∧ chk u = true ∧ nearB (tk u t.At) = true) (fun h => u2 h.2.2)]
            simp
        · rw [if_neg (c := chk t = true ∧ chk u = true ∧ nearB (tk u t.At) = true) (fun h => u1 h.2.1)]
          simp
      simp only [this, if_true]
  · have e1 : turnedV t p = (⟨0, 0⟩, 1) := if_neg h
    rw [e1]
    simp [eqP_self]
end Go.Proofs.Ytcebbfodkadggaa
