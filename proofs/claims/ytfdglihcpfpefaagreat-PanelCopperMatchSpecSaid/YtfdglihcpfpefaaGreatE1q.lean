/- Chapter 1: turns of points, the plain words of it. Plain Lean about the plain functions. -/
import Derived.Test.YtfdglihcpfpefaaGreatXF
import Derived.Test.YtfdglihcpfpefaaGreatA0
namespace Go.Proofs.YtfdglihcpfpefaaGreat
def nearB (q : TPoint) : Bool := within q.X (-1000000) 1000000 && within q.Y (-1000000) 1000000
theorem nearB_iff {q : TPoint} : nearB q = true ↔ (-1000000 ≤ q.X ∧ q.X ≤ 1000000) ∧ (-1000000 ≤ q.Y ∧ q.Y ≤ 1000000) := by
  unfold nearB
  rw [Bool.and_eq_true, within_iff, within_iff]
def chk (t : TTurn) : Bool := within t.Quarters 0 3 && nearB t.At
theorem chk_iff {t : TTurn} : chk t = true ↔ (0 ≤ t.Quarters ∧ t.Quarters ≤ 3) ∧ (-1000000 ≤ t.At.X ∧ t.At.X ≤ 1000000) ∧ (-1000000 ≤ t.At.Y ∧ t.At.Y ≤ 1000000) := by
  unfold chk
  rw [Bool.and_eq_true, within_iff, nearB_iff]
def rX (q x y : Int) : Int := if q = 0 then x else if q = 1 then -y else if q = 2 then -x else y
def rY (q x y : Int) : Int := if q = 0 then y else if q = 1 then x else if q = 2 then -y else -x
/-- Where a turn takes a point. -/
def tk (t : TTurn) (q : TPoint) : TPoint := ⟨rX t.Quarters (if t.Flip then -q.X else q.X) q.Y + t.At.X, rY t.Quarters (if t.Flip then -q.X else q.X) q.Y + t.At.Y⟩
theorem q_cases {q : Int} (h : 0 ≤ q ∧ q ≤ 3) : q = 0 ∨ q = 1 ∨ q = 2 ∨ q = 3 := by omega
theorem turn_ok {N : Nat} (hN : 5 ≤ N) {t : TTurn} {p : TPoint} (hq : 0 ≤ t.Quarters ∧ t.Quarters ≤ 3) (ha : (-1000000 ≤ t.At.X ∧ t.At.X ≤ 1000000) ∧ (-1000000 ≤ t.At.Y ∧ t.At.Y ≤ 1000000)) (hp : nearB p = true) : F_shape_TurnPoint N p t = some (tk t p) := by
  obtain ⟨m, rfl⟩ : ∃ m, N = m + 5 := ⟨N - 5, by omega⟩
  rw [nearB_iff] at hp
  obtain ⟨fl, q, ⟨ax, ay⟩⟩ := t
  obtain ⟨px, py⟩ := p
  simp only at hq ha hp
  unfold F_shape_TurnPoint F_shape_TurnPoint_J2 tk
  rcases q_cases hq with rfl | rfl | rfl | rfl <;> cases fl <;> simp (disch := omega) [F_shape_TurnPoint_L1, w64_id, rX, rY]
theorem around_ok {N : Nat} (hN : 5 ≤ N) {t : TTurn} {p : TPoint} (hq : 0 ≤ t.Quarters ∧ t.Quarters ≤ 3) (hp : nearB p = true) : F_etchhouseref1_around N p t = some (tk ⟨t.Flip, t.Quarters, ⟨0, 0⟩⟩ p) := by
  obtain ⟨m, rfl⟩ : ∃ m, N = m + 5 := ⟨N - 5, by omega⟩
  rw [nearB_iff] at hp
  obtain ⟨fl, q, ⟨ax, ay⟩⟩ := t
  obtain ⟨px, py⟩ := p
  simp only at hq hp
  unfold F_etchhouseref1_around F_etchhouseref1_around_J2 tk
  rcases q_cases hq with rfl | rfl | rfl | rfl <;> cases fl <;> simp (disch := omega) [F_etchhouseref1_around_L1, w64_id, rX, rY]
theorem tk_zero (t : TTurn) (p : TPoint) : tk t p = ⟨(tk ⟨t.Flip, t.Quarters, ⟨0, 0⟩⟩ p).X + t.At.X, (tk ⟨t.Flip, t.Quarters, ⟨0, 0⟩⟩ p).Y + t.At.Y⟩ := by
  unfold tk; simp
theorem tk0_bd {f : Bool} {q : Int} {p : TPoint} (hp : nearB p = true) : nearB (tk ⟨f, q, ⟨0, 0⟩⟩ p) = true := by
  rw [nearB_iff] at hp ⊢
  unfold tk rX rY
  simp only
  repeat' split <;> omega
theorem turnR_ok {N : Nat} (hN : 5 ≤ N) {t : TTurn} {p : TPoint} (hq : 0 ≤ t.Quarters ∧ t.Quarters ≤ 3) (ha : (-1000000 ≤ t.At.X ∧ t.At.X ≤ 1000000) ∧ (-1000000 ≤ t.At.Y ∧ t.At.Y ≤ 1000000)) (hp : nearB p = true) : F_etchhouseref1_TurnPoint N p t = some (tk t p) := by
  unfold F_etchhouseref1_TurnPoint
  rw [around_ok hN hq hp, Option.bind_some, tk_zero t p]
  have := nearB_iff.1 (tk0_bd (f := t.Flip) (q := t.Quarters) hp)
  rw [w64_id (by omega) (by omega), w64_id (by omega) (by omega)]
end Go.Proofs.YtfdglihcpfpefaaGreat
