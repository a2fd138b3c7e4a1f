/- Turns of points, and enough fuel for a panel. Plain Lean about the plain functions. -/
import Derived.Test.YtgabfobigjmckaaA2
namespace Go.Proofs.Ytgabfobigjmckaa
def rotX (q x y : Int) : Int := if q = 0 then x else if q = 1 then -y else if q = 2 then -x else y
def rotY (q x y : Int) : Int := if q = 0 then y else if q = 1 then x else if q = 2 then -y else -x
def Bd (x : Int) : Prop := -1000000000 ≤ x ∧ x ≤ 1000000000
theorem turn_ok {N : Nat} {p : TPoint} {t : TTurn} (hN : 5 ≤ N) (hf : t.Flip = false) (hq : 0 ≤ t.Quarters ∧ t.Quarters ≤ 3) (hx : Bd p.X) (hy : Bd p.Y) (hax : Bd t.At.X) (hay : Bd t.At.Y) :
    F_shape_TurnPoint N p t = some ⟨rotX t.Quarters p.X p.Y + t.At.X, rotY t.Quarters p.X p.Y + t.At.Y⟩ := by
  obtain ⟨m, rfl⟩ : ∃ m, N = m + 5 := ⟨N - 5, by omega⟩
  obtain ⟨fl, q, ⟨ax, ay⟩⟩ := t
  obtain ⟨px, py⟩ := p
  unfold Bd at *
  simp only at hf hq hx hy hax hay
  subst hf
  unfold F_shape_TurnPoint F_shape_TurnPoint_J2
  have e : q = 0 ∨ q = 1 ∨ q = 2 ∨ q = 3 := by omega
  rcases e with rfl | rfl | rfl | rfl
  · simp (disch := omega) [F_shape_TurnPoint_L1, w64_id, rotX, rotY]
  · simp (disch := omega) [F_shape_TurnPoint_L1, w64_id, rotX, rotY]
  · simp (disch := omega) [F_shape_TurnPoint_L1, w64_id, rotX, rotY]
  · simp (disch := omega) [F_shape_TurnPoint_L1, w64_id, rotX, rotY]
theorem turnR_ok {N : Nat} {p : TPoint} {t : TTurn} (hN : 5 ≤ N) (hf : t.Flip = false) (hq : 0 ≤ t.Quarters ∧ t.Quarters ≤ 3) (hx : Bd p.X) (hy : Bd p.Y) (hax : Bd t.At.X) (hay : Bd t.At.Y) :
    F_etchhouseref1_TurnPoint N p t = some ⟨rotX t.Quarters p.X p.Y + t.At.X, rotY t.Quarters p.X p.Y + t.At.Y⟩ := by
  obtain ⟨m, rfl⟩ : ∃ m, N = m + 5 := ⟨N - 5, by omega⟩
  obtain ⟨fl, q, ⟨ax, ay⟩⟩ := t
  obtain ⟨px, py⟩ := p
  unfold Bd at *
  simp only at hf hq hx hy hax hay
  subst hf
  unfold F_etchhouseref1_TurnPoint F_etchhouseref1_around F_etchhouseref1_around_J2
  have e : q = 0 ∨ q = 1 ∨ q = 2 ∨ q = 3 := by omega
  rcases e with rfl | rfl | rfl | rfl
  · simp (disch := omega) [F_etchhouseref1_around_L1, w64_id, rotX, rotY]
  · simp (disch := omega) [F_etchhouseref1_around_L1, w64_id, rotX, rotY]
  · simp (disch := omega) [F_etchhouseref1_around_L1, w64_id, rotX, rotY]
  · simp (disch := omega) [F_etchhouseref1_around_L1, w64_id, rotX, rotY]
structure FuelP (N : Nat) (p : TPanel) : Prop where
  big : 20000000 ≤ N
  kinds : p.Kinds.length < N
  names : ∀ k ∈ p.Kinds, k.Name.size ≤ 9223372036854775807 ∧ k.Name.size < N
theorem checkPanelP_ok {N : Nat} {p : TPanel} (h : FuelP N p) : F_panel_CheckPanel N p = some (openErr p) := by
  unfold F_panel_CheckPanel
  rw [open_ok h.names, Option.bind_some]
  by_cases he : openErr p = 0 <;> simp [he]
theorem rot_bd {q x y c : Int} (hx : -c ≤ x ∧ x ≤ c) (hy : -c ≤ y ∧ y ≤ c) : (-c ≤ rotX q x y ∧ rotX q x y ≤ c) ∧ (-c ≤ rotY q x y ∧ rotY q x y ≤ c) := by
  unfold rotX rotY
  split
  · omega
  · split
    · omega
    · split <;> omega
theorem eif (a b : Bool) : (if a = true then some b else some false) = some (a && b) := by cases a <;> rfl
theorem awakeP_ok {N : Nat} (hN : 3 ≤ N) : F_etchhouselaw9_awake N = some true := by
  obtain ⟨m, rfl⟩ : ∃ m, N = m + 3 := ⟨N - 3, by omega⟩
  rfl
end Go.Proofs.Ytgabfobigjmckaa
