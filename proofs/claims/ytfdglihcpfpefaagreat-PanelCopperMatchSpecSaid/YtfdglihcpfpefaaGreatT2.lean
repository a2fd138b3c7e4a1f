/- Rectangles, turned: program and reference. Plain Lean about the plain functions. -/
import Derived.Test.YtfdglihcpfpefaaGreatS5
import Derived.Test.YtfdglihcpfpefaaGreatE1q
namespace Go.Proofs.YtfdglihcpfpefaaGreat
/-- A rectangle, turned. -/
def tr (t : TTurn) (r : TRect) : TRect := ⟨min (tk t ⟨r.X0, r.Y0⟩).X (tk t ⟨r.X1, r.Y1⟩).X, min (tk t ⟨r.X0, r.Y0⟩).Y (tk t ⟨r.X1, r.Y1⟩).Y, max (tk t ⟨r.X0, r.Y0⟩).X (tk t ⟨r.X1, r.Y1⟩).X, max (tk t ⟨r.X0, r.Y0⟩).Y (tk t ⟨r.X1, r.Y1⟩).Y⟩
theorem corners {r : TRect} (h : ROk r) : nearB ⟨r.X0, r.Y0⟩ = true ∧ nearB ⟨r.X1, r.Y1⟩ = true := ⟨nearB_iff.2 ⟨h.x0, h.y0⟩, nearB_iff.2 ⟨h.x1, h.y1⟩⟩
theorem tr_r9 {t : TTurn} (ht : chk t = true) {r : TRect} (h : ROk r) : R9 (tr t r) := by
  obtain ⟨c1, c2, c3⟩ := chk_iff.1 ht
  have := h.x0; have := h.x1; have := h.y0; have := h.y1; have hx := h.x; have hy := h.y
  obtain ⟨fl, q, ⟨ax, ay⟩⟩ := t
  obtain ⟨x0, y0, x1, y1⟩ := r
  simp only at *
  rcases q_cases c1 with rfl | rfl | rfl | rfl <;> cases fl <;> (constructor <;> simp [tr, tk, rX, rY] <;> omega)
theorem TurnRect_ok {N : Nat} (hN : 5 ≤ N) {t : TTurn} (ht : chk t = true) {r : TRect} (h : ROk r) : F_shape_TurnRect N r t = some (tr t r) := by
  obtain ⟨c1, c2, c3⟩ := chk_iff.1 ht
  obtain ⟨h1, h2⟩ := corners h
  unfold F_shape_TurnRect
  rw [turn_ok hN c1 ⟨c2, c3⟩ h1, Option.bind_some, turn_ok hN c1 ⟨c2, c3⟩ h2]; rfl
theorem TurnRectR_ok {N : Nat} (hN : 5 ≤ N) {t : TTurn} (ht : chk t = true) {r : TRect} (h : ROk r) : F_etchhouseref1_TurnRect N r t = some (tr t r) := by
  obtain ⟨c1, c2, c3⟩ := chk_iff.1 ht
  obtain ⟨h1, h2⟩ := corners h
  unfold F_etchhouseref1_TurnRect
  rw [turnR_ok hN c1 ⟨c2, c3⟩ h1, Option.bind_some, turnR_ok hN c1 ⟨c2, c3⟩ h2]; rfl
end Go.Proofs.YtfdglihcpfpefaaGreat
