/- Sets: what the program tells of them. Plain Lean about the plain functions. -/
import Derived.Test.YtfdglihcpfpefaaGreatS4p
namespace Go.Proofs.YtfdglihcpfpefaaGreat
section
variable {N : Nat} (hN : 10000000000 ≤ N)
include hN
theorem Told_ok {l : List Bd} (hl : l.length ≤ 200000000) (h : (rectsB l).length ≤ 1000000000000000000) : F_shape_Set__Told N (l.map toP) = some (toldV l) := by
  unfold F_shape_Set__Told toldV
  rw [Many_ok h, Option.bind_some]
  by_cases h2 : 2000 < (rectsB l).length
  · rw [if_pos (by simp; omega), if_pos h2]
  · rw [if_neg (by simp; omega), if_neg h2, Rects_ok hN ⟨hl, fun b hb => by have := rectsB_row hb; omega, by omega⟩, Option.bind_some]
end
end Go.Proofs.YtfdglihcpfpefaaGreat
