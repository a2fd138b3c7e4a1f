/- Integers sorted, each once. Plain Lean. -/
import Derived.Test.YtfddmjoldoddlaaH15
namespace Go.Proofs.Ytfddmjoldoddlaa
theorem compact_mem (zs : List Int) (x : Int) : x ∈ Lib.compact zs ↔ x ∈ zs := by
  unfold Lib.compact Lib.compactUpTo
  constructor
  · intro h
    obtain ⟨j, hj, rfl⟩ := List.mem_map.1 h
    have hj := List.mem_range.1 (List.mem_filter.1 hj).1
    show zs.toArray[j]! ∈ zs
    rw [getElem!_pos zs.toArray j (by simpa using hj)]
    simp
  · intro h
    have key : ∀ (j : Nat), (hj : j < zs.length) → ∃ i, i < zs.length ∧ Lib.keeps zs.toArray i = true ∧ zs.toArray[i]! = zs[j] := by
      intro j
      induction j with
      | zero => intro hj; exact ⟨0, hj, Lib.keeps_lt_one _ 0 (by omega), by rw [getElem!_pos zs.toArray 0 (by simpa using hj)]; simp⟩
      | succ j ih =>
        intro hj
        by_cases hk : Lib.keeps zs.toArray (j + 1) = true
        · exact ⟨j + 1, hj, hk, by rw [getElem!_pos zs.toArray (j + 1) (by simpa using hj)]; simp⟩
        · have he : zs.toArray[j + 1]! = zs.toArray[j]! := by
            unfold Lib.keeps at hk
            simp at hk
            simpa using hk
          rw [getElem!_pos zs.toArray (j + 1) (by simpa using hj), getElem!_pos zs.toArray j (by simp; omega)] at he
          simp at he
          obtain ⟨i, h1, h2, h3⟩ := ih (by omega)
          exact ⟨i, h1, h2, by rw [h3, he]⟩
    obtain ⟨j, hj, rfl⟩ := List.mem_iff_getElem.1 h
    obtain ⟨i, h1, h2, h3⟩ := key j hj
    exact List.mem_map.2 ⟨i, List.mem_filter.2 ⟨List.mem_range.2 h1, h2⟩, h3⟩
theorem compact_strict {zs : List Int} (h : zs.Pairwise fun x y => x ≤ y) : (Lib.compact zs).Pairwise fun x y => x < y := by
  unfold Lib.compact Lib.compactUpTo
  rw [List.pairwise_map]
  have hr : ((List.range zs.length).filter (Lib.keeps zs.toArray)).Pairwise (fun i j => i < j) := (List.pairwise_lt_range).filter _
  refine List.Pairwise.imp_of_mem (fun {i j} hi hj hij => ?_) hr
  have hj1 := List.mem_range.1 (List.mem_filter.1 hj).1
  have hj2 := (List.mem_filter.1 hj).2
  show zs.toArray[i]! < zs.toArray[j]!
  unfold Lib.keeps at hj2
  simp at hj2
  have hne : zs.toArray[j]! ≠ zs.toArray[j - 1]! := by
    rcases hj2 with h0 | h0
    · omega
    · simpa using h0
  rw [getElem!_pos zs.toArray j (by simpa using hj1), getElem!_pos zs.toArray (j - 1) (by simp; omega)] at hne
  rw [getElem!_pos zs.toArray j (by simpa using hj1), getElem!_pos zs.toArray i (by simp; omega)]
  simp at hne ⊢
  rw [List.pairwise_iff_getElem] at h
  have a1 : zs[j - 1] ≤ zs[j] := h (j - 1) j (by omega) hj1 (by omega)
  have a2 : zs[i] ≤ zs[j - 1] := by
    rcases Nat.lt_or_eq_of_le (show i ≤ j - 1 by omega) with hlt | heq
    · exact h i (j - 1) (by omega) (by omega) hlt
    · subst heq; exact Int.le_refl _
  omega
/-- Sorted, each once. -/
def srtd (l : List Int) : List Int := Lib.compact (l.mergeSort fun x y => decide (x ≤ y))
theorem srtd_mem (l : List Int) (x : Int) : x ∈ srtd l ↔ x ∈ l := by
  unfold srtd
  rw [compact_mem]
  exact (List.mergeSort_perm l _).mem_iff
theorem srtd_strict (l : List Int) : (srtd l).Pairwise fun x y => x < y := by
  unfold srtd
  refine compact_strict ?_
  have := List.pairwise_mergeSort (le := fun x y : Int => decide (x ≤ y)) (fun a b c h1 h2 => by simp at *; omega) (fun a b => by simp; omega) l
  exact this.imp (by simp)
theorem srtd_ok {l : List Int} (h : l.length < 4611686018427387904) : ((srtI l).bind fun y => cpI y) = some (srtd l) := by
  unfold srtI cpI srtd
  rw [if_pos h]; rfl
theorem srtI_ok {l : List Int} (h : l.length < 4611686018427387904) : srtI l = some (l.mergeSort fun x y => decide (x ≤ y)) := if_pos h
end Go.Proofs.Ytfddmjoldoddlaa
