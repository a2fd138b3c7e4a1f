/- slices.Grow of the nil slice, over the library's proved contract. Over any program. Conditions: none beyond each theorem's own. -/
import Derived.Test.YtfddmjoldoddlaaH14
import Derived.Shelf.Spec.SlicesGrow
namespace Go.Proofs.Ytfddmjoldoddlaa
open Go.RowKit Go.Proofs Go.Shelf
theorem heap_da (W : World) (o : Obj) : (W.drew.alloc o).heap = W.heap.push o := rfl
/-- slices.Grow of nil: an empty slice. -/
def grN {α : Type} (n : Int) : Option (List α) := if 0 ≤ n ∧ n ≤ 1099511627776 then some [] else none
section
variable {P : Program} {ρ : Ren} {w : Bs} {T : Nat}
theorem growN_rule {α : Type} {t : Fl α} {r : List α} {n : Int} {i : Nat} (L : Lays8.n4 P ρ) (hT : ρ.t 25 = T) (hs : szOf P T = some t.sz) (hz : (zeroOf P T).map List.length = some t.sz) (hsz : 0 < t.sz) (hby : (P.info? T).map (·.bytes) = some i) (hi : Nat.ble i 128 = true)
    (H : grN n = some r) (hE : HF w w.W (LEn [emp])) :
    Calls P (ρ.f 4) [.slice none 0 0, .int .i64 n].toArray w.W fun e W' => ∃ u : (Option Addr × Nat), e = .returned (.slice u.1 r.length u.2) ∧ (SlF u.1 r.length u.2) ∧ HF w W' (LEn [ow u.1 u.2 T t r]) := by
  subst hT
  unfold grN at H
  split at H
  · rename_i hn
    obtain ⟨n, rfl⟩ := Int.eq_ofNat_of_zero_le hn.1
    have hr := (Option.some.inj H).symm
    subst hr
    have hn2 : n ≤ 1099511627776 := by have := hn.2; omega
    by_cases h0 : n = 0
    · subst h0
      refine (Any8.slices_Grow_room L none 0 0 0 w.W (Nat.le_refl _) (by decide) (by decide) (Nat.le_refl _)).mono fun e W' ⟨g1, g2⟩ => ⟨(none, 0), g1, slf_nil, ?_⟩
      subst g2
      refine (hE.mod 0 (ow none 0 (ρ.t 25) t []) rfl rfl rfl (Nat.le_refl _) (Nat.le_refl _) (fun _ _ _ => rfl) (ow_loc _ _ _ _ _) ⟨[], .nil, by simp, .inl ⟨rfl, rfl⟩⟩ (fun b hb => by cases hb)).weaken (fun k => ?_)
      cases k with
      | zero => exact .inl rfl
      | succ k => exact .inr rfl
    · cases hin : P.info? (ρ.t 25) with
      | none => rw [hin] at hby; cases hby
      | some inf =>
        rw [hin] at hby; simp at hby; subst hby
        unfold zeroOf at hz
        unfold szOf at hs
        rw [hin] at hz hs
        simp only [Option.bind_some, Option.map_some, Option.some.injEq] at hz hs
        cases hze : inf.zero with
        | none => rw [hze] at hz; cases hz
        | some z =>
          rw [hze] at hz
          simp at hz
          have hbytes : (0 + n) * inf.bytes ≤ 140737488355328 := Nat.le_trans (Nat.mul_le_mul (show 0 + n ≤ 1099511627776 by omega) (Nat.le_of_ble_eq_true hi)) (by decide)
          refine (Any8.slices_Grow_grow L inf z hin hze (by omega) none 0 0 n [] w.W (Nat.le_refl _) (by omega) hbytes (by omega) (by simp) (fun _ => rfl) (fun a h => by cases h)).mono fun e W' ⟨g1, g2⟩ => ?_
          have hcap := grownCap_le_maxLen w.W (0 + n) 0 (ρ.t 25) (by unfold maxLen; omega)
          have hge := grownCap_ge w.W (0 + n) 0 (ρ.t 25)
          generalize grownCap w.W (0 + n) 0 (ρ.t 25) = G at g1 g2 hcap hge
          refine ⟨(some ⟨w.W.heap.size, 0, none⟩, G), g1, ⟨Nat.zero_le _, hcap, fun _ => rfl⟩, ?_⟩
          subst g2
          refine (hE.mod (W' := w.W.drew.alloc (.cells (([] : List Value).toArray ++ Builtin.zeroCells z.cells (0 + n - 0) ++ Builtin.zeroCells z.cells (G - (0 + n))) (ρ.t 25))) 0 (ow (some ⟨w.W.heap.size, 0, none⟩) G (ρ.t 25) t []) rfl rfl rfl (by rw [heap_da]; simp) (Nat.le_succ _) (fun b hb _ => ?_) (ow_loc _ _ _ _ _) ?_ (fun b hb => ?_)).weaken (fun k => ?_)
          · rw [heap_da]; simp [Array.getElem?_push, Nat.ne_of_lt hb]
          · refine ⟨[], .nil, by simp, .inr ⟨w.W.heap.size, G, _, rfl, Nat.zero_le _, by rw [heap_da, Array.getElem?_push_size], Nat.zero_le _, hcap, ?_, by simp⟩⟩
            simp only [Array.size_append, List.size_toArray, List.length_nil, size_zeroCells, hz]
            rw [Nat.zero_add, ← Nat.add_mul]
            congr 1
            omega
          · have hb : (Value.slice (some ⟨w.W.heap.size, 0, none⟩) ([] : List α).length G).ownBlock = some b := hb
            simp [Value.ownBlock] at hb
            subst hb
            exact ⟨.inr (Nat.le_refl _), by rw [heap_da]; simp⟩
          · cases k with
            | zero => exact .inl rfl
            | succ k => exact .inr rfl
  · cases H
end
end Go.Proofs.Ytfddmjoldoddlaa
