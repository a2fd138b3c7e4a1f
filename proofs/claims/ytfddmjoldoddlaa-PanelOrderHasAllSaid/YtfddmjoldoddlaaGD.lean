/- The tape's place only moves on. Over any program. -/
import Derived.WalkKit
namespace Go.Proofs.Ytfddmjoldoddlaa
theorem viewStore_drawn {p : Program} {w w' : World} {b k : Addr} {u : TypeId} {v : Value} {at_ : Bool} {l : List Addr} (h : w.viewStore p b u k v at_ = .ok (w', l)) : w'.drawn = w.drawn := by
  unfold World.viewStore at h
  simp only [bind, Except.bind, pure, Except.pure] at h
  repeat' split at h
  all_goals first
    | (cases h; done)
    | (cases h; rfl)
    | (simp at h; obtain ⟨rfl, _⟩ := h; rfl)
    | skip
theorem farStore_drawn {p : Program} {w w' : World} {a : Addr} {v : Value} {at_ : Bool} {l : List Addr} (h : w.farStore p a v at_ = .ok (w', l)) : w'.drawn = w.drawn := by
  unfold World.farStore at h
  split at h
  · split at h
    · rename_i r hr
      cases h
      exact viewStore_drawn hr
    · cases h
  · cases h
theorem ask_drawn {α : Type} : ∀ (q : Ask α) (w : World), w.drawn ≤ (w.ask q).2.drawn
  | .done a, w => by unfold World.ask; exact Nat.le_refl _
  | .ask what range k, w => by
    unfold World.ask
    simp only
    split
    · exact ask_drawn _ w
    · exact Nat.le_of_succ_le (ask_drawn (k ((Question.extern what range).cut (w.tape w.drawn (Question.extern what range)))) { w with drawn := w.drawn + 1 })
theorem sys_drawn (w : World) (c : Sys) : w.drawn ≤ (w.sys c).2.drawn := by
  unfold World.sys
  have := ask_drawn (Kernel.perform c w.os) w
  split
  · exact Nat.le_refl _
  · rename_i h; rw [h] at this; exact this
theorem run_drawn {α : Type} {p : Program} (m : Sem α) : ∀ (w w' : World) (a : α), m.run p w = .ok a w' → w.drawn ≤ w'.drawn := by
  induction m with
  | pure _ => intro w w' a h; simp [Sem.run] at h; rw [h.2]; exact Nat.le_refl _
  | load mo ad k ih =>
    intro w w' a h
    simp only [Sem.run] at h
    split at h
    · exact ih _ _ _ _ h
    · split at h
      · exact ih _ _ _ _ h
      · cases h
  | store mo ad v k ih =>
    intro w w' a h
    have key : ∀ (r : Except Halt (World × List Addr)), (match w.cell? ad with
        | some _ => if w.frozen? ad = true then (.halt (.unsupported (.unsafePointer "a write to bytes that a string shares")) w : Result α) else k.run p (w.setCell ad v)
        | none => match r with
          | .ok (w, _) => k.run p w
          | .error h => .halt h w) = .ok a w' → (∀ w2 l, r = .ok (w2, l) → w2.drawn = w.drawn) → w.drawn ≤ w'.drawn := fun r h hr => by
      split at h
      · split at h
        · cases h
        · exact ih (w.setCell ad v) w' a h
      · split at h
        · have := ih _ w' a h
          rw [hr _ _ rfl] at this; exact this
        · cases h
    have hf : ∀ w2 l, w.farStore p ad v (mo == Mode.atomic) = .ok (w2, l) → w2.drawn = w.drawn := fun w2 l => farStore_drawn
    cases v <;> simp only [Sem.run] at h <;> first
      | (cases h; done)
      | exact key _ h hf
  | new o k ih => intro w w' a h; simp only [Sem.run] at h; have := ih _ _ _ _ h; exact this
  | shape r k ih => intro w w' a h; simp only [Sem.run] at h; exact ih _ _ _ _ h
  | freeze ad n k ih =>
    intro w w' a h
    simp only [Sem.run] at h
    have := ih _ _ _ h
    have e : (w.freeze ad n).drawn = w.drawn := by unfold World.freeze; split <;> rfl
    rw [e] at this; exact this
  | frozen ad k ih => intro w w' a h; simp only [Sem.run] at h; exact ih _ _ _ _ h
  | getObj r k ih =>
    intro w w' a h
    simp only [Sem.run] at h
    split at h
    · cases h
    · exact ih _ _ _ _ h
    · cases h
  | setObj r o k ih =>
    intro w w' a h
    simp only [Sem.run] at h
    split at h
    · cases h
    · have := ih _ _ _ h
      exact this
    · cases h
  | choose q k ih =>
    intro w w' a h
    simp only [Sem.run] at h
    split at h
    · exact ih _ _ _ _ h
    · exact Nat.le_of_succ_le (ih _ _ _ _ h)
  | sys c k ih =>
    intro w w' a h
    simp only [Sem.run] at h
    exact Nat.le_trans (sys_drawn w c) (ih _ _ _ _ h)
  | program k ih => intro w w' a h; simp only [Sem.run] at h; exact ih _ _ _ _ h
  | mark _ k ih => intro w w' a h; simp only [Sem.run] at h; exact ih _ _ _ h
  | halt _ => intro w w' a h; simp [Sem.run] at h
end Go.Proofs.Ytfddmjoldoddlaa
