/- TopClearGrows: the law, and its fuel. Plain Lean about the plain functions. Conditions: none beyond each theorem's own. -/
import Derived.Test.YtkccbhbhdnobhaaGreatDoorJ5
import Derived.Test.YtkccbhbhdnobhaaGreatDoorQTCGR
namespace Go.Proofs.YtkccbhbhdnobhaaGreatDoor
theorem Du {N : Nat} (hN : 10000000000 ≤ N) (r : gp) {a : nU} (hn : ∀ x ∈ a.Lands, Nm N x.Pin) (nets : List ByteArray) : iN N r a nets = some true := by
  obtain ⟨y, y1, y2⟩ := Nf hN hn nets r.Clearance
  have hop : iD N = some true := by
    obtain ⟨M, rfl⟩ : ∃ M, N = M + 1 := ⟨N - 1, by omega⟩
    exact Lm M
  unfold iN
  rw [show gp.mk r.Clearance 0 0 0 0 [] [] = Hm r.Clearance from rfl, y1, Option.bind_some, hop]
  rcases y2 with ⟨h1, h2⟩ | ⟨h1, B, hO, hB, hA⟩
  · rw [if_pos (by simp [h1]), h2]
    simp
  · by_cases h : y.1.length = 0
    · obtain ⟨T, t1, t2⟩ := Kl hO hB
      have hAp := hA h
      rw [if_neg (by simp [h1, h]), t1, Option.bind_some, Kq hO, Option.bind_some]
      dsimp only
      rw [if_neg (by simp)]
      have := LY hN hO hB t2 hAp (r := r) rfl hop N 0 (by have := hB.few; omega) (by omega)
      exact this
    · rw [if_pos (by simp only [Bool.or_eq_true, decide_eq_true_eq]; exact .inr (by omega)), if_pos (by simp [h1])]
      rfl
theorem O3 {α : Type} (f : α → Nat) : ∀ (l : List α), ∃ M, ∀ x ∈ l, f x ≤ M
  | [] => ⟨0, fun _ h => (nomatch h)⟩
  | x :: l => by
    obtain ⟨M, h⟩ := O3 f l
    refine ⟨max (f x) M, fun y hy => ?_⟩
    rcases List.mem_cons.1 hy with rfl | hy
    · exact Nat.le_max_left _ _
    · exact Nat.le_trans (h y hy) (Nat.le_max_right _ _)
theorem Dh (r : gp) (a : nU) (n : List ByteArray) {X Y : Prop} (_ : X) (ha : a.Wf) (_ : Y) : ∃ N, iN N r a n = some true := by
  obtain ⟨M, h⟩ := O3 (fun x : pG => x.Pin.size) a.Lands
  refine ⟨10000000001 + M, Du (by omega) r (fun x hx => ⟨(ha.fLands.2 x hx).fPin, ?_⟩) n⟩
  have := h x hx
  omega
end Go.Proofs.YtkccbhbhdnobhaaGreatDoor
