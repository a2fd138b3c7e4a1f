/- More words: a slice cut behind. -/
import Derived.Test.YtpkicpnbpldkpaaD0
namespace Go.Proofs.Ytpkicpnbpldkpaa
open Go.RowKit
theorem Sl.take {α : Type} {w : World} {sz : Nat} {enc : α → List Value} {A : Option Addr} {c n k : Nat} {l : List α} (h : Sl w sz enc (.slice A n c) l) (hk : k ≤ l.length) : Sl w sz enc (.slice A k c) (l.take k) := by
  obtain ⟨A', c', hv, h1, h2, h3⟩ := h
  injection hv with hA hn hc
  subst hA hc
  have hl : (l.take k).length = k := by simp; omega
  refine ⟨A, c, by rw [hl], by omega, h2, fun hp => ?_⟩
  obtain ⟨b, off, rfl, hlt, hcell⟩ := h3 (by omega)
  refine ⟨b, off, rfl, hlt, fun i x hx => hcell i x ?_⟩
  rw [List.getElem?_take] at hx
  split at hx
  · exact hx
  · cases hx
end Go.Proofs.Ytpkicpnbpldkpaa
