/- A literal that becomes a slice of the call's own, within a region that draws. -/
import Derived.Test.YtfdglihcpfpefaaGreatH10
namespace Go.Proofs.YtfdglihcpfpefaaGreat
open Go.RowKit
theorem St.own {P : Program} {w : Bs} {n : Nat} {f : Nat → Option Value} {E : Nat → Ent} {l : List Oper} {m : Nat} {t : Tn} {Q : Exit → Act → World → Prop} {fu : Nat} {listed : Array Bool} {α : Type} {i : Nat} (κ : Nat) {b T : Nat} {vs : List Value} (t' : Fl α) (ll : List α) {css : List (List Value)} (hk : E κ = bx b vs.toArray T) (hal : Al (rp t' w.O w.W) css ll) (hl : css.flatten = vs) (hsz : 0 < t'.sz) (hm : ll.length ≤ maxLen)
    (K : St P w n l m t Q fu listed f (up E κ (ow (some ⟨b, 0, none⟩) ll.length T t' ll)) i) : St P w n l m t Q fu listed f E i :=
  fun inv => Tr.own κ t' ll hk hal hl hsz hm (K inv)
end Go.Proofs.YtfdglihcpfpefaaGreat
