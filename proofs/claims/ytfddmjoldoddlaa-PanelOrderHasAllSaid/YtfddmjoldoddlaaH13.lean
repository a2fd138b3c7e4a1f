/- Front parts of slices; lengths that stay; a result in a variable of one cell. Conditions: none beyond each theorem's own. -/
import Derived.Test.YtfddmjoldoddlaaH12
namespace Go.Proofs.Ytfddmjoldoddlaa
open Go.RowKit
/-- A front part of a list; none: no such part. -/
def pre {α : Type} (l : List α) (hi : Int) : Option (List α) := if 0 ≤ hi ∧ hi ≤ (l.length : Int) then some (l.take hi.toNat) else none
theorem pre_some {α : Type} {l l' : List α} {hi : Int} (h : pre l hi = some l') : (0 ≤ hi ∧ hi ≤ (l.length : Int)) ∧ l.take hi.toNat = l' := by
  unfold pre at h
  split at h
  · exact ⟨by assumption, Option.some.inj h⟩
  · cases h
theorem pre_len {α : Type} {l l' : List α} {hi : Int} (h : pre l hi = some l') : l'.length = hi.toNat := by
  obtain ⟨h1, rfl⟩ := pre_some h
  simp; omega
theorem pre_form {α : Type} {l l' : List α} {hi : Int} {A : Option Addr} {c : Nat} (hf : SlF A l.length c) (h : pre l hi = some l') : SlF A l'.length c := by
  have hl := pre_len h
  obtain ⟨⟨h1, h2⟩, _⟩ := pre_some h
  obtain ⟨f1, f2, f3⟩ := hf
  exact ⟨by omega, f2, fun hp => f3 (by omega)⟩
theorem Sl.pre {α : Type} {S : Nat → Prop} {W : World} {t : Fl α} {A : Option Addr} {c : Nat} {l l' : List α} {hi : Int} (h : Sl S W t A c l) (hc : Proofs.Ytfddmjoldoddlaa.pre l hi = some l') : Sl S W t A c l' := by
  refine ⟨pre_form h.form hc, fun i x hx => ?_⟩
  obtain ⟨_, hl⟩ := pre_some hc
  rw [← hl, List.getElem?_take] at hx
  split at hx
  · exact h.cells i x hx
  · cases hx
section
variable {P : Program} {ρ : Operand → Value} {W : World} {d : Option Tmp} {ty T : TypeId} {pos : String} {af : Array Edge} {g : Option (Nat × Bool)} {p r : Operand} {j : Int} {α : Type} {l l' : List α} {e sz c : Nat} {A : Option Addr}
theorem run_pre (he : elemOf? P T = some (e, sz)) (hp : ρ p = .slice A l.length c) (hf : SlF A l.length c) (hr : ρ r = .int .i64 j) (hc : pre l j = some l') :
    (execOp ρ ⟨d, .slice T p none (some r) none, ty, pos, af, g⟩).run P W = .ok (.value (.slice A l'.length c)) W := by
  obtain ⟨⟨h1, h2⟩, hl⟩ := pre_some hc
  have hc' : cut l 0 j = some l' := by
    unfold cut
    rw [if_pos ⟨by omega, h1, h2⟩, ← hl]
    simp
  rw [run_cutH he hp hf hr hc', Nat.sub_zero]
  unfold cutA
  split
  · rfl
  · cases A with
    | none => rfl
    | some a => simp [Addr.add]
end
section
variable {P : Program} {w : Bs} {n : Nat} {f : Nat → Option Value} {E : Nat → Ent} {X : Act → World → Prop}
theorem Tr.shrinkP {α : Type} (κ : Nat) {A : Option Addr} {c e : Nat} {t : Fl α} {l l' : List α} {hi : Int} (hc : pre l hi = some l') (hk : E κ = ow A c e t l) (K : Tr w n f (up E κ (ow A c e t l')) X) : Tr w n f E X := by
  obtain ⟨⟨h1, h2⟩, hl⟩ := pre_some hc
  exact Tr.shrink κ hi.toNat (by omega) hk (by rw [hl]; exact K)
theorem slen {t : Nat} {A : Option Addr} {n m c : Nat} {v : Value} (h : f t = some v) (e : v = .slice A m c) : f t = some (.slice A m c) := e ▸ h
theorem slenV {t : Nat} {v v' : Value} (h : f t = some v) (e : v = v') : f t = some v' := e ▸ h
theorem ebx {k b T : Nat} {vs vs' : Array Value} (h : E k = bx b vs T) (e : vs = vs') : E k = bx b vs' T := e ▸ h
theorem insS_no {es : List Ent} {Y : Nat → Prop} (h : es = List.replicate es.length emp) : ∀ b, insS es b → Y b := fun b ⟨e, he, hs⟩ => by
  rw [h] at he
  have := List.eq_of_mem_replicate he
  subst this
  exact hs.elim
theorem res_cell1 {t T T2 b k : Nat} {v : Value} {l : List ResultVar} {m : List Value} {ks : List Nat} (h : f t = some (.pointer (some ⟨b, 0, none⟩))) (hk : E k = bx b #[v] T2) (ha : aggOf P T = some false) (h2 : resOf P f E l m ks) (hne : ∀ cs, v ≠ .agg cs) :
    True := trivial
end
end Go.Proofs.Ytfddmjoldoddlaa
