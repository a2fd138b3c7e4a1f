/- Calls of a function value that is a function of the program, and that make or turn memory. -/
import Derived.Test.YtfddmjoldoddlaaH17
namespace Go.Proofs.Ytfddmjoldoddlaa
open Go.RowKit
section
variable {P : Program} {w : Bs} {n : Nat} {ops : Array Oper} {f : Nat → Option Value} {E : Nat → Ent} {Q : Exit → Act → World → Prop} {rest : List Oper} {d : Nat} {ty : TypeId} {pos : String} {af : Array Edge} {g : Option (Nat × Bool)}
theorem run_callV {a : Act} {W : World} {fn : Nat} {x : Operand} {xs : List Operand} {vs : List Value} {ts : Array Nat} {dd : Option Nat} (h1 : FR n f a) (hxf : ev f x = some (.func (.func fn) #[] #[])) (hg : ∀ args W, (callFunc fn args).run P W = .ok (.enter fn args) W) (hx : evl f xs vs) :
    (execOp a.eval ⟨dd, .call ⟨.value x, xs.toArray, ts⟩, ty, pos, af, g⟩).run P W = .ok (.enter fn vs.toArray) W := by
  have := evl_eq hx a h1
  simp [execOp, resolve, invoke, Deferred.ofValue, h1.ev hxf, hg, this]
theorem Tr.call0V {fn : Nat} {x : Operand} {xs : List Operand} {vs : List Value} {ts : Array Nat} {r : Value} (hw : Wn ops f ⟨some d, .call ⟨.value x, xs.toArray, ts⟩, ty, pos, af, g⟩) (hdn : Nat.blt d n = true) (hxf : ev f x = some (.func (.func fn) #[] #[]))
    (hg : ∀ args W, (callFunc fn args).run P W = .ok (.enter fn args) W) (hx : evl f xs vs)
    (hc : ∀ W (hW : HF w W E), Calls P fn vs.toArray W fun e W' => e = .returned r ∧ HF hW.all W' E0)
    (K : Tr w n (uf f d r) E (wpList P ops Q rest)) : Tr w n f E (wpList P ops Q (⟨some d, .call ⟨.value x, xs.toArray, ts⟩, ty, pos, af, g⟩ :: rest)) :=
  Tr.op hw fun a W h1 h2 => by
    unfold Oper.wp
    rw [run_callV h1 hxf hg hx]
    refine (hc W h2).mono fun e W' ⟨he, hb⟩ => ?_
    subst he
    exact K _ _ (h1.put (Nat.le_of_ble_eq_true hdn) _) (h2.later (h2.allBelow hb))
theorem Tr.callMV {U : Type} {fn : Nat} {x : Operand} {xs : List Operand} {vs : List Value} {ts : Array Nat} (ks : List Nat) (ins : List Ent) (V : U → Value) (Φ : U → Prop) (outs : U → List Ent) (hn : decide ks.Nodup = true) (hp : Pk E ks ins) (hl : ∀ u, (outs u).length = ks.length)
    (hw : Wn ops f ⟨some d, .call ⟨.value x, xs.toArray, ts⟩, ty, pos, af, g⟩) (hdn : Nat.blt d n = true) (hxf : ev f x = some (.func (.func fn) #[] #[]))
    (hg : ∀ args W, (callFunc fn args).run P W = .ok (.enter fn args) W) (hx : evl f xs vs)
    (hc : ∀ W (hW : HF w W E) (_ : Pk E ks ins), HF (hW.sub (insS ins)) W (LEn ins) → Calls P fn vs.toArray W fun e W' => ∃ u, e = .returned (V u) ∧ Φ u ∧ HF (hW.sub (insS ins)) W' (LEn (outs u)))
    (K : ∀ u, Φ u → Tr w n (uf f d (V u)) (upL E ks (outs u)) (wpList P ops Q rest)) : Tr w n f E (wpList P ops Q (⟨some d, .call ⟨.value x, xs.toArray, ts⟩, ty, pos, af, g⟩ :: rest)) :=
  Tr.op hw fun a W h1 h2 => by
    unfold Oper.wp
    rw [run_callV h1 hxf hg hx]
    have hn' := of_decide_eq_true hn
    refine (hc W h2 hp (h2.lend hn' hp)).mono fun e W' ⟨u, he, hu, hb⟩ => ?_
    subst he
    exact K u hu _ _ (h1.put (Nat.le_of_ble_eq_true hdn) _) (HF.sameO (h2.after_le hp (.refl _)) (fun _ h => h) (h2.back hn' hp (.refl _) hb (hl u)))
theorem Tr.callGV {U : Type} {fn : Nat} {x : Operand} {xs : List Operand} {vs : List Value} {ts : Array Nat} (ks : List Nat) (ins : List Ent) (V : U → Value) (Φ : (Nat → Prop) → World → U → Prop) (outs : U → List Ent) (hn : decide ks.Nodup = true) (hp : Pk E ks ins) (hl : ∀ u, (outs u).length = ks.length)
    (hw : Wn ops f ⟨some d, .call ⟨.value x, xs.toArray, ts⟩, ty, pos, af, g⟩) (hdn : Nat.blt d n = true) (hxf : ev f x = some (.func (.func fn) #[] #[]))
    (hg : ∀ args W, (callFunc fn args).run P W = .ok (.enter fn args) W) (hx : evl f xs vs)
    (hc : ∀ W (hW : HF w W E) (_ : Pk E ks ins), HF (hW.sub (insS ins)) W (LEn ins) → Calls P fn vs.toArray W fun e W' => ∃ w' u, (hW.sub (insS ins)).Le w' ∧ e = .returned (V u) ∧ Φ w'.O w'.W u ∧ HF w' W' (LEn (outs u)))
    (K : ∀ w' u, w.Le w' → Φ w'.O w'.W u → Tr w' n (uf f d (V u)) (upL E ks (outs u)) (wpList P ops Q rest)) : Tr w n f E (wpList P ops Q (⟨some d, .call ⟨.value x, xs.toArray, ts⟩, ty, pos, af, g⟩ :: rest)) :=
  Tr.op hw fun a W h1 h2 => by
    unfold Oper.wp
    rw [run_callV h1 hxf hg hx]
    have hn' := of_decide_eq_true hn
    refine (hc W h2 hp (h2.lend hn' hp)).mono fun e W' ⟨w', u, hle, he, hu, hb⟩ => ?_
    subst he
    exact K (h2.after hle) u (h2.after_le hp hle) hu _ _ (h1.put (Nat.le_of_ble_eq_true hdn) _) (h2.back hn' hp hle hb (hl u))
end
end Go.Proofs.Ytfddmjoldoddlaa
