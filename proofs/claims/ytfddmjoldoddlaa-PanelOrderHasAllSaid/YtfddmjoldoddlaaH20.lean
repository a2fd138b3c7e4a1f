/- Short words for the steps that come most. Over any program. -/
import Derived.Test.YtfddmjoldoddlaaH13
namespace Go.Proofs.Ytfddmjoldoddlaa
open Go.RowKit
section
variable {P : Program} {w : Bs} {n : Nat} {ops : Array Oper} {f : Nat → Option Value} {E : Nat → Ent} {Q : Exit → Act → World → Prop} {X : Act → World → Prop} {rest : List Oper} {d ty : Nat} {pos : String} {af : Array Edge} {p : Operand} {v : Value} {x y : Code} {id : Nat} {l : List Oper} {op : Op}
/-- A plain operation without a guard. -/
theorem Tr.va (hdn : Nat.blt d n = true) (hr : ∀ a W, FR n f a → HF w W E → (execOp a.eval ⟨some d, op, ty, pos, af, none⟩).run P W = .ok (.value v) W) (k : Tr w n (uf f d v) E (wpList P ops Q rest)) : Tr w n f E (wpList P ops Q (⟨some d, op, ty, pos, af, none⟩ :: rest)) := Tr.val (wn rfl) hdn hr k
theorem Tq.va (hdn : Nat.blt d n = true) (hr : ∀ a W, FR n f a → HF w W E → (execOp a.eval ⟨some d, op, ty, pos, af, none⟩).run P W = .ok (.value v) W) (k : Tq P w n ops (uf f d v) E X rest) : Tq P w n ops f E X (⟨some d, op, ty, pos, af, none⟩ :: rest) := Tq.val (wn rfl) hdn hr k
theorem Tr.mv (hdn : Nat.blt d n = true) (hp : ev f p = some v) (k : Tr w n (uf f d v) E (wpList P ops Q rest)) : Tr w n f E (wpList P ops Q (⟨some d, .move p, ty, pos, af, none⟩ :: rest)) := Tr.va hdn (fun _ _ h1 _ => run_move (h1.ev hp)) k
theorem Tr.asg (hdn : Nat.blt d n = true) (hp : ev f p = some v) (k : Tr w n (uf f d v) E (wpList P ops Q rest)) : Tr w n f E (wpList P ops Q (⟨some d, .assign p, ty, pos, af, none⟩ :: rest)) := Tr.va hdn (fun _ _ h1 _ => run_assign (h1.ev hp)) k
theorem Tq.mv (hdn : Nat.blt d n = true) (hp : ev f p = some v) (k : Tq P w n ops (uf f d v) E X rest) : Tq P w n ops f E X (⟨some d, .move p, ty, pos, af, none⟩ :: rest) := Tq.va hdn (fun _ _ h1 _ => run_move (h1.ev hp)) k
theorem Tq.asg (hdn : Nat.blt d n = true) (hp : ev f p = some v) (k : Tq P w n ops (uf f d v) E X rest) : Tq P w n ops f E X (⟨some d, .assign p, ty, pos, af, none⟩ :: rest) := Tq.va hdn (fun _ _ h1 _ => run_assign (h1.ev hp)) k
theorem Tr.sr (h : Tr w n f E (wpList P l.toArray (Exit.then (y.wp P Q) Q) l)) : Tr w n f E ((Code.seq (Code.region id l.toArray false) y).wp P Q) := Tr.seq (Tr.region h)
end
end Go.Proofs.Ytfddmjoldoddlaa
