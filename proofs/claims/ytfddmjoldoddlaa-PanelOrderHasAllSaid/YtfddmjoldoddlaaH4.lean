/- The rules of the small logic: joins, regions that draw, closures; and the words of the plain functions. Over any program. Conditions: none beyond each theorem's own. -/
import Derived.Test.YtfddmjoldoddlaaH3
import Derived.StillTailTactics
import Derived.Deep.QuietTactic
import Derived.BigQuiet
namespace Go.Proofs.Ytfddmjoldoddlaa
open Go.RowKit
/-- An element; none: no such place. -/
def idx {α : Type} (l : List α) (i : Int) : Option α := if 0 ≤ i then l[i.toNat]? else none
theorem idx_some {α : Type} {l : List α} {i : Int} {x : α} (h : idx l i = some x) : 0 ≤ i ∧ i.toNat < l.length ∧ l[i.toNat]? = some x := by
  unfold idx at h
  split at h
  · exact ⟨by assumption, (List.getElem?_eq_some_iff.1 h).1, h⟩
  · cases h
def dv (a b : Int) : Option Int := if b = 0 then none else some (w64 (a.tdiv b))
def md (a b : Int) : Option Int := if b = 0 then none else some (a.tmod b)
theorem dv_some {a b c : Int} (h : dv a b = some c) : b ≠ 0 ∧ w64 (a.tdiv b) = c := by unfold dv at h; split at h; cases h; exact ⟨by assumption, Option.some.inj h⟩
theorem md_some {a b c : Int} (h : md a b = some c) : b ≠ 0 ∧ a.tmod b = c := by unfold md at h; split at h; cases h; exact ⟨by assumption, Option.some.inj h⟩
def catS (s t : ByteArray) : Option ByteArray := if s.size + t.size ≤ 9223372036854775807 then some (s ++ t) else none
theorem catS_some {s t x : ByteArray} (h : catS s t = some x) : s.size + t.size ≤ 9223372036854775807 ∧ s ++ t = x := by unfold catS at h; split at h; exact ⟨by assumption, Option.some.inj h⟩; cases h
theorem bnd {α β : Type} {o : Option α} {k : α → Option β} {r : β} (h : o.bind k = some r) : ∃ x, o = some x ∧ k x = some r := Option.bind_eq_some_iff.1 h
def lt {α β : Type} (a : α) (k : α → Option β) : Option β := k a
theorem lt_some {α β : Type} {a : α} {k : α → Option β} {r : β} (h : lt a k = some r) : ∃ x, a = x ∧ k x = some r := ⟨a, rfl, h⟩
theorem SelF.nil {f : Nat → Option Value} : SelF f [] := trivial
theorem SelF.cons {f : Nat → Option Value} {t : Nat} {v : Value} {l : List (Nat × Value)} (h : f t = some v) (h2 : SelF f l) : SelF f ((t, v) :: l) := ⟨h, h2⟩
theorem SelE.nil {E : Nat → Ent} : SelE E [] := trivial
theorem SelE.cons {E : Nat → Ent} {k : Nat} {e : Ent} {l : List (Nat × Ent)} (h : E k = e) (h2 : SelE E l) : SelE E ((k, e) :: l) := ⟨h, h2⟩
theorem noSome {α : Type} {r : α} {p : Prop} (h : none = some r) : p := by cases h
theorem range_nil {α : Type} {l : List α} {i : Nat} (hd : [] = l.drop i) : decide ((i : Int) < (l.length : Int)) = false := by
  have : l.length ≤ i := List.drop_eq_nil_iff.1 hd.symm
  exact decide_eq_false (by omega)
theorem range_lt {α : Type} {l rest : List α} {x : α} {i : Nat} (hd : x :: rest = l.drop i) : i < l.length := by
  rcases Nat.lt_or_ge i l.length with h | h
  · exact h
  · rw [List.drop_of_length_le h] at hd; cases hd
theorem range_on {α : Type} {l rest : List α} {x : α} {i : Nat} (hd : x :: rest = l.drop i) : decide ((i : Int) < (l.length : Int)) = true := decide_eq_true (by have := range_lt hd; omega)
theorem range_at {α : Type} {l rest : List α} {x : α} {i : Nat} (hd : x :: rest = l.drop i) : l[i]? = some x := by
  have h := range_lt hd
  rw [List.drop_eq_getElem_cons h] at hd
  rw [List.getElem?_eq_getElem h]
  exact congrArg some (List.cons.inj hd).1.symm
theorem range_tl {α : Type} {l rest : List α} {x : α} {i : Nat} (hd : x :: rest = l.drop i) : rest = l.drop (i + 1) := by
  have h := range_lt hd
  rw [List.drop_eq_getElem_cons h] at hd
  exact (List.cons.inj hd).2
theorem range_up {α : Type} {l rest : List α} {x : α} {i c : Nat} {A : Option Addr} (hd : x :: rest = l.drop i) (hf : SlF A l.length c) : w64 ((i : Int) + 1) = ((i + 1 : Nat) : Int) := by
  have h := range_lt hd
  have h2 := hf.1
  have h3 := hf.2.1
  unfold maxLen at h3
  rw [w64_eq (by omega) (by omega)]; omega
section
variable {P : Program} {w : Bs} {n : Nat} {f : Nat → Option Value} {E : Nat → Ent} {X Y : Act → World → Prop} {Q : Exit → Act → World → Prop} {x y : Code} {ops : Array Oper} {rest l : List Oper}
variable {d ty T T' : Nat} {pos : String} {af : Array Edge} {g : Option (Nat × Bool)} {p q : Operand} {u v : Value}
theorem Tr.cutJ {σ : Type} (C : Bs → σ → Prop) (fs : σ → List (Nat × Value)) (es : σ → List (Nat × Ent)) (h : Tr w n f E (x.wp P (Exit.then (Inv w n (fun _ => C) fs es 0) Q))) (h2 : ∀ w' s, w.Le w' → C w' s → Tr w' n (LF (fs s)) (LE (es s)) (y.wp P Q)) :
    Tr w n f E ((Code.seq x y).wp P Q) := Tr.cut _ h (fun a W ⟨w', s, hle, hs, k1, k2⟩ => h2 w' s hle hs a W k1 k2)
theorem upon_mono {o : Oper} {a : Act} {N N' : Act → World → Prop} {Q' : Exit → Act → World → Prop} {r : Result Next} (hN : ∀ a w, N a w → N' a w) (hQ : ∀ c a w, Q (.panic c) a w → Q' (.panic c) a w) (hL : LetsOut Q → LetsOut Q')
    (h : o.upon P a N Q r) : o.upon P a N' Q' r := by
  cases r with
  | ok nx w' =>
    cases nx <;> simp only [Oper.upon] at h ⊢ <;> first
      | exact hN _ _ h
      | (refine h.mono fun e w' hq => ?_
         first
         | exact hN _ _ hq
         | (cases e with
            | returned v => exact hN _ _ hq
            | panicked c => exact hQ _ _ _ hq
            | outgrown => exact hL hq))
      | exact h
  | halt hh w' =>
    cases hh <;> simp only [Oper.upon] at h ⊢ <;> first
      | exact hQ _ _ _ h
      | exact h
theorem wpList_two {X : Act → World → Prop} : ∀ (l1 : List Oper) (a : Act) (W : World), wpList P ops (Exit.then X Q) l1 a W → (∀ a W, X a W → wpList P ops Q rest a W) → wpList P ops Q (l1 ++ rest) a W
  | [], a, W, h, h2 => h2 a W h
  | o :: l1, a, W, h, h2 => by
    have hout : LetsOut (Exit.then X Q) → LetsOut Q := fun ⟨a, w, h⟩ => ⟨a, w, h⟩
    show wpList P ops Q (o :: (l1 ++ rest)) a W
    unfold wpList at h ⊢
    split
    · rename_i hw
      rw [if_pos hw] at h
      rcases h with h | h
      · left
        exact upon_mono (fun a w hh => wpList_two l1 a w hh h2) (fun _ _ _ hh => hh) hout h
      · exact .inr ⟨h.1, hout h.2⟩
    · rename_i hw
      rw [if_neg hw] at h
      exact wpList_two l1 _ _ h h2
/-- A cut within a region. -/
theorem Tr.mid {σ : Type} (m : Nat) (C : Bs → σ → Prop) (fs : σ → List (Nat × Value)) (es : σ → List (Nat × Ent)) (h : Tr w n f E (wpList P ops (Exit.then (Inv w n (fun _ => C) fs es 0) Q) (l.take m)))
    (h2 : ∀ w' s, w.Le w' → C w' s → Tr w' n (LF (fs s)) (LE (es s)) (wpList P ops Q (l.drop m))) : Tr w n f E (wpList P ops Q l) := by
  intro a W h1 h3
  have := wpList_two (rest := l.drop m) _ a W (h a W h1 h3) (fun a W ⟨w', s, hle, hs, k1, k2⟩ => h2 w' s hle hs a W k1 k2)
  rwa [List.take_append_drop] at this
theorem Tr.mkFunc {h : FuncId} {xs : List Operand} {vs : List Value} (hw : Wn ops f ⟨some d, .makeFunc (.func h) #[] xs.toArray, ty, pos, af, g⟩) (hdn : Nat.blt d n = true) (hx : evl f xs vs)
    (K : Tr w n (uf f d (.func (.func h) #[] vs.toArray)) E (wpList P ops Q rest)) : Tr w n f E (wpList P ops Q (⟨some d, .makeFunc (.func h) #[] xs.toArray, ty, pos, af, g⟩ :: rest)) :=
  Tr.val hw hdn (fun a W h1 _ => run_makeFunc (by have := evl_eq hx a h1; simp [this])) K
theorem Tr.build {xs : List (Nat × Operand)} {vs : List (Nat × Value)} {cs : List Value} (hw : Wn ops f ⟨some d, .build T xs.toArray, ty, pos, af, g⟩) (hdn : Nat.blt d n = true) (hx : evs f xs vs) (hb : P.built T vs = some cs.toArray)
    (K : Tr w n (uf f d (.agg cs.toArray)) E (wpList P ops Q rest)) : Tr w n f E (wpList P ops Q (⟨some d, .build T xs.toArray, ty, pos, af, g⟩ :: rest)) :=
  Tr.val hw hdn (fun a W h1 _ => run_build (evs_eq hx a h1) hb) K
/-- A call of a function value. -/
theorem Tr.callF {fn : Nat} {x : Operand} {xs : List Operand} {vs caps : List Value} {ts : Array Nat} {r : Value} (hw : Wn ops f ⟨some d, .call ⟨.value x, xs.toArray, ts⟩, ty, pos, af, g⟩) (hdn : Nat.blt d n = true)
    (hxf : ev f x = some (.func (.func fn) #[] caps.toArray)) (hg : ∀ args W, (callFunc fn args).run P W = .ok (.enter fn args) W) (hx : evl f xs vs)
    (hc : ∀ W (hW : HF w W E), Calls P fn (vs ++ caps).toArray W fun e W' => e = .returned r ∧ HF hW.all W' E0)
    (K : Tr w n (uf f d r) E (wpList P ops Q rest)) : Tr w n f E (wpList P ops Q (⟨some d, .call ⟨.value x, xs.toArray, ts⟩, ty, pos, af, g⟩ :: rest)) :=
  Tr.op hw fun a W h1 h2 => by
    have hrun : (execOp a.eval ⟨some d, .call ⟨.value x, xs.toArray, ts⟩, ty, pos, af, g⟩).run P W = .ok (.enter fn (vs ++ caps).toArray) W := by
      have := evl_eq hx a h1
      simp [execOp, resolve, invoke, Deferred.ofValue, h1.ev hxf, hg, this]
    unfold Oper.wp
    rw [hrun]
    refine (hc W h2).mono fun e W' ⟨he, hb⟩ => ?_
    subst he
    exact K _ _ (h1.put (Nat.le_of_ble_eq_true hdn) _) (h2.later (h2.allBelow hb))
/-- Regions that draw their order: operations that read and call quietly. -/
def Tq (P : Program) (w : Bs) (n : Nat) (ops : Array Oper) (f : Nat → Option Value) (E : Nat → Ent) (X : Act → World → Prop) (l : List Oper) : Prop :=
  ∀ a W, FR n f a → HF w W E → wpQuiet P ops (fun W' => Below W.heap.size W W') (fun a' => ∀ W', Below W.heap.size W W' → X a' W') l a
theorem Tq.nil (h : Tr w n f E X) : Tq P w n ops f E X [] := fun a _ h1 h2 _ hb => h a _ h1 (h2.later hb)
theorem Tq.val {op : Op} (hw : Wn ops f ⟨some d, op, ty, pos, af, g⟩) (hdn : Nat.blt d n = true) (hr : ∀ a W, FR n f a → HF w W E → (execOp a.eval ⟨some d, op, ty, pos, af, g⟩).run P W = .ok (.value v) W)
    (K : Tq P w n ops (uf f d v) E X rest) : Tq P w n ops f E X (⟨some d, op, ty, pos, af, g⟩ :: rest) := by
  intro a W h1 h2
  unfold wpQuiet
  rw [if_pos (hw n a h1)]
  refine ⟨v, fun W' hb => ?_, K _ W (h1.put (Nat.le_of_ble_eq_true hdn) v) h2⟩
  unfold Oper.quietAt
  rw [hr a W' h1 (h2.later hb)]
  exact ⟨rfl, rfl⟩
theorem Tq.pass {o : Oper} {j t d : Nat} {b b' : Bool} (h : o.guard = some (j, b)) (hj : (ops[j]?).bind (·.dst) = some t) (ht : f t = some (.bool b')) (hne : (b' == b) = false) (hd : o.dst = some d) (hdn : d < n)
    (k : Tq P w n ops (uf f d undef) E X rest) : Tq P w n ops f E X (o :: rest) := by
  intro a W h1 h2
  unfold wpQuiet
  have hw : Region.wanted o (yielded ops a.tmps) = false := by
    simp [Region.wanted, h, yielded, hj, h1.get t _ ht]; exact fun e => by subst e; simp at hne
  rw [if_neg (by rw [hw]; simp), hd]
  exact k _ W (h1.put hdn undef) h2
theorem Tq.call0 {fn : Nat} {xs : List Operand} {vs : List Value} {ts : Array Nat} {r : Value} (hw : Wn ops f ⟨some d, .call ⟨.value (.func fn), xs.toArray, ts⟩, ty, pos, af, g⟩) (hdn : Nat.blt d n = true)
    (hg : ∀ args W, (callFunc fn args).run P W = .ok (.enter fn args) W) (hx : evl f xs vs)
    (hc : ∀ W (hW : HF w W E), Calls P fn vs.toArray W fun e W' => e = .returned r ∧ HF hW.all W' E0)
    (K : Tq P w n ops (uf f d r) E X rest) : Tq P w n ops f E X (⟨some d, .call ⟨.value (.func fn), xs.toArray, ts⟩, ty, pos, af, g⟩ :: rest) := by
  intro a W h1 h2
  unfold wpQuiet
  rw [if_pos (hw n a h1)]
  refine ⟨r, fun W' hb => ?_, K _ W (h1.put (Nat.le_of_ble_eq_true hdn) r) h2⟩
  have hrun : (execOp a.eval ⟨some d, .call ⟨.value (.func fn), xs.toArray, ts⟩, ty, pos, af, g⟩).run P W' = .ok (.enter fn vs.toArray) W' := by
    have := evl_eq hx a h1
    simp [execOp, resolve, invoke, Deferred.ofValue, Act.eval, hg, this]
  unfold Oper.quietAt
  rw [hrun]
  exact ⟨rfl, (hc W' (h2.later hb)).mono fun e W'' ⟨he, hb'⟩ => ⟨he, hb.trans (((h2.later hb).allBelow hb').mono hb.size)⟩⟩
theorem Tq.callF {fn : Nat} {x : Operand} {xs : List Operand} {vs caps : List Value} {ts : Array Nat} {r : Value} (hw : Wn ops f ⟨some d, .call ⟨.value x, xs.toArray, ts⟩, ty, pos, af, g⟩) (hdn : Nat.blt d n = true)
    (hxf : ev f x = some (.func (.func fn) #[] caps.toArray)) (hg : ∀ args W, (callFunc fn args).run P W = .ok (.enter fn args) W) (hx : evl f xs vs)
    (hc : ∀ W (hW : HF w W E), Calls P fn (vs ++ caps).toArray W fun e W' => e = .returned r ∧ HF hW.all W' E0)
    (K : Tq P w n ops (uf f d r) E X rest) : Tq P w n ops f E X (⟨some d, .call ⟨.value x, xs.toArray, ts⟩, ty, pos, af, g⟩ :: rest) := by
  intro a W h1 h2
  unfold wpQuiet
  rw [if_pos (hw n a h1)]
  refine ⟨r, fun W' hb => ?_, K _ W (h1.put (Nat.le_of_ble_eq_true hdn) r) h2⟩
  have hrun : (execOp a.eval ⟨some d, .call ⟨.value x, xs.toArray, ts⟩, ty, pos, af, g⟩).run P W' = .ok (.enter fn (vs ++ caps).toArray) W' := by
    have := evl_eq hx a h1
    simp [execOp, resolve, invoke, Deferred.ofValue, h1.ev hxf, hg, this]
  unfold Oper.quietAt
  rw [hrun]
  exact ⟨rfl, (hc W' (h2.later hb)).mono fun e W'' ⟨he, hb'⟩ => ⟨he, hb.trans (((h2.later hb).allBelow hb').mono hb.size)⟩⟩
theorem Tq.mkFunc {h : FuncId} {xs : List Operand} {vs : List Value} (hw : Wn ops f ⟨some d, .makeFunc (.func h) #[] xs.toArray, ty, pos, af, g⟩) (hdn : Nat.blt d n = true) (hx : evl f xs vs)
    (K : Tq P w n ops (uf f d (.func (.func h) #[] vs.toArray)) E X rest) : Tq P w n ops f E X (⟨some d, .makeFunc (.func h) #[] xs.toArray, ty, pos, af, g⟩ :: rest) :=
  Tq.val hw hdn (fun a W h1 _ => run_makeFunc (by have := evl_eq hx a h1; simp [this])) K
theorem Tq.build {xs : List (Nat × Operand)} {vs : List (Nat × Value)} {cs : List Value} (hw : Wn ops f ⟨some d, .build T xs.toArray, ty, pos, af, g⟩) (hdn : Nat.blt d n = true) (hx : evs f xs vs) (hb : P.built T vs = some cs.toArray)
    (K : Tq P w n ops (uf f d (.agg cs.toArray)) E X rest) : Tq P w n ops f E X (⟨some d, .build T xs.toArray, ty, pos, af, g⟩ :: rest) :=
  Tq.val hw hdn (fun a W h1 _ => run_build (evs_eq hx a h1) hb) K
theorem HF.capR {W : World} {k b T : Nat} {vs : List Value} (hW : HF w W E) (hk : E k = Proofs.Ytfddmjoldoddlaa.bx b vs.toArray T) : hW.all.R b := hW.allR (hW.lt hk)
theorem HF.capC {W : World} {k b T : Nat} {vs : List Value} (hW : HF w W E) (hk : E k = Proofs.Ytfddmjoldoddlaa.bx b vs.toArray T) : CellsAt hW.all.W b 0 vs := rdb hW hk 0
theorem HF.capR' {W : World} {b : Nat} (hW : HF w W E) (hb : w.R b) : hW.all.R b := hW.allR (hW.rlt hb)
theorem HF.capC' {W : World} {b : Nat} {vs : List Value} (hW : HF w W E) (hb : w.R b) (hc : CellsAt w.W b 0 vs) : CellsAt hW.all.W b 0 vs := rdR hb hc hW
/-- A value that hangs on addresses that are not known. -/
theorem Tr.valE {U : Type} {op : Op} (Φ : U → Prop) (V : U → Value) (hw : Wn ops f ⟨some d, op, ty, pos, af, g⟩) (hdn : Nat.blt d n = true)
    (hr : ∀ a W, FR n f a → HF w W E → ∃ u, Φ u ∧ ∀ W', Below W.heap.size W W' → (execOp a.eval ⟨some d, op, ty, pos, af, g⟩).run P W' = .ok (.value (V u)) W')
    (K : ∀ u, Φ u → Tr w n (uf f d (V u)) E (wpList P ops Q rest)) : Tr w n f E (wpList P ops Q (⟨some d, op, ty, pos, af, g⟩ :: rest)) :=
  Tr.op hw fun a W h1 h2 => by
    obtain ⟨u, hu, hrun⟩ := hr a W h1 h2
    unfold Oper.wp
    rw [hrun W (Below.refl _ _)]
    exact K u hu _ _ (h1.put (Nat.le_of_ble_eq_true hdn) _) h2
theorem Tq.valE {U : Type} {op : Op} (Φ : U → Prop) (V : U → Value) (hw : Wn ops f ⟨some d, op, ty, pos, af, g⟩) (hdn : Nat.blt d n = true)
    (hr : ∀ a W, FR n f a → HF w W E → ∃ u, Φ u ∧ ∀ W', Below W.heap.size W W' → (execOp a.eval ⟨some d, op, ty, pos, af, g⟩).run P W' = .ok (.value (V u)) W')
    (K : ∀ u, Φ u → Tq P w n ops (uf f d (V u)) E X rest) : Tq P w n ops f E X (⟨some d, op, ty, pos, af, g⟩ :: rest) := by
  intro a W h1 h2
  obtain ⟨u, hu, hrun⟩ := hr a W h1 h2
  unfold wpQuiet
  rw [if_pos (hw n a h1)]
  refine ⟨V u, fun W' hb => ?_, K u hu _ W (h1.put (Nat.le_of_ble_eq_true hdn) _) h2⟩
  unfold Oper.quietAt
  rw [hrun W' hb]
  exact ⟨rfl, rfl⟩
/-- A load through an element of a slice of the call's own. -/
theorem ldN {α : Type} {κ : Nat} {A : Option Addr} {c e i : Nat} {t : Fl α} {l : List α} {x : α} {V : t.Ad → Value} {op : Op} (hk : E κ = ow A c e t l) (hx : l[i]? = some x)
    (hr : ∀ a W u, FR n f a → CellsAt W (adB A) (adO A + i * t.sz) (t.enc u x) → (execOp a.eval ⟨some d, op, ty, pos, af, g⟩).run P W = .ok (.value (V u)) W) :
    ∀ a W, FR n f a → HF w W E → ∃ u, t.ok w.O w.W u x ∧ ∀ W', Below W.heap.size W W' → (execOp a.eval ⟨some d, op, ty, pos, af, g⟩).run P W' = .ok (.value (V u)) W' := fun a W h1 h2 => by
  obtain ⟨u, hu, hc⟩ := h2.atN hk hx
  refine ⟨u, hu, fun W' hb => hr a W' u h1 (hc.loc (hb.block _ ?_))⟩
  exact (h2.slB hk |>.cells i x hx).1
theorem wpQuiet_two {C : World → Prop} {X Y : Act → Prop} : ∀ (l1 : List Oper) (a : Act), wpQuiet P ops C X l1 a → (∀ a, X a → wpQuiet P ops C Y rest a) → wpQuiet P ops C Y (l1 ++ rest) a
  | [], a, h, h2 => h2 a h
  | o :: l1, a, h, h2 => by
    show wpQuiet P ops C Y (o :: (l1 ++ rest)) a
    unfold wpQuiet at h ⊢
    split
    · rename_i hw
      rw [if_pos hw] at h
      obtain ⟨v, h3, h4⟩ := h
      exact ⟨v, h3, wpQuiet_two l1 _ h4 h2⟩
    · rename_i hw
      rw [if_neg hw] at h
      exact wpQuiet_two l1 _ h h2
/-- A cut within a region that draws; nothing but the frame is handed on. -/
theorem Tq.mid (m : Nat) (fs : List (Nat × Value)) (h : Tq P w n ops f E (fun a _ => FR n (LF fs) a) (l.take m)) (h2 : Tq P w n ops (LF fs) E X (l.drop m)) : Tq P w n ops f E X l := by
  intro a W h1 h3
  have := wpQuiet_two (rest := l.drop m) _ a (h a W h1 h3) (fun a' ha => h2 a' W (ha W (Below.refl _ _)) h3)
  rwa [List.take_append_drop] at this
theorem Tq.fin {fs : List (Nat × Value)} (h : SelF f fs) : Tq P w n ops f E (fun a _ => FR n (LF fs) a) [] := fun _ _ h1 _ _ _ => h1.sel h
theorem undef_skip {o : Oper} {j t : Nat} {b : Bool} {a : Act} (hf : FR n f a) (h : o.guard = some (j, b)) (hj : (ops[j]?).bind (·.dst) = some t) (ht : f t = some undef) : Region.wanted o (yielded ops a.tmps) = false := by
  have : undef = Value.tuple #[] := rfl
  simp [Region.wanted, h, yielded, hj, hf.get t _ ht, this]
theorem Tr.passU {o : Oper} {j t d : Nat} {b : Bool} (h : o.guard = some (j, b)) (hj : (ops[j]?).bind (·.dst) = some t) (ht : f t = some undef) (hd : o.dst = some d) (hdn : d < n)
    (k : Tr w n (uf f d undef) E (wpList P ops Q rest)) : Tr w n f E (wpList P ops Q (o :: rest)) := by
  intro a W h1 h2
  unfold wpList
  rw [if_neg (by rw [undef_skip h1 h hj ht]; simp), hd]
  exact k _ _ (h1.put hdn undef) h2
theorem Tq.passU {o : Oper} {j t d : Nat} {b : Bool} (h : o.guard = some (j, b)) (hj : (ops[j]?).bind (·.dst) = some t) (ht : f t = some undef) (hd : o.dst = some d) (hdn : d < n)
    (k : Tq P w n ops (uf f d undef) E X rest) : Tq P w n ops f E X (o :: rest) := by
  intro a W h1 h2
  unfold wpQuiet
  rw [if_neg (by rw [undef_skip h1 h hj ht]; simp), hd]
  exact k _ W (h1.put hdn undef) h2
theorem Tr.draw {id : Nat} (hm : P.follows .mixedOrders = true) (hB : Region.lexB .any l.toArray = true) (h : Tq P w n l.toArray f E (Q .normal) l) : Tr w n f E ((Code.region id l.toArray true).wp P Q) :=
  fun a W h1 h2 => wp_region_quiet (C := fun W' => Below W.heap.size W W') hm hB ⟨rfl, rfl, rfl, Nat.le_refl _, fun _ _ => rfl, by simp⟩ (by simpa using h a W h1 h2)
end
end Go.Proofs.Ytfddmjoldoddlaa
