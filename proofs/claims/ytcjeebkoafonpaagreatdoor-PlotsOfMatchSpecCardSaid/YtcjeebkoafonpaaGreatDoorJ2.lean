/- Rules of the walks, or plain laws about the plain functions. Conditions: none beyond each theorem's own. -/
import Derived.Test.YtcjeebkoafonpaaGreatDoorJ1
import Derived.Lib.LazyBuf
import Derived.Shelf.SlSortCmp.NoneTotal
import Derived.Deep.Draws
import Derived.Shelf.Sort.Plain
import Derived.Shelf.Slices.In.SortNone
import Derived.Shelf.Slices.CompactI
import Derived.Shelf.Spec.SlicesGrow
import Derived.Maps.Keyed
import Derived.Carry
import Derived.Laws.MakeOwn
import Derived.Laws.OwnMore
import Derived.Shelf.Strings.Builder1
import Derived.Lib.FrozenHead
import Derived.Shelf.Strconv.Itoa3
import Derived.Shelf.Small.Strs
import Derived.Maps.RangeRun
import Derived.WideKeyEntry
import Derived.DeepKeys5
namespace Go.Proofs.YtcjeebkoafonpaaGreatDoor
open Go.RowKit
structure rT (Y : Nat → Prop) (W W' : World) : Prop where
 os : W'.os = W.os
 tape : W'.tape = W.tape
 output : W'.output = W.output
 size : W.heap.size ≤ W'.heap.size
 block : ∀ b, b < W.heap.size → ¬ Y b → W'.heap[b]? = W.heap[b]?
 drawn : W.drawn ≤ W'.drawn
section
variable {W W' W'' : World} {Y Z : Nat → Prop}
theorem rT.of_below (h : Below W.heap.size W W') : rT Y W W' := ⟨h.os, h.tape, h.output, h.size, fun b hb _ => h.block b hb, h.drawn⟩
theorem rT.below (h : rT Y W W') (hY : ∀ b, ¬ Y b) : Below W.heap.size W W' := ⟨h.os, h.tape, h.output, h.size, fun b hb => h.block b hb (hY b), h.drawn⟩
theorem rT.trans (h : rT Y W W') (k : rT Z W' W'') (hyz : ∀ b, Y b → Z b) : rT Z W W'' :=
 ⟨k.os.trans h.os, k.tape.trans h.tape, k.output.trans h.output, Nat.le_trans h.size k.size, fun b hb hz => (k.block b (Nat.lt_of_lt_of_le hb h.size) hz).trans (h.block b hb (fun hy => hz (hyz b hy))), Nat.le_trans h.drawn k.drawn⟩
theorem rT.refl (W : World) : rT Y W W := ⟨rfl, rfl, rfl, Nat.le_refl _, fun _ _ _ => rfl, Nat.le_refl _⟩
end
theorem Co {W W' W'' : World} (h : Below W.heap.size W W') (k : Below W'.heap.size W' W'') : Below W.heap.size W W'' := h.trans (k.mono h.size)
def OX : Exit → Act → World → Prop := fun _ _ _ => False
section
variable {P : Program} {ops : Array Oper} {m : Nat} {Y : Nat → Nat → Prop} {L : Array Bool → Act → World → Prop}
def sQ (P : Program) (ops : Array Oper) (m : Nat) (Y : Nat → Nat → Prop) (L : Array Bool → Act → World → Prop) : Nat → Array Bool → Act → World → Prop
 | 0, listed, a, W => ∀ W2, Below W.heap.size W W2 → L listed a W2
 | f + 1, listed, a, W => Region.ready .any ops listed ≠ [] ∧ ∀ i ∈ Region.ready .any ops listed, i < m ∧ ∀ W2, Below W.heap.size W W2 →
   wpOp P ops OX i (fun a' W' => rT (Y i) W2 W' ∧ sQ P ops m Y L f (listed.setIfInBounds i true) a' W') a W2
theorem sQ.later : ∀ {f : Nat} {listed : Array Bool} {a : Act} {W W2 : World}, sQ P ops m Y L f listed a W → Below W.heap.size W W2 → sQ P ops m Y L f listed a W2
 | 0, _, _, _, _, h, hb => fun W3 h3 => h W3 (Co hb h3)
 | _ + 1, _, _, _, _, h, hb => ⟨h.1, fun i hi => ⟨(h.2 i hi).1, fun W3 h3 => (h.2 i hi).2 W3 (Co hb h3)⟩⟩
theorem JG {Q Q' : Exit → Act → World → Prop} {i : Nat} {a : Act} {w : World} {K : Act → World → Prop} (hQ : ∀ e a w, Q e a w → Q' e a w) (hL : ¬ LetsOut Q) (hh : wpOp P ops Q i K a w) : wpOp P ops Q' i K a w := by
 unfold wpOp at *
 split
 ·simpa [*] using hh
 ·rename_i o ho
  simp only [ho] at hh
  split
  ·rename_i hw
   simp only [hw, if_true] at hh
   rcases hh with hh | hh
   ·left
    unfold Oper.wp at *
    generalize (execOp a.eval o).run P w = r at *
    cases r with
    | ok n w' =>
     cases n <;> simp only [Oper.upon] at hh ⊢ <;>
      first
       | exact hh
       | exact Calls.mono hh (fun e w'' he => by cases e <;> first | exact he | exact hQ _ _ _ he | exact absurd he hL)
       | exact Rows.mono hh (fun _ _ he => he)
    | halt x w' => cases x <;> simp only [Oper.upon] at hh ⊢ <;> first | exact hQ _ _ _ hh | exact hh
   ·exact absurd hh.2 hL
  ·rename_i hw; simp only [hw] at hh; simpa using hh
theorem GV : ¬ LetsOut OX := by
 intro h
 unfold LetsOut OX at h
 first | exact h | exact h _ _ | simp at h
theorem sQ.run {g : Nat} {Q : Exit → Act → World → Prop} (hL : ∀ listed a w, L listed a w → wpAny P .any ops Q g listed a w) :
  ∀ (f : Nat) (listed : Array Bool) (a : Act) (W : World), sQ P ops m Y L f listed a W → wpAny P .any ops Q (f + g) listed a W
 | 0, listed, a, W, h => by rw [Nat.zero_add]; exact hL _ _ _ (h W (Below.refl _ _))
 | f + 1, listed, a, W, h => by
  rw [Nat.add_right_comm]
  exact ⟨fun e => absurd e h.1, fun i hi => JG (Q := OX) (fun _ _ _ h => h.elim) GV (wpOp_mono (fun a' W' hh => sQ.run hL f _ a' W' hh.2) ((h.2 i hi).2 W (Below.refl _ _)))⟩
theorem Mh {j : Nat} {oi oj : Oper} {v : Value} {Yp : Act → Prop} (hj : ops[j]? = some oj) (hap : oi.apart ops oj = true)
  (hsj : ∀ cs b, oj.op ≠ .select cs b) (keep : ∀ a u, Yp a → Yp (a.put oj.dst u)) (keepD : ∀ a d, Yp a → Yp { a with defers := d :: a.defers })
  {K : Act → World → Prop} {a : Act} {w : World} (hy : Yp a) (h : wpOp P ops OX j K (a.put oi.dst v) w) :
  wpOp P ops OX j (fun a' w' => Yp a' ∧ K (a'.put oi.dst v) w') a w := by
 obtain ⟨h1, h2, h3⟩ := Oper.apart_spec hap
 unfold wpOp at *
 simp only [hj] at *
 rw [wanted_put oj a oi.dst v h1] at h
 split
 ·rename_i hw
  simp only [hw, if_true] at h
  rcases h with h | ⟨hasks, hlets⟩
  case inr => exact absurd hlets GV
  refine .inl ?_
  unfold Oper.wp at *
  rw [execOp_put oj hsj a oi.dst v h1] at h
  generalize (execOp a.eval oj).run P w = r at *
  cases r with
  | ok n w' =>
   cases n <;> simp only [Oper.upon] at h ⊢
   case value u => exact ⟨keep a u hy, by rw [← Act.put_comm a v u h2]; exact h⟩
   case skip => exact ⟨keep a _ hy, by rw [← Act.put_comm a v undef h2]; exact h⟩
   case defer d =>
    refine ⟨keep _ _ (keepD _ d hy), ?_⟩
    rw [← Act.put_comm _ v undef h2, ← Act.put_defers]
    exact h
   case enter f args =>
    refine Calls.mono h fun e w'' he => ?_
    cases e with
    | returned u => exact ⟨keep a u hy, by rw [← Act.put_comm a v u h2]; exact he⟩
    | panicked c => exact he.elim
    | outgrown => exact absurd he GV
   case row row args => exact Rows.mono h fun u w'' he => ⟨keep a u hy, by rw [← Act.put_comm a v u h2]; exact he⟩
  | halt x w' =>
   cases x <;> simp only [Oper.upon] at h ⊢
   case panic u => exact h.elim
 ·rename_i hw
  simp only [hw] at h
  exact ⟨keep a _ hy, by rw [← Act.put_comm a v undef h2]; exact h⟩
theorem sQ.first {i : Nat} {oi : Oper} {v : Value} {Z : Nat → Prop} (hi : ops[i]? = some oi) (hsel : Region.noSelect ops = true) (hs : m = ops.size ∨ Region.sinkB .any ops m = true ∧ Region.chainB .any ops m = true)
  (him : i < m) (hdone : ∀ listed a W, L listed a W → ∀ j ∈ Region.ready .any ops listed, m ≤ j) :
  ∀ (f : Nat) (listed : Array Bool) (a : Act) (W : World), HeadInv .any ops m listed → i ∈ Region.ready .any ops listed →
   (∀ W', rT Z W W' → YieldsIn P ops (fun W'' => Below W'.heap.size W' W'') oi v a) →
   (∀ j oj, ops[j]? = some oj → j ≠ i → listed.getD j true = false → (∀ e ∈ oj.after, Region.binds .any e = true → e.on ≠ i) → oi.apart ops oj = true ∧ ∀ b, Y j b → Z b) →
   sQ P ops m Y L f (listed.setIfInBounds i true) (a.put oi.dst v) W → sQ P ops m Y L (f + 1) listed a W := by
 have nosel := Region.noSelect_spec hsel
 have hsz : ∀ {listed : Array Bool} {j : Nat}, j ∈ Region.ready .any ops listed → j < ops.size := fun hj => by
  obtain ⟨_, _, h, _⟩ := mem_ready.1 hj
  exact (Array.getElem?_eq_some_iff.1 h).1
 intro f
 induction f with
 | zero =>
  intro listed a W inv hr hy _ H
  refine ⟨fun e => (by rw [e] at hr; cases hr), fun j hj => ?_⟩
  have hjn : j < m := Nat.lt_of_not_le fun h => hs.elim (fun e => by have := hsz hj; omega) (fun ⟨hs, hc⟩ => tail_waits hs hc (Nat.lt_of_le_of_lt h (hsz hj)) inv _ i rfl him (mem_ready.1 hr).1 j h hj)
  by_cases e : j = i
  ·subst e
   exact ⟨hjn, fun W2 h2 => wpOp_of_qOp (C := fun W'' => Below W2.heap.size W2 W'') (Below.refl _ _) (fun a' W' hb (hh : sQ P ops m Y L 0 _ a' W2) => ⟨rT.of_below hb, hh.later hb⟩) ((hy W2 (rT.of_below h2)).qOp hi (H.later h2))⟩
  ·exact absurd (hdone _ _ _ (H W (Below.refl _ _)) j (ready_mono hj e)) (by omega)
 | succ f ih =>
  intro listed a W inv hr hy hfree H
  refine ⟨fun e => (by rw [e] at hr; cases hr), fun j hj => ?_⟩
  have hjn : j < m := Nat.lt_of_not_le fun h => hs.elim (fun e => by have := hsz hj; omega) (fun ⟨hs, hc⟩ => tail_waits hs hc (Nat.lt_of_le_of_lt h (hsz hj)) inv _ i rfl him (mem_ready.1 hr).1 j h hj)
  by_cases e : j = i
  ·subst e
   exact ⟨hjn, fun W2 h2 => wpOp_of_qOp (C := fun W'' => Below W2.heap.size W2 W'') (Below.refl _ _) (fun a' W' hb (hh : sQ P ops m Y L (f + 1) _ a' W2) => ⟨rT.of_below hb, hh.later hb⟩) ((hy W2 (rT.of_below h2)).qOp hi (H.later h2))⟩
  refine ⟨hjn, fun W2 h2 => ?_⟩
  obtain ⟨hun, oj, hoj, hall⟩ := mem_ready.1 hj
  have hnw : ∀ x ∈ oj.after, Region.binds .any x = true → x.on ≠ i := fun x hx hb he => by
   have h1 := hall x hx hb
   rw [he, getD_both (mem_ready.1 hr).1] at h1
   cases h1
  obtain ⟨hap, hYZ⟩ := hfree j oj hoj e hun hnw
  obtain ⟨_, _, h3⟩ := Oper.apart_spec hap
  have hq := Mh (Yp := fun a' => ∀ W', rT Z W W' → YieldsIn P ops (fun W'' => Below W'.heap.size W' W'') oi v a') hoj hap (fun cs b => nosel j oj cs b hoj)
   (fun a u hh W' hW' => (hh W' hW').of_same (execOp_put oi (fun cs b => nosel i oi cs b hi) a oj.dst u h3) (wanted_put oi a oj.dst u h3)) (fun a d hh W' hW' => (hh W' hW').of_same rfl rfl) hy ((H.2 j (ready_mono hj e)).2 W2 h2)
  refine wpOp_mono (fun a' W' ⟨hy', hk, hK⟩ => ⟨hk, ih (listed.setIfInBounds j true) a' W' (inv.set hj hjn) (ready_mono hr (Ne.symm e)) (fun W3 h3 => hy' W3 (((rT.of_below (Y := fun _ => False) h2).trans hk (fun _ hf => hf.elim)).trans h3 hYZ)) (fun k ok hk' hki hkun hno => ?_) ?_⟩) hq
  ·refine hfree k ok hk' hki ?_ hno
   by_cases ejk : j = k
   ·subst ejk; exact hun
   ·rw [getD_set_ne true ejk] at hkun; exact hkun
  ·rw [Array.setIfInBounds_comm _ _ e]; exact hK
end
def LT (P : Program) (l : List Oper) (m : Nat) (Q : Exit → Act → World → Prop) : Array Bool → Act → World → Prop :=
 fun listed a W => Region.seqB .any l.toArray (l.length - m) m listed = true ∧ wpList P l.toArray Q (l.drop m) a W
structure Tn where
 ys : List (Nat × (Nat → Prop))
 zs : List Nat
 s0 : Nat
def Tn.Y (t : Tn) (j b : Nat) : Prop := (∃ p ∈ t.ys, p.1 = j ∧ p.2 b) ∨ (j ∈ t.zs ∧ t.s0 ≤ b)
def Hg (l : List Oper) (m : Nat) : Bool := Region.noSelect l.toArray && (decide (m = l.length) || (decide (m < l.length) && Region.sinkB .any l.toArray m && Region.chainB .any l.toArray m))
def qB (l : List Oper) (m i : Nat) (listed : Array Bool) (ks : List Nat) : Bool :=
 decide (i < m) && (Region.ready .any l.toArray listed).contains i && Region.free .any l.toArray listed i &&
 ks.all fun j => j == i || listed.getD j true || match l[j]? with
  | some oj => oj.after.any fun e => Region.binds .any e && e.on == i
  | none => true
def eB (l : List Oper) (m i : Nat) (listed : Array Bool) : Bool := decide (i < m) && decide (Region.ready .any l.toArray listed = [i])
def Ur (l : List Oper) (m i j : Nat) (listed : Array Bool) : Bool := decide (i < m) && decide (j < m) && decide (Region.ready .any l.toArray listed = [i, j])
def Dr (P : Program) (w : Bs) (n : Nat) (l : List Oper) (m : Nat) (t : Tn) (Q : Exit → Act → World → Prop) (fu : Nat) (listed : Array Bool) (f : Nat → Option Value) (E : Nat → kH) : Prop :=
 HeadInv .any l.toArray m listed → Tr w n f E (fun a W => t.s0 ≤ W.heap.size → sQ P l.toArray m t.Y (LT P l m Q) fu listed a W)
def St (P : Program) (w : Bs) (n : Nat) (l : List Oper) (m : Nat) (t : Tn) (Q : Exit → Act → World → Prop) (fu : Nat) (listed : Array Bool) (f : Nat → Option Value) (E : Nat → kH) (i : Nat) : Prop :=
 HeadInv .any l.toArray m (listed.setIfInBounds i true) → Tr w n f E (fun a W => t.s0 ≤ W.heap.size → wpOp P l.toArray OX i (fun a' W' => rT (t.Y i) W W' ∧ sQ P l.toArray m t.Y (LT P l m Q) fu (listed.setIfInBounds i true) a' W') a W)
section
variable {P : Program} {w : Bs} {n : Nat} {f : Nat → Option Value} {E : Nat → kH} {l : List Oper} {m : Nat} {t : Tn} {Q : Exit → Act → World → Prop} {fu : Nat} {listed : Array Bool}
theorem oQ {id : Nat} (m : Nat) (ys : List (Nat × (Nat → Prop))) (zs : List Nat) (hm : P.follows .mixedOrders = true) (hB : Hg l m = true)
  (h : ∀ s0, w.W.heap.size ≤ s0 → (∀ k b, (E k).S b → b < s0) → Dr P w n l m ⟨ys, zs, s0⟩ Q m (Array.replicate l.length false) f E) : Tr w n f E ((Code.region id l.toArray true).wp P Q) := by
 intro a W0 h1 h2
 simp only [Hg, Bool.and_eq_true, Bool.or_eq_true, decide_eq_true_eq] at hB
 obtain ⟨hsel, hT⟩ := hB
 have hn : m ≤ l.length := hT.elim (fun h => Nat.le_of_eq h) (fun h => Nat.le_of_lt h.1.1)
 have inv0 : HeadInv .any l.toArray m (Array.replicate l.length false) :=
  ⟨by simp, fun j oj _ hl => (by rw [getD_replicate_false] at hl; cases hl), fun t _ ht => getD_in (by simpa using ht) (getD_replicate_false _ _)⟩
 have hb0 : Below W0.heap.size W0 { W0 with drawn := W0.drawn + 1 } := ⟨rfl, rfl, rfl, Nat.le_refl _, fun _ _ => rfl, by simp⟩
 have H := sQ.run (g := l.length - m) (Q := Q) (fun listed a w ⟨k1, k2⟩ => by
  have hdl : (l.drop m).length = l.length - m := by simp
  have := wpAny_of_seq (md := .any) (P := P) (ops := l.toArray) (Q' := Q) (l.drop m) m listed a w (fun j => by simp [List.getElem?_drop]) (by rw [hdl]; exact k1) k2
  rwa [hdl] at this) m _ a _ ((h W0.heap.size h2.size (fun k b hb => (h2.bd k b hb).2) inv0 a W0 h1 h2 (Nat.le_refl _)).later hb0)
 rw [show m + (l.length - m) = l.length by omega] at H
 exact wp_region_any hm (by simpa using H)
theorem qN (hB : Region.seqB .any l.toArray (l.length - m) m listed = true) (h : Tr w n f E (wpList P l.toArray Q (l.drop m))) : Dr P w n l m t Q 0 listed f E :=
 fun _ a _ h1 h2 _ W2 hb => ⟨hB, h a W2 h1 (h2.later hb)⟩
theorem Dr.use {listed' : Array Bool} {lf : List (Nat × Value)} {le : List (Nat × kH)} (h : Dr P w n l m t Q fu listed' (LF lf) (LE le)) (hl : listed = listed') (hf : zt f lf) (he : yE E le) : Dr P w n l m t Q fu listed f E := by
 subst hl
 exact fun inv a W h1 h2 => h inv a W (h1.wL hf) (h2.wL he)
theorem oK {o : Oper} {d : Nat} {v : Value} {Em : Nat → kH} (i : Nat) (fs : List (Nat × Value)) (fl : List Nat) (fz : Bool) (hC : Hg l m = true) (hi : l[i]? = some o) (hd : o.dst = some d) (hB : qB l m i listed ((t.ys.map (·.1)).filter (fun j => !fl.contains j) ++ (if fz = true then [] else t.zs)) = true)
  (hE : ∀ W W', HF w W E → t.s0 ≤ W.heap.size → rT (fun b => (∃ p ∈ t.ys, p.1 ∈ fl ∧ p.2 b) ∨ (fz = true ∧ t.s0 ≤ b)) W W' → HF w W' Em)
  (h : Tq P w n l.toArray f Em (fun a _ => FR n (LF fs) a) [o]) (hv : LF fs d = some v) (hdn : Nat.blt d n = true) (K : Dr P w n l m t Q fu (listed.setIfInBounds i true) (uf f d v) E) : Dr P w n l m t Q (fu + 1) listed f E := by
 intro inv a W h1 h2 hs0
 simp only [Hg, Bool.and_eq_true, Bool.or_eq_true, decide_eq_true_eq] at hC
 obtain ⟨hsel, hT⟩ := hC
 have hs : m = l.toArray.size ∨ Region.sinkB .any l.toArray m = true ∧ Region.chainB .any l.toArray m = true := hT.imp (fun h => by simpa using h) (fun h => ⟨h.1.2, h.2⟩)
 simp only [qB, Bool.and_eq_true, decide_eq_true_eq] at hB
 obtain ⟨⟨⟨him, hr⟩, hfr⟩, hks⟩ := hB
 have hr : i ∈ Region.ready .any l.toArray listed := by simpa using hr
 have hi' : (l.toArray)[i]? = some o := by simpa using hi
 have hlt := Nat.le_of_ble_eq_true hdn
 have hyl : ∀ W', rT (fun b => (∃ p ∈ t.ys, p.1 ∈ fl ∧ p.2 b) ∨ (fz = true ∧ t.s0 ≤ b)) W W' → YieldsIn P l.toArray (fun W'' => Below W'.heap.size W' W'') o v a := fun W' hk => by
  have hq := h a W' h1 (hE W W' h2 hs0 hk)
  obtain ⟨v', hy, hK'⟩ := yieldsIn_of_qOp (K := fun a => ∀ W2, Below W'.heap.size W' W2 → FR n (LF fs) a) hi' (show qOp P l.toArray _ i _ a by unfold qOp; simp only [hi']; simpa [wpQuiet] using hq)
  have hK := hK' W' (Below.refl _ _)
  have : v' = v := by
   have h3 := hK.get d v hv
   rw [hd, A8 (by rw [h1.size]; exact hlt)] at h3
   exact Option.some.inj h3
  rw [← this]; exact hy
 refine sQ.first (oi := o) (v := v) (Z := fun b => (∃ p ∈ t.ys, p.1 ∈ fl ∧ p.2 b) ∨ (fz = true ∧ t.s0 ≤ b)) hi' hsel hs him (fun _ _ _ hL => seqB_ready hL.1) fu listed a W inv hr hyl (fun j oj hj hji hun hno => ⟨Region.free_spec hi' hfr j oj hj hji hun hno, fun b hb => ?_⟩) ?_
 ·have hwaits : ∀ ks : List Nat, (∀ x ∈ ks, x ∈ (t.ys.map (·.1)).filter (fun j => !fl.contains j) ++ (if fz = true then [] else t.zs)) → j ∈ ks → False := fun ks hsub hmem => by
   have := List.all_eq_true.1 hks j (hsub j hmem)
   have hj' : l[j]? = some oj := by simpa using hj
   rw [hj'] at this
   simp only [Bool.or_eq_true, beq_iff_eq, hji, false_or, hun, Bool.false_eq_true] at this
   obtain ⟨e, he, hb2⟩ := Array.any_eq_true'.1 this
   simp only [Bool.and_eq_true, beq_iff_eq] at hb2
   exact hno e he hb2.1 hb2.2
  rcases hb with ⟨p, hp, rfl, hb⟩ | ⟨hjz, hb⟩
  ·by_cases hjf : p.1 ∈ fl
   ·exact .inl ⟨p, hp, hjf, hb⟩
   ·exact (hwaits [p.1] (fun x hx => by
     simp at hx; subst hx
     exact List.mem_append_left _ (List.mem_filter.2 ⟨List.mem_map.2 ⟨_, hp, rfl⟩, by simpa using hjf⟩)) (by simp)).elim
  ·cases hfz : fz with
   | true => exact .inr ⟨rfl, hb⟩
   | false => exact (hwaits [j] (fun x hx => by
     simp at hx; subst hx
     exact List.mem_append_right _ (by rw [hfz]; simpa using hjz)) (by simp)).elim
 ·rw [hd]
  exact K (inv.set hr him) _ W (h1.put hlt v) h2 hs0
theorem aV {o : Oper} {d : Nat} {v : Value} (i : Nat) (fs : List (Nat × Value)) (hC : Hg l m = true) (hi : l[i]? = some o) (hd : o.dst = some d) (hB : qB l m i listed (t.ys.map (·.1) ++ t.zs) = true)
  (h : Tq P w n l.toArray f E (fun a _ => FR n (LF fs) a) [o]) (hv : LF fs d = some v) (hdn : Nat.blt d n = true) (K : Dr P w n l m t Q fu (listed.setIfInBounds i true) (uf f d v) E) : Dr P w n l m t Q (fu + 1) listed f E :=
 oK i fs [] false hC hi hd (by
  have e : (t.ys.map (·.1)).filter (fun j => !([] : List Nat).contains j) = t.ys.map (·.1) := List.filter_eq_self.2 (fun _ _ => by simp)
  rw [e]; exact hB) (fun W W' h2 _ hk => h2.later (hk.below (fun b hb => by rcases hb with ⟨_, _, hj, _⟩ | ⟨hj, _⟩ <;> cases hj))) h hv hdn K
theorem cu {o : Oper} {d : Nat} {v : Value} (i : Nat) (hC : Hg l m = true) (hi : l[i]? = some o) (hw : Wn l.toArray f o) (hd : o.dst = some d) (hB : qB l m i listed [] = true) (hr : ∀ (a : Act) (W : World), FR n f a → (execOp a.eval o).run P W = .ok (.value v) W)
  (hdn : Nat.blt d n = true) (K : Dr P w n l m t Q fu (listed.setIfInBounds i true) (uf f d v) E) : Dr P w n l m t Q (fu + 1) listed f E := by
 intro inv a W h1 h2 hs0
 simp only [Hg, Bool.and_eq_true, Bool.or_eq_true, decide_eq_true_eq] at hC
 obtain ⟨hsel, hT⟩ := hC
 have hs : m = l.toArray.size ∨ Region.sinkB .any l.toArray m = true ∧ Region.chainB .any l.toArray m = true := hT.imp (fun h => by simpa using h) (fun h => ⟨h.1.2, h.2⟩)
 simp only [qB, Bool.and_eq_true, decide_eq_true_eq] at hB
 obtain ⟨⟨⟨him, hrd⟩, hfr⟩, _⟩ := hB
 have hrd : i ∈ Region.ready .any l.toArray listed := by simpa using hrd
 have hi' : (l.toArray)[i]? = some o := by simpa using hi
 have hyl : ∀ W', rT (fun _ => True) W W' → YieldsIn P l.toArray (fun W'' => Below W'.heap.size W' W'') o v a := fun W' _ => .inl ⟨hw n a h1, fun W'' _ => by
  unfold Oper.quietAt
  rw [hr a W'' h1]
  exact ⟨rfl, rfl⟩⟩
 refine sQ.first (oi := o) (v := v) (Z := fun _ => True) hi' hsel hs him (fun _ _ _ hL => seqB_ready hL.1) fu listed a W inv hrd hyl (fun j oj hj hji hun hno => ⟨Region.free_spec hi' hfr j oj hj hji hun hno, fun b hb => trivial⟩) ?_
 rw [hd]
 exact K (inv.set hrd him) _ W (h1.put (Nat.le_of_ble_eq_true hdn) v) h2 hs0
theorem HF.y8 {W W' : World} {le : List (Nat × kH)} {ks : List (Nat × (Nat → Prop))} {Z : Nat → Prop} {s0 : Nat} (fz : Bool) (h : HF w W E) (hk : rT Z W W') (hlo : fz = true → w.W.heap.size ≤ s0) (hE : yE E le) (hz : ∀ b, Z b → (∃ p ∈ ks, p.2 b) ∨ (fz = true ∧ s0 ≤ b ∧ ∀ p ∈ le, ∀ b, p.2.S b → b < s0)) (hks : ∀ p ∈ ks, ∀ b, p.2 b → (E p.1).S b) (hdis : (le.all fun p => ks.all fun q => p.1 != q.1) = true) : HF w W' (LE le) := by
 have hcases : ∀ k, (LE le k = E k ∧ (∀ q ∈ ks, k ≠ q.1) ∧ ∃ p ∈ le, p.2 = E k) ∨ LE le k = emp := by
  intro k
  clear hz hks hk h
  induction le with
  | nil => exact .inr rfl
  | cons p le ih =>
   obtain ⟨k', e⟩ := p
   simp only [List.all_cons, Bool.and_eq_true] at hdis
   unfold LE
   rcases eO (LE le) k' e k with ⟨h1, h2⟩ | ⟨_, h2⟩ <;> rw [h2]
   ·subst h1
    refine .inl ⟨hE.1.symm, fun q hq => ?_, ⟨_, List.mem_cons_self, hE.1.symm⟩⟩
    have := List.all_eq_true.1 hdis.1 q hq
    simpa using this
   ·rcases ih hE.2 hdis.2 with ⟨a1, a2, p, a3, a4⟩ | a
    ·exact .inl ⟨a1, a2, p, List.mem_cons_of_mem _ a3, a4⟩
    ·exact .inr a
 have hsame : ∀ k b, (∀ q ∈ ks, k ≠ q.1) → (∃ p ∈ le, p.2 = E k) → (E k).S b → W'.heap[b]? = W.heap[b]? := fun k b hne ⟨p0, hp0, hpe⟩ hs => hk.block b (h.bd k b hs).2 (fun hzb => by
  rcases hz b hzb with ⟨p, hp, hpb⟩ | ⟨_, hb, hle⟩
  ·exact h.disj k p.1 b (hne p hp) hs (hks p hp b hpb)
  ·have := hle p0 hp0 b (by rw [hpe]; exact hs)
   omega)
 have hold : ∀ b, w.R b → W'.heap[b]? = W.heap[b]? := fun b hb => hk.block b (h.GL hb) (fun hzb => by
  rcases hz b hzb with ⟨p, hp, hpb⟩ | ⟨hf, hb', _⟩
  ·exact (h.bd p.1 b (hks p hp b hpb)).1 hb
  ·have := w.lt b hb
   have := hlo hf
   omega)
 refine ⟨hk.os.trans h.os, hk.tape.trans h.tape, hk.output.trans h.output, Nat.le_trans h.size hk.size, Nat.le_trans h.drawn hk.drawn, fun b hb => (hold b hb).trans (h.keep b hb), fun k => ?_, fun k => ?_, fun k b => ?_, fun i j b hij => ?_⟩
 ·rcases hcases k with ⟨e, hne, hp⟩ | e <;> rw [e]
  ·exact (h.loc k).at_ _ W W' (fun b hb => by
    rcases hb with hb | hb
    ·exact hold b (.inl hb)
    ·exact hsame k b hne hp hb) (h.phi k)
  ·trivial
 ·rcases hcases k with ⟨e, _⟩ | e <;> rw [e]
  ·exact h.loc k
  ·exact vv
 ·rcases hcases k with ⟨e, _⟩ | e <;> rw [e]
  ·exact fun hs => ⟨(h.bd k b hs).1, Nat.lt_of_lt_of_le (h.bd k b hs).2 hk.size⟩
  ·exact fun hh => hh.elim
 ·rcases hcases i with ⟨e, _⟩ | e <;> rcases hcases j with ⟨e', _⟩ | e' <;> rw [e, e']
  ·exact h.disj i j b hij
  ·exact fun _ hh => hh.elim
  ·exact fun hh => hh.elim
  ·exact fun hh => hh.elim
theorem Ah {i : Nat} (h : St P w n l m t Q fu listed f E i) (inv : HeadInv .any l.toArray m (listed.setIfInBounds i true)) {a : Act} {W : World} (h1 : FR n f a) (h2 : HF w W E) (hs : t.s0 ≤ W.heap.size) :
  ∀ W2, Below W.heap.size W W2 → wpOp P l.toArray OX i (fun a' W' => rT (t.Y i) W2 W' ∧ sQ P l.toArray m t.Y (LT P l m Q) fu (listed.setIfInBounds i true) a' W') a W2 :=
 fun W2 hb => h inv a W2 h1 (h2.later hb) (Nat.le_trans hs hb.size)
theorem Dr.one (i : Nat) (hB : eB l m i listed = true) (h : St P w n l m t Q fu listed f E i) : Dr P w n l m t Q (fu + 1) listed f E := by
 intro inv a W h1 h2 hs
 simp only [eB, Bool.and_eq_true, decide_eq_true_eq] at hB
 have hr : i ∈ Region.ready .any l.toArray listed := by rw [hB.2]; simp
 refine ⟨by rw [hB.2]; simp, fun j hj => ?_⟩
 rw [hB.2] at hj
 have : j = i := by simpa using hj
 subst this
 exact ⟨hB.1, Ah h (inv.set hr hB.1) h1 h2 hs⟩
theorem Dw (i j : Nat) (hB : Ur l m i j listed = true) (h1 : St P w n l m t Q fu listed f E i) (h2 : St P w n l m t Q fu listed f E j) : Dr P w n l m t Q (fu + 1) listed f E := by
 intro inv a W k1 k2 hs
 simp only [Ur, Bool.and_eq_true, decide_eq_true_eq] at hB
 have hri : i ∈ Region.ready .any l.toArray listed := by rw [hB.2]; simp
 have hrj : j ∈ Region.ready .any l.toArray listed := by rw [hB.2]; simp
 refine ⟨by rw [hB.2]; simp, fun x hx => ?_⟩
 rw [hB.2] at hx
 have : x = i ∨ x = j := by simpa using hx
 rcases this with rfl | rfl
 ·exact ⟨hB.1.1, Ah h1 (inv.set hri hB.1.1) k1 k2 hs⟩
 ·exact ⟨hB.1.2, Ah h2 (inv.set hrj hB.1.2) k1 k2 hs⟩
def TB : List Nat → Array Bool → Array Bool
 | [], a => a
 | i :: l, a => TB l (a.setIfInBounds i true)
theorem Dr.cut {U : Type} (is : List Nat) (fu2 : Nat) (Φ : U → Prop) (lf : U → List (Nat × Value)) (le : U → List (Nat × kH)) (h : (∀ u, Φ u → Dr P w n l m t Q fu2 (TB is listed) (LF (lf u)) (LE (le u))) → Dr P w n l m t Q fu listed f E)
  (C : ∀ u, Φ u → Dr P w n l m t Q fu2 (TB is listed) (LF (lf u)) (LE (le u))) : Dr P w n l m t Q fu listed f E := h C
theorem OD {o : Oper} (i : Nat) (hi : l[i]? = some o) (hw : Wn l.toArray f o) {f' : Nat → Option Value} {E' : Nat → kH}
  (h : ∀ a W, FR n f a → HF w W E → ∀ K : Act → World → Prop, (∀ a' W', FR n f' a' → HF w W' E' → rT (t.Y i) W W' → K a' W') → o.wp P a W K OX)
  (K : Dr P w n l m t Q fu (listed.setIfInBounds i true) f' E') : St P w n l m t Q fu listed f E i := by
 intro inv a W h1 h2 hs
 have hi' : (l.toArray)[i]? = some o := by simpa using hi
 unfold wpOp
 simp only [hi', hw n a h1, if_true]
 exact .inl (h a W h1 h2 _ (fun a' W' k1 k2 k3 => ⟨k3, K inv a' W' k1 k2 (Nat.le_trans hs k3.size)⟩))
theorem Bu {U : Type} {o : Oper} (i : Nat) (hi : l[i]? = some o) (hw : Wn l.toArray f o) (Φ : U → Prop) {f' : U → Nat → Option Value} {E' : U → Nat → kH}
  (h : ∀ a W, FR n f a → HF w W E → t.s0 ≤ W.heap.size → ∀ K : Act → World → Prop, (∀ u a' W', Φ u → FR n (f' u) a' → HF w W' (E' u) → rT (t.Y i) W W' → K a' W') → o.wp P a W K OX)
  (K : ∀ u, Φ u → Dr P w n l m t Q fu (listed.setIfInBounds i true) (f' u) (E' u)) : St P w n l m t Q fu listed f E i := by
 intro inv a W h1 h2 hs
 have hi' : (l.toArray)[i]? = some o := by simpa using hi
 unfold wpOp
 simp only [hi', hw n a h1, if_true]
 exact .inl (h a W h1 h2 hs _ (fun u a' W' k0 k1 k2 k3 => ⟨k3, K u k0 inv a' W' k1 k2 (Nat.le_trans hs k3.size)⟩))
variable {d ty T T' : Nat} {pos : String} {af : Array Edge} {g : Option (Nat × Bool)} {p q : Operand} {u v : Value}
theorem St.alloc (i κ : Nat) {cs : List Value} (hi : l[i]? = some ⟨some d, .alloc T, ty, pos, af, g⟩) (hw : Wn l.toArray f ⟨some d, .alloc T, ty, pos, af, g⟩) (hdn : Nat.blt d n = true) (hz : zeroOf P T = some cs)
  (K : ∀ b, t.s0 ≤ b → Dr P w n l m t Q fu (listed.setIfInBounds i true) (uf f d (.pointer (some ⟨b, 0, none⟩))) (up E κ (bx b cs.toArray T))) : St P w n l m t Q fu listed f E i :=
 Bu (U := Nat) i hi hw (t.s0 ≤ ·) (fun a W h1 h2 hs K' hK => by
  unfold Oper.wp
  rw [BO hz]
  exact hK W.heap.size _ _ hs (h1.put (Nat.le_of_ble_eq_true hdn) _) (h2.alloc κ cs.toArray T) (rT.of_below ((Below.refl _ _).alloc (Nat.le_refl _) _))) K
theorem Uj (i κ : Nat) {cs : List Value} (hi : l[i]? = some ⟨some d, .box T p, ty, pos, af, g⟩) (hw : Wn l.toArray f ⟨some d, .box T p, ty, pos, af, g⟩) (hdn : Nat.blt d n = true) (hp : ev f p = some v) (hc : v.cells = cs.toArray)
  (K : ∀ b, t.s0 ≤ b → Dr P w n l m t Q fu (listed.setIfInBounds i true) (uf f d (.pointer (some ⟨b, 0, none⟩))) (up E κ (bx b cs.toArray T))) : St P w n l m t Q fu listed f E i :=
 Bu (U := Nat) i hi hw (t.s0 ≤ ·) (fun a W h1 h2 hs K' hK => by
  unfold Oper.wp
  rw [La (h1.ev hp) hc]
  exact hK W.heap.size _ _ hs (h1.put (Nat.le_of_ble_eq_true hdn) _) (h2.alloc κ cs.toArray T) (rT.of_below ((Below.refl _ _).alloc (Nat.le_refl _) _))) K
theorem OW (i κ : Nat) {len e : Nat} {ps : List (Nat × Operand)} {vs : List (Nat × Value)} {cs : List Value} (hi : l[i]? = some ⟨some d, .buildSlice T len ps.toArray, ty, pos, af, g⟩) (hw : Wn l.toArray f ⟨some d, .buildSlice T len ps.toArray, ty, pos, af, g⟩) (hdn : Nat.blt d n = true)
  (hv : evs f ps vs) (hb : vN P T len vs = some (e, cs))
  (K : ∀ b, t.s0 ≤ b → Dr P w n l m t Q fu (listed.setIfInBounds i true) (uf f d (.slice (some ⟨b, 0, none⟩) len len)) (up E κ (bx b cs.toArray e))) : St P w n l m t Q fu listed f E i :=
 Bu (U := Nat) i hi hw (t.s0 ≤ ·) (fun a W h1 h2 hs K' hK => by
  unfold Oper.wp
  rw [run_buildSlice (EI hv a h1) hb]
  exact hK W.heap.size _ _ hs (h1.put (Nat.le_of_ble_eq_true hdn) _) (h2.alloc κ cs.toArray e) (rT.of_below ((Below.refl _ _).alloc (Nat.le_refl _) _))) K
theorem zq (i κ : Nat) {b o T2 : Nat} {vs cs : List Value} (vs' : List Value) (hi : l[i]? = some ⟨none, .store T p q, ty, pos, af, g⟩) (hw : Wn l.toArray f ⟨none, .store T p q, ty, pos, af, g⟩) (hy : t.Y i b)
  (hp : ev f p = some (.pointer (some ⟨b, o, none⟩))) (hq : ev f q = some v) (hv : v.cells = cs.toArray)
  (hk : E κ = bx b vs.toArray T2) (hs : nG P T = some cs.length) (hfit : Nat.ble (o + cs.length) vs.length = true) (h1 : cs.all (·.oneCell') = true) (hvs : vs.take o ++ cs ++ vs.drop (o + cs.length) = vs')
  (K : Dr P w n l m t Q fu (listed.setIfInBounds i true) f (up E κ (bx b vs'.toArray T2))) : St P w n l m t Q fu listed f E i :=
 OD i hi hw (fun a W k1 k2 K' hK => by
  unfold Oper.wp
  rw [run_store hs (k1.ev hp) (k1.ev hq) hv (k2.bx hk) hfit h1, hvs]
  refine hK _ _ k1 (k2.setRow hk vs'.toArray) ⟨rfl, rfl, rfl, by simp [World.setRow], fun x hx hne => ?_, Nat.le_refl _⟩
  have hbx : ¬ b = x := fun e => hne (e ▸ hy)
  simp only [World.setRow, Array.getElem?_modify]
  rw [if_neg hbx]) K
theorem yl {α : Type} (i κ : Nat) {A : Option Addr} {c e fo o : Nat} {ix : Int} {t' : Fl α} {ll l' : List α} {x : α} (x' : α) {cs : List Value} (hY : ∀ b, (ow A c e t' ll).S b → t.Y i b) (hi : l[i]? = some ⟨none, .store T p q, ty, pos, af, g⟩) (hw : Wn l.toArray f ⟨none, .store T p q, ty, pos, af, g⟩)
  (hp : ev f p = some (.pointer (some ⟨nY A, o, none⟩))) (hq : ev f q = some v) (hv : v.cells = cs.toArray) (ho : o = pF A + ix.toNat * t'.sz + fo) (hk : E κ = ow A c e t' ll) (hx : ll[ix.toNat]? = some x) (hs : nG P T = some cs.length) (h1 : cs.all (·.oneCell') = true)
  (hup : ∀ u, t'.ok w.O w.W u x → ∃ u', t'.ok w.O w.W u' x' ∧ t'.enc u' x' = (t'.enc u x).take fo ++ cs ++ (t'.enc u x).drop (fo + cs.length)) (hfit : Nat.ble (fo + cs.length) t'.sz = true) (hset : sets ll ix x' = some l')
  (K : Dr P w n l m t Q fu (listed.setIfInBounds i true) f (up E κ (ow A c e t' l'))) : St P w n l m t Q fu listed f E i :=
 OD i hi hw (fun a W k1 k2 K' hK => by
  subst ho
  have hA := (k2.sl hk).form.2.2 (by have := (List.getElem?_eq_some_iff.1 hx).1; omega)
  obtain ⟨vs, hh, hle, hnew⟩ := Nr κ k2 hk hx hup (Nat.le_of_ble_eq_true hfit)
  rw [BM hset] at hnew
  unfold Oper.wp
  rw [run_store hs (k1.ev hp) (k1.ev hq) hv hh (Nat.ble_eq_true_of_le hle) h1]
  refine hK _ _ k1 hnew ⟨rfl, rfl, rfl, by simp [World.setRow], fun b hb hne => ?_, Nat.le_refl _⟩
  have hbx : ¬ nY A = b := fun e => hne (hY b (by
   show (Value.slice A ll.length c).ownBlock = some b
   rw [hA, ← e]; rfl))
  simp only [World.setRow, Array.getElem?_modify]
  rw [if_neg hbx]) K
theorem St.freeze {α : Type} {i : Nat} (κ : Nat) {A : Option Addr} {c T : Nat} {t' : Fl α} {ll : List α} (hk : E κ = ow A c T t' ll) (K : ∀ w', w.Le w' → Sl w'.O w'.W t' A c ll → St P w' n l m t Q fu listed f (up E κ emp) i) : St P w n l m t Q fu listed f E i :=
 fun inv => Tr.freeze κ hk fun w' h1 h2 => K w' h1 h2 inv
theorem St.append {α : Type} (i κ : Nat) {A : Option Addr} {c e inb b o c2 : Nat} {t' : Fl α} {ll l2 l' : List α} (hY : ∀ b, (ow A c e t' ll).S b → t.Y i b) (hi : l[i]? = some ⟨some d, .call ⟨.builtin .append, #[p, q], #[T, T]⟩, ty, pos, af, g⟩) (hw : Wn l.toArray f ⟨some d, .call ⟨.builtin .append, #[p, q], #[T, T]⟩, ty, pos, af, g⟩) (hdn : Nat.blt d n = true)
  (hp : ev f p = some (.slice A ll.length c)) (hk : E κ = ow A c e t' ll) (hq : ev f q = some (.slice (some ⟨b, o, none⟩) l2.length c2)) (hr : ∀ W, HF w W E → ∃ css, Al (rp t' w.O w.W) css l2 ∧ aC W b o css.flatten)
  (hu : P.underlying T = some (.slice e)) (hs : nG P e = some t'.sz) (hz : (zeroOf P e).map List.length = some t'.sz) (hsz : 0 < t'.sz) (hby : (P.info? e).map (·.bytes) = some inb) (hib : Nat.ble inb 32768 = true) (hap : sj ll l2 = some l')
  (K : ∀ A' c', fC A' l'.length c' → Dr P w n l m t Q fu (listed.setIfInBounds i true) (uf f d (.slice A' l'.length c')) (up E κ (ow A' c' e t' l'))) : St P w n l m t Q fu listed f E i :=
 Bu (U := Option Addr × Nat) i hi hw (fun u => fC u.1 l'.length u.2) (fun a W h1 h2 hs0 K' hK => by
  obtain ⟨hlen, hl'⟩ := ET hap
  subst hl'
  cases hin : P.info? e with
  | none => rw [hin] at hby; cases hby
  | some inf =>
   rw [hin] at hby; simp at hby; subst hby
   unfold zeroOf at hz
   unfold nG at hs
   rw [hin] at hz hs
   simp only [Option.bind_some, Option.map_some, Option.some.injEq] at hz hs
   cases hze : inf.zero with
   | none => rw [hze] at hz; cases hz
   | some z =>
    rw [hze] at hz
    simp at hz
    obtain ⟨css0, hal0, hown⟩ := h2.ow hk
    obtain ⟨css2, hal2, hc2⟩ := hr W h2
    have hbytes : (ll.length + l2.length) * inf.bytes ≤ 140737488355328 := Nat.le_trans (Nat.mul_le_mul hlen (Nat.le_of_ble_eq_true hib)) (by decide)
    have hsm : ll.length + l2.length ≤ maxLen := by unfold maxLen; omega
    obtain ⟨v', W', hrun, ho, hg, _, hat⟩ := run_append_own_at (P := P) W 0 T ty e inf z t'.sz inf.bytes hu hin hze hs rfl hz hsz _ _ _ hown ⟨b, o, none⟩ l2.length c2 css2.flatten (qU hal2)
     (fun j u hj => by rw [Addr.add_lit]; exact hc2 j u hj) (fun u hu => by
      obtain ⟨i, cs, k, h1, h2, _⟩ := I1 hal2 (List.getElem?_of_mem hu).choose_spec
      have hlt : i < l2.length := by rw [← hal2.len]; exact (List.getElem?_eq_some_iff.1 h1).1
      obtain ⟨cs', h3, h4⟩ := hal2.at_ (List.getElem?_eq_getElem hlt)
      rw [h1] at h3; cases h3
      exact h4.one u (List.mem_of_getElem? h2)) hsm hbytes (Nat.zero_le _)
    rw [← List.flatten_append, ← List.length_append] at ho
    obtain ⟨A', c', rfl, hf, h3⟩ := EA h2 hk (zI _ _ _ _ hrun) hg ((hal0.mono (fun _ _ hr => hr.off h2)).append hal2) ho (fun b' hb' => by
     rcases hat with hat | hat
     ·exact .inl (hat ▸ hb')
     ·rw [hat] at hb'; simp at hb'; subst hb'; exact .inr (Nat.le_refl _))
    obtain ⟨g1, g2, g3, g4, g5⟩ := hg
    unfold Oper.wp execOp
    simp only [resolve, invoke, builtin, Sem.run_bind, Sem.run_pure, Result.andThen_ok, List.map_toArray, List.map_cons, List.map_nil, h1.ev hp, h1.ev hq, hrun, Oper.upon_value]
    exact hK (A', c') _ _ hf (h1.put (Nat.le_of_ble_eq_true hdn) _) h3 ⟨g1, g2, g3, g4, fun b hb hy => g5 b hb (fun e => hy (hY b e.symm)), zI _ _ _ _ hrun⟩) (fun u hu => K u.1 u.2 hu)
theorem CF {W W' : World} {E1 : Nat → kH} {ins : List kH} {Y : Nat → Prop} {w' : Bs} (h : HF w W E) (hle : (h.sub (pQ ins)).Le w') (h' : HF w' W' E1) (hY : ∀ b, pQ ins b → Y b) : rT Y W W' :=
 ⟨h'.os.trans hle.os, h'.tape.trans hle.tape, h'.output.trans hle.output, Nat.le_trans hle.size h'.size, fun b hb hy => by
  have hr : (h.sub (pQ ins)).R b := .inr ⟨hb, fun hi => hy (hY b hi)⟩
  exact (h'.keep b (hle.r b hr)).trans (hle.blk b hr), Nat.le_trans hle.drawn h'.drawn⟩
theorem Ld {W W' : World} {ins outs : List kH} {w' : Bs} {s0 : Nat} (h : HF w W E) (hb : HF w' W' (kw outs)) (hs : s0 ≤ W.heap.size) (hle : (h.sub (pQ ins)).Le w') : ∀ b, pQ outs b → s0 ≤ b ∨ pQ ins b := fun b ⟨e, he, hS⟩ => by
 obtain ⟨j, hj⟩ := List.getElem?_of_mem he
 have h1 : (kw outs j).S b := by rw [OI hj]; exact hS
 have h2 := (hb.bd j b h1).1
 by_cases hi : pQ ins b
 ·exact .inr hi
 ·exact .inl (Nat.le_of_not_lt fun hlt => h2 (hle.r b (.inr ⟨Nat.lt_of_lt_of_le hlt hs, hi⟩)))
theorem Js {U : Type} {fn : Nat} {xs : List Operand} {vs : List Value} {ts : Array Nat} (i : Nat) (ks : List Nat) (ins : List kH) (V : U → Value) (Φ : U → Prop) (outs : U → List kH) (hn : decide ks.Nodup = true) (hp : Pk E ks ins) (hl : ∀ u, (outs u).length = ks.length)
  (hY : ∀ b, pQ ins b → t.Y i b) (hi : l[i]? = some ⟨some d, .call ⟨.value (.func fn), xs.toArray, ts⟩, ty, pos, af, g⟩) (hw : Wn l.toArray f ⟨some d, .call ⟨.value (.func fn), xs.toArray, ts⟩, ty, pos, af, g⟩) (hdn : Nat.blt d n = true)
  (hg : ∀ args W, (callFunc fn args).run P W = .ok (.enter fn args) W) (hx : H5 f xs vs)
  (hc : ∀ W (hW : HF w W E) (_ : Pk E ks ins), HF (hW.sub (pQ ins)) W (kw ins) → Calls P fn vs.toArray W fun e W' => ∃ u, e = .returned (V u) ∧ Φ u ∧ HF (hW.sub (pQ ins)) W' (kw (outs u)))
  (K : ∀ u, Φ u → (∀ b, pQ (outs u) b → t.s0 ≤ b ∨ pQ ins b) → Dr P w n l m t Q fu (listed.setIfInBounds i true) (uf f d (V u)) (Nh E ks (outs u))) : St P w n l m t Q fu listed f E i :=
 Bu i hi hw (fun u => Φ u ∧ ∀ b, pQ (outs u) b → t.s0 ≤ b ∨ pQ ins b) (fun a W h1 h2 hs0 K' hK => by
  have hn' := of_decide_eq_true hn
  unfold Oper.wp
  rw [xq h1 hg hx]
  refine (hc W h2 hp (h2.NN hn' hp)).mono fun e W' ⟨u, he, hu, hb⟩ => ?_
  subst he
  exact hK u _ _ ⟨hu, Ld h2 hb hs0 (.refl _)⟩ (h1.put (Nat.le_of_ble_eq_true hdn) _) (HF.Nw (h2.zm hp (.refl _)) (fun _ h => h) (h2.back hn' hp (.refl _) hb (hl u))) (CF h2 (.refl _) hb hY)) (fun u hu => K u hu.1 hu.2)
theorem EY {U : Type} {fn : Nat} {xs : List Operand} {vs : List Value} {ts : Array Nat} (i : Nat) (ks : List Nat) (ins : List kH) (V : U → Value) (Φ : (Nat → Prop) → World → U → Prop) (outs : U → List kH) (hn : decide ks.Nodup = true) (hp : Pk E ks ins) (hl : ∀ u, (outs u).length = ks.length)
  (hY : ∀ b, pQ ins b → t.Y i b) (hi : l[i]? = some ⟨some d, .call ⟨.value (.func fn), xs.toArray, ts⟩, ty, pos, af, g⟩) (hw : Wn l.toArray f ⟨some d, .call ⟨.value (.func fn), xs.toArray, ts⟩, ty, pos, af, g⟩) (hdn : Nat.blt d n = true)
  (hg : ∀ args W, (callFunc fn args).run P W = .ok (.enter fn args) W) (hx : H5 f xs vs)
  (hc : ∀ W (hW : HF w W E) (_ : Pk E ks ins), HF (hW.sub (pQ ins)) W (kw ins) → Calls P fn vs.toArray W fun e W' => ∃ w' u, (hW.sub (pQ ins)).Le w' ∧ e = .returned (V u) ∧ Φ w'.O w'.W u ∧ HF w' W' (kw (outs u)))
  (K : ∀ w' u, w.Le w' → Φ w'.O w'.W u → (∀ b, pQ (outs u) b → t.s0 ≤ b ∨ pQ ins b) → Dr P w' n l m t Q fu (listed.setIfInBounds i true) (uf f d (V u)) (Nh E ks (outs u))) : St P w n l m t Q fu listed f E i := by
 intro inv a W h1 h2 hs
 have hi' : (l.toArray)[i]? = l[i]? := by simp
 rw [hi] at hi'
 have hn' := of_decide_eq_true hn
 unfold wpOp
 simp only [hi', hw n a h1, if_true]
 refine .inl ?_
 unfold Oper.wp
 rw [xq h1 hg hx]
 refine (hc W h2 hp (h2.NN hn' hp)).mono fun e W' ⟨w', u, hle, he, hu, hb⟩ => ?_
 subst he
 have hkeep := CF (Y := t.Y i) h2 hle hb hY
 exact ⟨hkeep, K (h2.after hle) u (h2.zm hp hle) hu (Ld h2 hb hs hle) inv _ W' (h1.put (Nat.le_of_ble_eq_true hdn) _) (h2.back hn' hp hle hb (hl u)) (Nat.le_trans hs hkeep.size)⟩
end
open Go.RowKit
section
variable {P : Program} {ρ : Operand → Value} {W : World} {dd : Option Tmp} {ty T T' e : TypeId} {pos : String} {af : Array Edge} {g : Option (Nat × Bool)} {p q : Operand} {A : Option Addr} {n c : Nat}
theorem JX (hu : P.underlying T = some (.slice e)) (hp : ρ p = .slice A n c) (hq : ρ q = .slice none 0 0) : (execOp ρ ⟨dd, .binOp .eql T p q T', ty, pos, af, g⟩).run P W = .ok (.value (.bool A.isNone)) W := by
 simp [execOp, hp, hq, Lib.run_eql_slice_nil W T e A n c 0 0 hu, eqGuard]
theorem Np {α : Type} {l : List α} {c : Nat} (h : fC none l.length c) : l = [] := by
 cases l with
 | nil => rfl
 | cons x l => have := h.2.2 (by simp); cases this
end
open Go.RowKit
structure Bs.Ext (B B' : Bs) : Prop where
 o : ∀ b, B.O b → B'.O b
 r : ∀ b, B.R b → B'.R b
 blk : ∀ b, B.R b → B'.W.heap[b]? = B.W.heap[b]?
theorem Bs.Ext.refl (B : Bs) : B.Ext B := ⟨fun _ h => h, fun _ h => h, fun _ _ => rfl⟩
theorem Bs.Ext.trans {A B C : Bs} (h : A.Ext B) (k : B.Ext C) : A.Ext C := ⟨fun b hb => k.o b (h.o b hb), fun b hb => k.r b (h.r b hb), fun b hb => (k.blk b (h.r b hb)).trans (h.blk b hb)⟩
theorem Bs.Le.ext {B B' : Bs} (h : B.Le B') : B.Ext B' := ⟨h.sub, h.r, h.blk⟩
theorem Bs.Ext.cells {B B' : Bs} (h : B.Ext B') {b o : Nat} {cs : List Value} (hb : B.R b) (hc : aC B.W b o cs) : aC B'.W b o cs := hc.loc (h.blk b hb)
section
variable {α : Type} {w w' : Bs} {W W' : World} {E : Nat → kH} {t : Fl α} {A : Option Addr} {c T k b : Nat} {l : List α} {ks : List Nat} {ins : List kH} {vs : List Value}
theorem Sl.ext (h : Sl w.R w.W t A c l) (he : w.Ext w') : Sl w'.R w'.W t A c l := h.go he.r he.blk
theorem Sl.Hd (h : Sl w.O w.W t A c l) (he : w.Ext w') : Sl w'.O w'.W t A c l := h.go he.o (fun b hb => he.blk b (.inl hb))
theorem HF.Tt (hW : HF w W E) (hp : Pk E ks ins) (hb : w.R b) : (hW.sub (pQ ins)).R b := by
 rcases hb with hb | hb
 ·exact .inl hb
 ·refine .inr ⟨hW.GL (.inr hb), fun hi => ?_⟩
  obtain ⟨k, _, _, hs⟩ := y9 hW hp hi
  exact (hW.bd k b hs).1 (.inr hb)
theorem HF.RV (hW : HF w W E) (hp : Pk E ks ins) (hk : ks.contains k = false) (hb : (E k).S b) : (hW.sub (pQ ins)).R b := by
 refine .inr ⟨(hW.bd k b hb).2, fun hi => ?_⟩
 obtain ⟨k', j, hj, hs⟩ := y9 hW hp hi
 refine hW.disj k k' b (fun e => ?_) hb hs
 subst e
 have : k ∈ ks := List.mem_of_getElem? hj
 simp [this] at hk
theorem HF.dC (hW : HF w W E) : w.Ext hW.all := ⟨fun _ h => h, fun _ hb => hW.PZ (hW.GL hb), hW.keep⟩
theorem HF.mQ (hW : HF w W E) (hp : Pk E ks ins) : w.Ext (hW.sub (pQ ins)) := ⟨fun _ h => h, fun _ hb => hW.Tt hp hb, hW.keep⟩
theorem HF.Qk (hW : HF w W E) (hk : E k = Proofs.YtcjeebkoafonpaaGreatDoor.ow A c T t l) (hp : Pk E ks ins) (hn : ks.contains k = false) : Sl (hW.sub (pQ ins)).R (hW.sub (pQ ins)).W t A c l :=
 (hW.sl hk).mono (fun b hb => by
  rcases hb with hb | hb
  ·exact .inl hb
  ·exact hW.RV hp hn hb)
theorem HF.Jj (hW : HF w W E) (hk : E k = Proofs.YtcjeebkoafonpaaGreatDoor.bx b vs.toArray T) (hp : Pk E ks ins) (hn : ks.contains k = false) : (hW.sub (pQ ins)).R b := hW.RV hp hn (by rw [hk]; rfl)
theorem HF.MV (hW : HF w W E) (hk : E k = Proofs.YtcjeebkoafonpaaGreatDoor.bx b vs.toArray T) : aC (hW.sub (pQ ins)).W b 0 vs := dZ hW hk 0
theorem bK : Pk E [] [] := trivial
theorem bA {e : kH} {es : List kH} (h : E k = e) (h2 : Pk E ks es) : Pk E (k :: ks) (e :: es) := ⟨h, h2⟩
end
section
variable {P : Program} {w : Bs} {n : Nat} {f : Nat → Option Value} {E : Nat → kH} {X Y : Act → World → Prop} {Q : Exit → Act → World → Prop} {ops : Array Oper} {rest l : List Oper}
theorem dW (m : Nat) (fs : List (Nat × Value)) (es : List (Nat × kH)) (h : Tr w n f E (wpList P ops (Exit.then (fun a W => FR n (LF fs) a ∧ HF w W (LE es)) Q) (l.take m)))
  (h2 : Tr w n (LF fs) (LE es) (wpList P ops Q (l.drop m))) : Tr w n f E (wpList P ops Q l) := by
 intro a W h1 h3
 have := xO (rest := l.drop m) _ a W (h a W h1 h3) (fun a W ⟨k1, k2⟩ => h2 a W k1 k2)
 rwa [List.take_append_drop] at this
theorem bu {fs : List (Nat × Value)} {es : List (Nat × kH)} (hf : zt f fs) (he : yE E es) : Tr w n f E (Exit.then (fun a W => FR n (LF fs) a ∧ HF w W (LE es)) Q .normal) := fun _ _ h1 h2 => ⟨h1.wL hf, h2.wL he⟩
theorem zn {e : kH} (k K : Nat) (hk : E k = e) (hK : E K = emp) (hne : Nat.beq k K = false) (h : Tr w n f (up (up E k emp) K e) X) : Tr w n f E X := fun a W h1 h2 => by
 have hne' : k ≠ K := fun e => by subst e; simp at hne
 refine h a W h1 ?_
 have key : ∀ j, (j = K ∧ up (up E k emp) K e j = E k) ∨ (j ≠ K ∧ j = k ∧ up (up E k emp) K e j = emp) ∨ (j ≠ K ∧ j ≠ k ∧ up (up E k emp) K e j = E j) := fun j => by
  rcases eO (up E k emp) K e j with ⟨a1, a2⟩ | ⟨a1, a2⟩
  ·exact .inl ⟨a1, by rw [a2, hk]⟩
  ·rcases eO E k emp j with ⟨b1, b2⟩ | ⟨b1, b2⟩
   ·exact .inr (.inl ⟨a1, b1, by rw [a2, b2]⟩)
   ·exact .inr (.inr ⟨a1, b1, by rw [a2, b2]⟩)
 refine ⟨h2.os, h2.tape, h2.output, h2.size, h2.drawn, h2.keep, fun j => ?_, fun j => ?_, fun j b => ?_, fun i j b hij => ?_⟩
 ·rcases key j with ⟨_, e1⟩ | ⟨_, _, e1⟩ | ⟨_, _, e1⟩ <;> rw [e1]
  ·exact h2.phi k
  ·trivial
  ·exact h2.phi j
 ·rcases key j with ⟨_, e1⟩ | ⟨_, _, e1⟩ | ⟨_, _, e1⟩ <;> rw [e1]
  ·exact h2.loc k
  ·exact vv
  ·exact h2.loc j
 ·rcases key j with ⟨_, e1⟩ | ⟨_, _, e1⟩ | ⟨_, _, e1⟩ <;> rw [e1]
  ·exact h2.bd k b
  ·exact fun hh => hh.elim
  ·exact h2.bd j b
 ·rcases key i with ⟨a1, e1⟩ | ⟨a1, b1, e1⟩ | ⟨a1, b1, e1⟩ <;> rcases key j with ⟨a2, e2⟩ | ⟨a2, b2, e2⟩ | ⟨a2, b2, e2⟩ <;> rw [e1, e2]
  ·exact absurd (a1.trans a2.symm) hij
  ·exact fun _ hh => hh.elim
  ·exact h2.disj k j b (Ne.symm b2)
  ·exact fun hh => hh.elim
  ·exact fun hh => hh.elim
  ·exact fun hh => hh.elim
  ·exact h2.disj i k b b1
  ·exact fun _ hh => hh.elim
  ·exact h2.disj i j b hij
theorem Jq (k : Nat) (h : Tr w n f (up E k emp) X) : Tr w n f E X := fun a W h1 h2 => h a W h1 (h2.drop k)
end
theorem Sl.el {α : Type} {S : Nat → Prop} {W : World} {t : Fl α} {A : Option Addr} {c : Nat} {l : List α} (h : Sl S W t A c l) {i : Nat} {x : α} (hx : l[i]? = some x) : ∃ u, S (nY A) ∧ t.ok S W u x ∧ aC W (nY A) (pF A + i * t.sz) (t.enc u x) := by
 obtain ⟨h1, u, h2, h3⟩ := h.cells i x hx
 exact ⟨u, h1, h2, h3⟩
open Go.RowKit
def pre {α : Type} (l : List α) (hi : Int) : Option (List α) := if 0 ≤ hi ∧ hi ≤ (l.length : Int) then some (l.take hi.toNat) else none
theorem pre_some {α : Type} {l l' : List α} {hi : Int} (h : pre l hi = some l') : (0 ≤ hi ∧ hi ≤ (l.length : Int)) ∧ l.take hi.toNat = l' := by
 unfold pre at h
 split at h
 ·exact ⟨by assumption, Option.some.inj h⟩
 ·cases h
theorem Pm {α : Type} {l l' : List α} {hi : Int} (h : pre l hi = some l') : l'.length = hi.toNat := by
 obtain ⟨h1, rfl⟩ := pre_some h
 simp; omega
theorem IC {α : Type} {l l' : List α} {hi : Int} {A : Option Addr} {c : Nat} (hf : fC A l.length c) (h : pre l hi = some l') : fC A l'.length c := by
 have hl := Pm h
 obtain ⟨⟨h1, h2⟩, _⟩ := pre_some h
 obtain ⟨f1, f2, f3⟩ := hf
 exact ⟨by omega, f2, fun hp => f3 (by omega)⟩
theorem Sl.pre {α : Type} {S : Nat → Prop} {W : World} {t : Fl α} {A : Option Addr} {c : Nat} {l l' : List α} {hi : Int} (h : Sl S W t A c l) (hc : Proofs.YtcjeebkoafonpaaGreatDoor.pre l hi = some l') : Sl S W t A c l' := by
 refine ⟨IC h.form hc, fun i x hx => ?_⟩
 obtain ⟨_, hl⟩ := pre_some hc
 rw [← hl, List.getElem?_take] at hx
 split at hx
 ·exact h.cells i x hx
 ·cases hx
section
variable {P : Program} {ρ : Operand → Value} {W : World} {d : Option Tmp} {ty T : TypeId} {pos : String} {af : Array Edge} {g : Option (Nat × Bool)} {p r : Operand} {j : Int} {α : Type} {l l' : List α} {e sz c : Nat} {A : Option Addr}
theorem zG (he : elemOf? P T = some (e, sz)) (hp : ρ p = .slice A l.length c) (hf : fC A l.length c) (hr : ρ r = .int .i64 j) (hc : pre l j = some l') :
  (execOp ρ ⟨d, .slice T p none (some r) none, ty, pos, af, g⟩).run P W = .ok (.value (.slice A l'.length c)) W := by
 obtain ⟨⟨h1, h2⟩, hl⟩ := pre_some hc
 have hc' : cut l 0 j = some l' := by
  unfold cut
  rw [if_pos ⟨by omega, h1, h2⟩, ← hl]
  simp
 rw [NB he hp hf hr hc', Nat.sub_zero]
 unfold wY
 split
 ·rfl
 ·cases A with
  | none => rfl
  | some a => simp [Addr.add]
end
section
variable {P : Program} {w : Bs} {n : Nat} {f : Nat → Option Value} {E : Nat → kH} {X : Act → World → Prop}
theorem KG {α : Type} (κ : Nat) {A : Option Addr} {c e : Nat} {t : Fl α} {l l' : List α} {hi : Int} (hc : pre l hi = some l') (hk : E κ = ow A c e t l) (K : Tr w n f (up E κ (ow A c e t l')) X) : Tr w n f E X := by
 obtain ⟨⟨h1, h2⟩, hl⟩ := pre_some hc
 exact M0 κ hi.toNat (by omega) hk (by rw [hl]; exact K)
theorem eG {t : Nat} {v v' : Value} (h : f t = some v) (e : v = v') : f t = some v' := e ▸ h
theorem Uq {k b T : Nat} {vs vs' : Array Value} (h : E k = bx b vs T) (e : vs = vs') : E k = bx b vs' T := e ▸ h
theorem Db {es : List kH} {Y : Nat → Prop} (h : es = List.replicate es.length emp) : ∀ b, pQ es b → Y b := fun b ⟨e, he, hs⟩ => by
 rw [h] at he
 have := List.eq_of_mem_replicate he
 subst this
 exact hs.elim
end
open Go.RowKit Go.Sort Go.Proofs Go.Shelf
theorem below_grow {w W : World} (h : Proofs.YtcjeebkoafonpaaGreatDoor.Below w.heap.size w W) : ∃ q os, W = Go.Sort.grow (w.drewN q) os := by
 refine ⟨W.drawn - w.drawn, W.heap.extract w.heap.size W.heap.size, ?_⟩
 have hh : W.heap = w.heap ++ W.heap.extract w.heap.size W.heap.size := by
  apply Array.ext_getElem?
  intro i
  by_cases hi : i < w.heap.size
  ·rw [Array.getElem?_append_left hi, h.block i hi]
  ·rw [Array.getElem?_append_right (by omega)]
   by_cases hW : i < W.heap.size
   ·rw [Array.getElem?_extract]; simp; rw [if_pos (by omega)]; congr 1; omega
   ·have := h.size
    rw [Array.getElem?_eq_none (by omega), Array.getElem?_eq_none (by simp; omega)]
 have hd := h.drawn
 cases W with
 | mk heap tape drawn os output =>
  have e1 := h.os; have e2 := h.tape; have e3 := h.output
  simp only at e1 e2 e3 hd hh
  subst e1 e2 e3
  simp only [Go.Sort.grow, World.drewN, World.mk.injEq, true_and, and_true]
  exact ⟨hh, by omega⟩
section
variable {α : Type}
def FX (c : α → α → Option Int) (x y : α) : Bool := decide ((c x y).getD 0 < 0)
structure tT (c : α → α → Option Int) (l : List α) : Prop where
 len : l.length < 4611686018427387904
 tot : ∀ x ∈ l, ∀ y ∈ l, ∃ k, c x y = some k
 irr : ∀ x ∈ l, FX c x x = false
 tr : ∀ x ∈ l, ∀ y ∈ l, ∀ z ∈ l, FX c x y = true → FX c y z = true → FX c x z = true
 ntr : ∀ x ∈ l, ∀ y ∈ l, ∀ z ∈ l, FX c x y = false → FX c y z = false → FX c x z = false
def M9 (c : α → α → Option Int) (l : List α) (x y : {x // x ∈ l}) : Int := (c x.1 y.1).getD 0
theorem tT.swo {c : α → α → Option Int} {l : List α} (h : tT c l) : SWO (ltOf (M9 c l)) :=
 ⟨fun x => h.irr x.1 x.2, fun x y z => h.tr x.1 x.2 y.1 y.2 z.1 z.2, fun x y z => h.ntr x.1 x.2 y.1 y.2 z.1 z.2⟩
def tH (c : α → α → Option Int) (l : List α) (i : Inhabited {x // x ∈ l}) : Array {x // x ∈ l} := pdq (ltOf (M9 c l)) l.attach.toArray 0 l.attach.toArray.size (Lib.bitLen l.attach.toArray.size) true true
open Classical in
noncomputable def DW (l : List α) (c : α → α → Option Int) : Option (List α) :=
 if tT c l then some (if h : ∃ x, x ∈ l then ((tH c l ⟨⟨Classical.choose h, Classical.choose_spec h⟩⟩).toList.map (·.1)) else []) else none
theorem BL (c : α → α → Option Int) (l : List α) (i : Inhabited {x // x ∈ l}) (h : tT c l) : ((tH c l i).toList.map (·.1)).Perm l ∧ ((tH c l i).toList.map (·.1)).Pairwise (fun x y => FX c y x = false) ∧ (tH c l i).size = l.attach.toArray.size := by
 have hp := pdq_sorts (ltOf (M9 c l)) h.swo l.attach.toArray 0 l.attach.toArray.size (Lib.bitLen l.attach.toArray.size) true true (Nat.zero_le _) (Nat.le_refl _) (Or.inl rfl)
 obtain ⟨⟨h1, _, h3⟩, h4⟩ := hp
 have hsz : (tH c l i).size = l.attach.toArray.size := h1
 refine ⟨?_, ?_, hsz⟩
 ·have e1 : ((tH c l i).extract 0 l.attach.toArray.size) = tH c l i := by rw [← hsz]; simp
  have e2 : (l.attach.toArray.extract 0 l.attach.toArray.size) = l.attach.toArray := Array.extract_size
  have h3' : ((tH c l i).extract 0 l.attach.toArray.size).toList.Perm (l.attach.toArray.extract 0 l.attach.toArray.size).toList := h3
  rw [e1, e2] at h3'
  have := h3'.map (·.1)
  simpa using this
 ·rw [List.pairwise_map, List.pairwise_iff_getElem]
  intro a b ha hb hab
  have ha' : a < (tH c l i).size := by simpa using ha
  have hb' : b < (tH c l i).size := by simpa using hb
  have := h4 a b (Nat.zero_le _) hab (by rw [← hsz]; exact hb')
  have g1 : (tH c l i)[b]! = (tH c l i)[b]'hb' := getElem!_pos (tH c l i) b hb'
  have g2 : (tH c l i)[a]! = (tH c l i)[a]'ha' := getElem!_pos (tH c l i) a ha'
  have this : ltOf (M9 c l) (tH c l i)[b]! (tH c l i)[a]! = false := this
  rw [g1, g2] at this
  have this : decide ((c (tH c l i)[b].val (tH c l i)[a].val).getD 0 < 0) = false := this
  simpa [FX] using this
theorem K4 {l : List α} {c : α → α → Option Int} (h : tT c l) : ∃ m, DW l c = some m := by
 unfold DW
 rw [if_pos h]
 exact ⟨_, rfl⟩
theorem BK {l m : List α} {c : α → α → Option Int} (h : DW l c = some m) : tT c l ∧ m.Perm l ∧ m.Pairwise (fun x y => FX c y x = false) := by
 unfold DW at h
 split at h
 ·rename_i hs
  refine ⟨hs, ?_⟩
  have := Option.some.inj h
  subst this
  split
  ·rename_i hx
   obtain ⟨a, b, _⟩ := BL c l ⟨⟨Classical.choose hx, Classical.choose_spec hx⟩⟩ hs
   exact ⟨a, b⟩
  ·rename_i hx
   have : l = [] := List.eq_nil_iff_forall_not_mem.2 fun x hm => hx ⟨x, hm⟩
   subst this
   exact ⟨.refl _, .nil⟩
 ·cases h
end
theorem FO {w : World} {g n : Nat} {os : Array Obj} {cur : Array Value} {e : TypeId} {fr : Nat × Nat} (d : Array Value) (hb : w.heap[g]? = some (.cells cur e fr)) :
  (grow (putRow id (Sort.ahead w n) g 0 d) os).heap[g]? = some (.cells (putCells id 0 d cur) e fr) := by
 have hg : g < w.heap.size := (Array.getElem?_eq_some_iff.1 hb).1
 rw [heap_grow_old _ _ (by simpa using hg)]
 simp [putRow, mapBlock, Sort.ahead, Array.getElem?_modify, hb, onCells]
theorem vR {w : World} {g n k : Nat} {os : Array Obj} (d : Array Value) (hk : k < w.heap.size) (hne : k ≠ g) : (grow (putRow id (Sort.ahead w n) g 0 d) os).heap[k]? = w.heap[k]? := by
 rw [heap_grow_old _ _ (by simpa using hk)]
 have : g ≠ k := fun e => hne e.symm
 simp [putRow, mapBlock, Sort.ahead, Array.getElem?_modify, this]
theorem vG {w : World} {g n : Nat} {os : Array Obj} (d : Array Value) : w.heap.size ≤ (grow (putRow id (Sort.ahead w n) g 0 d) os).heap.size := by simp
theorem FN (cur : Array Value) (d : Array Value) (h : d.size ≤ cur.size) : (putCells id 0 d cur).toList.take d.size = d.toList := by
 apply List.ext_getElem?
 intro j
 by_cases hj : j < d.size
 ·rw [List.getElem?_take_of_lt hj, Array.getElem?_toList, Array.getElem?_toList]
  simp [putCells, hj, show j < cur.size by omega]
 ·rw [List.getElem?_take_eq_none (by omega), List.getElem?_eq_none (by simp; omega)]
theorem Kl {α : Type} [Inhabited α] (enc : α → List Value) (k : Nat) (hk : ∀ x, (enc x).length = k) (d : Array α) : (flatK enc k d).toList = (d.toList.map enc).flatten := by
 have hlen : ∀ (l : List α), ((l.map enc).flatten).length = l.length * k := fun l => by
  induction l with
  | nil => simp
  | cons a l ih => simp [List.flatten_cons, hk, ih, Nat.succ_mul, Nat.add_comm]
 have hat : ∀ (l : List α) (i j : Nat) (hi : i < l.length) (hj : j < k), ((l.map enc).flatten)[i * k + j]? = (enc l[i])[j]? := fun l => by
  induction l with
  | nil => intro i j hi; simp at hi
  | cons a l ih =>
   intro i j hi hj
   cases i with
   | zero => rw [List.map_cons, List.flatten_cons, Nat.zero_mul, Nat.zero_add, List.getElem?_append_left (by rw [hk]; exact hj)]; rfl
   | succ i =>
    rw [List.map_cons, List.flatten_cons, List.getElem?_append_right (by rw [hk, Nat.succ_mul]; omega), hk]
    rw [show (i + 1) * k + j - k = i * k + j by rw [Nat.succ_mul]; omega, ih i j (by simpa using hi) hj]
    rfl
 apply List.ext_getElem?
 intro t
 by_cases ht : t < d.size * k
 ·have hk0 : 0 < k := by
   rcases Nat.eq_zero_or_pos k with h | h
   ·subst h; simp at ht
   ·exact h
  have hi : t / k < d.size := Nat.div_lt_of_lt_mul (by rw [Nat.mul_comm]; exact ht)
  have hj : t % k < k := Nat.mod_lt _ hk0
  have e := hat d.toList (t / k) (t % k) (by simpa using hi) hj
  rw [Nat.div_add_mod' t k] at e
  rw [e, Array.getElem?_toList, Array.getElem?_eq_getElem (by simpa using ht)]
  have g := get_flatK enc k d t ht
  rw [getElem!_pos _ _ (by simpa using ht)] at g
  rw [g, getElem!_pos d _ hi, getElem!_pos _ _ (by rw [hk]; exact hj), List.getElem?_eq_getElem (by rw [hk]; exact hj)]
  simp
 ·rw [List.getElem?_eq_none (by simpa using ht), List.getElem?_eq_none (by rw [hlen]; simpa using ht)]
section
variable {P : Program} {ρ : Ren} {α : Type} {w : Bs} {t : Fl α} {e : α → List Value} {A : Option Addr} {c T : Nat} {l r : List α} {cmp : α → α → Option Int} {fid : Nat} {cap : List Value}
theorem KD (he : ∀ u x, t.enc u x = e x) {O : Nat → Prop} {W : World} {css : List (List Value)} {l : List α} (h : Al (rp t O W) css l) : css = l.map e := by
 induction h with
 | nil => rfl
 | cons h1 _ ih => obtain ⟨u, _, rfl⟩ := h1; rw [ih, he]; rfl
theorem Fa (L : SlLaysF0.n6 P ρ) (aE : ∀ w, (isAgg (ρ.t 24)).run P w = .ok true w) (zE : ∀ w, (Go.sizeOf (ρ.t 24)).run P w = .ok t.sz w) (he : ∀ u x, t.enc u x = e x) (ht : t.MZ) (u0 : t.Ad)
  (hg : ∀ args w, (callFunc fid args).run P w = .ok (.enter fid args) w)
  (hf : ∀ (w' : Bs), w.Ext w' → ∀ (z0 z1 : α), ∀ y, cmp z0 z1 = some y → Calls P fid (([.agg (e z0).toArray, .agg (e z1).toArray] : List Value) ++ cap).toArray w'.W fun e W'' => e = .returned (.int .i64 y) ∧ HF w' W'' E0)
  (H : DW l cmp = some r) (hE : HF w w.W (kw [ow A c T t l])) :
  Calls P (ρ.f 6) [.slice A l.length c, .func (.func fid) #[] cap.toArray].toArray w.W fun e W' => ∃ u : Unit, e = .returned (.tuple #[]) ∧ (r.length = l.length) ∧ HF w W' (kw [ow A c T t r]) := by
 have hke : ∀ x, (e x).length = t.sz := fun x => by rw [← he u0 x]; exact t.len u0 x
 have h1e : ∀ x, ∀ v ∈ e x, v.oneCell' = true := fun x v hv => t.one u0 x v (by rw [he]; exact hv)
 obtain ⟨hok, hperm, _⟩ := BK H
 have hrl : r.length = l.length := hperm.length_eq
 have hrp : ∀ (W : World) (m : List α), Al (rp t w.O W) (m.map e) m := fun W m => Al.of_map (fun x => ⟨u0, ht _ _ _ _, (he u0 x).symm⟩) m
 obtain ⟨css, hal, hlen, hown⟩ := hE.ow (k := 0) rfl
 rcases hown with ⟨ev, h0⟩ | ⟨g, cap', cur, ev, hb0, hh, hn, hc, hs, htk⟩
 ·have hl : l = [] := List.eq_nil_of_length_eq_zero h0
  subst hl
  have hr : r = [] := List.eq_nil_of_length_eq_zero hrl
  subst hr
  refine (AnyF.slices_SortFunc_none L A c (.func (.func fid) #[] cap.toArray) w.W).mono fun e' W' ⟨h1, h2⟩ => ?_
  subst h2
  exact ⟨(), h1, rfl, hE⟩
 ·simp at ev
  obtain ⟨rfl, rfl⟩ := ev
  by_cases hx : ∃ x, x ∈ l
  ·have i : Inhabited {x // x ∈ l} := ⟨⟨Classical.choose hx, Classical.choose_spec hx⟩⟩
   have hr : r = (tH cmp l ⟨⟨Classical.choose hx, Classical.choose_spec hx⟩⟩).toList.map (·.1) := by
    unfold DW at H
    rw [if_pos hok, dif_pos hx] at H
    exact (Option.some.inj H).symm
   letI : Inhabited {x // x ∈ l} := ⟨⟨Classical.choose hx, Classical.choose_spec hx⟩⟩
   have hcss := KD he hal
   have hsz : l.attach.toArray.size = l.length := by simp
   have hflat : ∀ (d : Array {x // x ∈ l}), (flatK (fun x => e x.1) t.sz d).toList = ((d.toList.map (·.1)).map e).flatten := fun d => by
    rw [Kl (fun x : {x // x ∈ l} => e x.1) t.sz (fun x => hke x.1)]; simp [List.map_map, Function.comp_def]
   have hgw : g < w.W.heap.size := (Array.getElem?_eq_some_iff.1 hh).1
   have hcur : l.length * t.sz ≤ cur.size := by rw [hs]; exact Nat.mul_le_mul_right _ hn
   have hH : HoldsK (fun x : {x // x ∈ l} => e x.1) t.sz w.W g 0 l.attach.toArray := by
    intro j hj
    have hj' : j < l.length * t.sz := by simpa using hj
    refine ⟨?_, by simp [World.frozen?, hh]⟩
    have e1 : (cur.toList.take (l.length * t.sz))[j]? = (flatK (fun x : {x // x ∈ l} => e x.1) t.sz l.attach.toArray).toList[j]? := by
     rw [htk, hflat, hcss]; simp
    rw [List.getElem?_take_of_lt hj'] at e1
    simp only [World.cell?, hh, Nat.zero_add]
    simp only [Option.isSome_none, Bool.false_eq_true, if_false]
    rw [← Array.getElem?_toList, e1, Array.getElem?_toList, Array.getElem?_eq_getElem (by simpa using hj), getElem!_pos _ _ (by simpa using hj)]
    rfl
   have hgR : ¬ w.R g := (hE.bd 0 g rfl).1
   have hcmp : CmpLays P fid cap.toArray (fun x : {x // x ∈ l} => e x.1) t.sz (M9 cmp l) g 0 l.attach.toArray.size w.W := by
    intro m os dk hdk x y
    obtain ⟨k, hk⟩ := hok.tot x.1 x.2 y.1 y.2
    have hS : w.W.heap.size ≤ (sortWorldK (fun x : {x // x ∈ l} => e x.1) t.sz w.W g 0 m dk os).heap.size := vG _
    have hext : w.Ext ⟨sortWorldK (fun x : {x // x ∈ l} => e x.1) t.sz w.W g 0 m dk os, w.O, fun b => b < (sortWorldK (fun x : {x // x ∈ l} => e x.1) t.sz w.W g 0 m dk os).heap.size, fun b hb => by
      rcases hb with hb | hb
      ·exact Nat.lt_of_lt_of_le (w.lt b (.inl hb)) hS
      ·exact hb⟩ := ⟨fun _ h => h, fun b hb => .inr (Nat.lt_of_lt_of_le (w.lt b hb) hS), fun b hb => vR _ (w.lt b hb) (fun e => hgR (e ▸ hb))⟩
    have := hf _ hext x.1 y.1 k hk
    have hargs : (([.agg (e x.1).toArray, .agg (e y.1).toArray] : List Value) ++ cap).toArray = #[.agg (e x.1).toArray, .agg (e y.1).toArray] ++ cap.toArray := by simp
    rw [hargs] at this
    refine this.mono fun e' W'' ⟨h1, h2⟩ => ⟨by rw [h1]; simp [M9, hk], ?_⟩
    exact below_grow ⟨h2.os, h2.tape, h2.output, h2.size, fun b hb => h2.keep b (.inr hb), h2.drawn⟩
   have main := AnyQ.slices_SortFunc_eq L t.sz aE zE (fun x : {x // x ∈ l} => e x.1) (fun x => hke x.1) (fun x => h1e x.1) (M9 cmp l) hok.swo fid cap.toArray g 0 c l.attach.toArray w.W hg hcmp hH hgw (by rw [hsz]; exact hok.len)
   rw [hsz] at main
   refine main.mono fun e' W' ⟨h1, n, os, h2⟩ => ⟨(), h1, hrl, ?_⟩
   have hD : tH cmp l ⟨⟨Classical.choose hx, Classical.choose_spec hx⟩⟩ = pdq (ltOf (M9 cmp l)) l.attach.toArray 0 l.length (Lib.bitLen l.length) true true := by unfold tH; rw [hsz]
   rw [← hD] at h2
   obtain ⟨_, _, hDs⟩ := BL cmp l ⟨⟨Classical.choose hx, Classical.choose_spec hx⟩⟩ hok
   generalize tH cmp l ⟨⟨Classical.choose hx, Classical.choose_spec hx⟩⟩ = D at h2 hr hDs
   have hW : W' = grow (putRow id (Sort.ahead w.W n) g 0 (flatK (fun x : {x // x ∈ l} => e x.1) t.sz D)) os := h2
   have hfs : (flatK (fun x : {x // x ∈ l} => e x.1) t.sz D).size = l.length * t.sz := by rw [size_flatK, hDs, hsz]
   subst hW
   refine (hE.mod (E := kw [ow (some ⟨g, 0, none⟩) c T t l]) (W' := grow (putRow id (Sort.ahead w.W n) g 0 (flatK (fun x : {x // x ∈ l} => e x.1) t.sz D)) os) 0 (ow (some ⟨g, 0, none⟩) c T t r) rfl rfl rfl (vG _) (Nat.le_add_right _ _) (fun b hb hs => vR _ hb (fun e => hs (by rw [e]; rfl))) (pW _ _ _ _ _) ?_ (fun b hb => ?_)).weaken (fun k => ?_)
   ·refine ⟨r.map e, hrp _ r, by rw [qU (hrp w.W r)], .inr ⟨g, c, _, by rw [hrl], Nat.zero_le _, FO _ hh, by rw [hrl]; exact hn, hc, by simp [putCells, hs], ?_⟩⟩
    rw [hrl, ← hfs, FN _ _ (by rw [hfs]; exact hcur), hflat, ← hr]
   ·have hb : (Value.slice (some ⟨g, 0, none⟩) r.length c).ownBlock = some b := hb
    simp [Value.ownBlock] at hb
    subst hb
    exact ⟨.inl rfl, Nat.lt_of_lt_of_le hgw (vG _)⟩
   ·cases k with
    | zero => exact .inl rfl
    | succ k => exact .inr rfl
  ·have hl : l = [] := List.eq_nil_iff_forall_not_mem.2 fun x hm => hx ⟨x, hm⟩
   subst hl
   have hr : r = [] := List.eq_nil_of_length_eq_zero hrl
   subst hr
   refine (AnyF.slices_SortFunc_none L _ c (.func (.func fid) #[] cap.toArray) w.W).mono fun e' W' ⟨h1, h2⟩ => ?_
   subst h2
   exact ⟨(), h1, rfl, hE⟩
end
open Go.RowKit Go.Sort Go.Proofs Go.Shelf
def JO (l : List Int) : Option (List Int) := if l.length < 4611686018427387904 then some (l.mergeSort fun x y => decide (x ≤ y)) else none
def Sj (l : List Int) : Option (List Int) := some (Lib.compact l)
theorem LV (l : List Int) : (Lib.compact l).length ≤ l.length := by
 unfold Lib.compact Lib.compactUpTo
 rw [List.length_map]
 exact Nat.le_trans (List.length_filter_le _ _) (by simp)
section
variable {P : Program} {ρ : Ren} {w : Bs} {A : Option Addr} {c T : Nat}
theorem NV {α : Type} {t : Fl α} {l r : List α} {g : Nat} {W' : World} {cur cur' : Array Value} {css : List (List Value)} (hE : HF w w.W (kw [ow (some ⟨g, 0, none⟩) c T t l])) (hh : w.W.heap[g]? = some (.cells cur T (0, 0)))
  (hn : l.length ≤ c) (hc : c ≤ maxLen) (hs : cur.size = c * t.sz) (hrl : r.length ≤ l.length) (hh' : W'.heap[g]? = some (.cells cur' T (0, 0))) (hs' : cur'.size = cur.size)
  (ho : W'.os = w.W.os) (htp : W'.tape = w.W.tape) (hou : W'.output = w.W.output) (hd : w.W.drawn ≤ W'.drawn) (hsz : w.W.heap.size ≤ W'.heap.size) (hother : ∀ b, b < w.W.heap.size → b ≠ g → W'.heap[b]? = w.W.heap[b]?)
  (hal : Al (rp t w.O W') css r) (htk : cur'.toList.take (r.length * t.sz) = css.flatten) : HF w W' (kw [ow (some ⟨g, 0, none⟩) c T t r]) := by
 have hgw : g < w.W.heap.size := (Array.getElem?_eq_some_iff.1 hh).1
 refine (hE.mod (E := kw [ow (some ⟨g, 0, none⟩) c T t l]) (W' := W') 0 (ow (some ⟨g, 0, none⟩) c T t r) ho htp hou hsz hd (fun b hb hs => hother b hb (fun e => hs (by rw [e]; rfl))) (pW _ _ _ _ _) ?_ (fun b hb => ?_)).weaken (fun k => ?_)
 ·exact ⟨css, hal, by rw [qU hal], .inr ⟨g, c, cur', rfl, Nat.zero_le _, hh', Nat.le_trans hrl hn, hc, by rw [hs', hs], htk⟩⟩
 ·have hb : (Value.slice (some ⟨g, 0, none⟩) r.length c).ownBlock = some b := hb
  simp [Value.ownBlock] at hb
  subst hb
  exact ⟨.inl rfl, Nat.lt_of_lt_of_le hgw hsz⟩
 ·cases k with
  | zero => exact .inl rfl
  | succ k => exact .inr rfl
theorem ME {w : World} {g n : Nat} {os : Array Obj} {cur : Array Value} {e : TypeId} {fr : Nat × Nat} (d : Array Int) (hb : w.heap[g]? = some (.cells cur e fr)) :
  (grow (putRow (Value.int .i64) (Sort.ahead w n) g 0 d) os).heap[g]? = some (.cells (putCells (Value.int .i64) 0 d cur) e fr) := by
 have hg : g < w.heap.size := (Array.getElem?_eq_some_iff.1 hb).1
 rw [heap_grow_old _ _ (by simpa using hg)]
 simp [putRow, mapBlock, Sort.ahead, Array.getElem?_modify, hb, onCells]
theorem J6 {w : World} {g n k : Nat} {os : Array Obj} (d : Array Int) (hk : k < w.heap.size) (hne : k ≠ g) : (grow (putRow (Value.int .i64) (Sort.ahead w n) g 0 d) os).heap[k]? = w.heap[k]? := by
 rw [heap_grow_old _ _ (by simpa using hk)]
 have : g ≠ k := fun e => hne e.symm
 simp [putRow, mapBlock, Sort.ahead, Array.getElem?_modify, this]
theorem J7 {w : World} {g n : Nat} {cur : Array Value} {e : TypeId} {fr : Nat × Nat} (d : Array Int) (hb : w.heap[g]? = some (.cells cur e fr)) :
  (putRow (Value.int .i64) (Sort.ahead w n) g 0 d).heap[g]? = some (.cells (putCells (Value.int .i64) 0 d cur) e fr) := by
 simp [putRow, mapBlock, Sort.ahead, Array.getElem?_modify, hb, onCells]
theorem IB {w : World} {g n k : Nat} (d : Array Int) (hne : k ≠ g) : (putRow (Value.int .i64) (Sort.ahead w n) g 0 d).heap[k]? = w.heap[k]? := by
 have : g ≠ k := fun e => hne e.symm
 simp [putRow, mapBlock, Sort.ahead, Array.getElem?_modify, this]
theorem FP (cur : Array Value) (ts : List Int) (k : Nat) (hk : k ≤ ts.length) (h : ts.length ≤ cur.size) : (putCells (Value.int .i64) 0 ts.toArray cur).toList.take k = (ts.take k).map (Value.int .i64) := by
 apply List.ext_getElem?
 intro j
 by_cases hj : j < k
 ·rw [List.getElem?_take_of_lt hj, Array.getElem?_toList, List.getElem?_map, List.getElem?_take_of_lt hj]
  simp [putCells, show j < ts.length by omega, show j < cur.size by omega]
 ·rw [List.getElem?_take_eq_none (by omega), List.getElem?_eq_none (by simp; omega)]
theorem NU {w : World} {g : Nat} {cur : Array Value} {e : TypeId} {ss : List Int} (hb : w.heap[g]? = some (.cells cur e (0, 0))) (ht : cur.toList.take ss.length = ss.map (Value.int .i64)) : Holds (Value.int .i64) w g 0 ss.toArray := by
 intro j hj
 have hj' : j < ss.length := by simpa using hj
 refine ⟨?_, by simp [World.frozen?, hb]⟩
 have h1 : (cur.toList.take ss.length)[j]? = (ss.map (Value.int .i64))[j]? := by rw [ht]
 rw [List.getElem?_take_of_lt hj'] at h1
 simp only [World.cell?, hb, Nat.zero_add]
 simp only [Option.isSome_none, Bool.false_eq_true, if_false]
 rw [← Array.getElem?_toList, h1]
 simp [hj']
variable {t : Fl Int} {l r : List Int}
theorem LJ (l : List Int) : (l.map fun x => [Value.int .i64 x]).flatten = l.map (Value.int .i64) := by
 induction l with
 | nil => rfl
 | cons a l ih => simp [List.flatten_cons, ih]
theorem JP (L : Lays.n189 P ρ) (h1 : t.sz = 1) (he : ∀ u x, t.enc u x = [Value.int .i64 x]) (ht : t.MZ) (u0 : t.Ad) (H : JO l = some r) (hE : HF w w.W (kw [ow A c T t l])) :
  Calls P (ρ.f 189) [.slice A l.length c].toArray w.W fun e W' => ∃ u : Unit, e = .returned (.tuple #[]) ∧ (r.length = l.length) ∧ HF w W' (kw [ow A c T t r]) := by
 unfold JO at H
 split at H
 ·rename_i hlt
  have hr := Option.some.inj H
  have hrl : r.length = l.length := by rw [← hr, List.length_mergeSort]
  obtain ⟨css, hal, hlen, hown⟩ := hE.ow (k := 0) rfl
  rcases hown with ⟨ev, h0⟩ | ⟨g, cap', cur, ev, hb0, hh, hn, hc, hs, htk⟩
  ·have hl : l = [] := List.eq_nil_of_length_eq_zero h0
   subst hl
   have hr0 : r = [] := List.eq_nil_of_length_eq_zero hrl
   subst hr0
   refine (Any.slices_Sort_int_none L A c w.W).mono fun e' W' ⟨h1, h2⟩ => ?_
   subst h2
   exact ⟨(), h1, rfl, hE⟩
  ·simp at ev
   obtain ⟨rfl, rfl⟩ := ev
   have hcss := KD he hal
   have htk' : cur.toList.take l.length = l.map (Value.int .i64) := by rw [hcss, LJ, h1, Nat.mul_one] at htk; exact htk
   have hgw : g < w.W.heap.size := (Array.getElem?_eq_some_iff.1 hh).1
   refine (Any.slices_Sort_int L g 0 c l w.W (NU hh htk') hgw hlt).mono fun e' W' ⟨g1, n, os, g2⟩ => ⟨(), g1, hrl, ?_⟩
   rw [hr] at g2
   subst g2
   have hcs : r.length ≤ cur.size := by rw [hs, hrl, h1]; omega
   refine NV hE (css := r.map fun x => [Value.int .i64 x]) hh hn hc hs (Nat.le_of_eq hrl) (ME _ hh) (by simp [putCells]) rfl rfl rfl (Nat.le_add_right _ _) (by simp) (fun b hb hne => J6 _ hb hne) (Al.of_map (fun x => ⟨u0, ht _ _ _ _, (he u0 x).symm⟩) r) ?_
   rw [LJ, h1, Nat.mul_one, FP _ _ _ (Nat.le_refl _) hcs, List.take_length]
 ·cases H
theorem Fh (L : Lays2.n20 P ρ) (h1 : t.sz = 1) (he : ∀ u x, t.enc u x = [Value.int .i64 x]) (ht : t.MZ) (u0 : t.Ad) (H : Sj l = some r) (hE : HF w w.W (kw [ow A c T t l])) :
  Calls P (ρ.f 20) [.slice A l.length c].toArray w.W fun e W' => ∃ u : (Option Addr × Nat), e = .returned (.slice u.1 r.length u.2) ∧ (fC u.1 r.length u.2) ∧ HF w W' (kw [ow u.1 u.2 T t r]) := by
 have hr := Option.some.inj H
 obtain ⟨css, hal, hlen, hown⟩ := hE.ow (k := 0) rfl
 rcases hown with ⟨h0, ev⟩ | ⟨g, cap', cur, ev, hb0, hh, hn, hc, hs, htk⟩
 ·have hl : l = [] := List.eq_nil_of_length_eq_zero ev
  subst hl
  have hr0 : r = [] := by rw [← hr]; rfl
  subst hr0
  refine (Any.slices_Compact_int_empty L A c w.W).mono fun e' W' ⟨g1, g2⟩ => ?_
  subst g2
  have : A = none ∧ c = 0 := by simpa using h0
  obtain ⟨rfl, rfl⟩ := this
  exact ⟨(none, 0), g1, iM, hE⟩
 ·simp at ev
  obtain ⟨rfl, rfl⟩ := ev
  have hcss := KD he hal
  have htk' : cur.toList.take l.length = l.map (Value.int .i64) := by rw [hcss, LJ, h1, Nat.mul_one] at htk; exact htk
  have hrl : r.length ≤ l.length := by rw [← hr]; exact LV l
  refine (Any.slices_Compact_int L g 0 c l w.W (NU hh htk') (Nat.le_trans hn hc) hn).mono fun e' W' ⟨g1, n, g2⟩ => ⟨(some ⟨g, 0, none⟩, c), by rw [g1, hr], ⟨Nat.le_trans hrl hn, hc, fun _ => rfl⟩, ?_⟩
  rw [hr] at g2
  subst g2
  have hfl : (r ++ List.replicate (l.length - r.length) (0 : Int)).length = l.length := by simp; omega
  refine NV hE (css := r.map fun x => [Value.int .i64 x]) hh hn hc hs hrl (J7 _ hh) (by simp [putCells]) rfl rfl rfl (Nat.le_add_right _ _) (by simp [putRow, mapBlock, Sort.ahead]) (fun b hb hne => IB _ hne) (Al.of_map (fun x => ⟨u0, ht _ _ _ _, (he u0 x).symm⟩) r) ?_
  rw [LJ, h1, Nat.mul_one, FP _ _ _ (by omega) (by rw [hfl, hs, h1]; omega), List.take_left]
end
open Go.RowKit
theorem IZ (zc : List Value) : ∀ (n i : Nat), i < n * zc.length → ((List.replicate n zc).flatten)[i]? = zc[i % zc.length]?
 | 0, i, h => by simp at h
 | n + 1, i, h => by
  rw [List.replicate_succ, List.flatten_cons]
  by_cases hi : i < zc.length
  ·rw [List.getElem?_append_left hi, Nat.mod_eq_of_lt hi]
  ·rw [List.getElem?_append_right (by omega), IZ zc n (i - zc.length) (by rw [Nat.succ_mul] at h; omega), ← Nat.mod_eq_sub_mod (by omega)]
theorem Bi (zc : List Value) (n : Nat) : ((List.replicate n zc).flatten).length = n * zc.length := by
 induction n with
 | zero => simp
 | succ n ih => rw [List.replicate_succ, List.flatten_cons, List.length_append, ih, Nat.succ_mul, Nat.add_comm]
theorem yN (zc : List Value) (n : Nat) : (Builtin.zeroCells zc.toArray n).toList = (List.replicate n zc).flatten := by
 apply List.ext_getElem?
 intro i
 by_cases h : i < n * zc.length
 ·have hz : 0 < zc.length := by
   rcases Nat.eq_zero_or_pos zc.length with e | e
   ·rw [e] at h; simp at h
   ·exact e
  rw [IZ zc n i h]
  unfold Builtin.zeroCells
  have hm : i % zc.length < zc.length := Nat.mod_lt _ hz
  simp [h, hm]
 ·rw [List.getElem?_eq_none (by unfold Builtin.zeroCells; simp; omega), List.getElem?_eq_none (by rw [Bi]; omega)]
theorem Al.Um {α β : Type} {R : α → β → Prop} {a : α} {b : β} (h : R a b) : ∀ n : Nat, Al R (List.replicate n a) (List.replicate n b)
 | 0 => .nil
 | n + 1 => .cons h (Al.Um h n)
def Oi {α : Type} (l : List α) (lo : Int) (m : Nat) (z : α) : List α := l.take lo.toNat ++ List.replicate m z
theorem PR {α : Type} {l l' : List α} {lo : Int} (z : α) (h : cut l lo l.length = some l') : (Oi l lo l'.length z).length = l.length := by
 have := Bj h
 obtain ⟨⟨h1, h2, _⟩, _⟩ := vW h
 unfold Oi
 rw [List.length_append, List.length_take, List.length_replicate]
 omega
section
variable {P : Program} {w : Bs} {n : Nat} {f : Nat → Option Value} {E : Nat → kH} {Q : Exit → Act → World → Prop} {ops : Array Oper} {rest : List Oper}
variable {ty T : Nat} {pos : String} {af : Array Edge} {g : Option (Nat × Bool)} {p : Operand}
theorem Jr {α : Type} (κ : Nat) {A : Option Addr} {c e m : Nat} {lo : Int} {t : Fl α} {l l' : List α} (z : α) {zc : List Value} (hw : Wn ops f ⟨none, .call ⟨.builtin .clear, #[p], #[T]⟩, ty, pos, af, g⟩) (hp : ev f p = some (.slice (wY A lo.toNat t.sz c) l'.length (c - lo.toNat)))
  (hcut : Proofs.YtcjeebkoafonpaaGreatDoor.cut l lo l.length = some l') (hk : E κ = ow A c e t l) (hu : P.underlying T = some (.slice e)) (hz : zeroOf P e = some zc) (hzr : ∃ u, t.ok w.O w.W u z ∧ t.enc u z = zc) (h1 : zc.all (·.oneCell') = true) (hm : l'.length = m)
  (K : Tr w n f (up E κ (ow A c e t (Oi l lo m z))) (wpList P ops Q rest)) :
  Tr w n f E (wpList P ops Q (⟨none, .call ⟨.builtin .clear, #[p], #[T]⟩, ty, pos, af, g⟩ :: rest)) :=
 Tr.op hw fun a W k1 k2 => by
  subst hm
  unfold Oi at K
  have hl := Bj hcut
  obtain ⟨⟨c1, c2, _⟩, _⟩ := vW hcut
  obtain ⟨zu, hzok, hzenc⟩ := hzr
  have hzl : zc.length = t.sz := by rw [← hzenc]; exact t.len zu z
  have hlo : lo.toNat ≤ l.length := by omega
  have hll : l'.length = l.length - lo.toNat := by omega
  obtain ⟨css, hal, hlen, hown⟩ := k2.ow hk
  unfold Oper.wp
  by_cases h0 : l'.length = 0
  ·have hrun : (execOp a.eval ⟨none, .call ⟨.builtin .clear, #[p], #[T]⟩, ty, pos, af, g⟩).run P W = .ok (.value (.tuple #[])) W := by
    have hpe := k1.ev hp
    rw [h0] at hpe
    cases hA : wY A lo.toNat t.sz c <;> rw [hA] at hpe <;> simp [execOp, resolve, invoke, builtin, hpe, Builtin.clear_, run_underlying hu]
   rw [hrun]
   have hE0 : l.take lo.toNat ++ List.replicate l'.length z = l := by rw [h0, List.take_of_length_le (by omega)]; simp
   rw [hE0] at K
   simp only [Oper.upon]
   exact K _ W (by simpa [Act.put] using k1) (k2.weaken fun k => by
    rcases eO E κ (ow A c e t l) k with ⟨h1, h2⟩ | ⟨_, h2⟩ <;> rw [h2]
    ·subst h1; exact .inl hk.symm
    ·exact .inl rfl)
  rcases hown with ⟨ev, hz0⟩ | ⟨gg, cap', cur, ev, hb0, hh, hn, hc, hs, htk⟩
  ·omega
  ·simp at ev
   obtain ⟨rfl, rfl⟩ := ev
   have hgw : gg < W.heap.size := (Array.getElem?_eq_some_iff.1 hh).1
   have hAd : wY (some ⟨gg, 0, none⟩) lo.toNat t.sz c = some ⟨gg, lo.toNat * t.sz, none⟩ := by
    unfold wY
    rw [if_neg (by omega)]
    simp [Addr.add_lit]
   have hpe := k1.ev hp
   rw [hAd] at hpe
   have hzv : ∃ zv, (zeroValue e).run P W = .ok zv W ∧ zv.cells = zc.toArray := D8 hz
   obtain ⟨zv, hz1, hz2⟩ := hzv
   have hcur : l.length * t.sz ≤ cur.size := by rw [hs]; exact Nat.mul_le_mul_right _ hn
   have hct : cur.toList.length = cur.size := Array.length_toList
   have hfl : ((List.replicate l'.length zc).flatten).length = l'.length * t.sz := by rw [Bi, hzl]
   have hsum : lo.toNat * t.sz + l'.length * t.sz = l.length * t.sz := by rw [← Nat.add_mul]; congr 1; omega
   have hst := run_storeCells_at P gg (lo.toNat * t.sz) e (List.replicate l'.length zc).flatten 0 cur W hh (by rw [hfl]; omega) (fun v hv => by
    obtain ⟨x, hx, hv⟩ := List.mem_flatten.1 hv
    rw [List.eq_of_mem_replicate hx] at hv
    exact List.all_eq_true.1 h1 v hv)
   rw [← yN, Nat.add_zero, ← hz2] at hst
   have hrun : (execOp a.eval ⟨none, .call ⟨.builtin .clear, #[p], #[T]⟩, ty, pos, af, g⟩).run P W = .ok (.value (.tuple #[])) (W.setRow gg (cur.toList.take (lo.toNat * t.sz) ++ (Builtin.zeroCells zv.cells l'.length).toList ++ cur.toList.drop (lo.toNat * t.sz + (Builtin.zeroCells zv.cells l'.length).toList.length)).toArray) := by
    obtain ⟨m', hm'⟩ : ∃ m', l'.length = m' + 1 := ⟨l'.length - 1, by omega⟩
    rw [hm'] at hpe hst ⊢
    simp [execOp, resolve, invoke, builtin, hpe, Builtin.clear_, run_underlying hu, hz1, hst]
   rw [hrun]
   simp only [Oper.upon]
   rw [hz2, yN, hfl]
   refine K _ _ (by simpa [Act.put] using k1) ?_
   have hgO : ¬ w.R gg := (k2.bd κ gg (by rw [hk]; rfl)).1
   have hne : ∀ vs, ∀ b, b ≠ gg → (W.setRow gg vs).heap[b]? = W.heap[b]? := fun vs b hb => by
    simp only [World.setRow, Array.getElem?_modify]
    rw [if_neg (fun e => hb e.symm)]
   refine k2.mod κ (Proofs.YtcjeebkoafonpaaGreatDoor.ow (some ⟨gg, 0, none⟩) c e t (l.take lo.toNat ++ List.replicate l'.length z)) rfl rfl rfl (by simp [World.setRow]) (Nat.le_refl _) (fun b hb hsb => hne _ b (fun e => hsb (by rw [hk, e]; rfl))) (pW _ _ _ _ _) ?_ (fun b hb => ?_)
   ·have hrz : rp t w.O W zc z := ⟨zu, t.loc hzok (fun _ hb => hb) (fun b hb => k2.keep b (.inl hb)), hzenc.symm⟩
    have hal' := (hal.take lo.toNat).append (Al.Um hrz l'.length)
    have hlen' : (l.take lo.toNat ++ List.replicate l'.length z).length = l.length := by simp; omega
    refine ⟨css.take lo.toNat ++ List.replicate l'.length zc, hal'.mono (fun _ _ hr => hr.loc (fun _ hb => hb) (fun b hb => hne _ b (fun e => hgO (.inl (e ▸ hb))))), by rw [qU hal'], .inr ⟨gg, c, _, by rw [hlen'], Nat.zero_le _, setRow_heap W gg cur _ e _ hh, by rw [hlen']; exact hn, hc, ?_, ?_⟩⟩
    ·rw [List.size_toArray, List.length_append, List.length_append, List.length_take, List.length_drop, Array.length_toList, hfl]; omega
    ·rw [hlen', List.flatten_append, F7 hal, ← htk, List.take_take, Nat.min_eq_left (by omega)]
     show List.take (l.length * t.sz) (cur.toList.take (lo.toNat * t.sz) ++ (List.replicate l'.length zc).flatten ++ cur.toList.drop (lo.toNat * t.sz + l'.length * t.sz)) = _
     rw [List.take_append_of_le_length (by rw [List.length_append, List.length_take, hct, hfl]; omega), List.take_of_length_le (by rw [List.length_append, List.length_take, hct, hfl]; omega)]
   ·have hb : (Value.slice (some ⟨gg, 0, none⟩) (l.take lo.toNat ++ List.replicate l'.length z).length c).ownBlock = some b := hb
    simp [Value.ownBlock] at hb
    subst hb
    exact ⟨.inl (by rw [hk]; rfl), by simp [World.setRow]; exact hgw⟩
end
open Go.RowKit
section
variable {P : Program} {ρ : Operand → Value} {W : World} {d : Option Tmp} {ty : TypeId} {pos : String} {af : Array Edge} {g : Option (Nat × Bool)} {p q r : Operand} {k : IntKind} {i j m : Int}
end
theorem qH {P : Program} {w : Bs} {n : Nat} {f : Nat → Option Value} {E : Nat → kH} {fu : Func} {R : Ending → World → Prop} (h : Tr w n f E (bodyPost P fu R .ret)) : Tr w n f E (bodyPost P fu R .normal) := fun a W h1 h2 => h a W h1 h2
open Go.RowKit
abbrev iv (n : Int) : Value := .int .i64 n
abbrev sv (s : ByteArray) : Value := .string s
abbrev bV (b : Bool) : Value := .bool b
abbrev pV (b : Nat) : Value := .pointer (some ⟨b, 0, none⟩)
abbrev sL {α : Type} (A : Option Addr) (l : List α) (c : Nat) : Value := .slice A l.length c
theorem oI {α : Type} {a b : α} (h : some a = some b) : a = b := Option.some.inj h
section
variable {P : Program} {w : Bs} {n : Nat} {ops : Array Oper} {f : Nat → Option Value} {E : Nat → kH} {Q : Exit → Act → World → Prop} {X : Act → World → Prop} {rest : List Oper} {d ty : Nat} {pos : String} {af : Array Edge} {p : Operand} {v : Value} {x y : Code} {id : Nat} {l : List Oper} {op : Op}
theorem aP (hdn : Nat.blt d n = true) (hr : ∀ a W, FR n f a → HF w W E → (execOp a.eval ⟨some d, op, ty, pos, af, none⟩).run P W = .ok (.value v) W) (k : Tr w n (uf f d v) E (wpList P ops Q rest)) : Tr w n f E (wpList P ops Q (⟨some d, op, ty, pos, af, none⟩ :: rest)) := Tr.val (wn rfl) hdn hr k
theorem aY (hdn : Nat.blt d n = true) (hr : ∀ a W, FR n f a → HF w W E → (execOp a.eval ⟨some d, op, ty, pos, af, none⟩).run P W = .ok (.value v) W) (k : Tq P w n ops (uf f d v) E X rest) : Tq P w n ops f E X (⟨some d, op, ty, pos, af, none⟩ :: rest) := Tq.val (wn rfl) hdn hr k
theorem SA (hdn : Nat.blt d n = true) (hp : ev f p = some v) (k : Tr w n (uf f d v) E (wpList P ops Q rest)) : Tr w n f E (wpList P ops Q (⟨some d, .move p, ty, pos, af, none⟩ :: rest)) := aP hdn (fun _ _ h1 _ => run_move (h1.ev hp)) k
theorem Rv (hdn : Nat.blt d n = true) (hp : ev f p = some v) (k : Tr w n (uf f d v) E (wpList P ops Q rest)) : Tr w n f E (wpList P ops Q (⟨some d, .assign p, ty, pos, af, none⟩ :: rest)) := aP hdn (fun _ _ h1 _ => run_assign (h1.ev hp)) k
theorem SB (hdn : Nat.blt d n = true) (hp : ev f p = some v) (k : Tq P w n ops (uf f d v) E X rest) : Tq P w n ops f E X (⟨some d, .move p, ty, pos, af, none⟩ :: rest) := aY hdn (fun _ _ h1 _ => run_move (h1.ev hp)) k
theorem vX (hdn : Nat.blt d n = true) (hp : ev f p = some v) (k : Tq P w n ops (uf f d v) E X rest) : Tq P w n ops f E X (⟨some d, .assign p, ty, pos, af, none⟩ :: rest) := aY hdn (fun _ _ h1 _ => run_assign (h1.ev hp)) k
theorem aj (h : Tr w n f E (wpList P l.toArray (Exit.then (y.wp P Q) Q) l)) : Tr w n f E ((Code.seq (Code.region id l.toArray false) y).wp P Q) := ay (aD h)
end
open Go.RowKit
section
variable {P : Program} {w : Bs} {n : Nat} {ops : Array Oper} {f : Nat → Option Value} {E : Nat → kH} {Q : Exit → Act → World → Prop} {rest : List Oper} {d : Nat} {ty : TypeId} {pos : String} {af : Array Edge} {g : Option (Nat × Bool)}
end
open Go.RowKit
section
variable {P : Program} {w : Bs} {n : Nat} {ops : Array Oper} {f : Nat → Option Value} {E : Nat → kH} {Q : Exit → Act → World → Prop} {rest : List Oper} {d : Nat} {ty : TypeId} {pos : String} {af : Array Edge} {g : Option (Nat × Bool)}
theorem Mw {a : Act} {W : World} {fn : Nat} {x : Operand} {xs : List Operand} {vs caps : List Value} {ts : Array Nat} {dd : Option Nat} (h1 : FR n f a) (hxf : ev f x = some (.func (.func fn) #[] caps.toArray)) (hg : ∀ args W, (callFunc fn args).run P W = .ok (.enter fn args) W) (hx : H5 f xs vs) :
  (execOp a.eval ⟨dd, .call ⟨.value x, xs.toArray, ts⟩, ty, pos, af, g⟩).run P W = .ok (.enter fn (vs ++ caps).toArray) W := by
 have := zf hx a h1
 simp [execOp, resolve, invoke, Deferred.ofValue, h1.ev hxf, hg, this]
theorem tQ {U : Type} {fn : Nat} {x : Operand} {xs : List Operand} {vs caps : List Value} {ts : Array Nat} (ks : List Nat) (ins : List kH) (V : U → Value) (Φ : U → Prop) (outs : U → List kH) (hn : decide ks.Nodup = true) (hp : Pk E ks ins) (hl : ∀ u, (outs u).length = ks.length)
  (hw : Wn ops f ⟨some d, .call ⟨.value x, xs.toArray, ts⟩, ty, pos, af, g⟩) (hdn : Nat.blt d n = true) (hxf : ev f x = some (.func (.func fn) #[] caps.toArray))
  (hg : ∀ args W, (callFunc fn args).run P W = .ok (.enter fn args) W) (hx : H5 f xs vs)
  (hc : ∀ W (hW : HF w W E) (_ : Pk E ks ins), HF (hW.sub (pQ ins)) W (kw ins) → Calls P fn (vs ++ caps).toArray W fun e W' => ∃ u, e = .returned (V u) ∧ Φ u ∧ HF (hW.sub (pQ ins)) W' (kw (outs u)))
  (K : ∀ u, Φ u → Tr w n (uf f d (V u)) (Nh E ks (outs u)) (wpList P ops Q rest)) : Tr w n f E (wpList P ops Q (⟨some d, .call ⟨.value x, xs.toArray, ts⟩, ty, pos, af, g⟩ :: rest)) :=
 Tr.op hw fun a W h1 h2 => by
  unfold Oper.wp
  rw [Mw h1 hxf hg hx]
  have hn' := of_decide_eq_true hn
  refine (hc W h2 hp (h2.NN hn' hp)).mono fun e W' ⟨u, he, hu, hb⟩ => ?_
  subst he
  exact K u hu _ _ (h1.put (Nat.le_of_ble_eq_true hdn) _) (HF.Nw (h2.zm hp (.refl _)) (fun _ h => h) (h2.back hn' hp (.refl _) hb (hl u)))
end
open Go.RowKit Go.Proofs Go.Shelf
theorem Dc (W : World) (o : Obj) : (W.drew.alloc o).heap = W.heap.push o := rfl
def Si {α : Type} (n : Int) : Option (List α) := if 0 ≤ n ∧ n ≤ 1099511627776 then some [] else none
section
variable {P : Program} {ρ : Ren} {w : Bs} {T : Nat}
theorem Kj {α : Type} {t : Fl α} {r : List α} {n : Int} {i : Nat} (L : Lays8.n4 P ρ) (hT : ρ.t 25 = T) (hs : nG P T = some t.sz) (hz : (zeroOf P T).map List.length = some t.sz) (hsz : 0 < t.sz) (hby : (P.info? T).map (·.bytes) = some i) (hi : Nat.ble i 128 = true)
  (H : Si n = some r) (hE : HF w w.W (kw [emp])) :
  Calls P (ρ.f 4) [.slice none 0 0, .int .i64 n].toArray w.W fun e W' => ∃ u : (Option Addr × Nat), e = .returned (.slice u.1 r.length u.2) ∧ (fC u.1 r.length u.2) ∧ HF w W' (kw [ow u.1 u.2 T t r]) := by
 subst hT
 unfold Si at H
 split at H
 ·rename_i hn
  obtain ⟨n, rfl⟩ := Int.eq_ofNat_of_zero_le hn.1
  have hr := (Option.some.inj H).symm
  subst hr
  have hn2 : n ≤ 1099511627776 := by have := hn.2; omega
  by_cases h0 : n = 0
  ·subst h0
   refine (Any8.slices_Grow_room L none 0 0 0 w.W (Nat.le_refl _) (by decide) (by decide) (Nat.le_refl _)).mono fun e W' ⟨g1, g2⟩ => ⟨(none, 0), g1, iM, ?_⟩
   subst g2
   refine (hE.mod 0 (ow none 0 (ρ.t 25) t []) rfl rfl rfl (Nat.le_refl _) (Nat.le_refl _) (fun _ _ _ => rfl) (pW _ _ _ _ _) ⟨[], .nil, by simp, .inl ⟨rfl, rfl⟩⟩ (fun b hb => by cases hb)).weaken (fun k => ?_)
   cases k with
   | zero => exact .inl rfl
   | succ k => exact .inr rfl
  ·cases hin : P.info? (ρ.t 25) with
   | none => rw [hin] at hby; cases hby
   | some inf =>
    rw [hin] at hby; simp at hby; subst hby
    unfold zeroOf at hz
    unfold nG at hs
    rw [hin] at hz hs
    simp only [Option.bind_some, Option.map_some, Option.some.injEq] at hz hs
    cases hze : inf.zero with
    | none => rw [hze] at hz; cases hz
    | some z =>
     rw [hze] at hz
     simp at hz
     have hbytes : (0 + n) * inf.bytes ≤ 140737488355328 := Nat.le_trans (Nat.mul_le_mul (show 0 + n ≤ 1099511627776 by omega) (Nat.le_of_ble_eq_true hi)) (by decide)
     refine (Any8.slices_Grow_grow L inf z hin hze (by omega) none 0 0 n [] w.W (Nat.le_refl _) (by omega) hbytes (by omega) (by simp) (fun _ => rfl) (fun a h => by cases h)).mono fun e W' ⟨g1, g2⟩ => ?_
     have hcap := grownCap_le_maxLen w.W (0 + n) 0 (ρ.t 25) (by unfold maxLen; omega)
     have hge := grownCap_ge w.W (0 + n) 0 (ρ.t 25)
     generalize grownCap w.W (0 + n) 0 (ρ.t 25) = G at g1 g2 hcap hge
     refine ⟨(some ⟨w.W.heap.size, 0, none⟩, G), g1, ⟨Nat.zero_le _, hcap, fun _ => rfl⟩, ?_⟩
     subst g2
     refine (hE.mod (W' := w.W.drew.alloc (.cells (([] : List Value).toArray ++ Builtin.zeroCells z.cells (0 + n - 0) ++ Builtin.zeroCells z.cells (G - (0 + n))) (ρ.t 25))) 0 (ow (some ⟨w.W.heap.size, 0, none⟩) G (ρ.t 25) t []) rfl rfl rfl (by rw [Dc]; simp) (Nat.le_succ _) (fun b hb _ => ?_) (pW _ _ _ _ _) ?_ (fun b hb => ?_)).weaken (fun k => ?_)
     ·rw [Dc]; simp [Array.getElem?_push, Nat.ne_of_lt hb]
     ·refine ⟨[], .nil, by simp, .inr ⟨w.W.heap.size, G, _, rfl, Nat.zero_le _, by rw [Dc, Array.getElem?_push_size], Nat.zero_le _, hcap, ?_, by simp⟩⟩
      simp only [Array.size_append, List.size_toArray, List.length_nil, size_zeroCells, hz]
      rw [Nat.zero_add, ← Nat.add_mul]
      congr 1
      omega
     ·have hb : (Value.slice (some ⟨w.W.heap.size, 0, none⟩) ([] : List α).length G).ownBlock = some b := hb
      simp [Value.ownBlock] at hb
      subst hb
      exact ⟨.inr (Nat.le_refl _), by rw [Dc]; simp⟩
     ·cases k with
      | zero => exact .inl rfl
      | succ k => exact .inr rfl
 ·cases H
end
open Go.RowKit Go.Proofs
open Go.ChangeMaps Go.MapKept
open Go.Maps (Keyed int_keyed keyOf_int_mk)
def Rz (k : Int) : Bool := decide (-9223372036854775808 ≤ k) && decide (k ≤ 9223372036854775807)
section
variable {P : Program} {w : Bs} {n : Nat} {f : Nat → Option Value} {E : Nat → kH} {X : Act → World → Prop} {Q : Exit → Act → World → Prop} {ops : Array Oper} {rest : List Oper}
variable {d ty T MT KT VT : Nat} {pos : String} {af : Array Edge} {g : Option (Nat × Bool)} {p q x : Operand} {b : Nat}
def TA (W : World) (b : Nat) (kv : List (Value × Value)) : Prop := ∃ es clock, W.heap[b]? = some (.map es clock) ∧ es.toList.map (fun x => (x.key, x.val)) = kv
theorem HF.split {W : World} (h : HF w W E) {κ κ' : Nat} {e1 e2 : kH} (hne : κ' ≠ κ) (l1 : e1.loc) (l2 : e2.loc) (p1 : e1.φ w.O W) (p2 : e2.φ w.O W) (s1 : ∀ b, e1.S b → (E κ).S b) (s2 : ∀ b, e2.S b → (E κ).S b) (hd : ∀ b, e1.S b → ¬ e2.S b) :
  HF w W (up (up E κ e1) κ' e2) where
 os := h.os
 tape := h.tape
 output := h.output
 size := h.size
 drawn := h.drawn
 keep := h.keep
 phi j := by
  rcases eO (up E κ e1) κ' e2 j with ⟨_, h2⟩ | ⟨_, h2⟩ <;> rw [h2]
  ·exact p2
  ·rcases eO E κ e1 j with ⟨_, h2⟩ | ⟨_, h2⟩ <;> rw [h2]
   ·exact p1
   ·exact h.phi j
 loc j := by
  rcases eO (up E κ e1) κ' e2 j with ⟨_, h2⟩ | ⟨_, h2⟩ <;> rw [h2]
  ·exact l2
  ·rcases eO E κ e1 j with ⟨_, h2⟩ | ⟨_, h2⟩ <;> rw [h2]
   ·exact l1
   ·exact h.loc j
 bd j x := by
  rcases eO (up E κ e1) κ' e2 j with ⟨_, h2⟩ | ⟨_, h2⟩ <;> rw [h2]
  ·exact fun hx => h.bd κ x (s2 x hx)
  ·rcases eO E κ e1 j with ⟨_, h2⟩ | ⟨_, h2⟩ <;> rw [h2]
   ·exact fun hx => h.bd κ x (s1 x hx)
   ·exact h.bd j x
 disj j j' x hjj := by
  rcases eO (up E κ e1) κ' e2 j with ⟨a1, a2⟩ | ⟨a1, a2⟩ <;> rw [a2]
  ·rcases eO (up E κ e1) κ' e2 j' with ⟨b1, b2⟩ | ⟨b1, b2⟩ <;> rw [b2]
   ·exact absurd (a1.trans b1.symm) hjj
   ·rcases eO E κ e1 j' with ⟨c1, c2⟩ | ⟨c1, c2⟩ <;> rw [c2]
    ·exact fun hx hy => hd x hy hx
    ·exact fun hx => h.disj κ j' x (fun e => c1 e.symm) (s2 x hx)
  ·rcases eO (up E κ e1) κ' e2 j' with ⟨b1, b2⟩ | ⟨b1, b2⟩ <;> rw [b2]
   ·rcases eO E κ e1 j with ⟨c1, c2⟩ | ⟨c1, c2⟩ <;> rw [c2]
    ·exact fun hx => hd x hx
    ·exact fun hx hy => h.disj j κ x c1 hx (s2 x hy)
   ·rcases eO E κ e1 j with ⟨c1, c2⟩ | ⟨c1, c2⟩ <;> rw [c2]
    ·rcases eO E κ e1 j' with ⟨d1, d2⟩ | ⟨d1, d2⟩ <;> rw [d2]
     ·exact absurd (c1.trans d1.symm) hjj
     ·exact fun hx => h.disj κ j' x (fun e => d1 e.symm) (s1 x hx)
    ·rcases eO E κ e1 j' with ⟨d1, d2⟩ | ⟨d1, d2⟩ <;> rw [d2]
     ·exact fun hx hy => h.disj j κ x c1 hx (s1 x hy)
     ·exact h.disj j j' x hjj
theorem HF.merge {W W' : World} (h : HF w W E) {κ κ' : Nat} (e : kH) (hne : κ' ≠ κ) (hos : W'.os = W.os) (htp : W'.tape = W.tape) (hou : W'.output = W.output) (hsz : W.heap.size ≤ W'.heap.size) (hdr : W.drawn ≤ W'.drawn)
  (hbl : ∀ x, x < W.heap.size → ¬ (E κ).S x → W'.heap[x]? = W.heap[x]?) (he : e.loc) (hp : e.φ w.O W') (hS : ∀ x, e.S x → (E κ).S x ∨ (E κ').S x) : HF w W' (up (up E κ' emp) κ e) where
 os := hos.trans h.os
 tape := htp.trans h.tape
 output := hou.trans h.output
 size := Nat.le_trans h.size hsz
 drawn := Nat.le_trans h.drawn hdr
 keep x hx := (hbl x (h.GL hx) (fun hs => (h.bd κ x hs).1 hx)).trans (h.keep x hx)
 phi j := by
  rcases eO (up E κ' emp) κ e j with ⟨_, h2⟩ | ⟨h1, h2⟩ <;> rw [h2]
  ·exact hp
  ·rcases eO E κ' emp j with ⟨_, h3⟩ | ⟨h4, h3⟩ <;> rw [h3]
   ·trivial
   ·refine (h.loc j).at_ _ W W' (fun x hx => ?_) (h.phi j)
    rcases hx with hx | hx
    ·exact hbl x (h.GL (.inl hx)) (fun hs => (h.bd κ x hs).1 (.inl hx))
    ·exact hbl x (h.bd j x hx).2 (fun hs => h.disj j κ x h1 hx hs)
 loc j := by
  rcases eO (up E κ' emp) κ e j with ⟨_, h2⟩ | ⟨_, h2⟩ <;> rw [h2]
  ·exact he
  ·rcases eO E κ' emp j with ⟨_, h2⟩ | ⟨_, h2⟩ <;> rw [h2]
   ·exact vv
   ·exact h.loc j
 bd j x := by
  rcases eO (up E κ' emp) κ e j with ⟨_, h2⟩ | ⟨_, h2⟩ <;> rw [h2]
  ·intro hx
   rcases hS x hx with hx | hx
   ·exact ⟨(h.bd κ x hx).1, Nat.lt_of_lt_of_le (h.bd κ x hx).2 hsz⟩
   ·exact ⟨(h.bd κ' x hx).1, Nat.lt_of_lt_of_le (h.bd κ' x hx).2 hsz⟩
  ·rcases eO E κ' emp j with ⟨_, h2⟩ | ⟨_, h2⟩ <;> rw [h2]
   ·exact fun hx => hx.elim
   ·exact fun hx => ⟨(h.bd j x hx).1, Nat.lt_of_lt_of_le (h.bd j x hx).2 hsz⟩
 disj j j' x hjj := by
  rcases eO (up E κ' emp) κ e j with ⟨a1, a2⟩ | ⟨a1, a2⟩ <;> rw [a2]
  ·rcases eO (up E κ' emp) κ e j' with ⟨b1, b2⟩ | ⟨b1, b2⟩ <;> rw [b2]
   ·exact absurd (a1.trans b1.symm) hjj
   ·rcases eO E κ' emp j' with ⟨c1, c2⟩ | ⟨c1, c2⟩ <;> rw [c2]
    ·exact fun _ hy => hy
    ·intro hx
     rcases hS x hx with hx | hx
     ·exact h.disj κ j' x (fun e => b1 e.symm) hx
     ·exact h.disj κ' j' x (fun e => c1 e.symm) hx
  ·rcases eO (up E κ' emp) κ e j' with ⟨b1, b2⟩ | ⟨b1, b2⟩ <;> rw [b2]
   ·rcases eO E κ' emp j with ⟨c1, c2⟩ | ⟨c1, c2⟩ <;> rw [c2]
    ·exact fun hx => hx.elim
    ·intro hx hy
     rcases hS x hy with hy | hy
     ·exact h.disj j κ x a1 hx hy
     ·exact h.disj j κ' x c1 hx hy
   ·rcases eO E κ' emp j with ⟨c1, c2⟩ | ⟨c1, c2⟩ <;> rw [c2]
    ·exact fun hx => hx.elim
    ·rcases eO E κ' emp j' with ⟨d1, d2⟩ | ⟨d1, d2⟩ <;> rw [d2]
     ·exact fun _ hy => hy
     ·exact h.disj j j' x hjj
theorem NS {k : Int} (h : Rz k = true) : (Lit.int .i64 k).wf = true := by
 unfold Rz at h
 simp only [Bool.and_eq_true, decide_eq_true_eq] at h
 have e1 : IntKind.min .i64 = -9223372036854775808 := by decide
 have e2 : IntKind.max .i64 = 9223372036854775807 := by decide
 simp [Lit.wf, e1, e2, h]
end
open Go.RowKit Go.Proofs
open Go.ChangeMaps Go.MapKept
open Go.Maps (Keyed int_keyed keyOf_int_mk)
section words
def MI {α : Type} (z : α) (m : Int) : Option (List α) := if 0 ≤ m ∧ m ≤ 4294967296 then some (List.replicate m.toNat z) else none
theorem F8 {β : Type} (z : β) : ∀ k : Nat, (List.replicate k [z]).flatten = List.replicate k z
 | 0 => rfl
 | k + 1 => by rw [List.replicate_succ, List.flatten_cons, F8 z k]; rfl
end words
section
variable {P : Program} {w : Bs} {n : Nat} {f : Nat → Option Value} {E : Nat → kH} {X : Act → World → Prop} {Q : Exit → Act → World → Prop} {ops : Array Oper} {rest : List Oper}
variable {d ty T MT KT VT : Nat} {pos : String} {af : Array Edge} {g : Option (Nat × Bool)} {p q x : Operand} {α : Type} {t : Fl α} {b : Nat}
theorem yj (κ : Nat) (t : Fl α) (z : α) {e i : Nat} {m : Int} {z0 : Value} {l : List α} (hw : Wn ops f ⟨some d, .makeSlice T p q, ty, pos, af, g⟩) (hdn : Nat.blt d n = true) (hp : ev f p = some (.int .i64 m)) (hq : ev f q = some (.int .i64 m))
  (hu : P.underlying T = some (.slice e)) (hs : nG P e = some t.sz) (h1 : t.sz = 1) (hz : zeroOf P e = some [z0]) (hby : (P.info? e).map (·.bytes) = some i) (hi : Nat.ble i 32768 = true) (hr : ∃ u, (∀ S W, t.ok S W u z) ∧ t.enc u z = [z0]) (hm : MI z m = some l)
  (K : ∀ b, fC (some ⟨b, 0, none⟩) l.length l.length → Tr w n (uf f d (.slice (some ⟨b, 0, none⟩) l.length l.length)) (up E κ (ow (some ⟨b, 0, none⟩) l.length e t l)) (wpList P ops Q rest)) :
  Tr w n f E (wpList P ops Q (⟨some d, .makeSlice T p q, ty, pos, af, g⟩ :: rest)) := by
 unfold MI at hm
 split at hm
 ·rename_i hm0
  have hm := (Option.some.inj hm).symm
  obtain ⟨k, rfl⟩ : ∃ k : Nat, m = (k : Int) := ⟨m.toNat, by omega⟩
  have hl : l = List.replicate k z := by rw [hm, Int.toNat_natCast]
  have hlen : l.length = k := by rw [hl, List.length_replicate]
  have hk : k ≤ 4294967296 := by omega
  have hmax : k ≤ maxLen := by unfold maxLen; omega
  obtain ⟨u, hu1, hu2⟩ := hr
  have hform : ∀ b : Nat, fC (some ⟨b, 0, none⟩) l.length l.length := fun b => ⟨Nat.le_refl _, by rw [hlen]; exact hmax, fun _ => rfl⟩
  refine zP (V := fun W => .slice (some ⟨W.heap.size, 0, none⟩) l.length l.length) (W1 := fun W => W.alloc (.cells (madeCells #[z0] k) e)) (E1 := fun W => up E κ (ow (some ⟨W.heap.size, 0, none⟩) l.length e t l)) hw hdn (fun a W k1 k2 => ?_) (fun W _ => K W.heap.size (hform _))
  cases hin : P.info? e with
  | none => rw [hin] at hby; cases hby
  | some inf =>
   rw [hin] at hby; simp at hby; subst hby
   unfold zeroOf at hz
   unfold nG at hs
   rw [hin] at hz hs
   simp only [Option.bind_some, Option.map_some, Option.some.injEq] at hz hs
   cases hze : inf.zero with
   | none => rw [hze] at hz; cases hz
   | some zv =>
    rw [hze] at hz
    simp only [Option.map_some, Option.some.injEq] at hz
    have hzc : zv.cells = #[z0] := by rw [← Array.toArray_toList (xs := zv.cells), hz]
    have hby : inf.bytes * k ≤ 281474976710656 := Nat.le_trans (Nat.mul_le_mul (Nat.le_of_ble_eq_true hi) hk) (by decide)
    have hrun := run_make (P := P) W T e inf zv hu hin hze .i64 .i64 (k : Int) (k : Int) (by omega) (Int.le_refl _) (by rw [← Int.natCast_mul]; omega) (by omega)
    rw [hs, h1, Int.toNat_natCast, Nat.mul_one, hzc] at hrun
    refine ⟨?_, ?_⟩
    ·simp only [execOp, k1.ev hp, k1.ev hq, hlen]
     simp [hrun]
    ·refine k2.add κ ((Below.refl _ _).alloc (Nat.le_refl _) _) _ (pW _ _ _ _ _) ⟨List.replicate k [z0], ?_, ?_⟩ (fun b hb => ?_)
     ·rw [hl]
      have : ∀ j : Nat, Al (rp t w.O (W.alloc (.cells (madeCells #[z0] k) e))) (List.replicate j [z0]) (List.replicate j z) := by
       intro j
       induction j with
       | zero => exact .nil
       | succ j ih => exact .cons ⟨u, hu1 _ _, hu2.symm⟩ ih
      exact this k
     ·rw [F8, hlen, h1]
      refine ⟨by rw [List.length_replicate, Nat.mul_one], .inr ⟨W.heap.size, k, madeCells #[z0] k, rfl, Nat.zero_le _, heap_alloc_new W _, Nat.le_refl _, hmax, by rw [size_madeCells, Nat.mul_one], ?_⟩⟩
      rw [toList_madeCells_one, Nat.mul_one, List.take_of_length_le (by rw [List.length_replicate]; exact Nat.le_refl _)]
     ·have hb : some W.heap.size = some b := hb
      simp at hb; subst hb
      exact ⟨Nat.le_refl _, by simp⟩
 ·cases hm
def mi (b : Nat) (m : List (Int × Int)) : kH :=
 ⟨fun x => x = b, fun _ W => TA W b (m.map fun e => (Value.int .i64 e.1, Value.int .i64 e.2)) ∧ (∀ e ∈ m, Rz e.1 = true) ∧ m.Pairwise fun e e' => e.1 ≠ e'.1⟩
end
open Go.RowKit
structure RB (α : Type) where
 Ad : Type
 sz : Nat
 enc : Ad → α → List Value
 okb : (Nat → Prop) → World → Ad → α → Prop
 ua : Ad → Option Addr × Nat
 sub : α → List α
 len : ∀ u x, (enc u x).length = sz
 one : ∀ u x, ∀ v ∈ enc u x, v.oneCell' = true
 loc : ∀ {S S' : Nat → Prop} {W W' : World} {u : Ad} {x : α}, okb S W u x → (∀ b, S b → S' b) → (∀ b, S b → W'.heap[b]? = W.heap[b]?) → okb S' W' u x
namespace RB
def OU {α : Type} (F : RB α) : Nat → (Nat → Prop) → World → F.Ad → α → Prop
 | 0, _, _, _, _ => False
 | k + 1, S, W, u, x => F.okb S W u x ∧ fC (F.ua u).1 (F.sub x).length (F.ua u).2 ∧ ∀ (i : Nat) (y : α), (F.sub x)[i]? = some y → S (nY (F.ua u).1) ∧ ∃ v, OU F k S W v y ∧ aC W (nY (F.ua u).1) (pF (F.ua u).1 + i * F.sz) (F.enc v y)
variable {α : Type} (F : RB α) {S S' : Nat → Prop} {W W' : World} {u : F.Ad} {x : α}
theorem Lf : ∀ (k : Nat) {u : F.Ad} {x : α}, F.OU k S W u x → (∀ b, S b → S' b) → (∀ b, S b → W'.heap[b]? = W.heap[b]?) → F.OU k S' W' u x
 | 0, _, _, h, _, _ => h.elim
 | k + 1, _, _, h, hs, hb => ⟨F.loc h.1 hs hb, h.2.1, fun i y hy => by
   obtain ⟨h1, v, h2, h3⟩ := h.2.2 i y hy
   exact ⟨hs _ h1, v, Lf k h2 hs hb, h3.loc (hb _ h1)⟩⟩
theorem II : ∀ (k : Nat) {u : F.Ad} {x : α}, F.OU k S W u x → F.OU (k + 1) S W u x
 | 0, _, _, h => h.elim
 | k + 1, _, _, h => ⟨h.1, h.2.1, fun i y hy => by
   obtain ⟨h1, v, h2, h3⟩ := h.2.2 i y hy
   exact ⟨h1, v, II k h2, h3⟩⟩
theorem IJ {k k' : Nat} (hk : k ≤ k') {u : F.Ad} {x : α} (h : F.OU k S W u x) : F.OU k' S W u x := by
 induction hk with
 | refl => exact h
 | step _ ih => exact F.II _ ih
def fix : Fl α where
 Ad := F.Ad
 sz := F.sz
 enc := F.enc
 ok S W u x := ∃ k, F.OU k S W u x
 len := F.len
 one := F.one
 loc h hs hb := by obtain ⟨k, h⟩ := h; exact ⟨k, F.Lf k h hs hb⟩
theorem Rh : F.fix.ok S W u x ↔ F.okb S W u x ∧ Sl S W F.fix (F.ua u).1 (F.ua u).2 (F.sub x) := by
 constructor
 ·rintro ⟨k, h⟩
  cases k with
  | zero => exact h.elim
  | succ k =>
   refine ⟨h.1, h.2.1, fun i y hy => ?_⟩
   obtain ⟨h1, v, h2, h3⟩ := h.2.2 i y hy
   exact ⟨h1, v, ⟨k, h2⟩, h3⟩
 ·rintro ⟨h, hf, hc⟩
  have key : ∀ (l : List α) (o : Nat), (∀ (i : Nat) (y : α), l[i]? = some y → S (nY (F.ua u).1) ∧ ∃ v, (∃ k, F.OU k S W v y) ∧ aC W (nY (F.ua u).1) (o + i * F.sz) (F.enc v y)) →
    ∃ k, ∀ (i : Nat) (y : α), l[i]? = some y → S (nY (F.ua u).1) ∧ ∃ v, F.OU k S W v y ∧ aC W (nY (F.ua u).1) (o + i * F.sz) (F.enc v y) := by
   intro l
   induction l with
   | nil => intro o _; exact ⟨0, fun i y h => by simp at h⟩
   | cons z l ih =>
    intro o hl
    obtain ⟨k1, hk1⟩ := ih (o + F.sz) (fun i y hy => by
     have := hl (i + 1) y (by simpa using hy)
     rwa [show o + (i + 1) * F.sz = o + F.sz + i * F.sz by rw [Nat.succ_mul]; omega] at this)
    obtain ⟨h1, v, ⟨k2, h2⟩, h3⟩ := hl 0 z rfl
    refine ⟨max k1 k2, fun i y hy => ?_⟩
    cases i with
    | zero =>
     simp at hy; subst hy
     exact ⟨h1, v, F.IJ (Nat.le_max_right _ _) h2, h3⟩
    | succ i =>
     obtain ⟨g1, v', g2, g3⟩ := hk1 i y (by simpa using hy)
     refine ⟨g1, v', F.IJ (Nat.le_max_left _ _) g2, ?_⟩
     rwa [show o + (i + 1) * F.sz = o + F.sz + i * F.sz by rw [Nat.succ_mul]; omega]
  obtain ⟨k, hk⟩ := key (F.sub x) (pF (F.ua u).1) hc
  exact ⟨k + 1, h, hf, hk⟩
end RB
end Go.Proofs.YtcjeebkoafonpaaGreatDoor
set_option linter.unusedVariables false
namespace Go.Proofs.YtcjeebkoafonpaaGreatDoor
open Go.RowKit Go.Proofs Go.Shelf
def sb (T e b : Nat) (A : Option Addr) (c : Nat) (s : ByteArray) : kH :=
 ⟨fun x => x = b ∨ (Value.slice A s.size c).ownBlock = some x, fun _ W => ∃ p, (p = .pointer none ∨ p = .pointer (some ⟨b, 0, none⟩)) ∧ Lib.BuilderAtF T e 0 b p (Lib.strCells s) W ∧ W.heap[b]? = some (.cells #[p, .slice A s.size c] T (0, 0)) ∧ ∀ x, (Value.slice A s.size c).ownBlock = some x → x < W.heap.size⟩
theorem El {W W' : World} {v : Value} {e n : Nat} {xs : List Value} (h : W.ownsRowF 0 e 1 v n xs) (hb : ∀ g, v.ownBlock = some g → W'.heap[g]? = W.heap[g]?) : W'.ownsRowF 0 e 1 v n xs := by
 refine ⟨h.1, ?_⟩
 rcases h.2 with h2 | ⟨g, cap, cur, fz, hv, h0, hh, r⟩
 ·exact .inl h2
 ·exact .inr ⟨g, cap, cur, fz, hv, h0, (hb g (by rw [hv]; rfl)).trans hh, r⟩
theorem Nv (T e b : Nat) (A : Option Addr) (c : Nat) (s : ByteArray) : (sb T e b A c s).loc := ⟨fun O W W' h hp => by
 obtain ⟨p, h0, ⟨_, v, h1, h2, h3⟩, h4, h5⟩ := hp
 have hv : v = .slice A s.size c := by rw [h4] at h1; simpa using h1.symm
 subst hv
 have hb : W'.heap[b]? = W.heap[b]? := h b (.inr (.inl rfl))
 have hown := El h2 (W' := W') (fun g hg => h g (.inr (.inr hg)))
 refine ⟨p, h0, ⟨Nat.zero_le _, _, hb.trans h4, hown, h3⟩, hb.trans h4, fun x hx => ?_⟩
 rcases hown.2 with ⟨hv, _⟩ | ⟨g, cap, cur, fz, hv, _, hh, _⟩
 ·rw [hv] at hx; simp [Value.ownBlock] at hx
 ·rw [hv] at hx; simp [Value.ownBlock] at hx; subst hx; exact (Array.getElem?_eq_some_iff.1 hh).1,
 fun _ _ _ _ h => h⟩
section
variable {P : Program} {ρ : Ren} {w : Bs} {A : Option Addr} {c b : Nat} {s x : ByteArray}
theorem QR {T e : Nat} : (sb T e b A c s).Any := fun _ _ _ h => h
theorem Oy {n T e ty d : Nat} {f : Nat → Option Value} {E : Nat → kH} {Q : Exit → Act → World → Prop} {ops : Array Oper} {rest : List Oper} {pos : String} {af : Array Edge} {g : Option (Nat × Bool)} (κ : Nat) (hw : Wn ops f ⟨some d, .alloc T, ty, pos, af, g⟩) (hdn : Nat.blt d n = true) (hz : zeroOf P T = some [.pointer none, .slice none 0 0])
  (K : ∀ b, Tr w n (uf f d (.pointer (some ⟨b, 0, none⟩))) (up E κ (sb T e b none 0 ByteArray.empty)) (wpList P ops Q rest)) : Tr w n f E (wpList P ops Q (⟨some d, .alloc T, ty, pos, af, g⟩ :: rest)) :=
 zP hw hdn (fun _ W _ h2 => ⟨BO hz, h2.add κ ((Below.refl _ _).alloc (Nat.le_refl _) _) (sb T e W.heap.size none 0 ByteArray.empty) (Nv _ _ _ _ _ _)
  ⟨.pointer none, .inl rfl, ⟨Nat.zero_le _, _, heap_alloc_new W _, ⟨rfl, .inl ⟨rfl, rfl⟩⟩, by simp [Value.ownBlock]⟩, heap_alloc_new W _, fun x h => by simp [Value.ownBlock] at h⟩ (fun b hb => by
   rcases hb with hb | hb
   ·subst hb; exact ⟨Nat.le_refl _, by simp⟩
   ·simp [Value.ownBlock] at hb)⟩) (fun W _ => K W.heap.size)
def SG (s x : ByteArray) : Option ByteArray := if s.size + x.size ≤ 140737488355328 then some (s ++ x) else none
def SH (s : ByteArray) : Option (ByteArray × ByteArray) := if s.size ≠ 0 then some (s, s) else none
def Tx (s : ByteArray) : Option (Int × ByteArray) := some ((s.size : Int), s)
theorem Gz (s x : ByteArray) : Lib.strCells (s ++ x) = Lib.strCells s ++ Lib.strCells x := by simp [Lib.strCells]
theorem Nu {T e : Nat} {A' : Option Addr} {c' : Nat} {s' : ByteArray} {W' : World} (hE : HF w w.W (kw [sb T e b A c s])) (ho : W'.os = w.W.os) (htp : W'.tape = w.W.tape) (hou : W'.output = w.W.output) (hsz : w.W.heap.size ≤ W'.heap.size) (hd : w.W.drawn ≤ W'.drawn)
  (hother : ∀ k, k < w.W.heap.size → k ≠ b → some k ≠ (Value.slice A s.size c).ownBlock → W'.heap[k]? = w.W.heap[k]?) {p : Value} (h0 : p = .pointer none ∨ p = .pointer (some ⟨b, 0, none⟩))
  (h1 : Lib.BuilderAtF T e 0 b p (Lib.strCells s') W') (h2 : W'.heap[b]? = some (.cells #[p, .slice A' s'.size c'] T (0, 0))) (h3 : ∀ g, (Value.slice A' s'.size c').ownBlock = some g → g < W'.heap.size ∧ ((Value.slice A s.size c).ownBlock = some g ∨ w.W.heap.size ≤ g)) :
  HF w W' (kw [sb T e b A' c' s']) := by
 have hb : b < w.W.heap.size := by
  obtain ⟨p, _, _, h, _⟩ := hE.phi 0
  exact (Array.getElem?_eq_some_iff.1 h).1
 refine (hE.mod (E := kw [sb T e b A c s]) (W' := W') 0 (sb T e b A' c' s') ho htp hou hsz hd (fun k hk hs => hother k hk (fun e => hs (.inl e)) (fun e => hs (.inr e.symm))) (Nv _ _ _ _ _ _) ?_ (fun k hk => ?_)).weaken (fun k => ?_)
 ·exact ⟨p, h0, h1, h2, fun g hg => (h3 g hg).1⟩
 ·rcases hk with hk | hk
  ·subst hk; exact ⟨.inl (.inl rfl), Nat.lt_of_lt_of_le hb hsz⟩
  ·exact ⟨(h3 k hk).2.imp (fun h => .inr h) id, (h3 k hk).1⟩
 ·cases k with
  | zero => exact .inl rfl
  | succ k => exact .inr rfl
theorem KC (w : World) (t u ty e : TypeId) (i : TypeInfo) (ht : P.underlying t = some (.slice e)) (hu : P.underlying u = some .string) (hi : P.info? e = some i) (hz : i.zero = some (.int .u8 0))
  (hsize : i.size = 1) (hby : i.bytes = 1) (v : Value) (n : Nat) (xs : List Value) (hown : w.ownsRowF 0 e 1 v n xs) (s : ByteArray) (h63 : n + s.size ≤ maxLen) (hbytes : n + s.size ≤ 140737488355328) {v' : Value} {w' : World}
  (hr : (Builtin.append_ #[t, u] ty #[v, .string s]).run P w = .ok v' w') : ∀ g, v'.ownBlock = some g → v.ownBlock = some g ∨ w.heap.size ≤ g := by
 intro k hk
 rcases hown.2 with ⟨rfl, rfl⟩ | ⟨g, cap, cur, fz, rfl, hbg, hg, hfz, hnc, hcm, hcs, htake⟩
 ·obtain ⟨v2, w2, h1, h2, h3, h4⟩ := Lib.run_append_own_string (P := P) w w.heap.size t u ty e i ht hu hi hz hsize hby (.slice none 0 0) 0 xs ⟨hown.1, .inl ⟨rfl, rfl⟩⟩ s h63 hbytes (Nat.le_refl _)
  rw [hr] at h1
  simp only [Result.ok.injEq] at h1
  obtain ⟨rfl, rfl⟩ := h1
  rcases h2.2 with ⟨hv, _⟩ | ⟨g, cap, cur, hv, hbg, _⟩
  ·rw [hv] at hk; simp [Value.ownBlock] at hk
  ·rw [hv] at hk; simp [Value.ownBlock] at hk; subst hk; exact .inr hbg
 ·have hxl : xs.length = n := by simpa using hown.1
  by_cases hroom : n + s.size ≤ cap
  ·have hcs' : cur.size = cap := by simpa using hcs
   have h1 := Lib.run_append_room_stringF (P := P) w t u ty e i ht hu hi hsize g n cap cur fz hg (by simpa using hfz) s hroom (by omega)
   rw [hr] at h1
   simp only [Result.ok.injEq] at h1
   obtain ⟨rfl, rfl⟩ := h1
   exact .inl hk
  ·have holds : ∀ j u, xs[j]? = some u → w.cell? ((⟨g, 0, none⟩ : Addr).add j) = some u := hown.cells (g := g) rfl
   have h1 := Lib.run_append_grow_string (P := P) w t u ty e i (.int .u8 0) ht hu hi hz ⟨g, 0, none⟩ n cap xs (by rw [hsize]; simpa using hxl) holds s (by omega) (by omega) (by rw [hby]; exact growslice_fits (by omega) (by omega))
   rw [hr] at h1
   simp only [Result.ok.injEq] at h1
   obtain ⟨rfl, rfl⟩ := h1
   simp [Value.ownBlock] at hk
   exact .inr (by omega)
theorem H6 {ops : Array Oper} {rest : List Oper} {o : Oper} {a : Act} {Q : Exit → Act → World → Prop} (w : World) (hgd : o.guard = none) (sl y : Operand) (t u : TypeId)
  (ho : o.op = .call { callee := .builtin .append, args := #[sl, y], argTypes := #[t, u] })
  (e : TypeId) (i : TypeInfo) (ht : P.underlying t = some (.slice e)) (hu : P.underlying u = some .string) (hi : P.info? e = some i) (hz : i.zero = some (.int .u8 0))
  (hsize : i.size = 1) (hby : i.bytes = 1) (v : Value) (n : Nat) (xs : List Value) (hs : a.eval sl = v) (hown : w.ownsRowF 0 e 1 v n xs) (s : ByteArray) (hx : a.eval y = .string s)
  (h63 : n + s.size ≤ maxLen) (hbytes : n + s.size ≤ 140737488355328)
  (h : ∀ v' w', w'.ownsRowF 0 e 1 v' (n + s.size) (xs ++ Lib.strCells s) → w.grownBy w' v.ownBlock → w.drawn ≤ w'.drawn → (∀ g, v'.ownBlock = some g → v.ownBlock = some g ∨ w.heap.size ≤ g) → wpList P ops Q rest (a.put o.dst v') w') : wpList P ops Q (o :: rest) a w := by
 refine wpList_plain hgd fun K hK => ?_
 obtain ⟨v', w', hr, h2, h3, h4⟩ := Lib.run_append_own_stringF (P := P) w 0 t u o.type e i ht hu hi hz hsize hby v n xs hown s h63 hbytes (Nat.zero_le _)
 have hdr := zI _ _ _ _ hr
 unfold Oper.wp execOp
 simp only [ho, resolve, invoke, builtin, Sem.run_bind, Sem.run_pure, Result.andThen_ok, List.map_toArray, List.map_cons, List.map_nil, hs, hx, hr]
 exact hK _ _ (h v' w' h2 h3 hdr (KC w t u o.type e i ht hu hi hz hsize hby v n xs hown s h63 hbytes hr))
set_option maxHeartbeats 2000000 in
set_option maxRecDepth 100000 in
theorem Nt (L : Lays.n166 P ρ) (X : Builder.Extra P ρ) {r : ByteArray} (H : SG s x = some r) (hE : HF w w.W (kw [sb (ρ.t 72) (ρ.t 5) b A c s])) :
  Calls P (ρ.f 166) [.pointer (some ⟨b, 0, none⟩), .string x].toArray w.W fun e W' => ∃ u : (Option Addr × Nat), e = .returned (.tuple #[.int .i64 x.size, .nilIface]) ∧ (True) ∧ HF w W' (kw [sb (ρ.t 72) (ρ.t 5) b u.1 u.2 r]) := by
 unfold SG at H
 split at H
 case isFalse => cases H
 rename_i hlen
 have hr := Option.some.inj H
 obtain ⟨p, hp, hB, hbk, hlt⟩ := hE.phi 0
 have hB0 := hB
 have hslt : ∀ g, (Value.slice A s.size c).ownBlock = some g → g < w.W.heap.size := hlt
 obtain ⟨_, v, hbk2, hown, hne⟩ := hB
 have hv : v = .slice A s.size c := by rw [hbk] at hbk2; simpa using hbk2.symm
 subst hv
 obtain ⟨i0, hi, hz0, hz1, hz2⟩ := info_parts X.infoByte
 have mixed := L.mixed
 have t72 := L.t72; have a72 := L.a72; have z72 := L.z72; have v72 := L.v72; have u72 := run_underlying L.t72
 have t70 := L.t70; have a70 := L.a70; have z70 := L.z70; have v70 := L.v70; have u70 := run_underlying L.t70
 have t37 := L.t37; have a37 := L.a37; have z37 := L.z37; have v37 := L.v37; have u37 := run_underlying L.t37
 have t3 := L.t3; have a3 := L.a3; have z3 := L.z3; have v3 := L.v3; have u3 := run_underlying L.t3
 have t9 := L.t9; have a9 := L.a9; have z9 := L.z9; have v9 := L.v9; have u9 := run_underlying L.t9
 have t4 := L.t4; have a4 := L.a4; have z4 := L.z4; have v4 := L.v4; have u4 := run_underlying L.t4
 have t164 := L.t164; have a164 := L.a164; have z164 := L.z164; have v164 := L.v164; have u164 := run_underlying L.t164
 have t5 := X.t5; have a5 := X.a5; have z5 := X.z5; have v5 := X.v5; have u5 := run_underlying X.t5
 have e240 : ∀ args w, (callFunc (ρ.f 240) args).run P w = .ok (.enter (ρ.f 240) args) w := enters_of L.f240 (by kernel_rfl) rfl
 have hcc : Calls P (ρ.f 240) #[.pointer (some ⟨b, 0, none⟩)] w.W fun e w1 => e = .returned (.tuple #[]) ∧ w1.os = w.W.os ∧ w1.tape = w.W.tape ∧ w1.output = w.W.output ∧ w1.drawn = w.W.drawn ∧ w1.heap.size = w.W.heap.size ∧ (∀ k, k ≠ b → w1.heap[k]? = w.W.heap[k]?) ∧ w1.heap[b]? = some (.cells #[.pointer (some ⟨b, 0, none⟩), .slice A s.size c] (ρ.t 72) (0, 0)) := by
  rcases hp with rfl | rfl
  ·refine (Any.Builder_copyCheck_fresh { L with } X.toX72 b w.W hB0.cell0 hB0.shape hB0.frozen0).mono ?_
   rintro e w' ⟨rfl, rfl⟩
   refine ⟨rfl, rfl, rfl, rfl, rfl, by simp [World.setCell], fun k hk => Below.heap_setCell _ _ _ _ (fun e => hk (by simp [e])), ?_⟩
   simp [World.setCell, Array.getElem?_modify, hbk]
  ·refine (Any.Builder_copyCheck_used { L with } X.toX72 b w.W hB0.cell0).mono ?_
   rintro e w' ⟨rfl, rfl⟩
   exact ⟨rfl, rfl, rfl, rfl, rfl, rfl, fun _ _ => rfl, hbk⟩
 go_enter L.f166, Body.n166_ntmps ρ
 go_wp2_with (go_at_fn (ρ.f 240); refine hcc.mono ?_)
 rintro e w1 ⟨rfl, f1, f2, f3, f4, f5, f6, hbk1⟩
 have hown1 := El hown (W' := w1) (fun g hg => f6 g (fun e => hne (by rw [hg, e])))
 rw [Lib.strCells_length] at hown1
 have c0 : w1.cell? ⟨b, 0, none⟩ = some (.pointer (some ⟨b, 0, none⟩)) := by rw [Lib.cell_of_heap hbk1]; rfl
 have c1 : w1.cell? ⟨b, 1, none⟩ = some (.slice A s.size c) := by rw [Lib.cell_of_heap hbk1]; rfl
 go_wp2_with (at_builtin; refine H6 w1 rfl _ _ (ρ.t 37) (ρ.t 9) rfl (ρ.t 5) i0 L.t37 L.t9 hi hz0 hz1 hz2 _ _ _ rfl hown1 x rfl ?c3 ?c4 ?_)
 case c3 => unfold maxLen; omega
 case c4 => exact hlen
 intro v' w2 hown' hgrow hdr hblk
 have hb1 : b < w1.heap.size := (Array.getElem?_eq_some_iff.1 hbk1).1
 have hb2 : w2.heap[b]? = some (.cells #[.pointer (some ⟨b, 0, none⟩), .slice A s.size c] (ρ.t 72) (0, 0)) := by
  rw [hgrow.block b hb1 (fun e => hne e.symm)]; exact hbk1
 have d0 : w2.cell? ⟨b, 0, none⟩ = some (.pointer (some ⟨b, 0, none⟩)) := by rw [Lib.cell_of_heap hb2]; rfl
 have d1 : w2.cell? ⟨b, 1, none⟩ = some (.slice A s.size c) := by rw [Lib.cell_of_heap hb2]; rfl
 have g1 : w2.frozen? ⟨b, 1, none⟩ = false := Lib.frozen_of_heap hb2 1
 have hsz : r.size = s.size + x.size := by rw [← hr]; simp
 rw [← hsz, ← Gz, hr] at hown'
 clear hsz
 obtain ⟨ao, cap, rfl⟩ : ∃ ao cap, v' = .slice ao r.size cap := by
  rcases hown'.2 with ⟨hv, h0⟩ | ⟨g, cap, cur, fz, hv, _⟩
  ·exact ⟨none, 0, by rw [hv, h0]⟩
  ·exact ⟨_, _, hv⟩
 have hown2 : w2.ownsRowF 0 (ρ.t 5) 1 (.slice ao r.size cap) (Lib.strCells r).length (Lib.strCells r) := by
  rw [Lib.strCells_length]; exact hown'
 go_wp2
 go_ret2
 refine ⟨(ao, cap), rfl, trivial, Nu hE (p := .pointer (some ⟨b, 0, none⟩)) ?_ ?_ ?_ ?_ ?_ ?_ (.inr rfl) (Lib.BuilderAtF.put (T := (ρ.t 72)) (e := (ρ.t 5)) (Nat.zero_le _) hb2 hown2 X.neB5) ?_ ?_⟩
 ·exact hgrow.os.trans f1
 ·exact hgrow.tape.trans f2
 ·exact hgrow.output.trans f3
 ·simp [World.setCell]; have := hgrow.size; omega
 ·show w.W.drawn ≤ w2.drawn; omega
 ·intro k hk hkb hkg
  rw [Below.heap_setCell _ _ _ _ (fun e => hkb (by simp [e])), hgrow.block k (by omega) hkg]; exact f6 k hkb
 ·simp [World.setCell, Array.getElem?_modify, hb2]
 ·intro g hg
  rcases hown'.2 with ⟨hv, _⟩ | ⟨g', cap', cur, fz, hv, _, hh, _⟩
  ·rw [hv] at hg; simp [Value.ownBlock] at hg
  ·have hg2 := hg
   rw [hv] at hg; simp [Value.ownBlock] at hg; subst hg
   exact ⟨by simp [World.setCell]; exact (Array.getElem?_eq_some_iff.1 hh).1, (hblk _ hg2).imp id (fun h => by omega)⟩
set_option maxHeartbeats 1000000 in
set_option maxRecDepth 100000 in
theorem QQ (L : Lays.n170 P ρ) {e : Nat} {r : Int × ByteArray} (H : Tx s = some r) (hE : HF w w.W (kw [sb (ρ.t 72) e b A c s])) :
  Calls P (ρ.f 170) [.pointer (some ⟨b, 0, none⟩)].toArray w.W fun e' W' => ∃ u : (Option Addr × Nat), e' = .returned (.int .i64 r.1) ∧ (True) ∧ HF w W' (kw [sb (ρ.t 72) e b u.1 u.2 r.2]) := by
 have hr := Option.some.inj H
 subst hr
 obtain ⟨p, hp, hB, hbk, hlt⟩ := hE.phi 0
 have c1 : w.W.cell? ⟨b, 1, none⟩ = some (.slice A s.size c) := by rw [Lib.cell_of_heap hbk]; rfl
 have mixed := L.mixed
 have t72 := L.t72; have a72 := L.a72; have z72 := L.z72; have v72 := L.v72; have u72 := run_underlying L.t72
 have t70 := L.t70; have a70 := L.a70; have z70 := L.z70; have v70 := L.v70; have u70 := run_underlying L.t70
 have t37 := L.t37; have a37 := L.a37; have z37 := L.z37; have v37 := L.v37; have u37 := run_underlying L.t37
 have t3 := L.t3; have a3 := L.a3; have z3 := L.z3; have v3 := L.v3; have u3 := run_underlying L.t3
 go_enter L.f170, Body.n170_ntmps ρ
 go_wp2
 go_ret
 first | exact ⟨(A, c), rfl, trivial, hE⟩ | exact ⟨rfl, A, c, hE⟩ | exact ⟨rfl, A, c, trivial, hE⟩
set_option maxHeartbeats 1000000 in
set_option maxRecDepth 100000 in
theorem Mv (L : Lays.n169 P ρ) (X : Builder.Extra P ρ) {r : ByteArray × ByteArray} (H : SH s = some r) (hE : HF w w.W (kw [sb (ρ.t 72) (ρ.t 5) b A c s])) :
  Calls P (ρ.f 169) [.pointer (some ⟨b, 0, none⟩)].toArray w.W fun e W' => ∃ u : (Option Addr × Nat), e = .returned (.string r.1) ∧ (True) ∧ HF w W' (kw [sb (ρ.t 72) (ρ.t 5) b u.1 u.2 r.2]) := by
 unfold SH at H
 split at H
 case isFalse => cases H
 rename_i h0
 have hr := Option.some.inj H
 subst hr
 obtain ⟨p, hp, hB, hbk, hlt⟩ := hE.phi 0
 have hA := hB
 obtain ⟨_, v, hbk2, hown, hne⟩ := hB
 have hv : v = .slice A s.size c := by rw [hbk] at hbk2; simpa using hbk2.symm
 subst hv
 rw [Lib.strCells_length] at hown
 obtain ⟨g, cap, cur, fz, hv, hbg, hg, hfz, hnc, hcm, hcs, htake⟩ : ∃ g cap cur fz, Value.slice A s.size c = .slice (some ⟨g, 0, none⟩) s.size cap ∧ 0 ≤ g ∧ w.W.heap[g]? = some (.cells cur (ρ.t 5) fz) ∧ fz.2 ≤ s.size * 1 ∧ s.size ≤ cap ∧ cap ≤ maxLen ∧ cur.size = cap * 1 ∧ cur.toList.take (s.size * 1) = Lib.strCells s := by
  rcases hown.2 with ⟨_, hz⟩ | ⟨g, cap, cur, fz, hv, r⟩
  ·exact absurd hz h0
  ·exact ⟨g, cap, cur, fz, hv, r⟩
 simp at hv
 obtain ⟨rfl, rfl⟩ := hv
 have hl0 : s.data.toList ≠ [] := by
  intro e
  have : s.data.toList.length = 0 := by rw [e]; rfl
  exact h0 (by simpa using this)
 have hls : s.data.toList.length = s.size := by simp
 have c1 : w.W.drew.cell? ⟨b, 1, none⟩ = some (.slice (some ⟨g, 0, none⟩) s.size c) := by
  have : w.W.drew.heap[b]? = some (.cells #[p, .slice (some ⟨g, 0, none⟩) s.size c] (ρ.t 72) (0, 0)) := hbk
  rw [Lib.cell_of_heap this]; rfl
 have hSD : (Builtin.unsafeSliceData_ #[(ρ.t 37)] (ρ.t 127) #[.slice (some ⟨g, 0, none⟩) s.size c]).run P w.W.drew = .ok (.pointer (some ⟨g, 0, none⟩)) w.W.drew :=
  Lib.run_unsafeSliceData_row _ _ _ _ _ _ (by omega)
 have hUS : (Builtin.unsafeString_ #[(ρ.t 127), (ρ.t 3)] (ρ.t 9) #[.pointer (some ⟨g, 0, none⟩), .int .i64 s.size]).run P w.W.drew = .ok (.string s) (w.W.drew.freeze ⟨g, 0, none⟩ s.size) := by
  have := Lib.run_unsafeString_row (P := P) w.W.drew (ρ.t 127) (ρ.t 3) (ρ.t 9) (ρ.t 5) L.t127 X.cellsByte g cur.size (by have hg' : w.W.drew.heap[g]? = some (.cells cur (ρ.t 5) fz) := hg; simp [World.shape?, hg']) s.data.toList hl0 (by omega) (by unfold maxLen at hcm; omega) (by
   intro j x hx
   exact hown.cells (g := g) rfl j (.int .u8 x.toNat) (by simp [Lib.strCells, hx]))
  rw [hls] at this
  simpa using this
 have mixed := L.mixed
 have t72 := L.t72; have a72 := L.a72; have z72 := L.z72; have v72 := L.v72; have u72 := run_underlying L.t72
 have t70 := L.t70; have a70 := L.a70; have z70 := L.z70; have v70 := L.v70; have u70 := run_underlying L.t70
 have t37 := L.t37; have a37 := L.a37; have z37 := L.z37; have v37 := L.v37; have u37 := run_underlying L.t37
 have t127 := L.t127; have a127 := L.a127; have z127 := L.z127; have v127 := L.v127; have u127 := run_underlying L.t127
 have t3 := L.t3; have a3 := L.a3; have z3 := L.z3; have v3 := L.v3; have u3 := run_underlying L.t3
 have t9 := L.t9; have a9 := L.a9; have z9 := L.z9; have v9 := L.v9; have u9 := run_underlying L.t9
 have t5 := X.t5; have a5 := X.a5; have z5 := X.z5; have v5 := X.v5; have u5 := run_underlying X.t5
 have hgb : g ≠ b := fun e => hne (by simp [Value.ownBlock, e])
 have hF : Lib.BuilderAtF (ρ.t 72) (ρ.t 5) 0 b p (Lib.strCells s) (w.W.drew.freeze ⟨g, 0, none⟩ s.size) := by
  have hA2 : Lib.BuilderAtF (ρ.t 72) (ρ.t 5) 0 b p (Lib.strCells s) w.W.drew := ⟨Nat.zero_le _, _, hbk, by rw [Lib.strCells_length]; exact hown, hne⟩
  have := hA2.froze (g := g) (cap := c) (by rw [Lib.strCells_length]; exact c1)
  rwa [Lib.strCells_length] at this
 have hfr : ∀ k, k ≠ g → (w.W.drew.freeze ⟨g, 0, none⟩ s.size).heap[k]? = w.W.heap[k]? := by
  intro k hk
  unfold World.freeze
  rw [if_neg h0]
  simp only [Array.getElem?_modify]
  rw [if_neg (fun e => hk e.symm)]
  rfl
 have fin : HF w (w.W.drew.freeze ⟨g, 0, none⟩ s.size) (kw [sb (ρ.t 72) (ρ.t 5) b (some ⟨g, 0, none⟩) c s]) := by
  have hfs : (w.W.drew.freeze ⟨g, 0, none⟩ s.size).heap.size = w.W.heap.size := by
   unfold World.freeze
   rw [if_neg h0]
   simp only [Array.size_modify]; rfl
  have hfd : (w.W.drew.freeze ⟨g, 0, none⟩ s.size).os = w.W.os ∧ (w.W.drew.freeze ⟨g, 0, none⟩ s.size).tape = w.W.tape ∧ (w.W.drew.freeze ⟨g, 0, none⟩ s.size).output = w.W.output ∧ w.W.drawn ≤ (w.W.drew.freeze ⟨g, 0, none⟩ s.size).drawn := by
   unfold World.freeze
   rw [if_neg h0]
   exact ⟨rfl, rfl, rfl, Nat.le_succ _⟩
  refine Nu hE (p := p) hfd.1 hfd.2.1 hfd.2.2.1 (Nat.le_of_eq hfs.symm) hfd.2.2.2 (fun k _ hkb hkg => hfr k (fun e => hkg (by simp [Value.ownBlock, e]))) hp hF ((hfr b hgb.symm).trans hbk) (fun k hk => ?_)
  simp [Value.ownBlock] at hk
  subst hk
  exact ⟨by rw [hfs]; exact (Array.getElem?_eq_some_iff.1 hg).1, .inl (by simp [Value.ownBlock])⟩
 go_enter L.f169, Body.n169_ntmps ρ
 go_wp2
 go_region_o
 all_goals (go_wp2; go_ret; first | exact ⟨(some ⟨g, 0, none⟩, c), rfl, trivial, fin⟩ | exact ⟨rfl, some ⟨g, 0, none⟩, c, fin⟩ | exact ⟨rfl, some ⟨g, 0, none⟩, c, trivial, fin⟩)
end
open Go.RowKit Go.Proofs Go.Shelf
section
variable {P : Program} {ρ : Ren} {w : Bs}
def Eu (n : Int) : Option ByteArray := if 0 ≤ n ∧ n < 100 then some ⟨(Lib.decDigits n.toNat).toArray⟩ else none
theorem Ke (L : Lays.n171 P ρ) {n : Int} {r : ByteArray} (H : Eu n = some r) (hE : HF w w.W E0) :
  Calls P (ρ.f 171) [.int .i64 n].toArray w.W fun e W' => e = .returned (.string r) ∧ HF w W' E0 := by
 unfold Eu at H
 split at H
 case isFalse => cases H
 rename_i hn
 have hr := Option.some.inj H
 subst hr
 have h := Any.strconv_Itoa_small L n.toNat (by omega) w.W
 rw [Int.toNat_of_nonneg hn.1] at h
 exact h.mono fun e W' ⟨h1, h2⟩ => ⟨h1, by rw [h2]; exact hE⟩
end
open Go.RowKit Go.Proofs Go.Shelf
open Go.ChangeMaps Go.MapKept
open Go.Maps (Keyed string_keyed)
section words
def uO (x : Int) : Option Int := if 0 ≤ x ∧ x ≤ 9223372036854775807 then some x else none
variable {κ : Type} [DecidableEq κ]
end words
structure OP (P : Program) (KT : Nat) {κ : Type} (enc : κ → Value) (ok : κ → Bool) : Prop where
 kd : Keyed P KT
 key : ∀ k, ok k = true → ∃ l, keyOf P KT (enc k) = some l
 inj : ∀ a b, enc a = enc b → a = b
section
variable {P : Program} {w : Bs} {n : Nat} {f : Nat → Option Value} {E : Nat → kH} {X : Act → World → Prop} {Q : Exit → Act → World → Prop} {ops : Array Oper} {rest : List Oper}
variable {d ty T MT KT VT : Nat} {pos : String} {af : Array Edge} {g : Option (Nat × Bool)} {p q x : Operand} {b : Nat} {κ : Type} [DecidableEq κ] {enc : κ → Value} {ok : κ → Bool} {ρ : Ren}
theorem CZ {ρ : Operand → Value} {W : World} {dd : Option Nat} {S D : Nat} {x v : Int} (hS : P.underlying S = some (.int .i64)) (hD : P.underlying D = some (.int .u64)) (hp : ρ p = .int .i64 x) (hx : uO x = some v) : (execOp ρ ⟨dd, .convert S D p, ty, pos, af, g⟩).run P W = .ok (.value (.int .u64 v)) W := by
 unfold uO at hx
 split at hx
 ·rename_i hr
  have := Option.some.inj hx
  subst this
  have hw : IntKind.wrap .u64 x = x := by
   have e1 : IntKind.wrap .u64 x = x.emod (2 ^ 64) := by rfl
   rw [e1]; exact Int.emod_eq_of_lt hr.1 (by omega)
  simp [execOp, hp, convert, run_underlying hS, run_underlying hD, Conv.intToInt, hw, Result.andThen]
 ·cases hx
theorem C8 {ρ : Operand → Value} {W : World} {dd : Option Nat} {S D : Nat} {x v : Int} (hS : P.underlying S = some (.int .u64)) (hD : P.underlying D = some (.int .i64)) (hp : ρ p = .int .u64 x) (hx : uO x = some v) : (execOp ρ ⟨dd, .convert S D p, ty, pos, af, g⟩).run P W = .ok (.value (.int .i64 v)) W := by
 unfold uO at hx
 split at hx
 ·rename_i hr
  have := Option.some.inj hx
  subst this
  have hw : IntKind.wrap .i64 x = x := IntWalk.i64_in _ ⟨by omega, by omega⟩
  simp [execOp, hp, convert, run_underlying hS, run_underlying hD, Conv.intToInt, hw, Result.andThen]
 ·cases hx
theorem AX {ρ : Operand → Value} {W : World} {dd : Option Nat} {S D : Nat} {x : Int} {k : IntKind} (hp : ρ p = .int .u64 x) (hq : ρ q = .int k 1) : (execOp ρ ⟨dd, .binOp .shr S p q D, ty, pos, af, g⟩).run P W = .ok (.value (.int .u64 (x / 2))) W := by
 have h1 : Op.shift .shr .u64 x k 1 = pure (.int .u64 (x / 2 ^ (1 : Int).toNat)) := shift_shr .u64 k x 1 (by decide) (by decide)
 have h2 : (2 : Int) ^ (1 : Int).toNat = 2 := by decide
 rw [h2] at h1
 simp [execOp, go_sem, hp, hq, binOp, h1, Result.andThen]
end
section words
variable {κ : Type} [DecidableEq κ]
end words
open Go.RowKit Go.Proofs
open Go.ChangeMaps Go.MapKept
open Go.Maps (Keyed)
section words
variable {κ α : Type} [DecidableEq κ]
def qp : List (κ × List α) → κ → List α
 | [], _ => []
 | p :: m, k => if p.1 = k then p.2 else qp m k
def wQ : List (κ × List α) → κ → List α → List (κ × List α)
 | [], k, v => [(k, v)]
 | p :: m, k, v => if p.1 = k then (k, v) :: m else p :: wQ m k v
def tL (ok : κ → Bool) (m : List (κ × List α)) (k : κ) : Option (List α) := if ok k = true then some (qp m k) else none
structure KE (κ α : Type) where
 k : κ
 A : Option Addr
 c : Nat
 l : List α
 own : Bool
def KE.hd (e : KE κ α) : Value := .slice e.A e.l.length e.c
def KE.blk (e : KE κ α) (x : Nat) : Prop := e.own = true ∧ (Value.slice e.A e.l.length e.c).ownBlock = some x
def KE.kd (e : KE κ α) : κ × List α := (e.k, e.l)
def MQ (ms : List (KE κ α)) (m : List (κ × List α)) : Prop := ms.map KE.kd = m ∧ ∀ e ∈ ms, e.own = true
def QT (ok : κ → Bool) (m : List (κ × List α)) (k : κ) (pre post : List (KE κ α)) : Prop := ok k = true ∧ (∀ e ∈ pre ++ post, e.own = true) ∧ ∀ l', pre.map KE.kd ++ (k, l') :: post.map KE.kd = wQ m k l'
omit [DecidableEq κ] in
theorem MQ.nil : MQ ([] : List (KE κ α)) [] := ⟨rfl, fun _ h => (nomatch h)⟩
theorem Lv (k : κ) : ∀ ms : List (KE κ α), ((∀ e ∈ ms, e.k ≠ k) ∧ qp (ms.map KE.kd) k = [] ∧ ∀ l, wQ (ms.map KE.kd) k l = ms.map KE.kd ++ [(k, l)]) ∨
  ∃ a e z, ms = a ++ e :: z ∧ e.k = k ∧ (∀ e' ∈ a, e'.k ≠ k) ∧ qp (ms.map KE.kd) k = e.l ∧ ∀ l, wQ (ms.map KE.kd) k l = a.map KE.kd ++ (k, l) :: z.map KE.kd
 | [] => .inl ⟨fun _ h => (nomatch h), rfl, fun _ => rfl⟩
 | e :: ms => by
  by_cases h : e.k = k
  ·exact .inr ⟨[], e, ms, rfl, h, fun _ h => (nomatch h), by simp [qp, KE.kd, h], fun _ => by simp [wQ, KE.kd, h]⟩
  ·rcases Lv k ms with ⟨h1, h2, h3⟩ | ⟨a, e0, z, h1, h2, h3, h4, h5⟩
   ·refine .inl ⟨fun e' he' => ?_, ?_, fun l => ?_⟩
    ·rcases List.mem_cons.1 he' with rfl | he'
     ·exact h
     ·exact h1 e' he'
    ·simp only [List.map_cons, qp]; rw [if_neg (show ¬ (KE.kd e).1 = k from h)]; exact h2
    ·simp only [List.map_cons, wQ]; rw [if_neg (show ¬ (KE.kd e).1 = k from h), h3]; rfl
   ·refine .inr ⟨e :: a, e0, z, by rw [h1]; rfl, h2, fun e' he' => ?_, ?_, fun l => ?_⟩
    ·rcases List.mem_cons.1 he' with rfl | he'
     ·exact h
     ·exact h3 e' he'
    ·simp only [List.map_cons, qp]; rw [if_neg (show ¬ (KE.kd e).1 = k from h)]; exact h4
    ·simp only [List.map_cons, wQ]; rw [if_neg (show ¬ (KE.kd e).1 = k from h), h5]; rfl
end words
def Hf (p : Int × Int) : Value := .agg #[.int .i64 p.1, .int .i64 p.2]
def HZ (p : Int × Int) : Bool := Rz p.1 && Rz p.2
theorem Ua {P : Program} {KT IT : Nat} (hl : laidOutB P = true) (hsmall : P.types.size + 2 ≤ 10000) (hsz : ∃ m, P.types.size = m + 1) (hrow : KT < P.types.size) (hk : P.keyType KT = true) (hu : ∃ fs, P.underlying KT = some (.struct fs) ∧ fs.toList.map (fun f => (f.name != "_", f.type, f.offset)) = [(true, IT, 0), (true, IT, 1)])
  (hc : P.cellsOf KT = 2) (hc1 : P.cellsOf IT = 1) (hi : P.underlying IT = some (.int .i64)) : OP P KT Hf HZ := by
 obtain ⟨fs, hu, hfs⟩ := hu
 refine ⟨Keyed.of_law (deep_law_gate hl hsmall hrow hk (by rw [hu])), fun k h => ?_, fun a b h => ?_⟩
 ·unfold HZ at h
  rw [Bool.and_eq_true] at h
  have w1 := NS h.1
  have w2 := NS h.2
  obtain ⟨m, hm⟩ := hsz
  unfold keyOf Hf
  simp only [hu]
  rw [if_pos (by simp [hk, Value.formed, hu, hc]), hm]
  unfold Program.keyLits
  simp only [hu, Value.cells]
  obtain ⟨f1, f2, hff⟩ : ∃ f1 f2, fs.toList = [f1, f2] := by
   have hlen : fs.toList.length = 2 := by have := congrArg List.length hfs; simpa using this
   match hq : fs.toList, hlen with
   | [f1, f2], _ => exact ⟨f1, f2, rfl⟩
  rw [hff] at hfs
  simp only [List.map_cons, List.map_nil, List.cons.injEq, Prod.mk.injEq, and_true] at hfs
  obtain ⟨⟨a1, a2, a3⟩, b1, b2, b3⟩ := hfs
  have hall : fs.all (fun f => f.name != "_") = true := by
   rw [← Array.all_toList, hff]; simp [a1, b1]
  rw [if_pos ⟨by rw [hc]; rfl, hall⟩, hff, List.mapM_cons, List.mapM_cons, List.mapM_nil, a2, a3, b2, b3, hc1]
  simp [Program.keyLits, hi, w1, w2]
 ·unfold Hf at h
  simp at h
  exact Prod.ext h.1 h.2
section
variable {P : Program} {w w' : Bs} {n : Nat} {f : Nat → Option Value} {E : Nat → kH} {X : Act → World → Prop} {Q : Exit → Act → World → Prop} {ops : Array Oper} {rest : List Oper}
variable {d ty T MT KT VT : Nat} {pos : String} {af : Array Edge} {g : Option (Nat × Bool)} {p q x : Operand} {b : Nat} {κ α : Type} [DecidableEq κ] {enc : κ → Value} {ok : κ → Bool} {t : Fl α}
def Ll (W : World) (b : Nat) (kv : List (Value × Value)) : Prop := ∃ es, W.heap[b]? = some (.map es es.size) ∧ (∀ (i : Nat) (e : MapEntry), es.toList[i]? = some e → e.born = i) ∧ es.toList.map (fun x => (x.key, x.val)) = kv
theorem FW {W W' : World} {b : Nat} {kv : List (Value × Value)} (h : W'.heap[b]? = W.heap[b]?) (hp : Ll W b kv) : Ll W' b kv := by
 obtain ⟨es, h1, h2⟩ := hp
 exact ⟨es, h.trans h1, h2⟩
theorem Ky {l : List MapEntry} (h : ∀ (i : Nat) (e : MapEntry), l[i]? = some e → e.born = i) : (l.map (·.born)).Nodup := by
 rw [List.Nodup, List.pairwise_iff_getElem]
 intro i j hi hj hij
 rw [List.length_map] at hi hj
 rw [List.getElem_map, List.getElem_map, h i _ (List.getElem?_eq_getElem hi), h j _ (List.getElem?_eq_getElem hj)]
 omega
def mq (enc : κ → Value) (ok : κ → Bool) (b T : Nat) (t : Fl α) (ms : List (KE κ α)) : kH :=
 ⟨fun x => x = b ∨ ∃ e ∈ ms, e.blk x, fun O W => Ll W b (ms.map fun e => (enc e.k, e.hd)) ∧
  (∀ e ∈ ms, ok e.k = true ∧ fC e.A e.l.length e.c ∧ (e.own = true → (ow e.A e.c T t e.l).φ O W)) ∧ (ms.Pairwise fun e e' => e.k ≠ e'.k ∧ ∀ x, e.blk x → ¬ e'.blk x) ∧ ∀ e ∈ ms, ¬ e.blk b⟩
omit [DecidableEq κ] in
theorem GX (b T : Nat) (t : Fl α) (ms : List (KE κ α)) : (mq enc ok b T t ms).loc := ⟨fun O W W' h hp => by
  obtain ⟨h1, h2, h3, h4⟩ := hp
  refine ⟨FW (h b (.inr (.inl rfl))) h1, fun e he => ⟨(h2 e he).1, (h2 e he).2.1, fun ho => (pW e.A e.c T t e.l).at_ O W W' (fun x hx => h x ?_) ((h2 e he).2.2 ho)⟩, h3, h4⟩
  rcases hx with hx | hx
  ·exact .inl hx
  ·exact .inr (.inr ⟨e, he, ho, hx⟩),
 fun O O' W h hp => by
  obtain ⟨h1, h2, h3, h4⟩ := hp
  exact ⟨h1, fun e he => ⟨(h2 e he).1, (h2 e he).2.1, fun ho => (pW e.A e.c T t e.l).up O O' W h ((h2 e he).2.2 ho)⟩, h3, h4⟩⟩
omit [DecidableEq κ] in
theorem Jn (enc : κ → Value) (ok : κ → Bool) (k0 T : Nat) (t : Fl α) (hw : Wn ops f ⟨some d, .makeMap MT none, ty, pos, af, g⟩) (hdn : Nat.blt d n = true)
  (K : ∀ b, Tr w n (uf f d (.map (some b))) (up E k0 (mq enc ok b T t [])) (wpList P ops Q rest)) : Tr w n f E (wpList P ops Q (⟨some d, .makeMap MT none, ty, pos, af, g⟩ :: rest)) :=
 zP hw hdn (fun _ W _ h2 => ⟨rfl, h2.add k0 ((Below.refl _ _).alloc (Nat.le_refl _) _) (mq enc ok W.heap.size T t []) (GX _ _ _ _)
  ⟨⟨#[], heap_alloc_new W _, fun i e h => by simp at h, rfl⟩, fun _ h => (nomatch h), .nil, fun _ h => (nomatch h)⟩ (fun b hb => by
   have hb : b = W.heap.size ∨ ∃ e ∈ ([] : List (KE κ α)), e.blk b := hb
   rcases hb with rfl | ⟨e, he, _⟩
   ·exact ⟨Nat.le_refl _, by simp⟩
   ·cases he)⟩) (fun W _ => K W.heap.size)
omit [DecidableEq κ] in
theorem HF.Qj {W : World} (h2 : HF w W E) {k0 k1 : Nat} {pre post : List (KE κ α)} {e : KE κ α} (hk : E k0 = Proofs.YtcjeebkoafonpaaGreatDoor.mq enc ok b T t (pre ++ e :: post)) (hne : k1 ≠ k0) (heo : e.own = true) :
  HF w W (up (up E k0 (Proofs.YtcjeebkoafonpaaGreatDoor.mq enc ok b T t (pre ++ { e with own := false } :: post))) k1 (Proofs.YtcjeebkoafonpaaGreatDoor.ow e.A e.c T t e.l)) := by
 have hφ := h2.phi k0
 rw [hk] at hφ
 obtain ⟨g1, g2, g3, g4⟩ := hφ
 have heM : e ∈ pre ++ e :: post := by simp
 obtain ⟨pw1, pw2, pw3⟩ := List.pairwise_append.1 g3
 obtain ⟨pw4, pw5⟩ := List.pairwise_cons.1 pw2
 have hnb : ∀ x, ¬ ({ e with own := false } : KE κ α).blk x := fun x hx => by cases hx.1
 have hmem : ∀ e' ∈ pre ++ { e with own := false } :: post, (e' ∈ pre ++ e :: post ∧ (e' ∈ pre ∨ e' ∈ post)) ∨ e' = { e with own := false } := fun e' he' => by
  rcases List.mem_append.1 he' with he' | he'
  ·exact .inl ⟨List.mem_append_left _ he', .inl he'⟩
  ·rcases List.mem_cons.1 he' with rfl | he'
   ·exact .inr rfl
   ·exact .inl ⟨List.mem_append_right _ (List.mem_cons_of_mem _ he'), .inr he'⟩
 refine h2.split hne (GX _ _ _ _) (pW _ _ _ _ _) ?_ ((g2 e heM).2.2 heo) (fun b' hb' => ?_) (fun b' hb' => ?_) (fun b' hb1 hb2 => ?_)
 ·refine ⟨?_, fun e' he' => ?_, ?_, fun e' he' => ?_⟩
  ·simpa [KE.hd] using g1
  ·rcases hmem e' he' with ⟨h3, _⟩ | rfl
   ·exact g2 e' h3
   ·exact ⟨(g2 e heM).1, (g2 e heM).2.1, fun h => by cases h⟩
  ·rw [List.pairwise_append, List.pairwise_cons]
   refine ⟨pw1, ⟨fun e' he' => ⟨(pw4 e' he').1, fun x hx => absurd hx (hnb x)⟩, pw5⟩, fun e1' he1 e2' he2 => ?_⟩
   rcases List.mem_cons.1 he2 with rfl | he2
   ·exact ⟨(pw3 e1' he1 e List.mem_cons_self).1, fun x _ => hnb x⟩
   ·exact pw3 e1' he1 e2' (List.mem_cons_of_mem _ he2)
  ·rcases hmem e' he' with ⟨h3, _⟩ | rfl
   ·exact g4 e' h3
   ·exact hnb b
 ·rw [hk]
  rcases hb' with hb' | ⟨e', he', hx⟩
  ·exact .inl hb'
  ·rcases hmem e' he' with ⟨h3, _⟩ | rfl
   ·exact .inr ⟨e', h3, hx⟩
   ·exact absurd hx (hnb b')
 ·rw [hk]
  exact .inr ⟨e, heM, heo, hb'⟩
 ·have hb2 : e.blk b' := ⟨heo, hb2⟩
  rcases hb1 with hb1 | ⟨e', he', hx⟩
  ·subst hb1; exact g4 e heM hb2
  ·rcases hmem e' he' with ⟨_, h3 | h3⟩ | rfl
   ·exact (pw3 e' h3 e List.mem_cons_self).2 b' hx hb2
   ·exact (pw4 e' h3).2 b' hb2 hx
   ·exact hnb b' hx
theorem Hw (k0 k1 : Nat) {m : List (κ × List α)} {ms : List (KE κ α)} {l : List α} {k : κ} (K : OP P KT enc ok) (hw : Wn ops f ⟨some d, .mapEntry MT p q, ty, pos, af, g⟩) (hdn : Nat.blt d n = true) (hMT : P.underlying MT = some (.map KT VT)) (hz : (P.info? VT).bind (·.zero) = some (.slice none 0 0))
  (hp : ev f p = some (.map (some b))) (hq : ev f q = some (enc k)) (hk : E k0 = mq enc ok b T t ms) (hne : Nat.beq k1 k0 = false) (hm : MQ ms m) (hl : tL ok m k = some l)
  (C : ∀ pre post A c, QT ok m k pre post → fC A l.length c → Tr w n (uf f d (.tuple #[.slice A l.length c, .int .i64 (pre.length : Int)])) (up (up E k0 (mq enc ok b T t (pre ++ ⟨k, A, c, l, false⟩ :: post))) k1 (ow A c T t l)) (wpList P ops Q rest)) :
  Tr w n f E (wpList P ops Q (⟨some d, .mapEntry MT p q, ty, pos, af, g⟩ :: rest)) := by
 have hne : k1 ≠ k0 := fun e => by subst e; simp at hne
 obtain ⟨hm1, hm2⟩ := hm
 subst hm1
 unfold tL at hl
 split at hl
 case isFalse => cases hl
 rename_i hr
 have hl := (Option.some.inj hl).symm
 subst hl
 refine Tr.op hw fun a W h1 h2 => ?_
 have hφ := h2.phi k0
 rw [hk] at hφ
 obtain ⟨⟨es, hb, hborn, hes⟩, g2, g3, g4⟩ := hφ
 obtain ⟨kl, hkey⟩ := K.key k hr
 have hks : ∀ e ∈ es.toList, ∃ l, keyOf P KT e.key = some l := fun e he => by
  have : (e.key, e.val) ∈ ms.map fun e => (enc e.k, e.hd) := by rw [← hes]; exact List.mem_map_of_mem (f := fun x : MapEntry => (x.key, x.val)) he
  obtain ⟨e', he', h3⟩ := List.mem_map.1 this
  have h4 : enc e'.k = e.key := congrArg Prod.fst h3
  rw [← h4]; exact K.key e'.k (g2 e' he').1
 have hbS : (E k0).S b := by rw [hk]; exact .inl rfl
 have hzr : ∀ W, (zeroValue VT).run P W = .ok (.slice none 0 0) W := fun W => by
  cases hi : P.info? VT with
  | none => rw [hi] at hz; cases hz
  | some inf =>
   rw [hi] at hz
   simp only [Option.bind_some] at hz
   simp [zeroValue, typeInfo, hi, hz]
 unfold Oper.wp
 rcases K.kd.find W hkey es.toList hks with ⟨f1, f2⟩ | ⟨j, e0, f1, f2, f3⟩
 · -- a new entry
  have hno : ∀ e ∈ ms, e.k ≠ k := fun e he hek => by
   have : (enc e.k, e.hd) ∈ es.toList.map fun x => (x.key, x.val) := by rw [hes]; exact List.mem_map_of_mem (f := fun e : KE κ α => (enc e.k, e.hd)) he
   obtain ⟨x0, hx0, h3⟩ := List.mem_map.1 this
   exact f2 x0 hx0 ((congrArg Prod.fst h3).trans (by show enc e.k = _; rw [hek]))
  rcases Lv k ms with ⟨q1, q2, q3⟩ | ⟨a0, e, z, q1, q2, _⟩
  ·have hsize : es.size = ms.length := by rw [← Array.length_toList, ← List.length_map (f := fun x : MapEntry => (x.key, x.val)), hes, List.length_map]
   have hrun : (execOp a.eval ⟨some d, .mapEntry MT p q, ty, pos, af, g⟩).run P W = .ok (.value (.tuple #[.slice none 0 0, .int .i64 (ms.length : Int)])) (setBlock W b (.map (es.push ⟨enc k, .slice none 0 0, es.size⟩) (es.size + 1))) := by
    simp [execOp, h1.ev hp, h1.ev hq, Instr.mapEntry, run_underlying hMT, MapKept.run_getObj_map hb, K.kd.check W false hkey, f1, hzr, MapKept.run_setObj_map _ hb, Result.andThen, setBlock, goInt, hsize]
   rw [hrun]
   have hm' : HF w (setBlock W b (.map (es.push ⟨enc k, .slice none 0 0, es.size⟩) (es.size + 1))) (up E k0 (mq enc ok b T t (ms ++ [⟨k, none, 0, [], true⟩]))) := by
    refine h2.mod k0 _ rfl rfl rfl (by simp [setBlock]) (Nat.le_refl _) (fun x _ hx => heap_setBlock_other hb _ (fun hh => hx (by rw [hh]; exact hbS))) (GX _ _ _ _) ⟨?_, fun e he => ?_, ?_, fun e he => ?_⟩ (fun y hy => ?_)
    ·refine ⟨es.push ⟨enc k, .slice none 0 0, es.size⟩, by rw [heap_setBlock_same hb _]; simp, fun i e hi => ?_, by simp [hes, KE.hd]⟩
     rw [Array.toList_push] at hi
     by_cases hlt : i < es.toList.length
     ·rw [List.getElem?_append_left hlt] at hi; exact hborn i e hi
     ·rw [List.getElem?_append_right (by omega)] at hi
      cases hi2 : i - es.toList.length with
      | zero => rw [hi2] at hi; simp at hi; subst hi; simp at hi2 hlt ⊢; omega
      | succ j => rw [hi2] at hi; simp at hi
    ·rcases List.mem_append.1 he with he | he
     ·exact ⟨(g2 e he).1, (g2 e he).2.1, fun ho => (pW _ _ _ _ _).at_ w.O W _ (fun x hx => heap_setBlock_other hb _ (fun hh => by
       rcases hx with hx | hx
       ·exact (h2.bd k0 b hbS).1 (.inl (hh ▸ hx))
       ·exact g4 e he ⟨ho, hh ▸ hx⟩)) ((g2 e he).2.2 ho)⟩
     ·simp at he; subst he
      exact ⟨hr, iM, fun _ => ⟨[], .nil, by simp, .inl ⟨rfl, rfl⟩⟩⟩
    ·rw [List.pairwise_append]
     refine ⟨g3, by simp, fun e1 he1 e2 he2 => ?_⟩
     simp at he2; subst he2
     exact ⟨q1 e1 he1, fun x _ hx => by cases hx.2⟩
    ·rcases List.mem_append.1 he with he | he
     ·exact g4 e he
     ·simp at he; subst he
      exact fun hx => by cases hx.2
    ·rcases hy with hy | ⟨e, he, hy⟩
     ·subst hy; exact ⟨.inl hbS, by simp [setBlock]; exact (h2.bd k0 y hbS).2⟩
     ·rcases List.mem_append.1 he with he | he
      ·have : (E k0).S y := by rw [hk]; exact .inr ⟨e, he, hy⟩
       exact ⟨.inl this, by simp [setBlock]; exact (h2.bd k0 y this).2⟩
      ·simp at he; subst he; cases hy.2
   have hm2' := hm'.Qj (k1 := k1) (pre := ms) (e := ⟨k, none, 0, [], true⟩) (post := []) (by rw [xP]) hne rfl
   have e1 : up (up (up E k0 (mq enc ok b T t (ms ++ [⟨k, none, 0, [], true⟩]))) k0 (mq enc ok b T t (ms ++ ⟨k, none, 0, [], false⟩ :: []))) k1 (ow none 0 T t []) = up (up E k0 (mq enc ok b T t (ms ++ ⟨k, none, 0, [], false⟩ :: []))) k1 (ow none 0 T t []) := by
    funext j
    rcases eO (up (up E k0 (mq enc ok b T t (ms ++ [⟨k, none, 0, [], true⟩]))) k0 (mq enc ok b T t (ms ++ ⟨k, none, 0, [], false⟩ :: []))) k1 (ow none 0 T t []) j with ⟨u1, u2⟩ | ⟨u1, u2⟩
    ·rw [u2]; subst u1; rw [xP]
    ·rw [u2, DD u1]
     rcases eO E k0 (mq enc ok b T t (ms ++ ⟨k, none, 0, [], false⟩ :: [])) j with ⟨v1, v2⟩ | ⟨v1, v2⟩
     ·subst v1; rw [xP, xP]
     ·rw [DD v1, DD v1, DD v1]
   have hm3 : HF w (setBlock W b (.map (es.push ⟨enc k, .slice none 0 0, es.size⟩) (es.size + 1))) (up (up E k0 (mq enc ok b T t (ms ++ ⟨k, none, 0, [], false⟩ :: []))) k1 (ow none 0 T t [])) := by rw [← e1]; exact hm2'
   rw [q2] at C
   exact C ms [] none 0 ⟨hr, by simpa using hm2, fun l' => by rw [q3]; rfl⟩ iM _ _ (h1.put (Nat.le_of_ble_eq_true hdn) _) hm3
  ·exact absurd q2 (hno e (by rw [q1]; simp))
 · -- an old one
  have hj : es[j]? = some e0 := by simpa using f2
  have hlist : (es.modify j (fun e' => { e' with key := enc k })).toList = es.toList := by
   rw [Array.toList_modify, modify_eq_set _ _ _ _ f2]
   have : ({ e0 with key := enc k } : MapEntry) = e0 := by rw [← f3]
   rw [this]
   have hlt : j < es.toList.length := (List.getElem?_eq_some_iff.1 f2).1
   have hg : es.toList[j] = e0 := (List.getElem?_eq_some_iff.1 f2).2
   rw [← hg, List.set_getElem_self]
  have harr : es.modify j (fun e' => { e' with key := enc k }) = es := Array.toList_inj.1 hlist
  have hrun : (execOp a.eval ⟨some d, .mapEntry MT p q, ty, pos, af, g⟩).run P W = .ok (.value (.tuple #[e0.val, .int .i64 (j : Int)])) (setBlock W b (.map es es.size)) := by
   have := hborn j e0 f2
   simp [execOp, h1.ev hp, h1.ev hq, Instr.mapEntry, run_underlying hMT, MapKept.run_getObj_map hb, K.kd.check W false hkey, f1, hj, f3, K.kd.stays W hkey, MapKept.run_setObj_map _ hb, Result.andThen, setBlock, goInt, harr, this]
  have hsame : ∀ y, (setBlock W b (.map es es.size)).heap[y]? = W.heap[y]? := fun y => by
   by_cases hy : y = b
   ·rw [hy, heap_setBlock_same hb _, hb]
   ·exact heap_setBlock_other hb _ hy
  rw [hrun]
  have hin : (e0.key, e0.val) ∈ ms.map fun e => (enc e.k, e.hd) := by rw [← hes]; exact List.mem_map_of_mem (f := fun x : MapEntry => (x.key, x.val)) (List.mem_of_getElem? f2)
  rcases Lv k ms with ⟨q1, _⟩ | ⟨a0, e, z, q1, q2, q3, q4, q5⟩
  ·obtain ⟨e', he', h3⟩ := List.mem_map.1 hin
   exact absurd (K.inj _ _ ((congrArg Prod.fst h3).trans f3)) (q1 e' he')
  ·have hjl : j = a0.length := by
    have hx : (ms.map fun e => (enc e.k, e.hd))[j]? = some (e0.key, e0.val) := by rw [← hes, List.getElem?_map, f2]; rfl
    rw [q1, List.map_append, List.map_cons] at hx
    rcases Nat.lt_trichotomy j a0.length with h | h | h
    ·rw [List.getElem?_append_left (by simpa using h), List.getElem?_map] at hx
     obtain ⟨e', h3, h4⟩ := Option.map_eq_some_iff.1 hx
     exact absurd (K.inj _ _ ((congrArg Prod.fst h4).trans f3)) (q3 e' (List.mem_of_getElem? h3))
    ·exact h
    ·rw [List.getElem?_append_right (by simp; omega), List.length_map] at hx
     obtain ⟨i, hi⟩ : ∃ i, j - a0.length = i + 1 := ⟨j - a0.length - 1, by omega⟩
     rw [hi, List.getElem?_cons_succ, List.getElem?_map] at hx
     obtain ⟨e', h3, h4⟩ := Option.map_eq_some_iff.1 hx
     have := K.inj _ _ ((congrArg Prod.fst h4).trans f3)
     rw [q1] at g3
     exact absurd (q2.trans this.symm) ((List.pairwise_cons.1 (List.pairwise_append.1 g3).2.1).1 e' (List.mem_of_getElem? h3)).1
   have hval : e0.val = e.hd := by
    have hx : (ms.map fun e => (enc e.k, e.hd))[j]? = some (e0.key, e0.val) := by rw [← hes, List.getElem?_map, f2]; rfl
    rw [q1, List.map_append, List.map_cons, hjl, List.getElem?_append_right (by simp), List.length_map, Nat.sub_self] at hx
    simp at hx
    exact hx.2.symm
   have heM : e ∈ ms := by rw [q1]; simp
   have heo := hm2 e heM
   have hm' : HF w (setBlock W b (.map es es.size)) E := by
    refine ⟨h2.os, h2.tape, h2.output, Nat.le_trans h2.size (by simp [setBlock]), h2.drawn, fun y hy => (hsame y).trans (h2.keep y hy), fun j => (h2.loc j).at_ _ W _ (fun y _ => hsame y) (h2.phi j), h2.loc, fun j y hy => ⟨(h2.bd j y hy).1, by simp [setBlock]; exact (h2.bd j y hy).2⟩, h2.disj⟩
   have hk' := hk
   rw [q1] at hk'
   have hm3 := hm'.Qj (k1 := k1) hk' hne heo
   rw [q4] at C
   have e2 : ({ e with own := false } : KE κ α) = ⟨k, e.A, e.c, e.l, false⟩ := by rw [← q2]
   rw [e2] at hm3
   rw [hval, hjl]
   exact C a0 z e.A e.c ⟨hr, fun e' he' => hm2 e' (by
    rw [q1]
    rcases List.mem_append.1 he' with he' | he'
    ·exact List.mem_append_left _ he'
    ·exact List.mem_append_right _ (List.mem_cons_of_mem _ he')), fun l' => (q5 l').symm⟩ (g2 e heM).2.1 _ _ (h1.put (Nat.le_of_ble_eq_true hdn) _) hm3
theorem Jp (k0 k1 : Nat) {m : List (κ × List α)} {pre post : List (KE κ α)} {k : κ} {A A' : Option Addr} {c c' : Nat} {l l' : List α} (hw : Wn ops f ⟨none, .entryStore MT p q x, ty, pos, af, g⟩)
  (hp : ev f p = some (.map (some b))) (hq : ev f q = some (.int .i64 (pre.length : Int))) (hx : ev f x = some (.slice A' l'.length c')) (hk : E k0 = mq enc ok b T t (pre ++ ⟨k, A, c, l, false⟩ :: post)) (hk' : E k1 = ow A' c' T t l') (hne : Nat.beq k1 k0 = false) (hm : QT ok m k pre post) (hf : fC A' l'.length c')
  (C : ∀ ms, MQ ms (wQ m k l') → Tr w n f (up (up E k1 emp) k0 (mq enc ok b T t ms)) (wpList P ops Q rest)) : Tr w n f E (wpList P ops Q (⟨none, .entryStore MT p q x, ty, pos, af, g⟩ :: rest)) := by
 have hne : k1 ≠ k0 := fun e => by subst e; simp at hne
 obtain ⟨m0, m1, m2⟩ := hm
 refine Tr.op hw fun a W h1 h2 => ?_
 have hφ := h2.phi k0
 rw [hk] at hφ
 obtain ⟨⟨es, hb, hborn, hes⟩, g2, g3, g4⟩ := hφ
 have hφ' := h2.phi k1
 rw [hk'] at hφ'
 have hlen : es.toList.length = (pre ++ ⟨k, A, c, l, false⟩ :: post).length := by rw [← List.length_map (f := fun x : MapEntry => (x.key, x.val)), hes, List.length_map]
 have hlt : pre.length < es.toList.length := by rw [hlen]; simp
 have hget : es.toList[pre.length]? = some es.toList[pre.length] := List.getElem?_eq_getElem hlt
 generalize he0 : es.toList[pre.length] = e0 at hget
 have hkey : e0.key = enc k := by
  have hx : ((pre ++ ⟨k, A, c, l, false⟩ :: post).map fun e => (enc e.k, e.hd))[pre.length]? = some (e0.key, e0.val) := by rw [← hes, List.getElem?_map, hget]; rfl
  rw [List.map_append, List.map_cons, List.getElem?_append_right (by simp), List.length_map, Nat.sub_self] at hx
  simp at hx
  exact hx.1.symm
 have hfind : es.findIdx? (fun e => ((e.born : Nat) : Int) == ((pre.length : Nat) : Int)) = some pre.length := by
  have := Go.WideElems.findIdx_born (Ky hborn) hget
  rw [hborn _ _ hget] at this
  rw [Go.WideElems.findIdx_arr]; exact this
 have hlist : (es.modify pre.length (fun e' => { e' with val := .slice A' l'.length c' })).toList = es.toList.set pre.length { e0 with val := .slice A' l'.length c' } := by rw [Array.toList_modify, modify_eq_set _ _ _ _ hget]
 have hrun : (execOp a.eval ⟨none, .entryStore MT p q x, ty, pos, af, g⟩).run P W = .ok .skip (setBlock W b (.map (es.modify pre.length fun e' => { e' with val := .slice A' l'.length c' }) es.size)) := by
  simp [execOp, h1.ev hp, h1.ev hq, h1.ev hx, Instr.entryStore, MapKept.run_getObj_map hb, asInt, asIntOf, hfind, MapKept.run_setObj_map _ hb, Result.andThen, setBlock]
 have hbS : (E k0).S b := by rw [hk]; exact .inl rfl
 have hbR : ¬ w.R b := (h2.bd k0 b hbS).1
 have hb' : ¬ (E k1).S b := h2.disj k0 k1 b (fun e => hne e.symm) hbS
 have hold : ∀ e' ∈ pre ++ ⟨k, A, c, l, false⟩ :: post, ∀ x, e'.blk x → (E k0).S x := fun e' he' x hx => by rw [hk]; exact .inr ⟨e', he', hx⟩
 have hnb : ∀ x, (⟨k, A', c', l', true⟩ : KE κ α).blk x → (E k1).S x := fun x hx => by rw [hk']; exact hx.2
 have hoth : ∀ x, x ≠ b → (setBlock W b (.map (es.modify pre.length fun e' => { e' with val := .slice A' l'.length c' }) es.size)).heap[x]? = W.heap[x]? := fun x hx => heap_setBlock_other hb _ hx
 have hkeep : ∀ (S : Nat → Prop), (∀ x, S x → x ≠ b) → ∀ x, w.O x ∨ S x → (setBlock W b (.map (es.modify pre.length fun e' => { e' with val := .slice A' l'.length c' }) es.size)).heap[x]? = W.heap[x]? := fun S hS x hx => hoth x (fun e => by
  rcases hx with hx | hx
  ·exact hbR (.inl (e ▸ hx))
  ·exact hS x hx e)
 have hpre : ∀ e' ∈ pre, e' ∈ pre ++ ⟨k, A, c, l, false⟩ :: post := fun e' he' => List.mem_append_left _ he'
 have hpost : ∀ e' ∈ post, e' ∈ pre ++ ⟨k, A, c, l, false⟩ :: post := fun e' he' => List.mem_append_right _ (List.mem_cons_of_mem _ he')
 have hoE : ∀ e' ∈ pre ++ ⟨k, A, c, l, false⟩ :: post, ok e'.k = true ∧ fC e'.A e'.l.length e'.c ∧ (e'.own = true → (ow e'.A e'.c T t e'.l).φ w.O (setBlock W b (.map (es.modify pre.length fun e' => { e' with val := .slice A' l'.length c' }) es.size))) := fun e' he' => by
  obtain ⟨e1, e2, e3⟩ := g2 e' he'
  exact ⟨e1, e2, fun ho => (pW _ _ _ _ _).at_ w.O W _ (hkeep _ (fun x hx e => g4 e' he' (by subst e; exact ⟨ho, hx⟩))) (e3 ho)⟩
 have hmem : ∀ e' ∈ pre ++ ⟨k, A', c', l', true⟩ :: post, (e' ∈ pre ++ ⟨k, A, c, l, false⟩ :: post ∧ (e' ∈ pre ∨ e' ∈ post)) ∨ e' = ⟨k, A', c', l', true⟩ := fun e' he' => by
  rcases List.mem_append.1 he' with he' | he'
  ·exact .inl ⟨hpre e' he', .inl he'⟩
  ·rcases List.mem_cons.1 he' with rfl | he'
   ·exact .inr rfl
   ·exact .inl ⟨hpost e' he', .inr he'⟩
 obtain ⟨pw1, pw2, pw3⟩ := List.pairwise_append.1 g3
 obtain ⟨pw4, pw5⟩ := List.pairwise_cons.1 pw2
 unfold Oper.wp
 rw [hrun]
 refine C (pre ++ ⟨k, A', c', l', true⟩ :: post) ⟨by rw [← m2 l', List.map_append, List.map_cons]; rfl, fun e' he' => ?_⟩ _ _ (by exact h1) (h2.merge (mq enc ok b T t (pre ++ ⟨k, A', c', l', true⟩ :: post)) hne rfl rfl rfl (by simp [setBlock]) (Nat.le_refl _) (fun x _ hs => hoth x (fun e => by rw [e] at hs; exact hs hbS)) (GX _ _ _ _) ?_ ?_)
 ·rcases hmem e' he' with ⟨_, h3 | h3⟩ | rfl
  ·exact m1 e' (List.mem_append_left _ h3)
  ·exact m1 e' (List.mem_append_right _ h3)
  ·rfl
 ·refine ⟨⟨es.modify pre.length (fun e' => { e' with val := .slice A' l'.length c' }), by rw [heap_setBlock_same hb _]; simp, fun i e hi => ?_, ?_⟩, fun e' he' => ?_, ?_, fun e' he' => ?_⟩
  ·rw [hlist, List.getElem?_set] at hi
   split at hi
   ·rename_i hh
    subst hh
    have hi : some ({ e0 with val := .slice A' l'.length c' } : MapEntry) = some e := by simpa [hlt] using hi
    have hi := Option.some.inj hi
    rw [← hi]
    exact hborn _ e0 hget
   ·exact hborn i e hi
  ·rw [hlist, List.map_set, hes, List.map_append, List.map_cons, List.map_append, List.map_cons, List.set_append_right _ _ (by simp)]
   simp [hkey, KE.hd]
  ·rcases hmem e' he' with ⟨h3, _⟩ | rfl
   ·exact hoE e' h3
   ·exact ⟨m0, hf, fun _ => (pW _ _ _ _ _).at_ w.O W _ (hkeep _ (fun x hx e => hb' (by subst e; rw [hk']; exact hx))) hφ'⟩
  ·rw [List.pairwise_append, List.pairwise_cons]
   refine ⟨pw1, ⟨fun e' he' => ⟨(pw4 e' he').1, fun x hx hy => h2.disj k0 k1 x (fun e => hne e.symm) (hold e' (hpost e' he') x hy) (hnb x hx)⟩, pw5⟩, fun e1' he1 e2' he2 => ?_⟩
   rcases List.mem_cons.1 he2 with rfl | he2
   ·exact ⟨(pw3 e1' he1 ⟨k, A, c, l, false⟩ List.mem_cons_self).1, fun x hx hy => h2.disj k0 k1 x (fun e => hne e.symm) (hold e1' (hpre e1' he1) x hx) (hnb x hy)⟩
   ·exact pw3 e1' he1 e2' (List.mem_cons_of_mem _ he2)
  ·rcases hmem e' he' with ⟨h3, _⟩ | rfl
   ·exact g4 e' h3
   ·exact fun hx => hb' (hnb b hx)
 ·intro x hx
  rcases hx with hx | ⟨e', he', hx⟩
  ·exact .inl (by rw [hk]; exact .inl hx)
  ·rcases hmem e' he' with ⟨h3, _⟩ | rfl
   ·exact .inl (hold e' h3 x hx)
   ·exact .inr (hnb x hx)
def KH (R : Nat → Prop) (W : World) (enc : κ → Value) (ok : κ → Bool) (b : Nat) (t : Fl α) (m : List (κ × List α)) : Prop :=
 R b ∧ ∃ ms : List (KE κ α), ms.map KE.kd = m ∧ Ll W b (ms.map fun e => (enc e.k, e.hd)) ∧ (∀ e ∈ ms, ok e.k = true ∧ Sl R W t e.A e.c e.l) ∧ ms.Pairwise fun e e' => e.k ≠ e'.k
omit [DecidableEq κ] in
theorem KH.go {R R' : Nat → Prop} {W W' : World} {m : List (κ × List α)} (h : KH R W enc ok b t m) (hS : ∀ b, R b → R' b) (hs : ∀ b, R b → W'.heap[b]? = W.heap[b]?) : KH R' W' enc ok b t m := by
 obtain ⟨h1, ms, h2, h3, h4, h5⟩ := h
 exact ⟨hS b h1, ms, h2, FW (hs b h1) h3, fun e he => ⟨(h4 e he).1, (h4 e he).2.go hS hs⟩, h5⟩
omit [DecidableEq κ] in
theorem KH.qG {m : List (κ × List α)} (h : KH w.R w.W enc ok b t m) (hle : w.Le w') : KH w'.R w'.W enc ok b t m := h.go hle.r (fun b hb => hle.blk b hb)
omit [DecidableEq κ] in
theorem KH.ext {m : List (κ × List α)} (h : KH w.R w.W enc ok b t m) (e : w.Ext w') : KH w'.R w'.W enc ok b t m := h.go e.r e.blk
omit [DecidableEq κ] in
theorem Hu (k0 : Nat) {m : List (κ × List α)} {ms : List (KE κ α)} (hk : E k0 = mq enc ok b T t ms) (hm : MQ ms m) (K : ∀ w', w.Le w' → KH w'.R w'.W enc ok b t m → Tr w' n f (up E k0 emp) X) : Tr w n f E X :=
 fun a W h1 h2 => K (h2.raise k0) (h2.Iz k0) (by
  have hφ := h2.phi k0
  rw [hk] at hφ
  obtain ⟨g1, g2, g3, g4⟩ := hφ
  refine ⟨.inl (.inr (by rw [hk]; exact .inl rfl)), ms, hm.1, g1, fun e he => ⟨(g2 e he).1, ?_⟩, g3.imp fun h => h.1⟩
  obtain ⟨css, q0, q1⟩ := (g2 e he).2.2 (hm.2 e he)
  refine (GN q0 q1).mono (fun y hy => ?_)
  rcases hy with hy | hy
  ·exact .inl (.inl hy)
  ·exact .inl (.inr (by rw [hk]; exact .inr ⟨e, he, hm.2 e he, hy⟩))) a W h1 (h2.raised k0)
def Looks (w : Bs) (enc : κ → Value) (ok : κ → Bool) (b : Nat) (A : Option Addr) (c nl : Nat) (k : κ) : Prop :=
 ∀ {P : Program} {E : Nat → kH} {W : World} (_ : HF w W E) {ρ : Operand → Value} {dd : Option Nat} {MT KT VT ty : Nat} {pos : String} {af : Array Edge} {g : Option (Nat × Bool)} {p q : Operand} (_ : P.underlying MT = some (.map KT VT)) (_ : OP P KT enc ok) (_ : (P.info? VT).bind (·.zero) = some (.slice none 0 0)) (_ : ρ p = .map (some b)) (_ : ρ q = enc k),
  (execOp ρ ⟨dd, .lookup MT p q false, ty, pos, af, g⟩).run P W = .ok (.value (.slice A nl c)) W
theorem KH.look {m : List (κ × List α)} {l : List α} (h : KH w.R w.W enc ok b t m) {k : κ} (hl : tL ok m k = some l) : ∃ A c, Sl w.R w.W t A c l ∧ Looks w enc ok b A c l.length k := by
 unfold tL at hl
 split at hl
 case isFalse => cases hl
 rename_i hr
 have hl := (Option.some.inj hl).symm
 subst hl
 obtain ⟨hR, ms, rfl, ⟨es, hb, hborn, hes⟩, g2, g3⟩ := h
 have key : ∀ {E : Nat → kH} {W : World}, HF w W E → W.heap[b]? = some (.map es es.size) := fun h2 => (h2.keep b hR).trans hb
 have hkeys : ∀ {P : Program} {KT : Nat}, OP P KT enc ok → ∀ e ∈ es.toList, ∃ l, keyOf P KT e.key = some l := fun K e he => by
  have : (e.key, e.val) ∈ ms.map fun e => (enc e.k, e.hd) := by rw [← hes]; exact List.mem_map_of_mem (f := fun x : MapEntry => (x.key, x.val)) he
  obtain ⟨e', he', h3⟩ := List.mem_map.1 this
  have h4 : enc e'.k = e.key := congrArg Prod.fst h3
  rw [← h4]; exact K.key e'.k (g2 e' he').1
 rcases Lv k ms with ⟨q1, q2, _⟩ | ⟨a0, e, z, q1, q2, q3, q4, _⟩
 ·refine ⟨none, 0, by rw [q2]; exact Sl.nil _ _ _, ?_⟩
  intro P E W h2 ρ dd MT KT VT ty pos af g p q hMT K hz hp hq
  obtain ⟨kl, hkey⟩ := K.key k hr
  have hzr : (zeroValue VT).run P W = .ok (.slice none 0 0) W := by
   cases hi : P.info? VT with
   | none => rw [hi] at hz; cases hz
   | some inf =>
    rw [hi] at hz
    simp only [Option.bind_some] at hz
    simp [zeroValue, typeInfo, hi, hz]
  have main : (Instr.lookup MT (.map (some b)) (enc k) false).run P W = .ok (.slice none 0 0) W := by
   rcases K.kd.find W hkey es.toList (hkeys K) with ⟨f1, f2⟩ | ⟨j, e0, f1, f2, f3⟩
   ·simp [Instr.lookup, run_underlying hMT, MapKept.run_getObj_map (key h2), K.kd.check W _ hkey, f1, hzr, Result.andThen]
   ·have hin : (e0.key, e0.val) ∈ ms.map fun e => (enc e.k, e.hd) := by rw [← hes]; exact List.mem_map_of_mem (f := fun x : MapEntry => (x.key, x.val)) (List.mem_of_getElem? f2)
    obtain ⟨e', he', h3⟩ := List.mem_map.1 hin
    exact absurd (K.inj _ _ ((congrArg Prod.fst h3).trans f3)) (q1 e' he')
  rw [q2]
  simp [execOp, hp, hq, main]
 ·have heM : e ∈ ms := by rw [q1]; simp
  refine ⟨e.A, e.c, by rw [q4]; exact (g2 e heM).2, ?_⟩
  intro P E W h2 ρ dd MT KT VT ty pos af g p q hMT K hz hp hq
  obtain ⟨kl, hkey⟩ := K.key k hr
  have main : (Instr.lookup MT (.map (some b)) (enc k) false).run P W = .ok (.slice e.A e.l.length e.c) W := by
   rcases K.kd.find W hkey es.toList (hkeys K) with ⟨f1, f2⟩ | ⟨j, e0, f1, f2, f3⟩
   ·exfalso
    have : (enc e.k, e.hd) ∈ es.toList.map fun x => (x.key, x.val) := by rw [hes]; exact List.mem_map_of_mem (f := fun e : KE κ α => (enc e.k, e.hd)) heM
    obtain ⟨x0, hx0, h3⟩ := List.mem_map.1 this
    exact f2 x0 hx0 ((congrArg Prod.fst h3).trans (by show enc e.k = _; rw [q2]))
   ·have hin : (e0.key, e0.val) ∈ ms.map fun e => (enc e.k, e.hd) := by rw [← hes]; exact List.mem_map_of_mem (f := fun x : MapEntry => (x.key, x.val)) (List.mem_of_getElem? f2)
    obtain ⟨e', he', h3⟩ := List.mem_map.1 hin
    have hek : e'.k = e.k := (K.inj _ _ ((congrArg Prod.fst h3).trans f3)).trans q2.symm
    have : e' = e := by
     rw [q1] at he' g3
     obtain ⟨_, pw2, pw3⟩ := List.pairwise_append.1 g3
     obtain ⟨pw4, _⟩ := List.pairwise_cons.1 pw2
     rcases List.mem_append.1 he' with he' | he'
     ·exact absurd hek (pw3 e' he' e List.mem_cons_self)
     ·rcases List.mem_cons.1 he' with he' | he'
      ·exact he'
      ·exact absurd hek.symm (pw4 e' he')
    subst this
    have h5 : e'.hd = e0.val := congrArg Prod.snd h3
    simp [Instr.lookup, run_underlying hMT, MapKept.run_getObj_map (key h2), K.kd.check W _ hkey, f1, ← h5, KE.hd, Result.andThen]
  rw [q4]
  simp [execOp, hp, hq, main]
end
end Go.Proofs.YtcjeebkoafonpaaGreatDoor
