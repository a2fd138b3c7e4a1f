/- A region that draws its order, whose quiet operations float among operations that turn or make memory and wait for one another. Conditions: none beyond each theorem's own. Slices that are compared with nil. Conditions: none beyond each theorem's own. What holds from a base on; calls with parts handed over; cuts within regions; other names for parts. Conditions: none beyond each theorem's own. Front parts of slices; lengths that stay; a result in a variable of one cell. Conditions: none beyond each theorem's own. min and max of three. Over any program. Short words for the steps that come most. Over any program. Types whose values hold lists of themselves: how they lie, by depth. Conditions: none beyond each theorem's own. strings.Builder: a part of memory that holds a builder and the row of its bytes; WriteString, Len and String over the library's laid bodies. Over any program. Conditions: none beyond each theorem's own. The library's table of powers of ten, and the number that its search in strings reads, as facts of the base; strconv.Itoa at every number. Over any program. Conditions: none beyond each theorem's own. A slice of the call's own, one element of which is held by its cells: its inner slices may be parts of the call's own. Over any program. Conditions: none beyond each theorem's own. Parts of memory taken apart and put together; a map's block. Over any program. Conditions: none beyond each theorem's own. make of slices, maps from integers to integers, slices of slices all of which are the call's own. Over any program. Conditions: none beyond each theorem's own. A slice of slices, all of which are the call's own: one is taken out, appended to, and put back. Over any program. Conditions: none beyond each theorem's own. A literal that becomes a slice of the call's own, within a region that draws. A slice of the call's own whose elements have a slice of the call's own within. Over any program. Conditions: none beyond each theorem's own. Functions of the library over strings, over its proved contracts: Cut, Split, Trim, ContainsFunc, Join, Atoi. Over any program. Conditions: none beyond each theorem's own. A slice of pointers to variables of the call's own, each with a slice of the call's own within. Over any program. Conditions: none beyond each theorem's own. -/
import Derived.Test.YtokanbmnoghafaaGreatDoorJ1
import Derived.Lib.LazyBuf
import Derived.Shelf.Strings.Builder1
import Derived.Lib.FrozenHead
import Derived.Shelf.Strconv.Itoa3
import Derived.Maps.Keyed
import Derived.Carry
import Derived.Laws.MakeOwn
import Derived.Laws.OwnMore
import Derived.Shelf.Strings.Cut
import Derived.Shelf.Strings.Split
import Derived.Shelf.Strings.SlTrimAscii
import Derived.Shelf.Strings.FuncGrows
import Derived.Shelf.Strings.OnBuilder
import Derived.Shelf.Strconv.Atoi
import Derived.Lib.SmallJoins
namespace Go.Proofs.YtokanbmnoghafaaGreatDoor
open Go.RowKit
structure zAi (Y : Nat → Prop) (W W' : World) : Prop where
  os : W'.os = W.os
  tape : W'.tape = W.tape
  output : W'.output = W.output
  size : W.heap.size ≤ W'.heap.size
  block : ∀ b, b < W.heap.size → ¬ Y b → W'.heap[b]? = W.heap[b]?
  drawn : zd W ≤ zd W'
section
variable {W W' W'' : World} {Y Z : Nat → Prop}
theorem zAi.of_below (h : Below W.heap.size W W') : zAi Y W W' := ⟨h.os, h.tape, h.output, h.size, fun b hb _ => h.block b hb, h.drawn⟩
theorem zAi.below (h : zAi Y W W') (hY : ∀ b, ¬ Y b) : Below W.heap.size W W' := ⟨h.os, h.tape, h.output, h.size, fun b hb => h.block b hb (hY b), h.drawn⟩
theorem zAi.trans (h : zAi Y W W') (k : zAi Z W' W'') (hyz : ∀ b, Y b → Z b) : zAi Z W W'' :=
  ⟨k.os.trans h.os, k.tape.trans h.tape, k.output.trans h.output, Nat.le_trans h.size k.size, fun b hb hz => (k.block b (Nat.lt_of_lt_of_le hb h.size) hz).trans (h.block b hb (fun hy => hz (hyz b hy))), Nat.le_trans h.drawn k.drawn⟩
theorem zAi.refl (W : World) : zAi Y W W := ⟨rfl, rfl, rfl, Nat.le_refl _, fun _ _ _ => rfl, Nat.le_refl _⟩
end
theorem zJ1 {W W' W'' : World} (h : Below W.heap.size W W') (k : Below W'.heap.size W' W'') : Below W.heap.size W W'' := h.trans (k.mono h.size)
def NoX : Exit → Act → World → Prop := fun _ _ _ => False
section
variable {P : Program} {ops : Array Oper} {m : Nat} {Y : Nat → Nat → Prop} {L : Array Bool → Act → World → Prop}
def zA9 (P : Program) (ops : Array Oper) (m : Nat) (Y : Nat → Nat → Prop) (L : Array Bool → Act → World → Prop) : Nat → Array Bool → Act → World → Prop
  | 0, listed, a, W => ∀ W2, Below W.heap.size W W2 → L listed a W2
  | f + 1, listed, a, W => Region.ready .any ops listed ≠ [] ∧ ∀ i ∈ Region.ready .any ops listed, i < m ∧ ∀ W2, Below W.heap.size W W2 →
      wpOp P ops NoX i (fun a' W' => zAi (Y i) W2 W' ∧ zA9 P ops m Y L f (listed.setIfInBounds i true) a' W') a W2
theorem zA9.later : ∀ {f : Nat} {listed : Array Bool} {a : Act} {W W2 : World}, zA9 P ops m Y L f listed a W → Below W.heap.size W W2 → zA9 P ops m Y L f listed a W2
  | 0, _, _, _, _, h, hb => fun W3 h3 => h W3 (zJ1 hb h3)
  | _ + 1, _, _, _, _, h, hb => ⟨h.1, fun i hi => ⟨(h.2 i hi).1, fun W3 h3 => (h.2 i hi).2 W3 (zJ1 hb h3)⟩⟩
theorem wpOp_exits {Q Q' : Exit → Act → World → Prop} {i : Nat} {a : Act} {w : World} {K : Act → World → Prop} (hQ : ∀ e a w, Q e a w → Q' e a w) (hL : ¬ LetsOut Q) (hh : wpOp P ops Q i K a w) : wpOp P ops Q' i K a w := by
  unfold wpOp at *
  split
  · simpa [*] using hh
  · rename_i o ho
    simp only [ho] at hh
    split
    · rename_i hw
      simp only [hw, if_true] at hh
      rcases hh with hh | hh
      · left
        unfold Oper.wp at *
        generalize (execOp a.eval o).run P w = r at *
        cases r with
        | ok n w' =>
          cases n <;> simp only [Oper.upon] at hh ⊢ <;>
            first
              | exact hh
              | exact Calls.mono hh (fun e w'' he => by cases e <;> first | exact he | exact hQ _ _ _ he | exact absurd he hL)
              | exact Rows.mono hh (fun _ _ he => he)
        | halt x w' => cases x <;> simp only [Oper.upon] at hh ⊢ <;> first | exact hQ _ _ _ hh | exact hh
      · exact absurd hh.2 hL
    · rename_i hw; simp only [hw] at hh; simpa using hh
theorem noX_out : ¬ LetsOut NoX := by
  intro h
  unfold LetsOut NoX at h
  first | exact h | exact h _ _ | simp at h
theorem zA9.run {g : Nat} {Q : Exit → Act → World → Prop} (hL : ∀ listed a w, L listed a w → wpAny P .any ops Q g listed a w) :
    ∀ (f : Nat) (listed : Array Bool) (a : Act) (W : World), zA9 P ops m Y L f listed a W → wpAny P .any ops Q (f + g) listed a W
  | 0, listed, a, W, h => by rw [Nat.zero_add]; exact hL _ _ _ (h W (Below.refl _ _))
  | f + 1, listed, a, W, h => by
    rw [Nat.add_right_comm]
    exact ⟨fun e => absurd e h.1, fun i hi => wpOp_exits (Q := NoX) (fun _ _ _ h => h.elim) noX_out (wpOp_mono (fun a' W' hh => zA9.run hL f _ a' W' hh.2) ((h.2 i hi).2 W (Below.refl _ _)))⟩
theorem wpOp_putG {j : Nat} {oi oj : Oper} {v : Value} {Yp : Act → Prop} (hj : ops[j]? = some oj) (hap : oi.apart ops oj = true)
    (hsj : ∀ cs b, oj.op ≠ .select cs b) (keep : ∀ a u, Yp a → Yp (a.put oj.dst u)) (keepD : ∀ a d, Yp a → Yp { a with defers := d :: a.defers })
    {K : Act → World → Prop} {a : Act} {w : World} (hy : Yp a) (h : wpOp P ops NoX j K (a.put oi.dst v) w) :
    wpOp P ops NoX j (fun a' w' => Yp a' ∧ K (a'.put oi.dst v) w') a w := by
  obtain ⟨h1, h2, h3⟩ := Oper.apart_spec hap
  unfold wpOp at *
  simp only [hj] at *
  rw [wanted_put oj a oi.dst v h1] at h
  split
  · rename_i hw
    simp only [hw, if_true] at h
    rcases h with h | ⟨hasks, hlets⟩
    case inr => exact absurd hlets noX_out
    refine .inl ?_
    unfold Oper.wp at *
    rw [execOp_put oj hsj a oi.dst v h1] at h
    generalize (execOp a.eval oj).run P w = r at *
    cases r with
    | ok n w' =>
      cases n <;> simp only [Oper.upon] at h ⊢
      case value u => exact ⟨keep a u hy, by rw [← Act.put_comm a v u h2]; exact h⟩
      case skip => exact ⟨keep a _ hy, by rw [← Act.put_comm a v undef h2]; exact h⟩
      case defer d =>
        refine ⟨keep _ _ (keepD _ d hy), ?_⟩
        rw [← Act.put_comm _ v undef h2, ← Act.put_defers]
        exact h
      case enter f args =>
        refine Calls.mono h fun e w'' he => ?_
        cases e with
        | returned u => exact ⟨keep a u hy, by rw [← Act.put_comm a v u h2]; exact he⟩
        | panicked c => exact he.elim
        | outgrown => exact absurd he noX_out
      case row row args => exact Rows.mono h fun u w'' he => ⟨keep a u hy, by rw [← Act.put_comm a v u h2]; exact he⟩
    | halt x w' =>
      cases x <;> simp only [Oper.upon] at h ⊢
      case panic u => exact h.elim
  · rename_i hw
    simp only [hw] at h
    exact ⟨keep a _ hy, by rw [← Act.put_comm a v undef h2]; exact h⟩
theorem zA9.first {i : Nat} {oi : Oper} {v : Value} {Z : Nat → Prop} (hi : ops[i]? = some oi) (hsel : Region.noSelect ops = true) (hs : m = ops.size ∨ Region.sinkB .any ops m = true ∧ Region.chainB .any ops m = true)
    (him : i < m) (hdone : ∀ listed a W, L listed a W → ∀ j ∈ Region.ready .any ops listed, m ≤ j) :
    ∀ (f : Nat) (listed : Array Bool) (a : Act) (W : World), HeadInv .any ops m listed → i ∈ Region.ready .any ops listed →
      (∀ W', zAi Z W W' → YieldsIn P ops (fun W'' => Below W'.heap.size W' W'') oi v a) →
      (∀ j oj, ops[j]? = some oj → j ≠ i → listed.getD j true = false → (∀ e ∈ oj.after, Region.binds .any e = true → e.on ≠ i) → oi.apart ops oj = true ∧ ∀ b, Y j b → Z b) →
      zA9 P ops m Y L f (listed.setIfInBounds i true) (a.put oi.dst v) W → zA9 P ops m Y L (f + 1) listed a W := by
  have nosel := Region.noSelect_spec hsel
  have hsz : ∀ {listed : Array Bool} {j : Nat}, j ∈ Region.ready .any ops listed → j < ops.size := fun hj => by
    obtain ⟨_, _, h, _⟩ := mem_ready.1 hj
    exact (Array.getElem?_eq_some_iff.1 h).1
  intro f
  induction f with
  | zero =>
    intro listed a W inv hr hy _ H
    refine ⟨fun e => (by rw [e] at hr; cases hr), fun j hj => ?_⟩
    have hjn : j < m := Nat.lt_of_not_le fun h => hs.elim (fun e => by have := hsz hj; omega) (fun ⟨hs, hc⟩ => tail_waits hs hc (Nat.lt_of_le_of_lt h (hsz hj)) inv _ i rfl him (mem_ready.1 hr).1 j h hj)
    by_cases e : j = i
    · subst e
      exact ⟨hjn, fun W2 h2 => wpOp_of_qOp (C := fun W'' => Below W2.heap.size W2 W'') (Below.refl _ _) (fun a' W' hb (hh : zA9 P ops m Y L 0 _ a' W2) => ⟨zAi.of_below hb, hh.later hb⟩) ((hy W2 (zAi.of_below h2)).qOp hi (H.later h2))⟩
    · exact absurd (hdone _ _ _ (H W (Below.refl _ _)) j (ready_mono hj e)) (by omega)
  | succ f ih =>
    intro listed a W inv hr hy hfree H
    refine ⟨fun e => (by rw [e] at hr; cases hr), fun j hj => ?_⟩
    have hjn : j < m := Nat.lt_of_not_le fun h => hs.elim (fun e => by have := hsz hj; omega) (fun ⟨hs, hc⟩ => tail_waits hs hc (Nat.lt_of_le_of_lt h (hsz hj)) inv _ i rfl him (mem_ready.1 hr).1 j h hj)
    by_cases e : j = i
    · subst e
      exact ⟨hjn, fun W2 h2 => wpOp_of_qOp (C := fun W'' => Below W2.heap.size W2 W'') (Below.refl _ _) (fun a' W' hb (hh : zA9 P ops m Y L (f + 1) _ a' W2) => ⟨zAi.of_below hb, hh.later hb⟩) ((hy W2 (zAi.of_below h2)).qOp hi (H.later h2))⟩
    refine ⟨hjn, fun W2 h2 => ?_⟩
    obtain ⟨hun, oj, hoj, hall⟩ := mem_ready.1 hj
    have hnw : ∀ x ∈ oj.after, Region.binds .any x = true → x.on ≠ i := fun x hx hb he => by
      have h1 := hall x hx hb
      rw [he, getD_both (mem_ready.1 hr).1] at h1
      cases h1
    obtain ⟨hap, hYZ⟩ := hfree j oj hoj e hun hnw
    obtain ⟨_, _, h3⟩ := Oper.apart_spec hap
    have hq := wpOp_putG (Yp := fun a' => ∀ W', zAi Z W W' → YieldsIn P ops (fun W'' => Below W'.heap.size W' W'') oi v a') hoj hap (fun cs b => nosel j oj cs b hoj)
      (fun a u hh W' hW' => (hh W' hW').of_same (execOp_put oi (fun cs b => nosel i oi cs b hi) a oj.dst u h3) (wanted_put oi a oj.dst u h3)) (fun a d hh W' hW' => (hh W' hW').of_same rfl rfl) hy ((H.2 j (ready_mono hj e)).2 W2 h2)
    refine wpOp_mono (fun a' W' ⟨hy', hk, hK⟩ => ⟨hk, ih (listed.setIfInBounds j true) a' W' (inv.set hj hjn) (ready_mono hr (Ne.symm e)) (fun W3 h3 => hy' W3 (((zAi.of_below (Y := fun _ => False) h2).trans hk (fun _ hf => hf.elim)).trans h3 hYZ)) (fun k ok hk' hki hkun hno => ?_) ?_⟩) hq
    · refine hfree k ok hk' hki ?_ hno
      by_cases ejk : j = k
      · subst ejk; exact hun
      · rw [getD_set_ne true ejk] at hkun; exact hkun
    · rw [Array.setIfInBounds_comm _ _ e]; exact hK
end
def LT (P : Program) (l : List Oper) (m : Nat) (Q : Exit → Act → World → Prop) : Array Bool → Act → World → Prop :=
  fun listed a W => Region.seqB .any l.toArray (l.length - m) m listed = true ∧ wpList P l.toArray Q (l.drop m) a W
structure Tn where
  ys : List (Nat × (Nat → Prop))
  zs : List Nat
  s0 : Nat
def Tn.Y (t : Tn) (j b : Nat) : Prop := (∃ p ∈ t.ys, p.1 = j ∧ p.2 b) ∨ (j ∈ t.zs ∧ t.s0 ≤ b)
def cutB (l : List Oper) (m : Nat) : Bool := Region.noSelect l.toArray && (decide (m = l.length) || (decide (m < l.length) && Region.sinkB .any l.toArray m && Region.chainB .any l.toArray m))
def qB (l : List Oper) (m i : Nat) (listed : Array Bool) (ks : List Nat) : Bool :=
  decide (i < m) && (Region.ready .any l.toArray listed).contains i && Region.free .any l.toArray listed i &&
  ks.all fun j => j == i || listed.getD j true || match l[j]? with
    | some oj => oj.after.any fun e => Region.binds .any e && e.on == i
    | none => true
def eB (l : List Oper) (m i : Nat) (listed : Array Bool) : Bool := decide (i < m) && decide (Region.ready .any l.toArray listed = [i])
def eB2 (l : List Oper) (m i j : Nat) (listed : Array Bool) : Bool := decide (i < m) && decide (j < m) && decide (Region.ready .any l.toArray listed = [i, j])
def Dr (P : Program) (w : Bs) (n : Nat) (l : List Oper) (m : Nat) (t : Tn) (Q : Exit → Act → World → Prop) (fu : Nat) (listed : Array Bool) (f : Nat → Option Value) (E : Nat → Ent) : Prop :=
  HeadInv .any l.toArray m listed → Tr w n f E (fun a W => t.s0 ≤ W.heap.size → zA9 P l.toArray m t.Y (LT P l m Q) fu listed a W)
def St (P : Program) (w : Bs) (n : Nat) (l : List Oper) (m : Nat) (t : Tn) (Q : Exit → Act → World → Prop) (fu : Nat) (listed : Array Bool) (f : Nat → Option Value) (E : Nat → Ent) (i : Nat) : Prop :=
  HeadInv .any l.toArray m (listed.setIfInBounds i true) → Tr w n f E (fun a W => t.s0 ≤ W.heap.size → wpOp P l.toArray NoX i (fun a' W' => zAi (t.Y i) W W' ∧ zA9 P l.toArray m t.Y (LT P l m Q) fu (listed.setIfInBounds i true) a' W') a W)
section
variable {P : Program} {w : Bs} {n : Nat} {f : Nat → Option Value} {E : Nat → Ent} {l : List Oper} {m : Nat} {t : Tn} {Q : Exit → Act → World → Prop} {fu : Nat} {listed : Array Bool}
theorem Tr.zJw {id : Nat} (m : Nat) (ys : List (Nat × (Nat → Prop))) (zs : List Nat) (hm : P.follows .mixedOrders = true) (hB : cutB l m = true)
    (h : ∀ s0, w.W.heap.size ≤ s0 → (∀ k b, (E k).S b → b < s0) → Dr P w n l m ⟨ys, zs, s0⟩ Q m (Array.replicate l.length false) f E) : Tr w n f E ((Code.region id l.toArray true).wp P Q) := by
  intro a W0 h1 h2
  simp only [cutB, Bool.and_eq_true, Bool.or_eq_true, decide_eq_true_eq] at hB
  obtain ⟨hsel, hT⟩ := hB
  have hn : m ≤ l.length := hT.elim (fun h => Nat.le_of_eq h) (fun h => Nat.le_of_lt h.1.1)
  have inv0 : HeadInv .any l.toArray m (Array.replicate l.length false) :=
    ⟨by simp, fun j oj _ hl => (by rw [getD_replicate_false] at hl; cases hl), fun t _ ht => getD_in (by simpa using ht) (getD_replicate_false _ _)⟩
  have hb0 : Below W0.heap.size W0 { W0 with drawn := W0.drawn + 1 } := ⟨rfl, rfl, rfl, Nat.le_refl _, fun _ _ => rfl, by simp⟩
  have H := zA9.run (g := l.length - m) (Q := Q) (fun listed a w ⟨k1, k2⟩ => by
    have hdl : (l.drop m).length = l.length - m := by simp
    have := wpAny_of_seq (md := .any) (P := P) (ops := l.toArray) (Q' := Q) (l.drop m) m listed a w (fun j => by simp [List.getElem?_drop]) (by rw [hdl]; exact k1) k2
    rwa [hdl] at this) m _ a _ ((h W0.heap.size h2.size (fun k b hb => (h2.bd k b hb).2) inv0 a W0 h1 h2 (Nat.le_refl _)).later hb0)
  rw [show m + (l.length - m) = l.length by omega] at H
  exact wp_region_any hm (by simpa using H)
theorem Dr.tail (hB : Region.seqB .any l.toArray (l.length - m) m listed = true) (h : Tr w n f E (wpList P l.toArray Q (l.drop m))) : Dr P w n l m t Q 0 listed f E :=
  fun _ a _ h1 h2 _ W2 hb => ⟨hB, h a W2 h1 (h2.later hb)⟩
theorem Dr.use {listed' : Array Bool} {lf : List (Nat × Value)} {le : List (Nat × Ent)} (h : Dr P w n l m t Q fu listed' (LF lf) (LE le)) (hl : listed = listed') (hf : zGC f lf) (he : zFH E le) : Dr P w n l m t Q fu listed f E := by
  subst hl
  exact fun inv a W h1 h2 => h inv a W (h1.sel hf) (h2.sel he)
theorem Dr.zAl {o : Oper} {d : Nat} {v : Value} {Em : Nat → Ent} (i : Nat) (fs : List (Nat × Value)) (fl : List Nat) (fz : Bool) (hC : cutB l m = true) (hi : l[i]? = some o) (hd : o.dst = some d) (hB : qB l m i listed ((t.ys.map (·.1)).filter (fun j => !fl.contains j) ++ (if fz = true then [] else t.zs)) = true)
    (hE : ∀ W W', HF w W E → t.s0 ≤ W.heap.size → zAi (fun b => (∃ p ∈ t.ys, p.1 ∈ fl ∧ p.2 b) ∨ (fz = true ∧ t.s0 ≤ b)) W W' → HF w W' Em)
    (h : Tq P w n l.toArray f Em (fun a _ => FR n (LF fs) a) [o]) (hv : LF fs d = some v) (hdn : Nat.blt d n = true) (K : Dr P w n l m t Q fu (listed.setIfInBounds i true) (uf f d v) E) : Dr P w n l m t Q (fu + 1) listed f E := by
  intro inv a W h1 h2 hs0
  simp only [cutB, Bool.and_eq_true, Bool.or_eq_true, decide_eq_true_eq] at hC
  obtain ⟨hsel, hT⟩ := hC
  have hs : m = l.toArray.size ∨ Region.sinkB .any l.toArray m = true ∧ Region.chainB .any l.toArray m = true := hT.imp (fun h => by simpa using h) (fun h => ⟨h.1.2, h.2⟩)
  simp only [qB, Bool.and_eq_true, decide_eq_true_eq] at hB
  obtain ⟨⟨⟨him, hr⟩, hfr⟩, hks⟩ := hB
  have hr : i ∈ Region.ready .any l.toArray listed := by simpa using hr
  have hi' : (l.toArray)[i]? = some o := by simpa using hi
  have hlt := Nat.le_of_ble_eq_true hdn
  have hyl : ∀ W', zAi (fun b => (∃ p ∈ t.ys, p.1 ∈ fl ∧ p.2 b) ∨ (fz = true ∧ t.s0 ≤ b)) W W' → YieldsIn P l.toArray (fun W'' => Below W'.heap.size W' W'') o v a := fun W' hk => by
    have hq := h a W' h1 (hE W W' h2 hs0 hk)
    obtain ⟨v', hy, hK'⟩ := yieldsIn_of_qOp (K := fun a => ∀ W2, Below W'.heap.size W' W2 → FR n (LF fs) a) hi' (show qOp P l.toArray _ i _ a by unfold qOp; simp only [hi']; simpa [wpQuiet] using hq)
    have hK := hK' W' (Below.refl _ _)
    have : v' = v := by
      have h3 := hK.get d v hv
      rw [hd, zFe (by rw [h1.size]; exact hlt)] at h3
      exact Option.some.inj h3
    rw [← this]; exact hy
  refine zA9.first (oi := o) (v := v) (Z := fun b => (∃ p ∈ t.ys, p.1 ∈ fl ∧ p.2 b) ∨ (fz = true ∧ t.s0 ≤ b)) hi' hsel hs him (fun _ _ _ hL => seqB_ready hL.1) fu listed a W inv hr hyl (fun j oj hj hji hun hno => ⟨Region.free_spec hi' hfr j oj hj hji hun hno, fun b hb => ?_⟩) ?_
  · have hwaits : ∀ ks : List Nat, (∀ x ∈ ks, x ∈ (t.ys.map (·.1)).filter (fun j => !fl.contains j) ++ (if fz = true then [] else t.zs)) → j ∈ ks → False := fun ks hsub hmem => by
      have := List.all_eq_true.1 hks j (hsub j hmem)
      have hj' : l[j]? = some oj := by simpa using hj
      rw [hj'] at this
      simp only [Bool.or_eq_true, beq_iff_eq, hji, false_or, hun, Bool.false_eq_true] at this
      obtain ⟨e, he, hb2⟩ := Array.any_eq_true'.1 this
      simp only [Bool.and_eq_true, beq_iff_eq] at hb2
      exact hno e he hb2.1 hb2.2
    rcases hb with ⟨p, hp, rfl, hb⟩ | ⟨hjz, hb⟩
    · by_cases hjf : p.1 ∈ fl
      · exact .inl ⟨p, hp, hjf, hb⟩
      · exact (hwaits [p.1] (fun x hx => by
          simp at hx; subst hx
          exact List.mem_append_left _ (List.mem_filter.2 ⟨List.mem_map.2 ⟨_, hp, rfl⟩, by simpa using hjf⟩)) (by simp)).elim
    · cases hfz : fz with
      | true => exact .inr ⟨rfl, hb⟩
      | false => exact (hwaits [j] (fun x hx => by
          simp at hx; subst hx
          exact List.mem_append_right _ (by rw [hfz]; simpa using hjz)) (by simp)).elim
  · rw [hd]
    exact K (inv.set hr him) _ W (h1.put hlt v) h2 hs0
theorem Dr.quiet {o : Oper} {d : Nat} {v : Value} (i : Nat) (fs : List (Nat × Value)) (hC : cutB l m = true) (hi : l[i]? = some o) (hd : o.dst = some d) (hB : qB l m i listed (t.ys.map (·.1) ++ t.zs) = true)
    (h : Tq P w n l.toArray f E (fun a _ => FR n (LF fs) a) [o]) (hv : LF fs d = some v) (hdn : Nat.blt d n = true) (K : Dr P w n l m t Q fu (listed.setIfInBounds i true) (uf f d v) E) : Dr P w n l m t Q (fu + 1) listed f E :=
  Dr.zAl i fs [] false hC hi hd (by
    have e : (t.ys.map (·.1)).filter (fun j => !([] : List Nat).contains j) = t.ys.map (·.1) := List.filter_eq_self.2 (fun _ _ => by simp)
    rw [e]; exact hB) (fun W W' h2 _ hk => h2.later (hk.below (fun b hb => by rcases hb with ⟨_, _, hj, _⟩ | ⟨hj, _⟩ <;> cases hj))) h hv hdn K
theorem Dr.Jb {o : Oper} {d : Nat} {v : Value} (i : Nat) (hC : cutB l m = true) (hi : l[i]? = some o) (hw : Wn l.toArray f o) (hd : o.dst = some d) (hB : qB l m i listed [] = true) (hr : ∀ (a : Act) (W : World), FR n f a → (execOp a.eval o).run P W = .ok (.value v) W)
    (hdn : Nat.blt d n = true) (K : Dr P w n l m t Q fu (listed.setIfInBounds i true) (uf f d v) E) : Dr P w n l m t Q (fu + 1) listed f E := by
  intro inv a W h1 h2 hs0
  simp only [cutB, Bool.and_eq_true, Bool.or_eq_true, decide_eq_true_eq] at hC
  obtain ⟨hsel, hT⟩ := hC
  have hs : m = l.toArray.size ∨ Region.sinkB .any l.toArray m = true ∧ Region.chainB .any l.toArray m = true := hT.imp (fun h => by simpa using h) (fun h => ⟨h.1.2, h.2⟩)
  simp only [qB, Bool.and_eq_true, decide_eq_true_eq] at hB
  obtain ⟨⟨⟨him, hrd⟩, hfr⟩, _⟩ := hB
  have hrd : i ∈ Region.ready .any l.toArray listed := by simpa using hrd
  have hi' : (l.toArray)[i]? = some o := by simpa using hi
  have hyl : ∀ W', zAi (fun _ => True) W W' → YieldsIn P l.toArray (fun W'' => Below W'.heap.size W' W'') o v a := fun W' _ => .inl ⟨hw n a h1, fun W'' _ => by
    unfold Oper.quietAt
    rw [hr a W'' h1]
    exact ⟨rfl, rfl⟩⟩
  refine zA9.first (oi := o) (v := v) (Z := fun _ => True) hi' hsel hs him (fun _ _ _ hL => seqB_ready hL.1) fu listed a W inv hrd hyl (fun j oj hj hji hun hno => ⟨Region.free_spec hi' hfr j oj hj hji hun hno, fun b hb => trivial⟩) ?_
  rw [hd]
  exact K (inv.set hrd him) _ W (h1.put (Nat.le_of_ble_eq_true hdn) v) h2 hs0
theorem HF.zCx {W W' : World} {le : List (Nat × Ent)} {ks : List (Nat × (Nat → Prop))} {Z : Nat → Prop} {s0 : Nat} (fz : Bool) (h : HF w W E) (hk : zAi Z W W') (hlo : fz = true → w.W.heap.size ≤ s0) (hE : zFH E le) (hz : ∀ b, Z b → (∃ p ∈ ks, p.2 b) ∨ (fz = true ∧ s0 ≤ b ∧ ∀ p ∈ le, ∀ b, p.2.S b → b < s0)) (hks : ∀ p ∈ ks, ∀ b, p.2 b → (E p.1).S b) (hdis : (le.all fun p => ks.all fun q => p.1 != q.1) = true) : HF w W' (LE le) := by
  have hcases : ∀ k, (LE le k = E k ∧ (∀ q ∈ ks, k ≠ q.1) ∧ ∃ p ∈ le, p.2 = E k) ∨ LE le k = emp := by
    intro k
    clear hz hks hk h
    induction le with
    | nil => exact .inr rfl
    | cons p le ih =>
      obtain ⟨k', e⟩ := p
      simp only [List.all_cons, Bool.and_eq_true] at hdis
      unfold LE
      rcases QJ (LE le) k' e k with ⟨h1, h2⟩ | ⟨_, h2⟩ <;> rw [h2]
      · subst h1
        refine .inl ⟨hE.1.symm, fun q hq => ?_, ⟨_, List.mem_cons_self, hE.1.symm⟩⟩
        have := List.all_eq_true.1 hdis.1 q hq
        simpa using this
      · rcases ih hE.2 hdis.2 with ⟨a1, a2, p, a3, a4⟩ | a
        · exact .inl ⟨a1, a2, p, List.mem_cons_of_mem _ a3, a4⟩
        · exact .inr a
  have hsame : ∀ k b, (∀ q ∈ ks, k ≠ q.1) → (∃ p ∈ le, p.2 = E k) → (E k).S b → W'.heap[b]? = W.heap[b]? := fun k b hne ⟨p0, hp0, hpe⟩ hs => hk.block b (h.bd k b hs).2 (fun hzb => by
    rcases hz b hzb with ⟨p, hp, hpb⟩ | ⟨_, hb, hle⟩
    · exact h.disj k p.1 b (hne p hp) hs (hks p hp b hpb)
    · have := hle p0 hp0 b (by rw [hpe]; exact hs)
      omega)
  have hold : ∀ b, w.R b → W'.heap[b]? = W.heap[b]? := fun b hb => hk.block b (h.rlt hb) (fun hzb => by
    rcases hz b hzb with ⟨p, hp, hpb⟩ | ⟨hf, hb', _⟩
    · exact (h.bd p.1 b (hks p hp b hpb)).1 hb
    · have := w.lt b hb
      have := hlo hf
      omega)
  refine ⟨hk.os.trans h.os, hk.tape.trans h.tape, hk.output.trans h.output, Nat.le_trans h.size hk.size, Nat.le_trans h.drawn hk.drawn, fun b hb => (hold b hb).trans (h.keep b hb), fun k => ?_, fun k => ?_, fun k b => ?_, fun i j b hij => ?_⟩
  · rcases hcases k with ⟨e, hne, hp⟩ | e <;> rw [e]
    · exact (h.loc k).at_ _ W W' (fun b hb => by
        rcases hb with hb | hb
        · exact hold b (.inl hb)
        · exact hsame k b hne hp hb) (h.phi k)
    · trivial
  · rcases hcases k with ⟨e, _⟩ | e <;> rw [e]
    · exact h.loc k
    · exact zBz
  · rcases hcases k with ⟨e, _⟩ | e <;> rw [e]
    · exact fun hs => ⟨(h.bd k b hs).1, Nat.lt_of_lt_of_le (h.bd k b hs).2 hk.size⟩
    · exact fun hh => hh.elim
  · rcases hcases i with ⟨e, _⟩ | e <;> rcases hcases j with ⟨e', _⟩ | e' <;> rw [e, e']
    · exact h.disj i j b hij
    · exact fun _ hh => hh.elim
    · exact fun hh => hh.elim
    · exact fun hh => hh.elim
theorem zEz {i : Nat} (h : St P w n l m t Q fu listed f E i) (inv : HeadInv .any l.toArray m (listed.setIfInBounds i true)) {a : Act} {W : World} (h1 : FR n f a) (h2 : HF w W E) (hs : t.s0 ≤ W.heap.size) :
    ∀ W2, Below W.heap.size W W2 → wpOp P l.toArray NoX i (fun a' W' => zAi (t.Y i) W2 W' ∧ zA9 P l.toArray m t.Y (LT P l m Q) fu (listed.setIfInBounds i true) a' W') a W2 :=
  fun W2 hb => h inv a W2 h1 (h2.later hb) (Nat.le_trans hs hb.size)
theorem Dr.one (i : Nat) (hB : eB l m i listed = true) (h : St P w n l m t Q fu listed f E i) : Dr P w n l m t Q (fu + 1) listed f E := by
  intro inv a W h1 h2 hs
  simp only [eB, Bool.and_eq_true, decide_eq_true_eq] at hB
  have hr : i ∈ Region.ready .any l.toArray listed := by rw [hB.2]; simp
  refine ⟨by rw [hB.2]; simp, fun j hj => ?_⟩
  rw [hB.2] at hj
  have : j = i := by simpa using hj
  subst this
  exact ⟨hB.1, zEz h (inv.set hr hB.1) h1 h2 hs⟩
theorem Dr.pair (i j : Nat) (hB : eB2 l m i j listed = true) (h1 : St P w n l m t Q fu listed f E i) (h2 : St P w n l m t Q fu listed f E j) : Dr P w n l m t Q (fu + 1) listed f E := by
  intro inv a W k1 k2 hs
  simp only [eB2, Bool.and_eq_true, decide_eq_true_eq] at hB
  have hri : i ∈ Region.ready .any l.toArray listed := by rw [hB.2]; simp
  have hrj : j ∈ Region.ready .any l.toArray listed := by rw [hB.2]; simp
  refine ⟨by rw [hB.2]; simp, fun x hx => ?_⟩
  rw [hB.2] at hx
  have : x = i ∨ x = j := by simpa using hx
  rcases this with rfl | rfl
  · exact ⟨hB.1.1, zEz h1 (inv.set hri hB.1.1) k1 k2 hs⟩
  · exact ⟨hB.1.2, zEz h2 (inv.set hrj hB.1.2) k1 k2 hs⟩
def lst : List Nat → Array Bool → Array Bool
  | [], a => a
  | i :: l, a => lst l (a.setIfInBounds i true)
theorem Dr.cut {U : Type} (is : List Nat) (fu2 : Nat) (Φ : U → Prop) (lf : U → List (Nat × Value)) (le : U → List (Nat × Ent)) (h : (∀ u, Φ u → Dr P w n l m t Q fu2 (lst is listed) (LF (lf u)) (LE (le u))) → Dr P w n l m t Q fu listed f E)
    (C : ∀ u, Φ u → Dr P w n l m t Q fu2 (lst is listed) (LF (lf u)) (LE (le u))) : Dr P w n l m t Q fu listed f E := h C
theorem St.eff {o : Oper} (i : Nat) (hi : l[i]? = some o) (hw : Wn l.toArray f o) {f' : Nat → Option Value} {E' : Nat → Ent}
    (h : ∀ a W, FR n f a → HF w W E → ∀ K : Act → World → Prop, (∀ a' W', FR n f' a' → HF w W' E' → zAi (t.Y i) W W' → K a' W') → o.wp P a W K NoX)
    (K : Dr P w n l m t Q fu (listed.setIfInBounds i true) f' E') : St P w n l m t Q fu listed f E i := by
  intro inv a W h1 h2 hs
  have hi' : (l.toArray)[i]? = some o := by simpa using hi
  unfold wpOp
  simp only [hi', hw n a h1, if_true]
  exact .inl (h a W h1 h2 _ (fun a' W' k1 k2 k3 => ⟨k3, K inv a' W' k1 k2 (Nat.le_trans hs k3.size)⟩))
theorem St.effU {U : Type} {o : Oper} (i : Nat) (hi : l[i]? = some o) (hw : Wn l.toArray f o) (Φ : U → Prop) {f' : U → Nat → Option Value} {E' : U → Nat → Ent}
    (h : ∀ a W, FR n f a → HF w W E → t.s0 ≤ W.heap.size → ∀ K : Act → World → Prop, (∀ u a' W', Φ u → FR n (f' u) a' → HF w W' (E' u) → zAi (t.Y i) W W' → K a' W') → o.wp P a W K NoX)
    (K : ∀ u, Φ u → Dr P w n l m t Q fu (listed.setIfInBounds i true) (f' u) (E' u)) : St P w n l m t Q fu listed f E i := by
  intro inv a W h1 h2 hs
  have hi' : (l.toArray)[i]? = some o := by simpa using hi
  unfold wpOp
  simp only [hi', hw n a h1, if_true]
  exact .inl (h a W h1 h2 hs _ (fun u a' W' k0 k1 k2 k3 => ⟨k3, K u k0 inv a' W' k1 k2 (Nat.le_trans hs k3.size)⟩))
variable {d ty T T' : Nat} {pos : String} {af : Array Edge} {g : Option (Nat × Bool)} {p q : Operand} {u v : Value}
theorem St.alloc (i κ : Nat) {cs : List Value} (hi : l[i]? = some ⟨some d, .alloc T, ty, pos, af, g⟩) (hw : Wn l.toArray f ⟨some d, .alloc T, ty, pos, af, g⟩) (hdn : Nat.blt d n = true) (hz : zeroOf P T = some cs)
    (K : ∀ b, t.s0 ≤ b → Dr P w n l m t Q fu (listed.setIfInBounds i true) (uf f d (.pointer (some ⟨b, 0, none⟩))) (up E κ (bx b cs.toArray T))) : St P w n l m t Q fu listed f E i :=
  St.effU (U := Nat) i hi hw (t.s0 ≤ ·) (fun a W h1 h2 hs K' hK => by
    unfold Oper.wp
    rw [zGW hz]
    exact hK W.heap.size _ _ hs (h1.put (Nat.le_of_ble_eq_true hdn) _) (h2.alloc κ cs.toArray T) (zAi.of_below ((Below.refl _ _).alloc (Nat.le_refl _) _))) K
theorem St.box (i κ : Nat) {cs : List Value} (hi : l[i]? = some ⟨some d, .box T p, ty, pos, af, g⟩) (hw : Wn l.toArray f ⟨some d, .box T p, ty, pos, af, g⟩) (hdn : Nat.blt d n = true) (hp : ev f p = some v) (hc : v.cells = cs.toArray)
    (K : ∀ b, t.s0 ≤ b → Dr P w n l m t Q fu (listed.setIfInBounds i true) (uf f d (.pointer (some ⟨b, 0, none⟩))) (up E κ (bx b cs.toArray T))) : St P w n l m t Q fu listed f E i :=
  St.effU (U := Nat) i hi hw (t.s0 ≤ ·) (fun a W h1 h2 hs K' hK => by
    unfold Oper.wp
    rw [run_box (h1.ev hp) hc]
    exact hK W.heap.size _ _ hs (h1.put (Nat.le_of_ble_eq_true hdn) _) (h2.alloc κ cs.toArray T) (zAi.of_below ((Below.refl _ _).alloc (Nat.le_refl _) _))) K
theorem St.buildSlice (i κ : Nat) {len e : Nat} {ps : List (Nat × Operand)} {vs : List (Nat × Value)} {cs : List Value} (hi : l[i]? = some ⟨some d, .buildSlice T len ps.toArray, ty, pos, af, g⟩) (hw : Wn l.toArray f ⟨some d, .buildSlice T len ps.toArray, ty, pos, af, g⟩) (hdn : Nat.blt d n = true)
    (hv : evs f ps vs) (hb : zCE P T len vs = some (e, cs))
    (K : ∀ b, t.s0 ≤ b → Dr P w n l m t Q fu (listed.setIfInBounds i true) (uf f d (.slice (some ⟨b, 0, none⟩) len len)) (up E κ (bx b cs.toArray e))) : St P w n l m t Q fu listed f E i :=
  St.effU (U := Nat) i hi hw (t.s0 ≤ ·) (fun a W h1 h2 hs K' hK => by
    unfold Oper.wp
    rw [run_buildSlice (zIq hv a h1) hb]
    exact hK W.heap.size _ _ hs (h1.put (Nat.le_of_ble_eq_true hdn) _) (h2.alloc κ cs.toArray e) (zAi.of_below ((Below.refl _ _).alloc (Nat.le_refl _) _))) K
theorem St.store (i κ : Nat) {b o T2 : Nat} {vs cs : List Value} (vs' : List Value) (hi : l[i]? = some ⟨none, .store T p q, ty, pos, af, g⟩) (hw : Wn l.toArray f ⟨none, .store T p q, ty, pos, af, g⟩) (hy : t.Y i b)
    (hp : ev f p = some (.pointer (some ⟨b, o, none⟩))) (hq : ev f q = some v) (hv : v.cells = cs.toArray)
    (hk : E κ = bx b vs.toArray T2) (hs : Vt P T = some cs.length) (hfit : Nat.ble (o + cs.length) vs.length = true) (h1 : cs.all (·.oneCell') = true) (hvs : vs.take o ++ cs ++ vs.drop (o + cs.length) = vs')
    (K : Dr P w n l m t Q fu (listed.setIfInBounds i true) f (up E κ (bx b vs'.toArray T2))) : St P w n l m t Q fu listed f E i :=
  St.eff i hi hw (fun a W k1 k2 K' hK => by
    unfold Oper.wp
    rw [run_store hs (k1.ev hp) (k1.ev hq) hv (k2.bx hk) hfit h1, hvs]
    refine hK _ _ k1 (k2.setRow hk vs'.toArray) ⟨rfl, rfl, rfl, by simp [World.setRow], fun x hx hne => ?_, Nat.le_refl _⟩
    have hbx : ¬ b = x := fun e => hne (e ▸ hy)
    simp only [World.setRow, Array.getElem?_modify]
    rw [if_neg hbx]) K
theorem St.zHY {α : Type} (i κ : Nat) {A : Option Addr} {c e fo o : Nat} {ix : Int} {t' : Fl α} {ll l' : List α} {x : α} (x' : α) {cs : List Value} (hY : ∀ b, (ow A c e t' ll).S b → t.Y i b) (hi : l[i]? = some ⟨none, .store T p q, ty, pos, af, g⟩) (hw : Wn l.toArray f ⟨none, .store T p q, ty, pos, af, g⟩)
    (hp : ev f p = some (.pointer (some ⟨adB A, o, none⟩))) (hq : ev f q = some v) (hv : v.cells = cs.toArray) (ho : o = adO A + ix.toNat * t'.sz + fo) (hk : E κ = ow A c e t' ll) (hx : ll[ix.toNat]? = some x) (hs : Vt P T = some cs.length) (h1 : cs.all (·.oneCell') = true)
    (hup : ∀ u, t'.ok w.O w.W u x → ∃ u', t'.ok w.O w.W u' x' ∧ t'.enc u' x' = (t'.enc u x).take fo ++ cs ++ (t'.enc u x).drop (fo + cs.length)) (hfit : Nat.ble (fo + cs.length) t'.sz = true) (hset : sets ll ix x' = some l')
    (K : Dr P w n l m t Q fu (listed.setIfInBounds i true) f (up E κ (ow A c e t' l'))) : St P w n l m t Q fu listed f E i :=
  St.eff i hi hw (fun a W k1 k2 K' hK => by
    subst ho
    have hA := (k2.sl hk).form.2.2 (by have := (List.getElem?_eq_some_iff.1 hx).1; omega)
    obtain ⟨vs, hh, hle, hnew⟩ := set_el κ k2 hk hx hup (Nat.le_of_ble_eq_true hfit)
    rw [zGT hset] at hnew
    unfold Oper.wp
    rw [run_store hs (k1.ev hp) (k1.ev hq) hv hh (Nat.ble_eq_true_of_le hle) h1]
    refine hK _ _ k1 hnew ⟨rfl, rfl, rfl, by simp [World.setRow], fun b hb hne => ?_, Nat.le_refl _⟩
    have hbx : ¬ adB A = b := fun e => hne (hY b (by
      show (Value.slice A ll.length c).ownBlock = some b
      rw [hA, ← e]; rfl))
    simp only [World.setRow, Array.getElem?_modify]
    rw [if_neg hbx]) K
theorem St.freeze {α : Type} {i : Nat} (κ : Nat) {A : Option Addr} {c T : Nat} {t' : Fl α} {ll : List α} (hk : E κ = ow A c T t' ll) (K : ∀ w', w.Le w' → Sl w'.O w'.W t' A c ll → St P w' n l m t Q fu listed f (up E κ emp) i) : St P w n l m t Q fu listed f E i :=
  fun inv => Tr.freeze κ hk fun w' h1 h2 => K w' h1 h2 inv
theorem St.append {α : Type} (i κ : Nat) {A : Option Addr} {c e inb b o c2 : Nat} {t' : Fl α} {ll l2 l' : List α} (hY : ∀ b, (ow A c e t' ll).S b → t.Y i b) (hi : l[i]? = some ⟨some d, .call ⟨.builtin .append, #[p, q], #[T, T]⟩, ty, pos, af, g⟩) (hw : Wn l.toArray f ⟨some d, .call ⟨.builtin .append, #[p, q], #[T, T]⟩, ty, pos, af, g⟩) (hdn : Nat.blt d n = true)
    (hp : ev f p = some (.slice A ll.length c)) (hk : E κ = ow A c e t' ll) (hq : ev f q = some (.slice (some ⟨b, o, none⟩) l2.length c2)) (hr : ∀ W, HF w W E → ∃ css, Al (rp t' w.O w.W) css l2 ∧ zf W b o css.flatten)
    (hu : P.underlying T = some (.slice e)) (hs : Vt P e = some t'.sz) (hz : (zeroOf P e).map List.length = some t'.sz) (hsz : 0 < t'.sz) (hby : (P.info? e).map (·.bytes) = some inb) (hib : Nat.ble inb 32768 = true) (hap : apd ll l2 = some l')
    (K : ∀ A' c', SlF A' l'.length c' → Dr P w n l m t Q fu (listed.setIfInBounds i true) (uf f d (.slice A' l'.length c')) (up E κ (ow A' c' e t' l'))) : St P w n l m t Q fu listed f E i :=
  St.effU (U := Option Addr × Nat) i hi hw (fun u => SlF u.1 l'.length u.2) (fun a W h1 h2 hs0 K' hK => by
    obtain ⟨hlen, hl'⟩ := zC9 hap
    subst hl'
    cases hin : P.info? e with
    | none => rw [hin] at hby; cases hby
    | some inf =>
      rw [hin] at hby; simp at hby; subst hby
      unfold zeroOf at hz
      unfold Vt at hs
      rw [hin] at hz hs
      simp only [Option.bind_some, Option.map_some, Option.some.injEq] at hz hs
      cases hze : inf.zero with
      | none => rw [hze] at hz; cases hz
      | some z =>
        rw [hze] at hz
        simp at hz
        obtain ⟨css0, hal0, hown⟩ := h2.ow hk
        obtain ⟨css2, hal2, hc2⟩ := hr W h2
        have hbytes : (ll.length + l2.length) * inf.bytes ≤ 140737488355328 := Nat.le_trans (Nat.mul_le_mul hlen (Nat.le_of_ble_eq_true hib)) (by decide)
        have hsm : ll.length + l2.length ≤ maxLen := by unfold maxLen; omega
        obtain ⟨v', W', hrun, ho, hg, _, hat⟩ := run_append_own_at (P := P) W 0 T ty e inf z t'.sz inf.bytes hu hin hze hs rfl hz hsz _ _ _ hown ⟨b, o, none⟩ l2.length c2 css2.flatten (zBY hal2)
          (fun j u hj => by rw [Addr.add_lit]; exact hc2 j u hj) (fun u hu => by
            obtain ⟨i, cs, k, h1, h2, _⟩ := zIp hal2 (List.getElem?_of_mem hu).choose_spec
            have hlt : i < l2.length := by rw [← hal2.len]; exact (List.getElem?_eq_some_iff.1 h1).1
            obtain ⟨cs', h3, h4⟩ := hal2.at_ (List.getElem?_eq_getElem hlt)
            rw [h1] at h3; cases h3
            exact h4.one u (List.mem_of_getElem? h2)) hsm hbytes (Nat.zero_le _)
        rw [← List.flatten_append, ← List.length_append] at ho
        obtain ⟨A', c', rfl, hf, h3⟩ := zFB h2 hk ((Nat.le_refl 0)) hg ((hal0.mono (fun _ _ hr => hr.off h2)).append hal2) ho (fun b' hb' => by
          rcases hat with hat | hat
          · exact .inl (hat ▸ hb')
          · rw [hat] at hb'; simp at hb'; subst hb'; exact .inr (Nat.le_refl _))
        obtain ⟨g1, g2, g3, g4, g5⟩ := hg
        unfold Oper.wp execOp
        simp only [resolve, invoke, builtin, Sem.run_bind, Sem.run_pure, Result.andThen_ok, List.map_toArray, List.map_cons, List.map_nil, h1.ev hp, h1.ev hq, hrun, Oper.upon_value]
        exact hK (A', c') _ _ hf (h1.put (Nat.le_of_ble_eq_true hdn) _) h3 ⟨g1, g2, g3, g4, fun b hb hy => g5 b hb (fun e => hy (hY b e.symm)), (Nat.le_refl 0)⟩) (fun u hu => K u.1 u.2 hu)
theorem zHF {W W' : World} {E1 : Nat → Ent} {ins : List Ent} {Y : Nat → Prop} {w' : Bs} (h : HF w W E) (hle : (h.sub (Wt ins)).Le w') (h' : HF w' W' E1) (hY : ∀ b, Wt ins b → Y b) : zAi Y W W' :=
  ⟨h'.os.trans hle.os, h'.tape.trans hle.tape, h'.output.trans hle.output, Nat.le_trans hle.size h'.size, fun b hb hy => by
    have hr : (h.sub (Wt ins)).R b := .inr ⟨hb, fun hi => hy (hY b hi)⟩
    exact (h'.keep b (hle.r b hr)).trans (hle.blk b hr), Nat.le_trans hle.drawn h'.drawn⟩
theorem out_new {W W' : World} {ins outs : List Ent} {w' : Bs} {s0 : Nat} (h : HF w W E) (hb : HF w' W' (LEn outs)) (hs : s0 ≤ W.heap.size) (hle : (h.sub (Wt ins)).Le w') : ∀ b, Wt outs b → s0 ≤ b ∨ Wt ins b := fun b ⟨e, he, hS⟩ => by
  obtain ⟨j, hj⟩ := List.getElem?_of_mem he
  have h1 : (LEn outs j).S b := by rw [LEn_at hj]; exact hS
  have h2 := (hb.bd j b h1).1
  by_cases hi : Wt ins b
  · exact .inr hi
  · exact .inl (Nat.le_of_not_lt fun hlt => h2 (hle.r b (.inr ⟨Nat.lt_of_lt_of_le hlt hs, hi⟩)))
theorem St.zAE {U : Type} {fn : Nat} {xs : List Operand} {vs : List Value} {ts : Array Nat} (i : Nat) (ks : List Nat) (ins : List Ent) (V : U → Value) (Φ : U → Prop) (outs : U → List Ent) (hn : decide ks.Nodup = true) (hp : Pk E ks ins) (hl : ∀ u, (outs u).length = ks.length)
    (hY : ∀ b, Wt ins b → t.Y i b) (hi : l[i]? = some ⟨some d, .call ⟨.value (.func fn), xs.toArray, ts⟩, ty, pos, af, g⟩) (hw : Wn l.toArray f ⟨some d, .call ⟨.value (.func fn), xs.toArray, ts⟩, ty, pos, af, g⟩) (hdn : Nat.blt d n = true)
    (hg : ∀ args W, (callFunc fn args).run P W = .ok (.enter fn args) W) (hx : evl f xs vs)
    (hc : ∀ W (hW : HF w W E) (_ : Pk E ks ins), HF (hW.sub (Wt ins)) W (LEn ins) → Calls P fn vs.toArray W fun e W' => ∃ u, e = .returned (V u) ∧ Φ u ∧ HF (hW.sub (Wt ins)) W' (LEn (outs u)))
    (K : ∀ u, Φ u → (∀ b, Wt (outs u) b → t.s0 ≤ b ∨ Wt ins b) → Dr P w n l m t Q fu (listed.setIfInBounds i true) (uf f d (V u)) (upL E ks (outs u))) : St P w n l m t Q fu listed f E i :=
  St.effU i hi hw (fun u => Φ u ∧ ∀ b, Wt (outs u) b → t.s0 ≤ b ∨ Wt ins b) (fun a W h1 h2 hs0 K' hK => by
    have hn' := of_decide_eq_true hn
    unfold Oper.wp
    rw [zCv h1 hg hx]
    refine (hc W h2 hp (h2.lend hn' hp)).mono fun e W' ⟨u, he, hu, hb⟩ => ?_
    subst he
    exact hK u _ _ ⟨hu, out_new h2 hb hs0 (.refl _)⟩ (h1.put (Nat.le_of_ble_eq_true hdn) _) (HF.sameO (h2.zGA hp (.refl _)) (fun _ h => h) (h2.back hn' hp (.refl _) hb (hl u))) (zHF h2 (.refl _) hb hY)) (fun u hu => K u hu.1 hu.2)
theorem St.zEN {U : Type} {fn : Nat} {xs : List Operand} {vs : List Value} {ts : Array Nat} (i : Nat) (ks : List Nat) (ins : List Ent) (V : U → Value) (Φ : (Nat → Prop) → World → U → Prop) (outs : U → List Ent) (hn : decide ks.Nodup = true) (hp : Pk E ks ins) (hl : ∀ u, (outs u).length = ks.length)
    (hY : ∀ b, Wt ins b → t.Y i b) (hi : l[i]? = some ⟨some d, .call ⟨.value (.func fn), xs.toArray, ts⟩, ty, pos, af, g⟩) (hw : Wn l.toArray f ⟨some d, .call ⟨.value (.func fn), xs.toArray, ts⟩, ty, pos, af, g⟩) (hdn : Nat.blt d n = true)
    (hg : ∀ args W, (callFunc fn args).run P W = .ok (.enter fn args) W) (hx : evl f xs vs)
    (hc : ∀ W (hW : HF w W E) (_ : Pk E ks ins), HF (hW.sub (Wt ins)) W (LEn ins) → Calls P fn vs.toArray W fun e W' => ∃ w' u, (hW.sub (Wt ins)).Le w' ∧ e = .returned (V u) ∧ Φ w'.O w'.W u ∧ HF w' W' (LEn (outs u)))
    (K : ∀ w' u, w.Le w' → Φ w'.O w'.W u → (∀ b, Wt (outs u) b → t.s0 ≤ b ∨ Wt ins b) → Dr P w' n l m t Q fu (listed.setIfInBounds i true) (uf f d (V u)) (upL E ks (outs u))) : St P w n l m t Q fu listed f E i := by
  intro inv a W h1 h2 hs
  have hi' : (l.toArray)[i]? = l[i]? := by simp
  rw [hi] at hi'
  have hn' := of_decide_eq_true hn
  unfold wpOp
  simp only [hi', hw n a h1, if_true]
  refine .inl ?_
  unfold Oper.wp
  rw [zCv h1 hg hx]
  refine (hc W h2 hp (h2.lend hn' hp)).mono fun e W' ⟨w', u, hle, he, hu, hb⟩ => ?_
  subst he
  have hkeep := zHF (Y := t.Y i) h2 hle hb hY
  exact ⟨hkeep, K (h2.after hle) u (h2.zGA hp hle) hu (out_new h2 hb hs hle) inv _ W' (h1.put (Nat.le_of_ble_eq_true hdn) _) (h2.back hn' hp hle hb (hl u)) (Nat.le_trans hs hkeep.size)⟩
end
open Go.RowKit
section
variable {P : Program} {ρ : Operand → Value} {W : World} {dd : Option Tmp} {ty T T' e : TypeId} {pos : String} {af : Array Edge} {g : Option (Nat × Bool)} {p q : Operand} {A : Option Addr} {n c : Nat}
end
open Go.RowKit
structure Bs.Ext (B B' : Bs) : Prop where
  o : ∀ b, B.O b → B'.O b
  r : ∀ b, B.R b → B'.R b
  blk : ∀ b, B.R b → B'.W.heap[b]? = B.W.heap[b]?
theorem Bs.Ext.refl (B : Bs) : B.Ext B := ⟨fun _ h => h, fun _ h => h, fun _ _ => rfl⟩
theorem Bs.Ext.trans {A B C : Bs} (h : A.Ext B) (k : B.Ext C) : A.Ext C := ⟨fun b hb => k.o b (h.o b hb), fun b hb => k.r b (h.r b hb), fun b hb => (k.blk b (h.r b hb)).trans (h.blk b hb)⟩
theorem Bs.Le.ext {B B' : Bs} (h : B.Le B') : B.Ext B' := ⟨h.sub, h.r, h.blk⟩
theorem Bs.Ext.cells {B B' : Bs} (h : B.Ext B') {b o : Nat} {cs : List Value} (hb : B.R b) (hc : zf B.W b o cs) : zf B'.W b o cs := hc.loc (h.blk b hb)
section
variable {α : Type} {w w' : Bs} {W W' : World} {E : Nat → Ent} {t : Fl α} {A : Option Addr} {c T k b : Nat} {l : List α} {ks : List Nat} {ins : List Ent} {vs : List Value}
theorem Sl.ext (h : Sl w.R w.W t A c l) (he : w.Ext w') : Sl w'.R w'.W t A c l := h.go he.r he.blk
theorem Sl.extO (h : Sl w.O w.W t A c l) (he : w.Ext w') : Sl w'.O w'.W t A c l := h.go he.o (fun b hb => he.blk b (.inl hb))
theorem HF.subR (hW : HF w W E) (hp : Pk E ks ins) (hb : w.R b) : (hW.sub (Wt ins)).R b := by
  rcases hb with hb | hb
  · exact .inl hb
  · refine .inr ⟨hW.rlt (.inr hb), fun hi => ?_⟩
    obtain ⟨k, _, _, hs⟩ := zEG hW hp hi
    exact (hW.bd k b hs).1 (.inr hb)
theorem HF.subS (hW : HF w W E) (hp : Pk E ks ins) (hk : ks.contains k = false) (hb : (E k).S b) : (hW.sub (Wt ins)).R b := by
  refine .inr ⟨(hW.bd k b hb).2, fun hi => ?_⟩
  obtain ⟨k', j, hj, hs⟩ := zEG hW hp hi
  refine hW.disj k k' b (fun e => ?_) hb hs
  subst e
  have : k ∈ ks := List.mem_of_getElem? hj
  simp [this] at hk
theorem HF.QV (hW : HF w W E) : w.Ext hW.all := ⟨fun _ h => h, fun _ hb => hW.allR (hW.rlt hb), hW.keep⟩
theorem HF.zFz (hW : HF w W E) (hp : Pk E ks ins) : w.Ext (hW.sub (Wt ins)) := ⟨fun _ h => h, fun _ hb => hW.subR hp hb, hW.keep⟩
theorem HF.slS (hW : HF w W E) (hk : E k = Proofs.YtokanbmnoghafaaGreatDoor.ow A c T t l) (hp : Pk E ks ins) (hn : ks.contains k = false) : Sl (hW.sub (Wt ins)).R (hW.sub (Wt ins)).W t A c l :=
  (hW.sl hk).mono (fun b hb => by
    rcases hb with hb | hb
    · exact .inl hb
    · exact hW.subS hp hn hb)
theorem QI : Pk E [] [] := trivial
theorem zL {e : Ent} {es : List Ent} (h : E k = e) (h2 : Pk E ks es) : Pk E (k :: ks) (e :: es) := ⟨h, h2⟩
end
section
variable {P : Program} {w : Bs} {n : Nat} {f : Nat → Option Value} {E : Nat → Ent} {X Y : Act → World → Prop} {Q : Exit → Act → World → Prop} {ops : Array Oper} {rest l : List Oper}
theorem Tr.KY (m : Nat) (fs : List (Nat × Value)) (es : List (Nat × Ent)) (h : Tr w n f E (wpList P ops (Exit.then (fun a W => FR n (LF fs) a ∧ HF w W (LE es)) Q) (l.take m)))
    (h2 : Tr w n (LF fs) (LE es) (wpList P ops Q (l.drop m))) : Tr w n f E (wpList P ops Q l) := by
  intro a W h1 h3
  have := zDJ (rest := l.drop m) _ a W (h a W h1 h3) (fun a W ⟨k1, k2⟩ => h2 a W k1 k2)
  rwa [List.take_append_drop] at this
theorem Tr.Qc {fs : List (Nat × Value)} {es : List (Nat × Ent)} (hf : zGC f fs) (he : zFH E es) : Tr w n f E (Exit.then (fun a W => FR n (LF fs) a ∧ HF w W (LE es)) Q .normal) := fun _ _ h1 h2 => ⟨h1.sel hf, h2.sel he⟩
theorem Tr.ren {e : Ent} (k K : Nat) (hk : E k = e) (hK : E K = emp) (hne : Nat.beq k K = false) (h : Tr w n f (up (up E k emp) K e) X) : Tr w n f E X := fun a W h1 h2 => by
  have hne' : k ≠ K := fun e => by subst e; simp at hne
  refine h a W h1 ?_
  have key : ∀ j, (j = K ∧ up (up E k emp) K e j = E k) ∨ (j ≠ K ∧ j = k ∧ up (up E k emp) K e j = emp) ∨ (j ≠ K ∧ j ≠ k ∧ up (up E k emp) K e j = E j) := fun j => by
    rcases QJ (up E k emp) K e j with ⟨a1, a2⟩ | ⟨a1, a2⟩
    · exact .inl ⟨a1, by rw [a2, hk]⟩
    · rcases QJ E k emp j with ⟨b1, b2⟩ | ⟨b1, b2⟩
      · exact .inr (.inl ⟨a1, b1, by rw [a2, b2]⟩)
      · exact .inr (.inr ⟨a1, b1, by rw [a2, b2]⟩)
  refine ⟨h2.os, h2.tape, h2.output, h2.size, h2.drawn, h2.keep, fun j => ?_, fun j => ?_, fun j b => ?_, fun i j b hij => ?_⟩
  · rcases key j with ⟨_, e1⟩ | ⟨_, _, e1⟩ | ⟨_, _, e1⟩ <;> rw [e1]
    · exact h2.phi k
    · trivial
    · exact h2.phi j
  · rcases key j with ⟨_, e1⟩ | ⟨_, _, e1⟩ | ⟨_, _, e1⟩ <;> rw [e1]
    · exact h2.loc k
    · exact zBz
    · exact h2.loc j
  · rcases key j with ⟨_, e1⟩ | ⟨_, _, e1⟩ | ⟨_, _, e1⟩ <;> rw [e1]
    · exact h2.bd k b
    · exact fun hh => hh.elim
    · exact h2.bd j b
  · rcases key i with ⟨a1, e1⟩ | ⟨a1, b1, e1⟩ | ⟨a1, b1, e1⟩ <;> rcases key j with ⟨a2, e2⟩ | ⟨a2, b2, e2⟩ | ⟨a2, b2, e2⟩ <;> rw [e1, e2]
    · exact absurd (a1.trans a2.symm) hij
    · exact fun _ hh => hh.elim
    · exact h2.disj k j b (Ne.symm b2)
    · exact fun hh => hh.elim
    · exact fun hh => hh.elim
    · exact fun hh => hh.elim
    · exact h2.disj i k b b1
    · exact fun _ hh => hh.elim
    · exact h2.disj i j b hij
end
theorem Sl.el {α : Type} {S : Nat → Prop} {W : World} {t : Fl α} {A : Option Addr} {c : Nat} {l : List α} (h : Sl S W t A c l) {i : Nat} {x : α} (hx : l[i]? = some x) : ∃ u, S (adB A) ∧ t.ok S W u x ∧ zf W (adB A) (adO A + i * t.sz) (t.enc u x) := by
  obtain ⟨h1, u, h2, h3⟩ := h.cells i x hx
  exact ⟨u, h1, h2, h3⟩
open Go.RowKit
def pre {α : Type} (l : List α) (hi : Int) : Option (List α) := if 0 ≤ hi ∧ hi ≤ (l.length : Int) then some (l.take hi.toNat) else none
theorem pre_some {α : Type} {l l' : List α} {hi : Int} (h : pre l hi = some l') : (0 ≤ hi ∧ hi ≤ (l.length : Int)) ∧ l.take hi.toNat = l' := by
  unfold pre at h
  split at h
  · exact ⟨by assumption, Option.some.inj h⟩
  · cases h
theorem pre_len {α : Type} {l l' : List α} {hi : Int} (h : pre l hi = some l') : l'.length = hi.toNat := by
  obtain ⟨h1, rfl⟩ := pre_some h
  simp; omega
theorem pre_form {α : Type} {l l' : List α} {hi : Int} {A : Option Addr} {c : Nat} (hf : SlF A l.length c) (h : pre l hi = some l') : SlF A l'.length c := by
  have hl := pre_len h
  obtain ⟨⟨h1, h2⟩, _⟩ := pre_some h
  obtain ⟨f1, f2, f3⟩ := hf
  exact ⟨by omega, f2, fun hp => f3 (by omega)⟩
theorem Sl.pre {α : Type} {S : Nat → Prop} {W : World} {t : Fl α} {A : Option Addr} {c : Nat} {l l' : List α} {hi : Int} (h : Sl S W t A c l) (hc : Proofs.YtokanbmnoghafaaGreatDoor.pre l hi = some l') : Sl S W t A c l' := by
  refine ⟨pre_form h.form hc, fun i x hx => ?_⟩
  obtain ⟨_, hl⟩ := pre_some hc
  rw [← hl, List.getElem?_take] at hx
  split at hx
  · exact h.cells i x hx
  · cases hx
section
variable {P : Program} {ρ : Operand → Value} {W : World} {d : Option Tmp} {ty T : TypeId} {pos : String} {af : Array Edge} {g : Option (Nat × Bool)} {p r : Operand} {j : Int} {α : Type} {l l' : List α} {e sz c : Nat} {A : Option Addr}
theorem run_pre (he : elemOf? P T = some (e, sz)) (hp : ρ p = .slice A l.length c) (hf : SlF A l.length c) (hr : ρ r = .int .i64 j) (hc : pre l j = some l') :
    (execOp ρ ⟨d, .slice T p none (some r) none, ty, pos, af, g⟩).run P W = .ok (.value (.slice A l'.length c)) W := by
  obtain ⟨⟨h1, h2⟩, hl⟩ := pre_some hc
  have hc' : cut l 0 j = some l' := by
    unfold cut
    rw [if_pos ⟨by omega, h1, h2⟩, ← hl]
    simp
  rw [run_cutH he hp hf hr hc', Nat.sub_zero]
  unfold zF2
  split
  · rfl
  · cases A with
    | none => rfl
    | some a => simp [Addr.add]
end
section
variable {P : Program} {w : Bs} {n : Nat} {f : Nat → Option Value} {E : Nat → Ent} {X : Act → World → Prop}
theorem zIO {t : Nat} {v v' : Value} (h : f t = some v) (e : v = v') : f t = some v' := e ▸ h
theorem ebx {k b T : Nat} {vs vs' : Array Value} (h : E k = bx b vs T) (e : vs = vs') : E k = bx b vs' T := e ▸ h
end
open Go.RowKit
section
variable {P : Program} {ρ : Operand → Value} {W : World} {d : Option Tmp} {ty : TypeId} {pos : String} {af : Array Edge} {g : Option (Nat × Bool)} {p q r : Operand} {k : IntKind} {i j m : Int}
end
theorem Tr.zIX {P : Program} {w : Bs} {n : Nat} {f : Nat → Option Value} {E : Nat → Ent} {fu : Func} {R : Ending → World → Prop} (h : Tr w n f E (bodyPost P fu R .ret)) : Tr w n f E (bodyPost P fu R .normal) := fun a W h1 h2 => h a W h1 h2
open Go.RowKit
abbrev iv (n : Int) : Value := .int .i64 n
abbrev sv (s : ByteArray) : Value := .string s
section
variable {P : Program} {w : Bs} {n : Nat} {ops : Array Oper} {f : Nat → Option Value} {E : Nat → Ent} {Q : Exit → Act → World → Prop} {X : Act → World → Prop} {rest : List Oper} {d ty : Nat} {pos : String} {af : Array Edge} {p : Operand} {v : Value} {x y : Code} {id : Nat} {l : List Oper} {op : Op}
theorem Tr.va (hdn : Nat.blt d n = true) (hr : ∀ a W, FR n f a → HF w W E → (execOp a.eval ⟨some d, op, ty, pos, af, none⟩).run P W = .ok (.value v) W) (k : Tr w n (uf f d v) E (wpList P ops Q rest)) : Tr w n f E (wpList P ops Q (⟨some d, op, ty, pos, af, none⟩ :: rest)) := Tr.val (wn rfl) hdn hr k
theorem Tq.va (hdn : Nat.blt d n = true) (hr : ∀ a W, FR n f a → HF w W E → (execOp a.eval ⟨some d, op, ty, pos, af, none⟩).run P W = .ok (.value v) W) (k : Tq P w n ops (uf f d v) E X rest) : Tq P w n ops f E X (⟨some d, op, ty, pos, af, none⟩ :: rest) := Tq.val (wn rfl) hdn hr k
theorem Tr.mv (hdn : Nat.blt d n = true) (hp : ev f p = some v) (k : Tr w n (uf f d v) E (wpList P ops Q rest)) : Tr w n f E (wpList P ops Q (⟨some d, .move p, ty, pos, af, none⟩ :: rest)) := Tr.va hdn (fun _ _ h1 _ => run_move (h1.ev hp)) k
theorem Tr.asg (hdn : Nat.blt d n = true) (hp : ev f p = some v) (k : Tr w n (uf f d v) E (wpList P ops Q rest)) : Tr w n f E (wpList P ops Q (⟨some d, .assign p, ty, pos, af, none⟩ :: rest)) := Tr.va hdn (fun _ _ h1 _ => run_assign (h1.ev hp)) k
theorem Tq.mv (hdn : Nat.blt d n = true) (hp : ev f p = some v) (k : Tq P w n ops (uf f d v) E X rest) : Tq P w n ops f E X (⟨some d, .move p, ty, pos, af, none⟩ :: rest) := Tq.va hdn (fun _ _ h1 _ => run_move (h1.ev hp)) k
theorem Tq.asg (hdn : Nat.blt d n = true) (hp : ev f p = some v) (k : Tq P w n ops (uf f d v) E X rest) : Tq P w n ops f E X (⟨some d, .assign p, ty, pos, af, none⟩ :: rest) := Tq.va hdn (fun _ _ h1 _ => run_assign (h1.ev hp)) k
theorem Tr.sr (h : Tr w n f E (wpList P l.toArray (Exit.then (y.wp P Q) Q) l)) : Tr w n f E ((Code.seq (Code.region id l.toArray false) y).wp P Q) := Tr.seq (Tr.region h)
end
open Go.RowKit
structure FlR (α : Type) where
  Ad : Type
  sz : Nat
  enc : Ad → α → List Value
  okb : (Nat → Prop) → World → Ad → α → Prop
  ua : Ad → Option Addr × Nat
  sub : α → List α
  len : ∀ u x, (enc u x).length = sz
  one : ∀ u x, ∀ v ∈ enc u x, v.oneCell' = true
  loc : ∀ {S S' : Nat → Prop} {W W' : World} {u : Ad} {x : α}, okb S W u x → (∀ b, S b → S' b) → (∀ b, S b → W'.heap[b]? = W.heap[b]?) → okb S' W' u x
namespace FlR
def okn {α : Type} (F : FlR α) : Nat → (Nat → Prop) → World → F.Ad → α → Prop
  | 0, _, _, _, _ => False
  | k + 1, S, W, u, x => F.okb S W u x ∧ SlF (F.ua u).1 (F.sub x).length (F.ua u).2 ∧ ∀ (i : Nat) (y : α), (F.sub x)[i]? = some y → S (adB (F.ua u).1) ∧ ∃ v, okn F k S W v y ∧ zf W (adB (F.ua u).1) (adO (F.ua u).1 + i * F.sz) (F.enc v y)
variable {α : Type} (F : FlR α) {S S' : Nat → Prop} {W W' : World} {u : F.Ad} {x : α}
theorem okn_loc : ∀ (k : Nat) {u : F.Ad} {x : α}, F.okn k S W u x → (∀ b, S b → S' b) → (∀ b, S b → W'.heap[b]? = W.heap[b]?) → F.okn k S' W' u x
  | 0, _, _, h, _, _ => h.elim
  | k + 1, _, _, h, hs, hb => ⟨F.loc h.1 hs hb, h.2.1, fun i y hy => by
      obtain ⟨h1, v, h2, h3⟩ := h.2.2 i y hy
      exact ⟨hs _ h1, v, okn_loc k h2 hs hb, h3.loc (hb _ h1)⟩⟩
theorem okn_succ : ∀ (k : Nat) {u : F.Ad} {x : α}, F.okn k S W u x → F.okn (k + 1) S W u x
  | 0, _, _, h => h.elim
  | k + 1, _, _, h => ⟨h.1, h.2.1, fun i y hy => by
      obtain ⟨h1, v, h2, h3⟩ := h.2.2 i y hy
      exact ⟨h1, v, okn_succ k h2, h3⟩⟩
theorem okn_mono {k k' : Nat} (hk : k ≤ k') {u : F.Ad} {x : α} (h : F.okn k S W u x) : F.okn k' S W u x := by
  induction hk with
  | refl => exact h
  | step _ ih => exact F.okn_succ _ ih
def fix : Fl α where
  Ad := F.Ad
  sz := F.sz
  enc := F.enc
  ok S W u x := ∃ k, F.okn k S W u x
  len := F.len
  one := F.one
  loc h hs hb := by obtain ⟨k, h⟩ := h; exact ⟨k, F.okn_loc k h hs hb⟩
theorem fix_ok : F.fix.ok S W u x ↔ F.okb S W u x ∧ Sl S W F.fix (F.ua u).1 (F.ua u).2 (F.sub x) := by
  constructor
  · rintro ⟨k, h⟩
    cases k with
    | zero => exact h.elim
    | succ k =>
      refine ⟨h.1, h.2.1, fun i y hy => ?_⟩
      obtain ⟨h1, v, h2, h3⟩ := h.2.2 i y hy
      exact ⟨h1, v, ⟨k, h2⟩, h3⟩
  · rintro ⟨h, hf, hc⟩
    have key : ∀ (l : List α) (o : Nat), (∀ (i : Nat) (y : α), l[i]? = some y → S (adB (F.ua u).1) ∧ ∃ v, (∃ k, F.okn k S W v y) ∧ zf W (adB (F.ua u).1) (o + i * F.sz) (F.enc v y)) →
        ∃ k, ∀ (i : Nat) (y : α), l[i]? = some y → S (adB (F.ua u).1) ∧ ∃ v, F.okn k S W v y ∧ zf W (adB (F.ua u).1) (o + i * F.sz) (F.enc v y) := by
      intro l
      induction l with
      | nil => intro o _; exact ⟨0, fun i y h => by simp at h⟩
      | cons z l ih =>
        intro o hl
        obtain ⟨k1, hk1⟩ := ih (o + F.sz) (fun i y hy => by
          have := hl (i + 1) y (by simpa using hy)
          rwa [show o + (i + 1) * F.sz = o + F.sz + i * F.sz by rw [Nat.succ_mul]; omega] at this)
        obtain ⟨h1, v, ⟨k2, h2⟩, h3⟩ := hl 0 z rfl
        refine ⟨max k1 k2, fun i y hy => ?_⟩
        cases i with
        | zero =>
          simp at hy; subst hy
          exact ⟨h1, v, F.okn_mono (Nat.le_max_right _ _) h2, h3⟩
        | succ i =>
          obtain ⟨g1, v', g2, g3⟩ := hk1 i y (by simpa using hy)
          refine ⟨g1, v', F.okn_mono (Nat.le_max_left _ _) g2, ?_⟩
          rwa [show o + (i + 1) * F.sz = o + F.sz + i * F.sz by rw [Nat.succ_mul]; omega]
    obtain ⟨k, hk⟩ := key (F.sub x) (adO (F.ua u).1) hc
    exact ⟨k + 1, h, hf, hk⟩
end FlR
end Go.Proofs.YtokanbmnoghafaaGreatDoor
set_option linter.unusedVariables false
namespace Go.Proofs.YtokanbmnoghafaaGreatDoor
open Go.RowKit Go.Proofs Go.Shelf
def sb (T e b : Nat) (A : Option Addr) (c : Nat) (s : ByteArray) : Ent :=
  ⟨fun x => x = b ∨ (Value.slice A s.size c).ownBlock = some x, fun _ W => ∃ p, (p = .pointer none ∨ p = .pointer (some ⟨b, 0, none⟩)) ∧ Lib.BuilderAtF T e 0 b p (Lib.strCells s) W ∧ W.heap[b]? = some (.cells #[p, .slice A s.size c] T (0, 0)) ∧ ∀ x, (Value.slice A s.size c).ownBlock = some x → x < W.heap.size⟩
theorem zIW {W W' : World} {v : Value} {e n : Nat} {xs : List Value} (h : W.ownsRowF 0 e 1 v n xs) (hb : ∀ g, v.ownBlock = some g → W'.heap[g]? = W.heap[g]?) : W'.ownsRowF 0 e 1 v n xs := by
  refine ⟨h.1, ?_⟩
  rcases h.2 with h2 | ⟨g, cap, cur, fz, hv, h0, hh, r⟩
  · exact .inl h2
  · exact .inr ⟨g, cap, cur, fz, hv, h0, (hb g (by rw [hv]; rfl)).trans hh, r⟩
theorem sb_loc (T e b : Nat) (A : Option Addr) (c : Nat) (s : ByteArray) : (sb T e b A c s).loc := ⟨fun O W W' h hp => by
  obtain ⟨p, h0, ⟨_, v, h1, h2, h3⟩, h4, h5⟩ := hp
  have hv : v = .slice A s.size c := by rw [h4] at h1; simpa using h1.symm
  subst hv
  have hb : W'.heap[b]? = W.heap[b]? := h b (.inr (.inl rfl))
  have hown := zIW h2 (W' := W') (fun g hg => h g (.inr (.inr hg)))
  refine ⟨p, h0, ⟨Nat.zero_le _, _, hb.trans h4, hown, h3⟩, hb.trans h4, fun x hx => ?_⟩
  rcases hown.2 with ⟨hv, _⟩ | ⟨g, cap, cur, fz, hv, _, hh, _⟩
  · rw [hv] at hx; simp [Value.ownBlock] at hx
  · rw [hv] at hx; simp [Value.ownBlock] at hx; subst hx; exact (Array.getElem?_eq_some_iff.1 hh).1,
  fun _ _ _ _ h => h⟩
section
variable {P : Program} {ρ : Ren} {w : Bs} {A : Option Addr} {c b : Nat} {s x : ByteArray}
theorem sb_any {T e : Nat} : (sb T e b A c s).Any := fun _ _ _ h => h
theorem Tr.sbNew {n T e ty d : Nat} {f : Nat → Option Value} {E : Nat → Ent} {Q : Exit → Act → World → Prop} {ops : Array Oper} {rest : List Oper} {pos : String} {af : Array Edge} {g : Option (Nat × Bool)} (κ : Nat) (hw : Wn ops f ⟨some d, .alloc T, ty, pos, af, g⟩) (hdn : Nat.blt d n = true) (hz : zeroOf P T = some [.pointer none, .slice none 0 0])
    (K : ∀ b, Tr w n (uf f d (.pointer (some ⟨b, 0, none⟩))) (up E κ (sb T e b none 0 ByteArray.empty)) (wpList P ops Q rest)) : Tr w n f E (wpList P ops Q (⟨some d, .alloc T, ty, pos, af, g⟩ :: rest)) :=
  Tr.valW hw hdn (fun _ W _ h2 => ⟨zGW hz, h2.add κ ((Below.refl _ _).alloc (Nat.le_refl _) _) (sb T e W.heap.size none 0 ByteArray.empty) (sb_loc _ _ _ _ _ _)
    ⟨.pointer none, .inl rfl, ⟨Nat.zero_le _, _, heap_alloc_new W _, ⟨rfl, .inl ⟨rfl, rfl⟩⟩, by simp [Value.ownBlock]⟩, heap_alloc_new W _, fun x h => by simp [Value.ownBlock] at h⟩ (fun b hb => by
      rcases hb with hb | hb
      · subst hb; exact ⟨Nat.le_refl _, by simp⟩
      · simp [Value.ownBlock] at hb)⟩) (fun W _ => K W.heap.size)
def sbW (s x : ByteArray) : Option ByteArray := if s.size + x.size ≤ 140737488355328 then some (s ++ x) else none
def sbS (s : ByteArray) : Option (ByteArray × ByteArray) := if s.size ≠ 0 then some (s, s) else none
def sbL (s : ByteArray) : Option (Int × ByteArray) := some ((s.size : Int), s)
theorem strCells_app (s x : ByteArray) : Lib.strCells (s ++ x) = Lib.strCells s ++ Lib.strCells x := by simp [Lib.strCells]
theorem sb_put {T e : Nat} {A' : Option Addr} {c' : Nat} {s' : ByteArray} {W' : World} (hE : HF w w.W (LEn [sb T e b A c s])) (ho : W'.os = w.W.os) (htp : W'.tape = w.W.tape) (hou : W'.output = w.W.output) (hsz : w.W.heap.size ≤ W'.heap.size) (hd : zd w.W ≤ zd W')
    (hother : ∀ k, k < w.W.heap.size → k ≠ b → some k ≠ (Value.slice A s.size c).ownBlock → W'.heap[k]? = w.W.heap[k]?) {p : Value} (h0 : p = .pointer none ∨ p = .pointer (some ⟨b, 0, none⟩))
    (h1 : Lib.BuilderAtF T e 0 b p (Lib.strCells s') W') (h2 : W'.heap[b]? = some (.cells #[p, .slice A' s'.size c'] T (0, 0))) (h3 : ∀ g, (Value.slice A' s'.size c').ownBlock = some g → g < W'.heap.size ∧ ((Value.slice A s.size c).ownBlock = some g ∨ w.W.heap.size ≤ g)) :
    HF w W' (LEn [sb T e b A' c' s']) := by
  have hb : b < w.W.heap.size := by
    obtain ⟨p, _, _, h, _⟩ := hE.phi 0
    exact (Array.getElem?_eq_some_iff.1 h).1
  refine (hE.mod (E := LEn [sb T e b A c s]) (W' := W') 0 (sb T e b A' c' s') ho htp hou hsz hd (fun k hk hs => hother k hk (fun e => hs (.inl e)) (fun e => hs (.inr e.symm))) (sb_loc _ _ _ _ _ _) ?_ (fun k hk => ?_)).weaken (fun k => ?_)
  · exact ⟨p, h0, h1, h2, fun g hg => (h3 g hg).1⟩
  · rcases hk with hk | hk
    · subst hk; exact ⟨.inl (.inl rfl), Nat.lt_of_lt_of_le hb hsz⟩
    · exact ⟨(h3 k hk).2.imp (fun h => .inr h) id, (h3 k hk).1⟩
  · cases k with
    | zero => exact .inl rfl
    | succ k => exact .inr rfl
theorem appS_block (w : World) (t u ty e : TypeId) (i : TypeInfo) (ht : P.underlying t = some (.slice e)) (hu : P.underlying u = some .string) (hi : P.info? e = some i) (hz : i.zero = some (.int .u8 0))
    (hsize : i.size = 1) (hby : i.bytes = 1) (v : Value) (n : Nat) (xs : List Value) (hown : w.ownsRowF 0 e 1 v n xs) (s : ByteArray) (h63 : n + s.size ≤ maxLen) (hbytes : n + s.size ≤ 140737488355328) {v' : Value} {w' : World}
    (hr : (Builtin.append_ #[t, u] ty #[v, .string s]).run P w = .ok v' w') : ∀ g, v'.ownBlock = some g → v.ownBlock = some g ∨ w.heap.size ≤ g := by
  intro k hk
  rcases hown.2 with ⟨rfl, rfl⟩ | ⟨g, cap, cur, fz, rfl, hbg, hg, hfz, hnc, hcm, hcs, htake⟩
  · obtain ⟨v2, w2, h1, h2, h3, h4⟩ := Lib.run_append_own_string (P := P) w w.heap.size t u ty e i ht hu hi hz hsize hby (.slice none 0 0) 0 xs ⟨hown.1, .inl ⟨rfl, rfl⟩⟩ s h63 hbytes (Nat.le_refl _)
    rw [hr] at h1
    simp only [Result.ok.injEq] at h1
    obtain ⟨rfl, rfl⟩ := h1
    rcases h2.2 with ⟨hv, _⟩ | ⟨g, cap, cur, hv, hbg, _⟩
    · rw [hv] at hk; simp [Value.ownBlock] at hk
    · rw [hv] at hk; simp [Value.ownBlock] at hk; subst hk; exact .inr hbg
  · have hxl : xs.length = n := by simpa using hown.1
    by_cases hroom : n + s.size ≤ cap
    · have hcs' : cur.size = cap := by simpa using hcs
      have h1 := Lib.run_append_room_stringF (P := P) w t u ty e i ht hu hi hsize g n cap cur fz hg (by simpa using hfz) s hroom (by omega)
      rw [hr] at h1
      simp only [Result.ok.injEq] at h1
      obtain ⟨rfl, rfl⟩ := h1
      exact .inl hk
    · have holds : ∀ j u, xs[j]? = some u → w.cell? ((⟨g, 0, none⟩ : Addr).add j) = some u := hown.cells (g := g) rfl
      have h1 := Lib.run_append_grow_string (P := P) w t u ty e i (.int .u8 0) ht hu hi hz ⟨g, 0, none⟩ n cap xs (by rw [hsize]; simpa using hxl) holds s (by omega) (by omega) (by rw [hby]; exact growslice_fits (by omega) (by omega))
      rw [hr] at h1
      simp only [Result.ok.injEq] at h1
      obtain ⟨rfl, rfl⟩ := h1
      simp [Value.ownBlock] at hk
      exact .inr (by omega)
theorem wpList_appS {ops : Array Oper} {rest : List Oper} {o : Oper} {a : Act} {Q : Exit → Act → World → Prop} (w : World) (hgd : o.guard = none) (sl y : Operand) (t u : TypeId)
    (ho : o.op = .call { callee := .builtin .append, args := #[sl, y], argTypes := #[t, u] })
    (e : TypeId) (i : TypeInfo) (ht : P.underlying t = some (.slice e)) (hu : P.underlying u = some .string) (hi : P.info? e = some i) (hz : i.zero = some (.int .u8 0))
    (hsize : i.size = 1) (hby : i.bytes = 1) (v : Value) (n : Nat) (xs : List Value) (hs : a.eval sl = v) (hown : w.ownsRowF 0 e 1 v n xs) (s : ByteArray) (hx : a.eval y = .string s)
    (h63 : n + s.size ≤ maxLen) (hbytes : n + s.size ≤ 140737488355328)
    (h : ∀ v' w', w'.ownsRowF 0 e 1 v' (n + s.size) (xs ++ Lib.strCells s) → w.grownBy w' v.ownBlock → zd w ≤ zd w' → (∀ g, v'.ownBlock = some g → v.ownBlock = some g ∨ w.heap.size ≤ g) → wpList P ops Q rest (a.put o.dst v') w') : wpList P ops Q (o :: rest) a w := by
  refine wpList_plain hgd fun K hK => ?_
  obtain ⟨v', w', hr, h2, h3, h4⟩ := Lib.run_append_own_stringF (P := P) w 0 t u o.type e i ht hu hi hz hsize hby v n xs hown s h63 hbytes (Nat.zero_le _)
  have hdr := Nat.le_refl 0
  unfold Oper.wp execOp
  simp only [ho, resolve, invoke, builtin, Sem.run_bind, Sem.run_pure, Result.andThen_ok, List.map_toArray, List.map_cons, List.map_nil, hs, hx, hr]
  exact hK _ _ (h v' w' h2 h3 hdr (appS_block w t u o.type e i ht hu hi hz hsize hby v n xs hown s h63 hbytes hr))
set_option maxHeartbeats 2000000 in
set_option maxRecDepth 100000 in
theorem sb_write (L : Lays.n166 P ρ) (X : Builder.Extra P ρ) {r : ByteArray} (H : sbW s x = some r) (hE : HF w w.W (LEn [sb (ρ.t 72) (ρ.t 5) b A c s])) :
    Calls P (ρ.f 166) [.pointer (some ⟨b, 0, none⟩), .string x].toArray w.W fun e W' => ∃ u : (Option Addr × Nat), e = .returned (.tuple #[.int .i64 x.size, .nilIface]) ∧ (True) ∧ HF w W' (LEn [sb (ρ.t 72) (ρ.t 5) b u.1 u.2 r]) := by
  unfold sbW at H
  split at H
  case isFalse => cases H
  rename_i hlen
  have hr := Option.some.inj H
  obtain ⟨p, hp, hB, hbk, hlt⟩ := hE.phi 0
  have hB0 := hB
  have hslt : ∀ g, (Value.slice A s.size c).ownBlock = some g → g < w.W.heap.size := hlt
  obtain ⟨_, v, hbk2, hown, hne⟩ := hB
  have hv : v = .slice A s.size c := by rw [hbk] at hbk2; simpa using hbk2.symm
  subst hv
  obtain ⟨i0, hi, hz0, hz1, hz2⟩ := info_parts X.infoByte
  have mixed := L.mixed
  have t72 := L.t72; have a72 := L.a72; have z72 := L.z72; have v72 := L.v72; have u72 := run_underlying L.t72
  have t70 := L.t70; have a70 := L.a70; have z70 := L.z70; have v70 := L.v70; have u70 := run_underlying L.t70
  have t37 := L.t37; have a37 := L.a37; have z37 := L.z37; have v37 := L.v37; have u37 := run_underlying L.t37
  have t3 := L.t3; have a3 := L.a3; have z3 := L.z3; have v3 := L.v3; have u3 := run_underlying L.t3
  have t9 := L.t9; have a9 := L.a9; have z9 := L.z9; have v9 := L.v9; have u9 := run_underlying L.t9
  have t4 := L.t4; have a4 := L.a4; have z4 := L.z4; have v4 := L.v4; have u4 := run_underlying L.t4
  have t164 := L.t164; have a164 := L.a164; have z164 := L.z164; have v164 := L.v164; have u164 := run_underlying L.t164
  have t5 := X.t5; have a5 := X.a5; have z5 := X.z5; have v5 := X.v5; have u5 := run_underlying X.t5
  have e240 : ∀ args w, (callFunc (ρ.f 240) args).run P w = .ok (.enter (ρ.f 240) args) w := enters_of L.f240 (by kernel_rfl) rfl
  have hcc : Calls P (ρ.f 240) #[.pointer (some ⟨b, 0, none⟩)] w.W fun e w1 => e = .returned (.tuple #[]) ∧ w1.os = w.W.os ∧ w1.tape = w.W.tape ∧ w1.output = w.W.output ∧ w1.drawn = w.W.drawn ∧ w1.heap.size = w.W.heap.size ∧ (∀ k, k ≠ b → w1.heap[k]? = w.W.heap[k]?) ∧ w1.heap[b]? = some (.cells #[.pointer (some ⟨b, 0, none⟩), .slice A s.size c] (ρ.t 72) (0, 0)) := by
    rcases hp with rfl | rfl
    · refine (Any.Builder_copyCheck_fresh { L with } X.toX72 b w.W hB0.cell0 hB0.shape hB0.frozen0).mono ?_
      rintro e w' ⟨rfl, rfl⟩
      refine ⟨rfl, rfl, rfl, rfl, rfl, by simp [World.setCell], fun k hk => Below.heap_setCell _ _ _ _ (fun e => hk (by simp [e])), ?_⟩
      simp [World.setCell, Array.getElem?_modify, hbk]
    · refine (Any.Builder_copyCheck_used { L with } X.toX72 b w.W hB0.cell0).mono ?_
      rintro e w' ⟨rfl, rfl⟩
      exact ⟨rfl, rfl, rfl, rfl, rfl, rfl, fun _ _ => rfl, hbk⟩
  go_enter L.f166, Body.n166_ntmps ρ
  go_wp2_with (go_at_fn (ρ.f 240); refine hcc.mono ?_)
  rintro e w1 ⟨rfl, f1, f2, f3, f4, f5, f6, hbk1⟩
  have hown1 := zIW hown (W' := w1) (fun g hg => f6 g (fun e => hne (by rw [hg, e])))
  rw [Lib.strCells_length] at hown1
  have c0 : w1.cell? ⟨b, 0, none⟩ = some (.pointer (some ⟨b, 0, none⟩)) := by rw [Lib.cell_of_heap hbk1]; rfl
  have c1 : w1.cell? ⟨b, 1, none⟩ = some (.slice A s.size c) := by rw [Lib.cell_of_heap hbk1]; rfl
  go_wp2_with (at_builtin; refine wpList_appS w1 rfl _ _ (ρ.t 37) (ρ.t 9) rfl (ρ.t 5) i0 L.t37 L.t9 hi hz0 hz1 hz2 _ _ _ rfl hown1 x rfl ?c3 ?c4 ?_)
  case c3 => unfold maxLen; omega
  case c4 => exact hlen
  intro v' w2 hown' hgrow hblk
  have hb1 : b < w1.heap.size := (Array.getElem?_eq_some_iff.1 hbk1).1
  have hb2 : w2.heap[b]? = some (.cells #[.pointer (some ⟨b, 0, none⟩), .slice A s.size c] (ρ.t 72) (0, 0)) := by
    rw [hgrow.block b hb1 (fun e => hne e.symm)]; exact hbk1
  have d0 : w2.cell? ⟨b, 0, none⟩ = some (.pointer (some ⟨b, 0, none⟩)) := by rw [Lib.cell_of_heap hb2]; rfl
  have d1 : w2.cell? ⟨b, 1, none⟩ = some (.slice A s.size c) := by rw [Lib.cell_of_heap hb2]; rfl
  have g1 : w2.frozen? ⟨b, 1, none⟩ = false := Lib.frozen_of_heap hb2 1
  have hsz : r.size = s.size + x.size := by rw [← hr]; simp
  rw [← hsz, ← strCells_app, hr] at hown'
  clear hsz
  obtain ⟨ao, cap, rfl⟩ : ∃ ao cap, v' = .slice ao r.size cap := by
    rcases hown'.2 with ⟨hv, h0⟩ | ⟨g, cap, cur, fz, hv, _⟩
    · exact ⟨none, 0, by rw [hv, h0]⟩
    · exact ⟨_, _, hv⟩
  have hown2 : w2.ownsRowF 0 (ρ.t 5) 1 (.slice ao r.size cap) (Lib.strCells r).length (Lib.strCells r) := by
    rw [Lib.strCells_length]; exact hown'
  go_wp2
  go_ret2
  refine ⟨(ao, cap), rfl, trivial, sb_put hE (p := .pointer (some ⟨b, 0, none⟩)) ?_ ?_ ?_ ?_ ?_ ?_ (.inr rfl) (Lib.BuilderAtF.put (T := (ρ.t 72)) (e := (ρ.t 5)) (Nat.zero_le _) hb2 hown2 X.neB5) ?_ ?_⟩
  · exact hgrow.os.trans f1
  · exact hgrow.tape.trans f2
  · exact hgrow.output.trans f3
  · simp [World.setCell]; have := hgrow.size; omega
  · exact Nat.le_refl 0
  · intro k hk hkb hkg
    rw [Below.heap_setCell _ _ _ _ (fun e => hkb (by simp [e])), hgrow.block k (by omega) hkg]; exact f6 k hkb
  · simp [World.setCell, Array.getElem?_modify, hb2]
  · intro g hg
    rcases hown'.2 with ⟨hv, _⟩ | ⟨g', cap', cur, fz, hv, _, hh, _⟩
    · rw [hv] at hg; simp [Value.ownBlock] at hg
    · have hg2 := hg
      rw [hv] at hg; simp [Value.ownBlock] at hg; subst hg
      exact ⟨by simp [World.setCell]; exact (Array.getElem?_eq_some_iff.1 hh).1, (hblk _ hg2).imp id (fun h => by omega)⟩
set_option maxHeartbeats 1000000 in
set_option maxRecDepth 100000 in
theorem sb_len (L : Lays.n170 P ρ) {e : Nat} {r : Int × ByteArray} (H : sbL s = some r) (hE : HF w w.W (LEn [sb (ρ.t 72) e b A c s])) :
    Calls P (ρ.f 170) [.pointer (some ⟨b, 0, none⟩)].toArray w.W fun e' W' => ∃ u : (Option Addr × Nat), e' = .returned (.int .i64 r.1) ∧ (True) ∧ HF w W' (LEn [sb (ρ.t 72) e b u.1 u.2 r.2]) := by
  have hr := Option.some.inj H
  subst hr
  obtain ⟨p, hp, hB, hbk, hlt⟩ := hE.phi 0
  have c1 : w.W.cell? ⟨b, 1, none⟩ = some (.slice A s.size c) := by rw [Lib.cell_of_heap hbk]; rfl
  have mixed := L.mixed
  have t72 := L.t72; have a72 := L.a72; have z72 := L.z72; have v72 := L.v72; have u72 := run_underlying L.t72
  have t70 := L.t70; have a70 := L.a70; have z70 := L.z70; have v70 := L.v70; have u70 := run_underlying L.t70
  have t37 := L.t37; have a37 := L.a37; have z37 := L.z37; have v37 := L.v37; have u37 := run_underlying L.t37
  have t3 := L.t3; have a3 := L.a3; have z3 := L.z3; have v3 := L.v3; have u3 := run_underlying L.t3
  go_enter L.f170, Body.n170_ntmps ρ
  go_wp2
  go_ret
  first | exact ⟨(A, c), rfl, trivial, hE⟩ | exact ⟨rfl, A, c, hE⟩ | exact ⟨rfl, A, c, trivial, hE⟩
set_option maxHeartbeats 1000000 in
set_option maxRecDepth 100000 in
theorem sb_string (L : Lays.n169 P ρ) (X : Builder.Extra P ρ) {r : ByteArray × ByteArray} (H : sbS s = some r) (hE : HF w w.W (LEn [sb (ρ.t 72) (ρ.t 5) b A c s])) :
    Calls P (ρ.f 169) [.pointer (some ⟨b, 0, none⟩)].toArray w.W fun e W' => ∃ u : (Option Addr × Nat), e = .returned (.string r.1) ∧ (True) ∧ HF w W' (LEn [sb (ρ.t 72) (ρ.t 5) b u.1 u.2 r.2]) := by
  unfold sbS at H
  split at H
  case isFalse => cases H
  rename_i h0
  have hr := Option.some.inj H
  subst hr
  obtain ⟨p, hp, hB, hbk, hlt⟩ := hE.phi 0
  have hA := hB
  obtain ⟨_, v, hbk2, hown, hne⟩ := hB
  have hv : v = .slice A s.size c := by rw [hbk] at hbk2; simpa using hbk2.symm
  subst hv
  rw [Lib.strCells_length] at hown
  obtain ⟨g, cap, cur, fz, hv, hbg, hg, hfz, hnc, hcm, hcs, htake⟩ : ∃ g cap cur fz, Value.slice A s.size c = .slice (some ⟨g, 0, none⟩) s.size cap ∧ 0 ≤ g ∧ w.W.heap[g]? = some (.cells cur (ρ.t 5) fz) ∧ fz.2 ≤ s.size * 1 ∧ s.size ≤ cap ∧ cap ≤ maxLen ∧ cur.size = cap * 1 ∧ cur.toList.take (s.size * 1) = Lib.strCells s := by
    rcases hown.2 with ⟨_, hz⟩ | ⟨g, cap, cur, fz, hv, r⟩
    · exact absurd hz h0
    · exact ⟨g, cap, cur, fz, hv, r⟩
  simp at hv
  obtain ⟨rfl, rfl⟩ := hv
  have hl0 : s.data.toList ≠ [] := by
    intro e
    have : s.data.toList.length = 0 := by rw [e]; rfl
    exact h0 (by simpa using this)
  have hls : s.data.toList.length = s.size := by simp
  have c1 : w.W.drew.cell? ⟨b, 1, none⟩ = some (.slice (some ⟨g, 0, none⟩) s.size c) := by
    have : w.W.drew.heap[b]? = some (.cells #[p, .slice (some ⟨g, 0, none⟩) s.size c] (ρ.t 72) (0, 0)) := hbk
    rw [Lib.cell_of_heap this]; rfl
  have hSD : (Builtin.unsafeSliceData_ #[(ρ.t 37)] (ρ.t 127) #[.slice (some ⟨g, 0, none⟩) s.size c]).run P w.W.drew = .ok (.pointer (some ⟨g, 0, none⟩)) w.W.drew :=
    Lib.run_unsafeSliceData_row _ _ _ _ _ _ (by omega)
  have hUS : (Builtin.unsafeString_ #[(ρ.t 127), (ρ.t 3)] (ρ.t 9) #[.pointer (some ⟨g, 0, none⟩), .int .i64 s.size]).run P w.W.drew = .ok (.string s) (w.W.drew.freeze ⟨g, 0, none⟩ s.size) := by
    have := Lib.run_unsafeString_row (P := P) w.W.drew (ρ.t 127) (ρ.t 3) (ρ.t 9) (ρ.t 5) L.t127 X.cellsByte g cur.size (by have hg' : w.W.drew.heap[g]? = some (.cells cur (ρ.t 5) fz) := hg; simp [World.shape?, hg']) s.data.toList hl0 (by omega) (by unfold maxLen at hcm; omega) (by
      intro j x hx
      exact hown.cells (g := g) rfl j (.int .u8 x.toNat) (by simp [Lib.strCells, hx]))
    rw [hls] at this
    simpa using this
  have mixed := L.mixed
  have t72 := L.t72; have a72 := L.a72; have z72 := L.z72; have v72 := L.v72; have u72 := run_underlying L.t72
  have t70 := L.t70; have a70 := L.a70; have z70 := L.z70; have v70 := L.v70; have u70 := run_underlying L.t70
  have t37 := L.t37; have a37 := L.a37; have z37 := L.z37; have v37 := L.v37; have u37 := run_underlying L.t37
  have t127 := L.t127; have a127 := L.a127; have z127 := L.z127; have v127 := L.v127; have u127 := run_underlying L.t127
  have t3 := L.t3; have a3 := L.a3; have z3 := L.z3; have v3 := L.v3; have u3 := run_underlying L.t3
  have t9 := L.t9; have a9 := L.a9; have z9 := L.z9; have v9 := L.v9; have u9 := run_underlying L.t9
  have t5 := X.t5; have a5 := X.a5; have z5 := X.z5; have v5 := X.v5; have u5 := run_underlying X.t5
  have hgb : g ≠ b := fun e => hne (by simp [Value.ownBlock, e])
  have hF : Lib.BuilderAtF (ρ.t 72) (ρ.t 5) 0 b p (Lib.strCells s) (w.W.drew.freeze ⟨g, 0, none⟩ s.size) := by
    have hA2 : Lib.BuilderAtF (ρ.t 72) (ρ.t 5) 0 b p (Lib.strCells s) w.W.drew := ⟨Nat.zero_le _, _, hbk, by rw [Lib.strCells_length]; exact hown, hne⟩
    have := hA2.froze (g := g) (cap := c) (by rw [Lib.strCells_length]; exact c1)
    rwa [Lib.strCells_length] at this
  have hfr : ∀ k, k ≠ g → (w.W.drew.freeze ⟨g, 0, none⟩ s.size).heap[k]? = w.W.heap[k]? := by
    intro k hk
    unfold World.freeze
    rw [if_neg h0]
    simp only [Array.getElem?_modify]
    rw [if_neg (fun e => hk e.symm)]
    rfl
  have fin : HF w (w.W.drew.freeze ⟨g, 0, none⟩ s.size) (LEn [sb (ρ.t 72) (ρ.t 5) b (some ⟨g, 0, none⟩) c s]) := by
    have hfs : (w.W.drew.freeze ⟨g, 0, none⟩ s.size).heap.size = w.W.heap.size := by
      unfold World.freeze
      rw [if_neg h0]
      simp only [Array.size_modify]; rfl
    have hfd : (w.W.drew.freeze ⟨g, 0, none⟩ s.size).os = w.W.os ∧ (w.W.drew.freeze ⟨g, 0, none⟩ s.size).tape = w.W.tape ∧ (w.W.drew.freeze ⟨g, 0, none⟩ s.size).output = w.W.output ∧ zd w.W ≤ zd (w.W.drew.freeze ⟨g, 0, none⟩ s.size) := by
      unfold World.freeze
      rw [if_neg h0]
      exact ⟨rfl, rfl, rfl, Nat.le_refl 0⟩
    refine sb_put hE (p := p) hfd.1 hfd.2.1 hfd.2.2.1 (Nat.le_of_eq hfs.symm) hfd.2.2.2 (fun k _ hkb hkg => hfr k (fun e => hkg (by simp [Value.ownBlock, e]))) hp hF ((hfr b hgb.symm).trans hbk) (fun k hk => ?_)
    simp [Value.ownBlock] at hk
    subst hk
    exact ⟨by rw [hfs]; exact (Array.getElem?_eq_some_iff.1 hg).1, .inl (by simp [Value.ownBlock])⟩
  go_enter L.f169, Body.n169_ntmps ρ
  go_wp2
  go_region_o
  all_goals (go_wp2; go_ret; first | exact ⟨(some ⟨g, 0, none⟩, c), rfl, trivial, fin⟩ | exact ⟨rfl, some ⟨g, 0, none⟩, c, fin⟩ | exact ⟨rfl, some ⟨g, 0, none⟩, c, trivial, fin⟩)
end
open Go.RowKit Go.Proofs Go.Shelf Go.Sort
def MaxI (P : Program) (w : Bs) : Prop := ∃ g, P.globals.findIdx? (·.name == "internal/bytealg.MaxLen") = some g ∧ w.R g ∧ ∃ m, w.W.cell? ⟨g, 0, none⟩ = some (.int .i64 m)
def TabI (P : Program) (w : Bs) : Prop := ∃ g, P.globalNamed "internal/strconv.uint64pow10" = some g ∧ w.R g ∧ Lib.TabIs P w.W "internal/strconv.uint64pow10" .u64 Lib.pow10Tab
def Tab (P : Program) (w : Bs) : Prop := TabI P w ∧ MaxI P w
section
variable {P : Program} {ρ : Ren} {w w' : Bs}
theorem Tab.ext (h : Tab P w) (e : w.Ext w') : Tab P w' := by
  obtain ⟨⟨g, h1, h2, h3⟩, g', k1, k2, m, k3⟩ := h
  refine ⟨⟨g, h1, e.r g h2, ?_⟩, g', k1, e.r g' k2, m, ?_⟩
  · unfold Lib.TabIs World.var? at h3 ⊢
    rw [h1] at h3 ⊢
    simp only [Option.bind_some] at h3 ⊢
    rw [e.blk g h2]; exact h3
  · unfold World.cell? at k3 ⊢
    rw [e.blk g' k2]; exact k3
def zEp (n : Int) : Option ByteArray := if -9223372036854775808 ≤ n ∧ n ≤ 9223372036854775807 then some ⟨(Lib.itoa n).toArray⟩ else none
theorem itoaF_rule (L : LaysM.n171 P ρ) (hT : Tab P w) {n : Int} {r : ByteArray} (H : zEp n = some r) (hE : HF w w.W E0) :
    Calls P (ρ.f 171) [.int .i64 n].toArray w.W fun e W' => e = .returned (.string r) ∧ HF w W' E0 := by
  unfold zEp at H
  split at H
  case isFalse => cases H
  rename_i hn
  have hr := Option.some.inj H
  subst hr
  obtain ⟨⟨g, _, _, h3⟩, _⟩ := hT
  exact (Any.strconv_Itoa L n hn.1 hn.2 w.W h3).mono fun e W' ⟨h1, k, os, h2⟩ => ⟨h1, hE.later (by
    subst h2
    exact ⟨rfl, rfl, rfl, by simp [grow, World.drewN], fun b hb => heap_grow_old _ _ (by simpa [World.drewN] using hb), Nat.le_refl 0⟩)⟩
end
open Go.RowKit
def Raw {α : Type} (t : Fl α) : Type := {cs : List Value // cs.length = t.sz ∧ cs.all (·.oneCell') = true}
section
variable {α : Type} {t : Fl α} {l : List α} {i : Nat} {cs : Raw t} {O : Nat → Prop} {W : World} {w : Bs} {n : Nat} {f : Nat → Option Value} {E : Nat → Ent} {X : Act → World → Prop} {A : Option Addr} {c T : Nat}
end
section
variable {α : Type} {P : Program} {w : Bs} {n : Nat} {f : Nat → Option Value} {E : Nat → Ent} {Q : Exit → Act → World → Prop} {ops : Array Oper} {rest : List Oper} {ty T : Nat} {pos : String} {af : Array Edge} {g : Option (Nat × Bool)} {p q : Operand} {v : Value}
theorem zz {ρ : Operand → Value} {W : World} {d : Option Tmp} {a : Addr} (hp : ρ p = .pointer (some a)) : (execOp ρ ⟨d, .nilCheck p, ty, pos, af, g⟩).run P W = .ok (.value (.pointer (some a))) W := by
  simp [execOp, hp]
end
open Go.RowKit Go.Proofs
open Go.ChangeMaps Go.MapKept
open Go.Maps (Keyed int_keyed keyOf_int_mk)
section
variable {P : Program} {w : Bs} {n : Nat} {f : Nat → Option Value} {E : Nat → Ent} {X : Act → World → Prop} {Q : Exit → Act → World → Prop} {ops : Array Oper} {rest : List Oper}
variable {d ty T MT KT VT : Nat} {pos : String} {af : Array Edge} {g : Option (Nat × Bool)} {p q x : Operand} {b : Nat}
theorem HF.split {W : World} (h : HF w W E) {κ κ' : Nat} {e1 e2 : Ent} (hne : κ' ≠ κ) (l1 : e1.loc) (l2 : e2.loc) (p1 : e1.φ w.O W) (p2 : e2.φ w.O W) (s1 : ∀ b, e1.S b → (E κ).S b) (s2 : ∀ b, e2.S b → (E κ).S b) (hd : ∀ b, e1.S b → ¬ e2.S b) :
    HF w W (up (up E κ e1) κ' e2) where
  os := h.os
  tape := h.tape
  output := h.output
  size := h.size
  drawn := h.drawn
  keep := h.keep
  phi j := by
    rcases QJ (up E κ e1) κ' e2 j with ⟨_, h2⟩ | ⟨_, h2⟩ <;> rw [h2]
    · exact p2
    · rcases QJ E κ e1 j with ⟨_, h2⟩ | ⟨_, h2⟩ <;> rw [h2]
      · exact p1
      · exact h.phi j
  loc j := by
    rcases QJ (up E κ e1) κ' e2 j with ⟨_, h2⟩ | ⟨_, h2⟩ <;> rw [h2]
    · exact l2
    · rcases QJ E κ e1 j with ⟨_, h2⟩ | ⟨_, h2⟩ <;> rw [h2]
      · exact l1
      · exact h.loc j
  bd j x := by
    rcases QJ (up E κ e1) κ' e2 j with ⟨_, h2⟩ | ⟨_, h2⟩ <;> rw [h2]
    · exact fun hx => h.bd κ x (s2 x hx)
    · rcases QJ E κ e1 j with ⟨_, h2⟩ | ⟨_, h2⟩ <;> rw [h2]
      · exact fun hx => h.bd κ x (s1 x hx)
      · exact h.bd j x
  disj j j' x hjj := by
    rcases QJ (up E κ e1) κ' e2 j with ⟨a1, a2⟩ | ⟨a1, a2⟩ <;> rw [a2]
    · rcases QJ (up E κ e1) κ' e2 j' with ⟨b1, b2⟩ | ⟨b1, b2⟩ <;> rw [b2]
      · exact absurd (a1.trans b1.symm) hjj
      · rcases QJ E κ e1 j' with ⟨c1, c2⟩ | ⟨c1, c2⟩ <;> rw [c2]
        · exact fun hx hy => hd x hy hx
        · exact fun hx => h.disj κ j' x (fun e => c1 e.symm) (s2 x hx)
    · rcases QJ (up E κ e1) κ' e2 j' with ⟨b1, b2⟩ | ⟨b1, b2⟩ <;> rw [b2]
      · rcases QJ E κ e1 j with ⟨c1, c2⟩ | ⟨c1, c2⟩ <;> rw [c2]
        · exact fun hx => hd x hx
        · exact fun hx hy => h.disj j κ x c1 hx (s2 x hy)
      · rcases QJ E κ e1 j with ⟨c1, c2⟩ | ⟨c1, c2⟩ <;> rw [c2]
        · rcases QJ E κ e1 j' with ⟨d1, d2⟩ | ⟨d1, d2⟩ <;> rw [d2]
          · exact absurd (c1.trans d1.symm) hjj
          · exact fun hx => h.disj κ j' x (fun e => d1 e.symm) (s1 x hx)
        · rcases QJ E κ e1 j' with ⟨d1, d2⟩ | ⟨d1, d2⟩ <;> rw [d2]
          · exact fun hx hy => h.disj j κ x c1 hx (s1 x hy)
          · exact h.disj j j' x hjj
theorem HF.merge {W W' : World} (h : HF w W E) {κ κ' : Nat} (e : Ent) (hne : κ' ≠ κ) (hos : W'.os = W.os) (htp : W'.tape = W.tape) (hou : W'.output = W.output) (hsz : W.heap.size ≤ W'.heap.size) (hdr : zd W ≤ zd W')
    (hbl : ∀ x, x < W.heap.size → ¬ (E κ).S x → W'.heap[x]? = W.heap[x]?) (he : e.loc) (hp : e.φ w.O W') (hS : ∀ x, e.S x → (E κ).S x ∨ (E κ').S x) : HF w W' (up (up E κ' emp) κ e) where
  os := hos.trans h.os
  tape := htp.trans h.tape
  output := hou.trans h.output
  size := Nat.le_trans h.size hsz
  drawn := Nat.le_trans h.drawn hdr
  keep x hx := (hbl x (h.rlt hx) (fun hs => (h.bd κ x hs).1 hx)).trans (h.keep x hx)
  phi j := by
    rcases QJ (up E κ' emp) κ e j with ⟨_, h2⟩ | ⟨h1, h2⟩ <;> rw [h2]
    · exact hp
    · rcases QJ E κ' emp j with ⟨_, h3⟩ | ⟨h4, h3⟩ <;> rw [h3]
      · trivial
      · refine (h.loc j).at_ _ W W' (fun x hx => ?_) (h.phi j)
        rcases hx with hx | hx
        · exact hbl x (h.rlt (.inl hx)) (fun hs => (h.bd κ x hs).1 (.inl hx))
        · exact hbl x (h.bd j x hx).2 (fun hs => h.disj j κ x h1 hx hs)
  loc j := by
    rcases QJ (up E κ' emp) κ e j with ⟨_, h2⟩ | ⟨_, h2⟩ <;> rw [h2]
    · exact he
    · rcases QJ E κ' emp j with ⟨_, h2⟩ | ⟨_, h2⟩ <;> rw [h2]
      · exact zBz
      · exact h.loc j
  bd j x := by
    rcases QJ (up E κ' emp) κ e j with ⟨_, h2⟩ | ⟨_, h2⟩ <;> rw [h2]
    · intro hx
      rcases hS x hx with hx | hx
      · exact ⟨(h.bd κ x hx).1, Nat.lt_of_lt_of_le (h.bd κ x hx).2 hsz⟩
      · exact ⟨(h.bd κ' x hx).1, Nat.lt_of_lt_of_le (h.bd κ' x hx).2 hsz⟩
    · rcases QJ E κ' emp j with ⟨_, h2⟩ | ⟨_, h2⟩ <;> rw [h2]
      · exact fun hx => hx.elim
      · exact fun hx => ⟨(h.bd j x hx).1, Nat.lt_of_lt_of_le (h.bd j x hx).2 hsz⟩
  disj j j' x hjj := by
    rcases QJ (up E κ' emp) κ e j with ⟨a1, a2⟩ | ⟨a1, a2⟩ <;> rw [a2]
    · rcases QJ (up E κ' emp) κ e j' with ⟨b1, b2⟩ | ⟨b1, b2⟩ <;> rw [b2]
      · exact absurd (a1.trans b1.symm) hjj
      · rcases QJ E κ' emp j' with ⟨c1, c2⟩ | ⟨c1, c2⟩ <;> rw [c2]
        · exact fun _ hy => hy
        · intro hx
          rcases hS x hx with hx | hx
          · exact h.disj κ j' x (fun e => b1 e.symm) hx
          · exact h.disj κ' j' x (fun e => c1 e.symm) hx
    · rcases QJ (up E κ' emp) κ e j' with ⟨b1, b2⟩ | ⟨b1, b2⟩ <;> rw [b2]
      · rcases QJ E κ' emp j with ⟨c1, c2⟩ | ⟨c1, c2⟩ <;> rw [c2]
        · exact fun hx => hx.elim
        · intro hx hy
          rcases hS x hy with hy | hy
          · exact h.disj j κ x a1 hx hy
          · exact h.disj j κ' x c1 hx hy
      · rcases QJ E κ' emp j with ⟨c1, c2⟩ | ⟨c1, c2⟩ <;> rw [c2]
        · exact fun hx => hx.elim
        · rcases QJ E κ' emp j' with ⟨d1, d2⟩ | ⟨d1, d2⟩ <;> rw [d2]
          · exact fun _ hy => hy
          · exact h.disj j j' x hjj
end
open Go.RowKit Go.Proofs
open Go.ChangeMaps Go.MapKept
open Go.Maps (Keyed int_keyed keyOf_int_mk)
section words
end words
section
variable {P : Program} {w : Bs} {n : Nat} {f : Nat → Option Value} {E : Nat → Ent} {X : Act → World → Prop} {Q : Exit → Act → World → Prop} {ops : Array Oper} {rest : List Oper}
variable {d ty T MT KT VT : Nat} {pos : String} {af : Array Edge} {g : Option (Nat × Bool)} {p q x : Operand} {α : Type} {t : Fl α} {b : Nat}
end
open Go.RowKit Go.Proofs
structure Hd where
  A : Option Addr
  n : Nat
  c : Nat
def flH : Fl Hd := Fl.flat 1 (fun h => [.slice h.A h.n h.c]) (fun _ => rfl) (fun _ u h => by
  simp at h
  subst h; rfl)
structure NE (α : Type) where
  A : Option Addr
  c : Nat
  l : List α
  own : Bool
def NE.hd {α : Type} (e : NE α) : Hd := ⟨e.A, e.l.length, e.c⟩
def NE.blk {α : Type} (e : NE α) (x : Nat) : Prop := e.own = true ∧ (Value.slice e.A e.l.length e.c).ownBlock = some x
theorem own_any (A : Option Addr) (n m c d : Nat) : (Value.slice A n c).ownBlock = (Value.slice A m d).ownBlock := by cases A <;> rfl
section
variable {P : Program} {w : Bs} {n : Nat} {f : Nat → Option Value} {E : Nat → Ent} {X : Act → World → Prop} {Q : Exit → Act → World → Prop} {ops : Array Oper} {rest : List Oper}
variable {d ty T T0 T' e : Nat} {pos : String} {af : Array Edge} {g : Option (Nat × Bool)} {p q x : Operand} {α : Type} {t : Fl α} {A : Option Addr} {c b : Nat} {ms : List (NE α)} {ls : List (List α)}
def ins (T' : Nat) (t : Fl α) (ms : List (NE α)) : Ent :=
  ⟨fun x => ∃ e ∈ ms, e.blk x, fun O W => (∀ e ∈ ms, SlF e.A e.l.length e.c ∧ (e.own = true → (ow e.A e.c T' t e.l).φ O W)) ∧ ms.Pairwise fun e e' => ∀ x, e.blk x → ¬ e'.blk x⟩
theorem zCa (T' : Nat) (t : Fl α) (ms : List (NE α)) : (ins T' t ms).loc := ⟨fun O W W' h hp => ⟨fun e he => ⟨(hp.1 e he).1, fun ho => (zBh e.A e.c T' t e.l).at_ O W W' (fun x hx => h x (hx.imp id fun hx => ⟨e, he, ho, hx⟩)) ((hp.1 e he).2 ho)⟩, hp.2⟩,
  fun O O' W h hp => ⟨fun e he => ⟨(hp.1 e he).1, fun ho => (zBh e.A e.c T' t e.l).up O O' W h ((hp.1 e he).2 ho)⟩, hp.2⟩⟩
def no (A : Option Addr) (n c T0 T' : Nat) (t : Fl α) (ms : List (NE α)) : Ent :=
  ⟨fun x => (Value.slice A n c).ownBlock = some x ∨ ∃ e ∈ ms, e.blk x, fun O W => n = ms.length ∧ (ow A c T0 flH (ms.map NE.hd)).φ O W ∧ (ins T' t ms).φ O W ∧ ∀ e ∈ ms, ∀ x, e.blk x → ¬ (Value.slice A n c).ownBlock = some x⟩
def NC (ms : List (NE α)) (ls : List (List α)) : Prop := ms.map (·.l) = ls ∧ ∀ e ∈ ms, e.own = true
theorem NC.nil : NC ([] : List (NE α)) [] := ⟨rfl, fun _ h => (nomatch h)⟩
theorem NC.len (h : NC ms ls) : ls.length = ms.length := by rw [← h.1]; simp
theorem HF.insPut {W : World} (h : HF w W E) {κ κ' i c' : Nat} {A' : Option Addr} {l' : List α} {e0 : NE α} (hk : E κ = ins T' t ms) (hk' : E κ' = Proofs.YtokanbmnoghafaaGreatDoor.ow A' c' T' t l') (hne : κ' ≠ κ) (he : ms[i]? = some e0) (hf : SlF A' l'.length c') : HF w W (up (up E κ' emp) κ (ins T' t (ms.set i ⟨A', c', l', true⟩))) := by
  have h1 := h.phi κ
  rw [hk] at h1
  have h2 := h.phi κ'
  rw [hk'] at h2
  obtain ⟨h1, h3⟩ := h1
  have hi : i < ms.length := (List.getElem?_eq_some_iff.1 he).1
  have hmem : ∀ e ∈ ms.set i ⟨A', c', l', true⟩, e = ⟨A', c', l', true⟩ ∨ e ∈ ms := fun e he => by
    obtain ⟨j, hj⟩ := List.getElem?_of_mem he
    by_cases hij : i = j
    · subst hij
      rw [List.getElem?_set_self hi] at hj
      exact .inl (Option.some.inj hj).symm
    · rw [List.getElem?_set_ne hij] at hj
      exact .inr (List.mem_of_getElem? hj)
  have hd : ∀ e ∈ ms, ∀ x, e.blk x → ¬ (⟨A', c', l', true⟩ : NE α).blk x := fun e he x hx hy => h.disj κ κ' x (fun e => hne e.symm) (by rw [hk]; exact ⟨e, he, hx⟩) (by rw [hk']; exact hy.2)
  refine h.merge (ins T' t (ms.set i ⟨A', c', l', true⟩)) hne rfl rfl rfl (Nat.le_refl _) (Nat.le_refl _) (fun _ _ _ => rfl) (zCa _ _ _) ⟨fun e he => ?_, ?_⟩ (fun x hx => ?_)
  · rcases hmem e he with rfl | he
    · exact ⟨hf, fun _ => h2⟩
    · exact h1 e he
  · have hms : ms.set i ⟨A', c', l', true⟩ = ms.take i ++ ⟨A', c', l', true⟩ :: ms.drop (i + 1) := List.set_eq_take_append_cons_drop.trans (if_pos hi)
    have hms2 : ms = ms.take i ++ e0 :: ms.drop (i + 1) := by
      have := List.take_append_drop i ms
      rw [List.drop_eq_getElem_cons hi] at this
      have h4 : ms[i] = e0 := (List.getElem?_eq_some_iff.1 he).2
      rw [h4] at this; exact this.symm
    rw [hms2] at h3
    obtain ⟨p1, p2, p3⟩ := List.pairwise_append.1 h3
    obtain ⟨p4, p5⟩ := List.pairwise_cons.1 p2
    rw [hms, List.pairwise_append, List.pairwise_cons]
    refine ⟨p1, ⟨fun e' he' x hx hy => hd e' (List.mem_of_mem_drop he') x hy hx, p5⟩, fun e1 he1 e2 he2 => ?_⟩
    rcases List.mem_cons.1 he2 with rfl | he2
    · exact fun x hx => hd e1 (List.mem_of_mem_take he1) x hx
    · exact p3 e1 he1 e2 (List.mem_cons_of_mem _ he2)
  · obtain ⟨e, he, hx⟩ := hx
    rcases hmem e he with rfl | he
    · right; rw [hk']; exact hx.2
    · left; rw [hk]; exact ⟨e, he, hx⟩
end
open Go.RowKit
theorem St.own {P : Program} {w : Bs} {n : Nat} {f : Nat → Option Value} {E : Nat → Ent} {l : List Oper} {m : Nat} {t : Tn} {Q : Exit → Act → World → Prop} {fu : Nat} {listed : Array Bool} {α : Type} {i : Nat} (κ : Nat) {b T : Nat} {vs : List Value} (t' : Fl α) (ll : List α) {css : List (List Value)} (hk : E κ = bx b vs.toArray T) (hal : Al (rp t' w.O w.W) css ll) (hl : css.flatten = vs) (hsz : 0 < t'.sz) (hm : ll.length ≤ maxLen)
    (K : St P w n l m t Q fu listed f (up E κ (ow (some ⟨b, 0, none⟩) ll.length T t' ll)) i) : St P w n l m t Q fu listed f E i :=
  fun inv => Tr.own κ t' ll hk hal hl hsz hm (K inv)
theorem Dr.own {P : Program} {w : Bs} {n : Nat} {f : Nat → Option Value} {E : Nat → Ent} {l : List Oper} {m : Nat} {t : Tn} {Q : Exit → Act → World → Prop} {fu : Nat} {listed : Array Bool} {α : Type} (κ : Nat) {b T : Nat} {vs : List Value} (t' : Fl α) (ll : List α) {css : List (List Value)} (hk : E κ = bx b vs.toArray T) (hal : Al (rp t' w.O w.W) css ll) (hl : css.flatten = vs) (hsz : 0 < t'.sz) (hm : ll.length ≤ maxLen)
    (K : Dr P w n l m t Q fu listed f (up E κ (ow (some ⟨b, 0, none⟩) ll.length T t' ll))) : Dr P w n l m t Q fu listed f E :=
  fun inv => Tr.own κ t' ll hk hal hl hsz hm (K inv)
open Go.RowKit Go.Proofs
structure Lens {α β : Type} (t : Fl α) (ti : Fl β) where
  get : α → List β
  ga : t.Ad → Option Addr × Nat
  okR : (Nat → Prop) → World → t.Ad → α → Prop
  ok : ∀ S W u x, okR S W u x → Sl S W ti (ga u).1 (ga u).2 (get x) → t.ok S W u x
  locR : ∀ {S S' : Nat → Prop} {W W' : World} {u : t.Ad} {x : α}, okR S W u x → (∀ b, S b → S' b) → (∀ b, S b → W'.heap[b]? = W.heap[b]?) → okR S' W' u x
section
variable {α β : Type} {t : Fl α} {ti : Fl β}
structure DE (t : Fl α) where
  u : t.Ad
  x : α
  own : Bool
def DC (ms : List (DE t)) (l : List α) : Prop := ms.map (·.x) = l ∧ ∀ d ∈ ms, d.own = true
end
section
variable {P : Program} {w : Bs} {n : Nat} {f : Nat → Option Value} {E : Nat → Ent} {X : Act → World → Prop} {Q : Exit → Act → World → Prop} {ops : Array Oper} {rest : List Oper}
variable {d ty T T0 T' e : Nat} {pos : String} {af : Array Edge} {g : Option (Nat × Bool)} {p q : Operand} {α β : Type} {t : Fl α} {ti : Fl β} {L : Lens t ti} {A : Option Addr} {c b : Nat} {ms : List (DE t)} {ls : List α}
theorem DC.nil : DC ([] : List (DE t)) [] := ⟨rfl, fun _ h => (nomatch h)⟩
theorem DC.len (h : DC ms ls) : ls.length = ms.length := by rw [← h.1]; simp
theorem HF.insJoin {W : World} (h : HF w W E) {κ κ' : Nat} {m1 m2 : List (NE β)} (hk : E κ = ins T' ti m1) (hk' : E κ' = ins T' ti m2) (hne : κ' ≠ κ) : HF w W (up (up E κ' emp) κ (ins T' ti (m1 ++ m2))) := by
  have h1 := h.phi κ
  rw [hk] at h1
  have h2 := h.phi κ'
  rw [hk'] at h2
  refine h.merge (ins T' ti (m1 ++ m2)) hne rfl rfl rfl (Nat.le_refl _) (Nat.le_refl _) (fun _ _ _ => rfl) (zCa _ _ _) ⟨fun e he => ?_, ?_⟩ (fun x hx => ?_)
  · rcases List.mem_append.1 he with he | he
    · exact h1.1 e he
    · exact h2.1 e he
  · rw [List.pairwise_append]
    exact ⟨h1.2, h2.2, fun e1 he1 e2 he2 x hx hy => h.disj κ κ' x (fun e => hne e.symm) (by rw [hk]; exact ⟨e1, he1, hx⟩) (by rw [hk']; exact ⟨e2, he2, hy⟩)⟩
  · obtain ⟨e, he, hx⟩ := hx
    rcases List.mem_append.1 he with he | he
    · exact .inl (by rw [hk]; exact ⟨e, he, hx⟩)
    · exact .inr (by rw [hk']; exact ⟨e, he, hx⟩)
theorem HF.insOne {W : World} (h : HF w W E) {κ : Nat} {A' : Option Addr} {c' : Nat} {l' : List β} (hk : E κ = Proofs.YtokanbmnoghafaaGreatDoor.ow A' c' T' ti l') (hf : SlF A' l'.length c') : HF w W (up E κ (ins T' ti [⟨A', c', l', true⟩])) := by
  have h1 := h.phi κ
  rw [hk] at h1
  refine h.mod κ _ rfl rfl rfl (Nat.le_refl _) (Nat.le_refl _) (fun _ _ _ => rfl) (zCa _ _ _) ⟨fun e he => ?_, by simp⟩ (fun x hx => ?_)
  · simp at he; subst he; exact ⟨hf, fun _ => h1⟩
  · obtain ⟨e, he, hx⟩ := hx
    simp at he; subst he
    have : (E κ).S x := by rw [hk]; exact hx.2
    exact ⟨.inl this, (h.bd κ x this).2⟩
theorem Kk {a b : Nat} (h : Nat.beq a b = false) : a ≠ b := fun e => by subst e; simp at h
theorem HF.insTake {W : World} (h : HF w W E) {κ κ' j : Nat} {m1 : List (NE β)} {e0 : NE β} (hk : E κ = ins T' ti m1) (hne : κ' ≠ κ) (he0 : m1[j]? = some e0) (ho : e0.own = true) :
    HF w W (up (up E κ (ins T' ti (m1.set j { e0 with own := false }))) κ' (Proofs.YtokanbmnoghafaaGreatDoor.ow e0.A e0.c T' ti e0.l)) ∧ SlF e0.A e0.l.length e0.c := by
  have hφ := h.phi κ
  rw [hk] at hφ
  obtain ⟨g3, g4⟩ := hφ
  have hjm : j < m1.length := (List.getElem?_eq_some_iff.1 he0).1
  have he0m := List.mem_of_getElem? he0
  have hset : m1.set j { e0 with own := false } = m1.take j ++ { e0 with own := false } :: m1.drop (j + 1) := List.set_eq_take_append_cons_drop.trans (if_pos hjm)
  have hms2 : m1 = m1.take j ++ e0 :: m1.drop (j + 1) := by
    have := List.take_append_drop j m1
    rw [List.drop_eq_getElem_cons hjm] at this
    have h4 : m1[j] = e0 := (List.getElem?_eq_some_iff.1 he0).2
    rw [h4] at this; exact this.symm
  have hmem : ∀ e ∈ m1.set j { e0 with own := false }, e = { e0 with own := false } ∨ e ∈ m1.take j ∨ e ∈ m1.drop (j + 1) := fun e he => by
    rw [hset] at he
    rcases List.mem_append.1 he with he | he
    · exact .inr (.inl he)
    · rcases List.mem_cons.1 he with rfl | he
      · exact .inl rfl
      · exact .inr (.inr he)
  have hmem2 : ∀ e, (e ∈ m1.take j ∨ e ∈ m1.drop (j + 1)) → e ∈ m1 := fun e he => he.elim List.mem_of_mem_take List.mem_of_mem_drop
  have hnb : ∀ x, ¬ ({ e0 with own := false } : NE β).blk x := fun x hx => by cases hx.1
  have g4' := g4
  rw [hms2] at g4'
  obtain ⟨p1, p2, p3⟩ := List.pairwise_append.1 g4'
  obtain ⟨p4, p5⟩ := List.pairwise_cons.1 p2
  refine ⟨h.split hne (zCa _ _ _) (zBh _ _ _ _ _) ⟨fun e' he' => ?_, ?_⟩ ((g3 e0 he0m).2 ho) (fun x hx => ?_) (fun x hx => ?_) (fun x hx hy => ?_), (g3 e0 he0m).1⟩
  · rcases hmem e' he' with rfl | he'
    · exact ⟨(g3 e0 he0m).1, fun h => by cases h⟩
    · exact g3 e' (hmem2 e' he')
  · rw [hset, List.pairwise_append, List.pairwise_cons]
    refine ⟨p1, ⟨fun e' he' x hx => absurd hx (hnb x), p5⟩, fun e1 he1 e2 he2 => ?_⟩
    rcases List.mem_cons.1 he2 with rfl | he2
    · exact fun x _ => hnb x
    · exact p3 e1 he1 e2 (List.mem_cons_of_mem _ he2)
  · rw [hk]
    obtain ⟨e', he', hx⟩ := hx
    rcases hmem e' he' with rfl | he'
    · exact absurd hx (hnb x)
    · exact ⟨e', hmem2 e' he', hx⟩
  · rw [hk]
    exact ⟨e0, he0m, ho, hx⟩
  · have hy : e0.blk x := ⟨ho, hy⟩
    obtain ⟨e', he', hx⟩ := hx
    rcases hmem e' he' with rfl | he'
    · exact hnb x hx
    · rcases he' with he' | he'
      · exact p3 e' he' e0 List.mem_cons_self x hx hy
      · exact p4 e' he' x hy hx
def DT (ms : List (DE t)) (ls : List α) (i : Nat) (u : t.Ad) (x : α) : Prop := DC ms ls ∧ ms[i]? = some ⟨u, x, true⟩
theorem DT.hi {i : Nat} {u : t.Ad} {x : α} (h : DT ms ls i u x) : i < ms.length := (List.getElem?_eq_some_iff.1 h.2).1
end
section
variable {P : Program} {w : Bs} {n : Nat} {f : Nat → Option Value} {E : Nat → Ent} {l : List Oper} {m : Nat} {t : Tn} {Q : Exit → Act → World → Prop} {fu : Nat} {listed : Array Bool}
variable {ty T : Nat} {pos : String} {af : Array Edge} {g : Option (Nat × Bool)} {p q : Operand} {v : Value}
end
open Go.RowKit Go.Proofs Go.Shelf Go.Sort
def cutF (s sep : ByteArray) : Option (ByteArray × ByteArray × Bool) :=
  if s.size < 4294967281 then some (⟨(Lib.cut s.data.toList sep.data.toList).1.toArray⟩, ⟨(Lib.cut s.data.toList sep.data.toList).2.1.toArray⟩, (Lib.cut s.data.toList sep.data.toList).2.2) else none
def zE0 (s sep : ByteArray) : Option (List ByteArray) := if s.size < 4294967281 ∧ 1 ≤ sep.size then some (Lib.splitB sep 0 (Lib.countB s sep) s) else none
def trimF (s c : ByteArray) : Option ByteArray :=
  if s.size ≤ 9223372036854775807 ∧ c.size < 4294967281 ∧ c.data.toList.all (fun b => decide (b.toNat < 128)) = true then some ⟨(Lib.trimS s.data.toList c.data.toList).toArray⟩ else none
def zHN (s : ByteArray) : Option Int := if s.size ≤ 18 then Lib.atoi s.data.toList else none
def zBL (s : ByteArray) (p : Int → Option Bool) : Option Bool :=
  if ∀ x : Nat, x < 1114112 → (p x).isSome = true then some (decide (0 ≤ Lib.idxFunc (fun x => (p x).getD false) true s)) else none
section
variable {P : Program} {ρ : Ren} {w : Bs}
theorem MaxI.at_ (h : MaxI P w) (hg : P.globals.findIdx? (·.name == "internal/bytealg.MaxLen") = some (ρ.g 1)) : ∃ m, w.W.cell? ⟨(ρ.g 1), 0, none⟩ = some (.int .i64 m) := by
  obtain ⟨g, h1, _, m, h2⟩ := h
  rw [hg] at h1
  obtain rfl := Option.some.inj h1
  exact ⟨m, h2⟩
theorem below_drewN (W : World) (n : Nat) : Proofs.YtokanbmnoghafaaGreatDoor.Below W.heap.size W (W.drewN n) := ⟨rfl, rfl, rfl, Nat.le_refl _, fun _ _ => rfl, Nat.le_refl 0⟩
theorem cutF_rule (L : Lays.n145 P ρ) (hT : Tab P w) (hg : P.globals.findIdx? (·.name == "internal/bytealg.MaxLen") = some (ρ.g 1)) {s sep : ByteArray} {r : ByteArray × ByteArray × Bool} (H : cutF s sep = some r) (hE : HF w w.W E0) :
    Calls P (ρ.f 145) [.string s, .string sep].toArray w.W fun e W' => e = .returned (.tuple #[.string r.1, .string r.2.1, .bool r.2.2]) ∧ HF w W' E0 := by
  unfold cutF at H
  split at H
  case isFalse => cases H
  rename_i hs
  have hr := Option.some.inj H
  subst hr
  obtain ⟨m, hm⟩ := hT.2.at_ hg
  exact (Any.strings_Cut L s sep m w.W hs hm).mono fun e W' ⟨h1, n, h2⟩ => ⟨h1, by rw [h2]; exact hE.later (below_drewN _ n)⟩
theorem splitF_rule (L : Lays.n146 P ρ) (hT : Tab P w) (hg : P.globals.findIdx? (·.name == "internal/bytealg.MaxLen") = some (ρ.g 1)) {t : Fl ByteArray} (hsz : t.sz = 1) (he : ∀ u x, t.enc u x = [.string x]) (u0 : t.Ad) (htr : t.Tri)
    (hi9 : (P.info? (ρ.t 9)).map (fun i => (i.zero, i.size, i.bytes)) = some (some (.string ByteArray.empty), 1, 16)) {s sep : ByteArray} {r : List ByteArray} (H : zE0 s sep = some r) (hE : HF w w.W (LEn [emp])) :
    Calls P (ρ.f 146) [.string s, .string sep].toArray w.W fun e W' => ∃ u : (Option Addr × Nat), e = .returned (.slice u.1 r.length u.2) ∧ (SlF u.1 r.length u.2) ∧ HF w W' (LEn [ow u.1 u.2 (ρ.t 9) t r]) := by
  unfold zE0 at H
  split at H
  case isFalse => cases H
  rename_i hs
  have hr := Option.some.inj H
  obtain ⟨m, hm⟩ := hT.2.at_ hg
  have hlen := Lib.splitB_all sep hs.2 0 _ s rfl
  have hle := Lib.countB_le sep hs.2 s.size s (Nat.le_refl _)
  rw [hr] at hlen
  have hmax : r.length ≤ maxLen := by unfold maxLen; omega
  have hall : ∀ O W, Al (rp t O W) (r.map fun x => [Value.string x]) r := fun O W => by
    have : ∀ l : List ByteArray, Al (rp t O W) (l.map fun x => [Value.string x]) l := fun l => by
      induction l with
      | nil => exact .nil
      | cons x l ih => exact .cons ⟨u0, htr _ _ _ _, (he _ _).symm⟩ ih
    exact this r
  have hfl : (r.map fun x => [Value.string x]).flatten = r.map Value.string := by
    have : ∀ l : List ByteArray, (l.map fun x => [Value.string x]).flatten = l.map Value.string := fun l => by
      induction l with
      | nil => rfl
      | cons x l ih => simp only [List.map_cons, List.flatten_cons, ih]; rfl
    exact this r
  have c := Any.strings_Split L hi9 s sep m w.W hs.1 hm hs.2
  rw [hr, ← hlen] at c
  refine c.mono fun e W' ⟨h1, h2⟩ => ⟨(some ⟨w.W.heap.size, 0, none⟩, r.length), h1, ⟨Nat.le_refl _, hmax, fun _ => rfl⟩, ?_⟩
  subst h2
  refine (hE.mod (W' := w.W.alloc (.cells (r.map Value.string).toArray (ρ.t 9))) 0 (ow (some ⟨w.W.heap.size, 0, none⟩) r.length (ρ.t 9) t r) rfl rfl rfl (by simp) (Nat.le_refl 0) (fun b hb _ => ?_) (zBh _ _ _ _ _) ?_ (fun b hb => ?_)).weaken (fun k => ?_)
  · exact ((Proofs.YtokanbmnoghafaaGreatDoor.Below.refl _ _).alloc (Nat.le_refl _) _).block b hb
  · refine ⟨r.map fun x => [Value.string x], hall _ _, by rw [hfl, hsz]; simp, .inr ⟨w.W.heap.size, r.length, (r.map Value.string).toArray, rfl, Nat.zero_le _, heap_alloc_new _ _, Nat.le_refl _, hmax, by rw [hsz]; simp, ?_⟩⟩
    rw [hfl, hsz, Nat.mul_one]
    exact List.take_of_length_le (by simp)
  · have hb : (Value.slice (some ⟨w.W.heap.size, 0, none⟩) r.length r.length).ownBlock = some b := hb
    simp [Value.ownBlock] at hb
    subst hb
    exact ⟨.inr (Nat.le_refl _), by simp⟩
  · cases k with
    | zero => exact .inl rfl
    | succ k => exact .inr rfl
theorem trimF_rule (L : Lays.n160 P ρ) (h116 : (P.info? (ρ.t 116)).map (fun i => (i.zero, i.size)) = some (some (.agg (Array.replicate 256 (.bool false))), 256)) {s c r : ByteArray} (H : trimF s c = some r) (hE : HF w w.W E0) :
    Calls P (ρ.f 160) [.string s, .string c].toArray w.W fun e W' => e = .returned (.string r) ∧ HF w W' E0 := by
  unfold trimF at H
  split at H
  case isFalse => cases H
  rename_i hs
  have hr := Option.some.inj H
  subst hr
  refine (Any.strings_Trim_laid L h116 s c w.W hs.1 hs.2.1 (fun j b hb => ?_)).mono fun e W' ⟨h1, h2⟩ => ⟨h1, hE.later (Proofs.YtokanbmnoghafaaGreatDoor.Below.of_kit h2 (Nat.le_refl 0))⟩
  exact of_decide_eq_true (List.all_eq_true.1 hs.2.2 b (List.mem_of_getElem? hb))
theorem atoiF_rule (L : Lays.n172 P ρ) {s : ByteArray} {r : Int} (H : zHN s = some r) (hE : HF w w.W E0) :
    Calls P (ρ.f 172) [.string s].toArray w.W fun e W' => e = .returned (.tuple #[.int .i64 r, .nilIface]) ∧ HF w W' E0 := by
  unfold zHN at H
  split at H
  case isFalse => cases H
  rename_i hs
  exact (Any.strconv_Atoi L s r hs H w.W).mono fun e W' ⟨h1, t, h2⟩ => ⟨h1, by rw [h2]; exact hE.later (Proofs.YtokanbmnoghafaaGreatDoor.Below.of_kit (Go.Joins.below_bytesWorld _ _ _ _ (Nat.le_refl _)) (Nat.le_refl 0))⟩
theorem zIv (L : LaysGw.n17 P ρ) {s : ByteArray} {p : Int → Option Bool} {fid : Nat} {cap : List Value} (hg : ∀ args W, (callFunc fid args).run P W = .ok (.enter fid args) W)
    (hf : ∀ (w' : Bs), w.Ext w' → ∀ (z0 : Int), ∀ y, p z0 = some y → Calls P fid (([(.int .i32 z0)] : List Value) ++ cap).toArray w'.W fun e W'' => e = .returned (.bool y) ∧ HF w' W'' E0) {r : Bool} (H : zBL s p = some r) (hE : HF w w.W E0) :
    Calls P (ρ.f 17) [.string s, .func (.func fid) #[] cap.toArray].toArray w.W fun e W' => e = .returned (.bool r) ∧ HF w W' E0 := by
  unfold zBL at H
  split at H
  case isFalse => cases H
  rename_i hs
  have hr := Option.some.inj H
  subst hr
  refine (Any.strings_ContainsFunc_grows L fid cap.toArray hg (fun x => (p x).getD false) s w.W (fun W x hx hb => ?_)).mono fun e W' ⟨h1, h2⟩ => ⟨h1, hE.later (Proofs.YtokanbmnoghafaaGreatDoor.Below.of_kit h2 (Nat.le_refl 0))⟩
  obtain ⟨y, hy⟩ := Option.isSome_iff_exists.1 (hs x (by omega))
  have hext : w.Ext ⟨W, w.O, fun b => b < W.heap.size, fun b h => by
      rcases h with h | h
      · exact Nat.lt_of_lt_of_le (w.lt b (.inl h)) hb.size
      · exact h⟩ := ⟨fun _ h => h, fun b h => .inr (Nat.lt_of_lt_of_le (w.lt b h) hb.size), fun b h => hb.block b (w.lt b h)⟩
  have := hf _ hext x y hy
  have hargs : (([(.int .i32 (x : Int))] : List Value) ++ cap).toArray = #[encR x] ++ cap.toArray := by simp [encR]
  rw [hargs] at this
  refine this.mono fun e' W'' ⟨h1, h2⟩ => ⟨by rw [h1]; simp [hy], ?_⟩
  exact ⟨h2.os, h2.tape, h2.output, h2.size, fun b hb => h2.keep b (.inr hb)⟩
theorem run_cutSH {ρ : Operand → Value} {W : World} {d : Option Tmp} {ty T : TypeId} {pos : String} {af : Array Edge} {g : Option (Nat × Bool)} {p y : Operand} {s t : ByteArray} {j : Int} (hu : P.underlying T = some .string) (hp : ρ p = .string s) (hy : ρ y = .int .i64 j) (hv : zDM s 0 j = some t) : (execOp ρ ⟨d, .slice T p none (some y) none, ty, pos, af, g⟩).run P W = .ok (.value (.string t)) W := by
  unfold zDM at hv
  split at hv
  · rename_i h; obtain ⟨h1, h2, h3⟩ := h; simp at hv; subst hv
    simp [execOp, go_sem, hp, hy, Instr.sliceAt, Instr.slice, Instr.sliceBounds, Instr.sliceBound, run_underlying hu, h3, h2]
  · cases hv
theorem run_cutSL {ρ : Operand → Value} {W : World} {d : Option Tmp} {ty T : TypeId} {pos : String} {af : Array Edge} {g : Option (Nat × Bool)} {p x : Operand} {s t : ByteArray} {i : Int} (hu : P.underlying T = some .string) (hp : ρ p = .string s) (hx : ρ x = .int .i64 i) (hv : zDM s i s.size = some t) : (execOp ρ ⟨d, .slice T p (some x) none none, ty, pos, af, g⟩).run P W = .ok (.value (.string t)) W := by
  unfold zDM at hv
  split at hv
  · rename_i h; obtain ⟨h1, h2, h3⟩ := h; simp at hv; subst hv
    simp [execOp, go_sem, hp, hx, Instr.sliceAt, Instr.slice, Instr.sliceBounds, Instr.sliceBound, run_underlying hu, h1, h2]
  · cases hv
end
open Go.RowKit Go.Proofs
def sep (e1 e2 : Ent) : Ent := ⟨fun x => e1.S x ∨ e2.S x, fun O W => e1.φ O W ∧ e2.φ O W ∧ ∀ x, e1.S x → ¬ e2.S x⟩
theorem zHZ {e1 e2 : Ent} (h1 : e1.loc) (h2 : e2.loc) : (sep e1 e2).loc := ⟨fun O W W' h hp => ⟨h1.at_ O W W' (fun x hx => h x (hx.imp id .inl)) hp.1, h2.at_ O W W' (fun x hx => h x (hx.imp id .inr)) hp.2.1, hp.2.2⟩,
  fun O O' W h hp => ⟨h1.up O O' W h hp.1, h2.up O O' W h hp.2.1, hp.2.2⟩⟩
structure PE {α : Type} (t : Fl α) where
  b : Nat
  u : t.Ad
  x : α
  own : Bool
def PE.ptr {α : Type} {t : Fl α} (e : PE t) : Value := .pointer (some ⟨e.b, 0, none⟩)
section
variable {α β : Type} {t : Fl α} {ti : Fl β}
def flP (t : Fl α) : Fl (PE t) := Fl.flat 1 (fun e => [e.ptr]) (fun _ => rfl) (fun _ u h => by
  simp at h
  subst h; rfl)
theorem ef_P : ∀ u (e : PE t), (flP t).enc u e = [e.ptr] := fun _ _ => rfl
def pne (L : Lens t ti) (e : PE t) : NE β := ⟨(L.ga e.u).1, (L.ga e.u).2, L.get e.x, e.own⟩
def bxs (Te : Nat) (L : Lens t ti) (ms : List (PE t)) : Ent :=
  ⟨fun x => ∃ e ∈ ms, e.own = true ∧ x = e.b, fun O W => (∀ e ∈ ms, e.own = true → L.okR O W e.u e.x ∧ W.heap[e.b]? = some (.cells (t.enc e.u e.x).toArray Te (0, 0))) ∧ ms.Pairwise fun e e' => e.own = true → e'.own = true → e.b ≠ e'.b⟩
theorem zDf (Te : Nat) (L : Lens t ti) (ms : List (PE t)) : (bxs Te L ms).loc := ⟨fun O W W' h hp => ⟨fun e he ho => ⟨L.locR (hp.1 e he ho).1 (fun _ h => h) (fun b hb => h b (.inl hb)), (h e.b (.inr ⟨e, he, ho, rfl⟩)).trans (hp.1 e he ho).2⟩, hp.2⟩,
  fun O O' W h hp => ⟨fun e he ho => ⟨L.locR (hp.1 e he ho).1 h (fun _ _ => rfl), (hp.1 e he ho).2⟩, hp.2⟩⟩
def sk (A : Option Addr) (c T Te T' : Nat) (L : Lens t ti) (ms : List (PE t)) : Ent := sep (ow A c T (flP t) ms) (sep (bxs Te L ms) (ins T' ti (ms.map (pne L))))
theorem sk_loc (A : Option Addr) (c T Te T' : Nat) (L : Lens t ti) (ms : List (PE t)) : (sk A c T Te T' L ms).loc := zHZ (zBh _ _ _ _ _) (zHZ (zDf _ _ _) (zCa _ _ _))
def SK (ms : List (PE t)) (l : List α) : Prop := ms.map (·.x) = l ∧ ∀ e ∈ ms, e.own = true
def ST (ms : List (PE t)) (ls : List α) (i b : Nat) (u : t.Ad) (x : α) : Prop := SK ms ls ∧ ms[i]? = some ⟨b, u, x, true⟩
theorem SK.nil : SK ([] : List (PE t)) [] := ⟨rfl, fun _ h => (nomatch h)⟩
theorem SK.len {ms : List (PE t)} {ls : List α} (h : SK ms ls) : ls.length = ms.length := by rw [← h.1]; simp
theorem ST.hi {ms : List (PE t)} {ls : List α} {i b : Nat} {u : t.Ad} {x : α} (h : ST ms ls i b u x) : i < ms.length := (List.getElem?_eq_some_iff.1 h.2).1
end
section
variable {P : Program} {w : Bs} {n : Nat} {f : Nat → Option Value} {E : Nat → Ent} {X : Act → World → Prop} {Q : Exit → Act → World → Prop} {ops : Array Oper} {rest : List Oper}
variable {d ty T Te T' : Nat} {pos : String} {af : Array Edge} {g : Option (Nat × Bool)} {p q : Operand} {α β : Type} {t : Fl α} {ti : Fl β} {L : Lens t ti} {A : Option Addr} {c b : Nat} {ms : List (PE t)} {ls : List α}
theorem HF.sepSplit {W : World} (h : HF w W E) {κ κ' : Nat} {e1 e2 : Ent} (hk : E κ = sep e1 e2) (hne : κ' ≠ κ) (l1 : e1.loc) (l2 : e2.loc) : HF w W (up (up E κ e1) κ' e2) := by
  have hφ := h.phi κ
  rw [hk] at hφ
  obtain ⟨h1, h2, h3⟩ := hφ
  exact h.split hne l1 l2 h1 h2 (fun x hx => by rw [hk]; exact .inl hx) (fun x hx => by rw [hk]; exact .inr hx) h3
theorem HF.sepMerge {W : World} (h : HF w W E) {κ κ' : Nat} {e1 e2 : Ent} (hk : E κ = e1) (hk' : E κ' = e2) (hne : κ' ≠ κ) : HF w W (up (up E κ' emp) κ (sep e1 e2)) := by
  have h1 := h.phi κ
  have h2 := h.phi κ'
  have l1 := h.loc κ
  have l2 := h.loc κ'
  rw [hk] at h1 l1
  rw [hk'] at h2 l2
  refine h.merge (sep e1 e2) hne rfl rfl rfl (Nat.le_refl _) (Nat.le_refl _) (fun _ _ _ => rfl) (zHZ l1 l2) ⟨h1, h2, fun x hx hy => ?_⟩ (fun x hx => ?_)
  · exact h.disj κ κ' x (fun e => hne e.symm) (by rw [hk]; exact hx) (by rw [hk']; exact hy)
  · rcases hx with hx | hx
    · exact .inl (by rw [hk]; exact hx)
    · exact .inr (by rw [hk']; exact hx)
theorem HF.less {W : World} (h : HF w W E) (κ : Nat) {e : Ent} (he : e.loc) (hp : e.φ w.O W) (hS : ∀ x, e.S x → (E κ).S x) : HF w W (up E κ e) :=
  h.mod κ e rfl rfl rfl (Nat.le_refl _) (Nat.le_refl _) (fun _ _ _ => rfl) he hp (fun x hx => ⟨.inl (hS x hx), (h.bd κ x (hS x hx)).2⟩)
theorem HF.skSplit {W : World} (h : HF w W E) {κ κ2 κ3 : Nat} (hk : E κ = sk A c T Te T' L ms) (h2 : κ2 ≠ κ) (h3 : κ3 ≠ κ) (h23 : κ3 ≠ κ2) :
    HF w W (up (up (up E κ (Proofs.YtokanbmnoghafaaGreatDoor.ow A c T (flP t) ms)) κ2 (bxs Te L ms)) κ3 (ins T' ti (ms.map (pne L)))) := by
  have g1 := h.sepSplit (κ := κ) (κ' := κ2) hk h2 (zBh _ _ _ _ _) (zHZ (zDf _ _ _) (zCa _ _ _))
  have g2 := g1.sepSplit (κ := κ2) (κ' := κ3) (by rw [Qd]) h23 (zDf _ _ _) (zCa _ _ _)
  refine g2.weaken fun k => ?_
  by_cases k3 : k = κ3
  · subst k3; exact .inl (by rw [Qd, Qd])
  by_cases k2 : k = κ2
  · subst k2; exact .inl (by rw [zu k3, Qd, zu k3, Qd])
  exact .inl (by rw [zu k3, zu k2, zu k3, zu k2, zu k2])
theorem HF.skMerge {W : World} (h : HF w W E) {κ κ2 κ3 : Nat} (hk : E κ = Proofs.YtokanbmnoghafaaGreatDoor.ow A c T (flP t) ms) (hk2 : E κ2 = bxs Te L ms) (hk3 : E κ3 = ins T' ti (ms.map (pne L))) (h2 : κ2 ≠ κ) (h3 : κ3 ≠ κ) (h23 : κ3 ≠ κ2) :
    HF w W (up (up (up E κ3 emp) κ2 emp) κ (sk A c T Te T' L ms)) := by
  have g1 := h.sepMerge (κ := κ2) (κ' := κ3) hk2 hk3 h23
  have g2 := g1.sepMerge (κ := κ) (κ' := κ2) (e1 := Proofs.YtokanbmnoghafaaGreatDoor.ow A c T (flP t) ms) (e2 := sep (bxs Te L ms) (ins T' ti (ms.map (pne L)))) (by rw [zu (fun e => h2 e.symm), zu (fun e => h3 e.symm), hk]) (by rw [Qd]) h2
  refine g2.weaken fun k => ?_
  by_cases k1 : k = κ
  · subst k1; exact .inl (by rw [Qd, Qd]; rfl)
  by_cases k2 : k = κ2
  · subst k2; exact .inl (by rw [zu k1, Qd, zu k1, Qd])
  by_cases k3 : k = κ3
  · subst k3; exact .inl (by rw [zu k1, zu k2, Qd, zu k1, zu k2, zu k2, Qd])
  exact .inl (by rw [zu k1, zu k2, zu k3, zu k1, zu k2, zu k2, zu k3])
theorem Tr.skNil (κ T Te T' : Nat) (L : Lens t ti) (K : Tr w n f (up E κ (sk none 0 T Te T' L [])) X) : Tr w n f E X :=
  fun a W h1 h2 => K a W h1 (h2.mod κ _ rfl rfl rfl (Nat.le_refl _) (Nat.le_refl _) (fun _ _ _ => rfl) (sk_loc _ _ _ _ _ _ _)
    ⟨⟨[], .nil, by simp, .inl ⟨rfl, rfl⟩⟩, ⟨⟨fun _ h => (nomatch h), .nil⟩, ⟨fun _ h => (nomatch h), .nil⟩, fun x ⟨_, h, _⟩ => (nomatch h)⟩, fun x hx => by cases hx⟩ (fun b hb => by
      rcases hb with hb | ⟨e, he, _⟩ | ⟨e, he, _⟩
      · cases hb
      · cases he
      · cases he))
theorem HF.bxsPush {W : World} (h : HF w W E) {κ κ' : Nat} {u : t.Ad} {x : α} {m : List (PE t)} (hk : E κ = bxs Te L m) (hk' : E κ' = Proofs.YtokanbmnoghafaaGreatDoor.bx b (t.enc u x).toArray Te) (hne : κ' ≠ κ) (hok : L.okR w.O W u x) : HF w W (up (up E κ' emp) κ (bxs Te L (m ++ [⟨b, u, x, true⟩]))) := by
  have h1 := h.phi κ
  rw [hk] at h1
  have h2 := h.phi κ'
  rw [hk'] at h2
  refine h.merge (bxs Te L (m ++ [⟨b, u, x, true⟩])) hne rfl rfl rfl (Nat.le_refl _) (Nat.le_refl _) (fun _ _ _ => rfl) (zDf _ _ _) ⟨fun e he ho => ?_, ?_⟩ (fun y hy => ?_)
  · rcases List.mem_append.1 he with he | he
    · exact h1.1 e he ho
    · simp at he; subst he
      exact ⟨hok, h2⟩
  · rw [List.pairwise_append]
    refine ⟨h1.2, by simp, fun e1 he1 e2 he2 o1 _ hb => ?_⟩
    simp at he2; subst he2
    exact h.disj κ κ' e1.b (fun e => hne e.symm) (by rw [hk]; exact ⟨e1, he1, o1, rfl⟩) (by rw [hk', hb]; rfl)
  · obtain ⟨e, he, ho, rfl⟩ := hy
    rcases List.mem_append.1 he with he | he
    · exact .inl (by rw [hk]; exact ⟨e, he, ho, rfl⟩)
    · simp at he; subst he
      exact .inr (by rw [hk']; rfl)
theorem HF.bxsTake {W : World} (h : HF w W E) {κ κ' i : Nat} {e0 : PE t} (hk : E κ = bxs Te L ms) (hne : κ' ≠ κ) (he0 : ms[i]? = some e0) (ho : e0.own = true) :
    HF w W (up (up E κ (bxs Te L (ms.set i { e0 with own := false }))) κ' (Proofs.YtokanbmnoghafaaGreatDoor.bx e0.b (t.enc e0.u e0.x).toArray Te)) ∧ L.okR w.O W e0.u e0.x := by
  have hφ := h.phi κ
  rw [hk] at hφ
  obtain ⟨g3, g4⟩ := hφ
  have hi : i < ms.length := (List.getElem?_eq_some_iff.1 he0).1
  have he0m := List.mem_of_getElem? he0
  have hset : ms.set i { e0 with own := false } = ms.take i ++ { e0 with own := false } :: ms.drop (i + 1) := List.set_eq_take_append_cons_drop.trans (if_pos hi)
  have hms2 : ms = ms.take i ++ e0 :: ms.drop (i + 1) := by
    have := List.take_append_drop i ms
    rw [List.drop_eq_getElem_cons hi] at this
    have h4 : ms[i] = e0 := (List.getElem?_eq_some_iff.1 he0).2
    rw [h4] at this; exact this.symm
  have hmem : ∀ e ∈ ms.set i { e0 with own := false }, e = { e0 with own := false } ∨ e ∈ ms.take i ∨ e ∈ ms.drop (i + 1) := fun e he => by
    rw [hset] at he
    rcases List.mem_append.1 he with he | he
    · exact .inr (.inl he)
    · rcases List.mem_cons.1 he with rfl | he
      · exact .inl rfl
      · exact .inr (.inr he)
  have hmem2 : ∀ e, (e ∈ ms.take i ∨ e ∈ ms.drop (i + 1)) → e ∈ ms := fun e he => he.elim List.mem_of_mem_take List.mem_of_mem_drop
  have g4' := g4
  rw [hms2] at g4'
  obtain ⟨p1, p2, p3⟩ := List.pairwise_append.1 g4'
  obtain ⟨p4, p5⟩ := List.pairwise_cons.1 p2
  refine ⟨h.split hne (zDf _ _ _) (bx_loc _ _ _) ⟨fun e' he' ho' => ?_, ?_⟩ (g3 e0 he0m ho).2 (fun x hx => ?_) (fun x hx => ?_) (fun x hx hy => ?_), (g3 e0 he0m ho).1⟩
  · rcases hmem e' he' with rfl | he'
    · cases ho'
    · exact g3 e' (hmem2 e' he') ho'
  · rw [hset, List.pairwise_append, List.pairwise_cons]
    refine ⟨p1, ⟨fun e' he' h1 => (by cases h1), p5⟩, fun e1 he1 e2 he2 => ?_⟩
    rcases List.mem_cons.1 he2 with rfl | he2
    · exact fun _ h2 => (by cases h2)
    · exact p3 e1 he1 e2 (List.mem_cons_of_mem _ he2)
  · rw [hk]
    obtain ⟨e', he', ho', rfl⟩ := hx
    rcases hmem e' he' with rfl | he'
    · cases ho'
    · exact ⟨e', hmem2 e' he', ho', rfl⟩
  · rw [hk]
    have hx : x = e0.b := hx
    subst hx
    exact ⟨e0, he0m, ho, rfl⟩
  · have hy : x = e0.b := hy
    subst hy
    obtain ⟨e', he', ho', hb⟩ := hx
    rcases hmem e' he' with rfl | he'
    · cases ho'
    · rcases he' with he' | he'
      · exact p3 e' he' e0 List.mem_cons_self ho' ho hb.symm
      · exact p4 e' he' ho ho' hb
theorem HF.bxsPut {W : World} (h : HF w W E) {κ κ' i : Nat} {u u0 : t.Ad} {x x0 : α} {b0 : Nat} (hk : E κ = bxs Te L (ms.set i ⟨b0, u0, x0, false⟩)) (hk' : E κ' = Proofs.YtokanbmnoghafaaGreatDoor.bx b (t.enc u x).toArray Te) (hne : κ' ≠ κ) (hi : i < ms.length) (hok : L.okR w.O W u x) :
    HF w W (up (up E κ' emp) κ (bxs Te L (ms.set i ⟨b, u, x, true⟩))) := by
  have h1 := h.phi κ
  rw [hk] at h1
  have h2 := h.phi κ'
  rw [hk'] at h2
  obtain ⟨h1, h3⟩ := h1
  have hs : ∀ z : PE t, ms.set i z = ms.take i ++ z :: ms.drop (i + 1) := fun z => List.set_eq_take_append_cons_drop.trans (if_pos hi)
  have hmem : ∀ e ∈ ms.set i ⟨b, u, x, true⟩, e = ⟨b, u, x, true⟩ ∨ (e ∈ ms.set i ⟨b0, u0, x0, false⟩ ∧ (e ∈ ms.take i ∨ e ∈ ms.drop (i + 1))) := fun e he => by
    rw [hs] at he ⊢
    rcases List.mem_append.1 he with he | he
    · exact .inr ⟨List.mem_append.2 (.inl he), .inl he⟩
    · rcases List.mem_cons.1 he with rfl | he
      · exact .inl rfl
      · exact .inr ⟨List.mem_append.2 (.inr (List.mem_cons_of_mem _ he)), .inr he⟩
  have hd : ∀ e ∈ ms.set i ⟨b0, u0, x0, false⟩, e.own = true → e.b ≠ b := fun e he ho hb => h.disj κ κ' e.b (fun e => hne e.symm) (by rw [hk]; exact ⟨e, he, ho, rfl⟩) (by rw [hk', hb]; rfl)
  refine h.merge (bxs Te L (ms.set i ⟨b, u, x, true⟩)) hne rfl rfl rfl (Nat.le_refl _) (Nat.le_refl _) (fun _ _ _ => rfl) (zDf _ _ _) ⟨fun e he ho => ?_, ?_⟩ (fun y hy => ?_)
  · rcases hmem e he with rfl | ⟨he, _⟩
    · exact ⟨hok, h2⟩
    · exact h1 e he ho
  · have hin : ∀ e, (e ∈ ms.take i ∨ e ∈ ms.drop (i + 1)) → e ∈ ms.set i ⟨b0, u0, x0, false⟩ := fun e he => by
      rw [hs]
      exact List.mem_append.2 (he.imp id (List.mem_cons_of_mem _))
    rw [hs] at h3
    obtain ⟨p1, p2, p3⟩ := List.pairwise_append.1 h3
    obtain ⟨p4, p5⟩ := List.pairwise_cons.1 p2
    rw [hs, List.pairwise_append, List.pairwise_cons]
    refine ⟨p1, ⟨fun e' he' _ o2 hb => hd e' (hin e' (.inr he')) o2 hb.symm, p5⟩, fun e1 he1 e2 he2 => ?_⟩
    rcases List.mem_cons.1 he2 with rfl | he2
    · exact fun o1 _ hb => hd e1 (hin e1 (.inl he1)) o1 hb
    · exact p3 e1 he1 e2 (List.mem_cons_of_mem _ he2)
  · obtain ⟨e, he, ho, rfl⟩ := hy
    rcases hmem e he with rfl | ⟨he, _⟩
    · exact .inr (by rw [hk']; rfl)
    · exact .inl (by rw [hk]; exact ⟨e, he, ho, rfl⟩)
theorem bxs_sub {O : Nat → Prop} {W : World} {m m' : List (PE t)} (h : (bxs Te L m).φ O W) (hs : m'.Sublist m) : (bxs Te L m').φ O W := ⟨fun e he => h.1 e (hs.subset he), h.2.sublist hs⟩
theorem ins_sub {O : Nat → Prop} {W : World} {m m' : List (NE β)} (h : (ins T' ti m).φ O W) (hs : m'.Sublist m) : (ins T' ti m').φ O W := ⟨fun e he => h.1 e (hs.subset he), h.2.sublist hs⟩
theorem al_ptr {O : Nat → Prop} {W : World} : ∀ {css : List (List Value)} {m m' : List (PE t)}, Al (rp (flP t) O W) css m → m'.map PE.ptr = m.map PE.ptr → Al (rp (flP t) O W) css m'
  | _, _, [], .nil, _ => .nil
  | _, _, e' :: m', .cons h1 h2, he => by
    simp only [List.map_cons, List.cons.injEq] at he
    obtain ⟨u, _, hu⟩ := h1
    exact .cons ⟨(), trivial, by rw [hu]; exact congrArg (fun z => [z]) he.1.symm⟩ (al_ptr h2 he.2)
theorem ow_ptr {O : Nat → Prop} {W : World} {m m' : List (PE t)} (h : (ow A c T (flP t) m).φ O W) (he : m'.map PE.ptr = m.map PE.ptr) : (ow A c T (flP t) m').φ O W := by
  obtain ⟨css, h1, h2⟩ := h
  have hl : m'.length = m.length := by simpa using congrArg List.length he
  refine ⟨css, al_ptr h1 he, ?_⟩
  rw [hl]; exact h2
theorem Tr.skTake (κ κ2 κ3 κ4 κ5 : Nat) {i : Nat} {x : α} (n2 : Nat.beq κ2 κ = false) (n3 : Nat.beq κ3 κ = false) (n23 : Nat.beq κ3 κ2 = false) (n4 : Nat.beq κ4 κ = false) (n42 : Nat.beq κ4 κ2 = false) (n43 : Nat.beq κ4 κ3 = false) (n5 : Nat.beq κ5 κ = false) (n52 : Nat.beq κ5 κ2 = false) (n53 : Nat.beq κ5 κ3 = false) (n54 : Nat.beq κ5 κ4 = false)
    (hx : ls[i]? = some x) (hk : E κ = sk A c T Te T' L ms) (hm : SK ms ls)
    (K : ∀ b u, L.okR w.O w.W u x → SlF (L.ga u).1 (L.get x).length (L.ga u).2 → ST ms ls i b u x →
      Tr w n f (up (up (up (up (up E κ (ow A c T (flP t) ms)) κ2 (bxs Te L (ms.set i ⟨b, u, x, false⟩))) κ3 (ins T' ti ((ms.set i ⟨b, u, x, false⟩).map (pne L)))) κ4 (bx b (t.enc u x).toArray Te)) κ5 (ow (L.ga u).1 (L.ga u).2 T' ti (L.get x))) X) : Tr w n f E X := by
  have n2 := Kk n2
  have n3 := Kk n3
  have n23 := Kk n23
  have n4 := Kk n4
  have n42 := Kk n42
  have n43 := Kk n43
  have n5 := Kk n5
  have n52 := Kk n52
  have n53 := Kk n53
  have n54 := Kk n54
  intro a W h1 h2
  have h3 := h2.skSplit (κ2 := κ2) (κ3 := κ3) hk n2 n3 n23
  rw [← hm.1, List.getElem?_map] at hx
  obtain ⟨d0, hd0, rfl⟩ := Option.map_eq_some_iff.1 hx
  have hown := hm.2 d0 (List.mem_of_getElem? hd0)
  have hd1 : d0 = ⟨d0.b, d0.u, d0.x, true⟩ := by rw [← hown]
  obtain ⟨h4, hok⟩ := h3.bxsTake (κ := κ2) (κ' := κ4) (i := i) (Te := Te) (L := L) (ms := ms) (by simp only [Qd, zu n23.symm]) n42 hd0 hown
  have he0 : (ms.map (pne L))[i]? = some (pne L d0) := by rw [List.getElem?_map, hd0]; rfl
  obtain ⟨h5, hf⟩ := h4.insTake (κ := κ3) (κ' := κ5) (j := i) (m1 := ms.map (pne L)) (e0 := pne L d0) (T' := T') (ti := ti) (by simp only [Qd, zu n43.symm, zu n23]) n53 he0 hown
  have hset : (ms.map (pne L)).set i { pne L d0 with own := false } = (ms.set i ⟨d0.b, d0.u, d0.x, false⟩).map (pne L) := by rw [List.map_set]; rfl
  rw [hset] at h5
  refine K d0.b d0.u (L.locR hok (fun _ h => h) (fun y hy => (h2.keep y (.inl hy)).symm)) hf ⟨hm, by rw [hd0]; exact congrArg some hd1⟩ a W h1 (h5.weaken (fun k => ?_))
  by_cases k5 : k = κ5
  · subst k5; exact .inl (by simp only [Qd]; rfl)
  by_cases k4 : k = κ4
  · subst k4; exact .inl (by simp only [Qd, zu k5, zu n43])
  by_cases k3 : k = κ3
  · subst k3; exact .inl (by simp only [Qd, zu k5, zu k4])
  by_cases k2 : k = κ2
  · subst k2; exact .inl (by simp only [Qd, zu k5, zu k4, zu k3])
  by_cases k1 : k = κ
  · subst k1; exact .inl (by simp only [Qd, zu k5, zu k4, zu k3, zu k2])
  exact .inl (by simp only [zu k5, zu k4, zu k3, zu k2, zu k1])
theorem Tr.skPut (κ κ2 κ3 κ4 κ5 : Nat) {i : Nat} {u0 u : t.Ad} {x0 x' : α} {cs : List Value} {A3 : Option Addr} {c3 : Nat} {l3 : List β} (n2 : Nat.beq κ2 κ = false) (n3 : Nat.beq κ3 κ = false) (n23 : Nat.beq κ3 κ2 = false) (n4 : Nat.beq κ4 κ = false) (n42 : Nat.beq κ4 κ2 = false) (n43 : Nat.beq κ4 κ3 = false) (n5 : Nat.beq κ5 κ = false) (n52 : Nat.beq κ5 κ2 = false) (n53 : Nat.beq κ5 κ3 = false) (n54 : Nat.beq κ5 κ4 = false)
    (hk : E κ = ow A c T (flP t) ms) (hk2 : E κ2 = bxs Te L (ms.set i ⟨b, u0, x0, false⟩)) (hk3 : E κ3 = ins T' ti ((ms.set i ⟨b, u0, x0, false⟩).map (pne L))) (hk4 : E κ4 = bx b cs.toArray Te) (hk5 : E κ5 = ow A3 c3 T' ti l3) (hd : ST ms ls i b u0 x0)
    (hok : L.okR w.O w.W u x') (he : t.enc u x' = cs) (hga : L.ga u = (A3, c3)) (hget : L.get x' = l3) (hf : SlF A3 l3.length c3)
    (K : ∀ ms', SK ms' (ls.set i x') → Tr w n f (up (up (up (up (up E κ5 emp) κ4 emp) κ3 emp) κ2 emp) κ (sk A c T Te T' L ms')) X) : Tr w n f E X := by
  have n2 := Kk n2
  have n3 := Kk n3
  have n23 := Kk n23
  have n4 := Kk n4
  have n42 := Kk n42
  have n43 := Kk n43
  have n5 := Kk n5
  have n52 := Kk n52
  have n53 := Kk n53
  have n54 := Kk n54
  have hi := hd.hi
  subst he
  intro a W h1 h2
  have ok2 : L.okR w.O W u x' := L.locR hok (fun _ h => h) (fun y hy => h2.keep y (.inl hy))
  have g1 := h2.bxsPut (κ := κ2) (κ' := κ4) (i := i) (ms := ms) (b := b) (u := u) (x := x') (L := L) hk2 hk4 n42 hi ok2
  have g2 := g1.insPut (κ := κ3) (κ' := κ5) (T' := T') (t := ti) (ms := (ms.set i ⟨b, u0, x0, false⟩).map (pne L)) (i := i) (A' := A3) (c' := c3) (l' := l3) (e0 := pne L ⟨b, u0, x0, false⟩) (by simp only [zu n23, zu n43.symm, hk3]) (by simp only [zu n52, zu n54, hk5]) n53 (by rw [List.getElem?_map, List.getElem?_set_self hi]; rfl) hf
  have hset : ((ms.set i ⟨b, u0, x0, false⟩).map (pne L)).set i ⟨A3, c3, l3, true⟩ = (ms.set i ⟨b, u, x', true⟩).map (pne L) := by
    rw [List.map_set, List.set_set, List.map_set]
    congr 1
    simp [pne, hga, hget]
  rw [hset] at g2
  have hptr : (ms.set i ⟨b, u, x', true⟩).map PE.ptr = ms.map PE.ptr := by
    rw [List.map_set]
    refine List.ext_getElem? fun j => ?_
    by_cases hij : i = j
    · subst hij
      rw [List.getElem?_set_self (by simpa using hi), List.getElem?_map, hd.2]; rfl
    · rw [List.getElem?_set_ne hij]
  have hl : (ms.set i ⟨b, u, x', true⟩).length = ms.length := List.length_set
  have hE : (up (up (up (up E κ4 emp) κ2 (bxs Te L (ms.set i ⟨b, u, x', true⟩))) κ5 emp) κ3 (ins T' ti ((ms.set i ⟨b, u, x', true⟩).map (pne L)))) κ = ow A c T (flP t) ms := by
    simp only [zu n3.symm, zu n5.symm, zu n2.symm, zu n4.symm, hk]
  have hφ := g2.phi κ
  rw [hE] at hφ
  have g3 := g2.less κ (zBh A c T (flP t) (ms.set i ⟨b, u, x', true⟩)) (ow_ptr hφ hptr) (fun y hy => by
    rw [hE]
    exact (own_any _ _ _ _ _).trans hy)
  have g4 := g3.skMerge (κ := κ) (κ2 := κ2) (κ3 := κ3) (A := A) (c := c) (T := T) (Te := Te) (T' := T') (L := L) (ms := ms.set i ⟨b, u, x', true⟩) (by rw [Qd]) (by simp only [Qd, zu n2, zu n23.symm, zu n52.symm]) (by simp only [Qd, zu n3]) n2 n3 n23
  refine K (ms.set i ⟨b, u, x', true⟩) ⟨by rw [List.map_set, hd.1.1], fun e0 he0 => ?_⟩ a W h1 (g4.weaken (fun k => ?_))
  · obtain ⟨j, hj⟩ := List.getElem?_of_mem he0
    by_cases hij : i = j
    · subst hij
      rw [List.getElem?_set_self hi] at hj
      rw [← Option.some.inj hj]
    · rw [List.getElem?_set_ne hij] at hj
      exact hd.1.2 e0 (List.mem_of_getElem? hj)
  · by_cases k1 : k = κ
    · subst k1; exact .inl (by simp only [Qd])
    by_cases k2 : k = κ2
    · subst k2; exact .inr (by simp only [Qd, zu k1])
    by_cases k3 : k = κ3
    · subst k3; exact .inr (by simp only [Qd, zu k1, zu k2])
    by_cases k4 : k = κ4
    · subst k4; exact .inr (by simp only [Qd, zu k1, zu k2, zu k3])
    by_cases k5 : k = κ5
    · subst k5; exact .inr (by simp only [Qd, zu k1, zu k2, zu k3, zu k4])
    exact .inl (by simp only [zu k1, zu k2, zu k3, zu k4, zu k5])
theorem Tr.skPop (κ κ2 κ3 : Nat) {i b0 : Nat} {u0 : t.Ad} {x0 : α} (n2 : Nat.beq κ2 κ = false) (n3 : Nat.beq κ3 κ = false) (n23 : Nat.beq κ3 κ2 = false)
    (hk : E κ = ow A c T (flP t) ms) (hk2 : E κ2 = bxs Te L (ms.set i ⟨b0, u0, x0, false⟩)) (hk3 : E κ3 = ins T' ti ((ms.set i ⟨b0, u0, x0, false⟩).map (pne L))) (hd : ST ms ls i b0 u0 x0)
    (K : ∀ ms', SK ms' (ls.take i) → Tr w n f (up (up (up E κ3 emp) κ2 emp) κ (sk A c T Te T' L ms')) X) : Tr w n f E X := by
  have n2 := Kk n2
  have n3 := Kk n3
  have n23 := Kk n23
  have hi := hd.hi
  refine Tr.shrink κ i (Nat.le_of_lt hi) hk ?_
  intro a W h1 h2
  have htk : (ms.set i ⟨b0, u0, x0, false⟩).take i = ms.take i := by rw [List.take_set_of_le (Nat.le_refl _)]
  have hsub : (ms.take i).Sublist (ms.set i ⟨b0, u0, x0, false⟩) := by rw [← htk]; exact List.take_sublist _ _
  have e2 : (up E κ (ow A c T (flP t) (ms.take i))) κ2 = bxs Te L (ms.set i ⟨b0, u0, x0, false⟩) := by rw [zu n2, hk2]
  have p2 := h2.phi κ2
  rw [e2] at p2
  have g1 := h2.less κ2 (zDf Te L (ms.take i)) (bxs_sub p2 hsub) (fun y hy => by
    rw [e2]
    obtain ⟨e, he, ho, hb⟩ := hy
    exact ⟨e, hsub.subset he, ho, hb⟩)
  have e3 : (up (up E κ (ow A c T (flP t) (ms.take i))) κ2 (bxs Te L (ms.take i))) κ3 = ins T' ti ((ms.set i ⟨b0, u0, x0, false⟩).map (pne L)) := by simp only [zu n23, zu n3, hk3]
  have p3 := g1.phi κ3
  rw [e3] at p3
  have g2 := g1.less κ3 (zCa T' ti ((ms.take i).map (pne L))) (ins_sub p3 (hsub.map _)) (fun y hy => by
    rw [e3]
    obtain ⟨e, he, hb⟩ := hy
    exact ⟨e, (hsub.map _).subset he, hb⟩)
  have g3 := g2.skMerge (κ := κ) (κ2 := κ2) (κ3 := κ3) (A := A) (c := c) (T := T) (Te := Te) (T' := T') (L := L) (ms := ms.take i) (by simp only [Qd, zu n3.symm, zu n2.symm]) (by simp only [Qd, zu n23.symm]) (by simp only [Qd]) n2 n3 n23
  refine K (ms.take i) ⟨by rw [List.map_take, hd.1.1], fun e0 he0 => hd.1.2 e0 (List.mem_of_mem_take he0)⟩ a W h1 (g3.weaken (fun k => ?_))
  by_cases k1 : k = κ
  · subst k1; exact .inl (by simp only [Qd])
  by_cases k2 : k = κ2
  · subst k2; exact .inr (by simp only [Qd, zu k1])
  by_cases k3 : k = κ3
  · subst k3; exact .inr (by simp only [Qd, zu k1, zu k2])
  exact .inl (by simp only [zu k1, zu k2, zu k3])
end
section
variable {w : Bs} {n : Nat} {f : Nat → Option Value} {E : Nat → Ent} {X : Act → World → Prop} {T Te T' : Nat} {α β : Type} {t : Fl α} {ti : Fl β} {L : Lens t ti} {A : Option Addr} {c b : Nat} {ms : List (PE t)} {ls : List α}
theorem apd_ms {x : α} {q : List α} {e : PE t} (hm : SK ms ls) (h : apd ls [x] = some q) : apd ms [e] = some (ms ++ [e]) := by
  obtain ⟨h1, _⟩ := zC9 h
  have := hm.len
  unfold apd
  rw [if_pos (by simp only [List.length_cons, List.length_nil] at *; omega)]
theorem len_ms {x : α} {q : List α} {e : PE t} (hm : SK ms ls) (h : apd ls [x] = some q) : (ms ++ [e]).length = q.length := by
  obtain ⟨_, rfl⟩ := zC9 h
  simp [hm.len]
theorem Tr.skOpen (κ κ2 κ3 : Nat) (n2 : Nat.beq κ2 κ = false) (n3 : Nat.beq κ3 κ = false) (n23 : Nat.beq κ3 κ2 = false) (hk : E κ = sk A c T Te T' L ms)
    (K : Tr w n f (up (up (up E κ (ow A c T (flP t) ms)) κ2 (bxs Te L ms)) κ3 (ins T' ti (ms.map (pne L)))) X) : Tr w n f E X :=
  fun a W h1 h2 => K a W h1 (h2.skSplit hk (Kk n2) (Kk n3) (Kk n23))
theorem Tr.skShut (κ κ2 κ3 κe κ' : Nat) {u : t.Ad} {x : α} {ls' : List α} {cs : List Value} {A1 : Option Addr} {c1 : Nat} {l1 : List β}
    (n2 : Nat.beq κ2 κ = false) (n3 : Nat.beq κ3 κ = false) (n23 : Nat.beq κ3 κ2 = false) (ne1 : Nat.beq κe κ = false) (ne2 : Nat.beq κe κ2 = false) (ne3 : Nat.beq κe κ3 = false) (np1 : Nat.beq κ' κ = false) (np2 : Nat.beq κ' κ2 = false) (np3 : Nat.beq κ' κ3 = false) (npe : Nat.beq κ' κe = false)
    (hk : E κ = ow A c T (flP t) (ms ++ [⟨b, u, x, true⟩])) (hk2 : E κ2 = bxs Te L ms) (hk3 : E κ3 = ins T' ti (ms.map (pne L))) (hbe : E κe = bx b cs.toArray Te) (hcs : t.enc u x = cs) (hok : L.okR w.O w.W u x) (hga : L.ga u = (A1, c1)) (hget : L.get x = l1) (hk' : E κ' = ow A1 c1 T' ti l1) (hf1 : SlF A1 l1.length c1) (hm : SK ms ls) (hap : apd ls [x] = some ls')
    (K : ∀ ms', SK ms' ls' → Tr w n f (up (up (up (up (up E κ' emp) κe emp) κ3 emp) κ2 emp) κ (sk A c T Te T' L ms')) X) : Tr w n f E X := by
  have n2 := Kk n2
  have n3 := Kk n3
  have n23 := Kk n23
  have ne1 := Kk ne1
  have ne2 := Kk ne2
  have ne3 := Kk ne3
  have np1 := Kk np1
  have np2 := Kk np2
  have np3 := Kk np3
  have npe := Kk npe
  obtain ⟨_, ha2⟩ := zC9 hap
  subst ha2
  subst hget
  subst hcs
  intro a W h1 h2
  have ok2 : L.okR w.O W u x := L.locR hok (fun _ h => h) (fun y hy => h2.keep y (.inl hy))
  have g0 := h2.bxsPush (κ := κ2) (κ' := κe) (m := ms) (u := u) (x := x) (b := b) (Te := Te) (L := L) hk2 hbe ne2 ok2
  have g1 := g0.insOne (κ := κ') (T' := T') (ti := ti) (A' := A1) (c' := c1) (l' := L.get x) (by simp only [zu np2, zu npe, hk']) hf1
  have g2 := g1.insJoin (κ := κ3) (κ' := κ') (T' := T') (ti := ti) (m1 := ms.map (pne L)) (m2 := [⟨A1, c1, L.get x, true⟩]) (by simp only [zu np3.symm, zu n23, zu ne3.symm, hk3]) (by rw [Qd]) np3
  have hmap : ms.map (pne L) ++ [⟨A1, c1, L.get x, true⟩] = (ms ++ [(⟨b, u, x, true⟩ : PE t)]).map (pne L) := by simp [pne, hga]
  rw [hmap] at g2
  have g3 := g2.skMerge (κ := κ) (κ2 := κ2) (κ3 := κ3) (A := A) (c := c) (T := T) (Te := Te) (T' := T') (L := L) (ms := ms ++ [⟨b, u, x, true⟩]) (by simp only [zu n3.symm, zu np1.symm, zu n2.symm, zu ne1.symm, hk]) (by simp only [Qd, zu n23.symm, zu np2.symm]) (by simp only [Qd]) n2 n3 n23
  refine K (ms ++ [⟨b, u, x, true⟩]) ⟨by rw [List.map_append, hm.1]; rfl, fun e0 he0 => ?_⟩ a W h1 (g3.weaken (fun k => ?_))
  · rcases List.mem_append.1 he0 with he0 | he0
    · exact hm.2 e0 he0
    · simp at he0; subst he0; rfl
  · by_cases k1 : k = κ
    · subst k1; exact .inl (by simp only [Qd])
    by_cases k2 : k = κ2
    · subst k2; exact .inr (by simp only [Qd, zu k1])
    by_cases k3 : k = κ3
    · subst k3; exact .inr (by simp only [Qd, zu k1, zu k2])
    by_cases k4 : k = κe
    · subst k4; exact .inr (by simp only [Qd, zu k1, zu k2, zu k3])
    by_cases k5 : k = κ'
    · subst k5; exact .inr (by simp only [Qd, zu k1, zu k2, zu k3, zu k4])
    exact .inl (by simp only [zu k1, zu k2, zu k3, zu k4, zu k5])
theorem zI3 {γ δ : Type} (l : List γ) (z s : γ) (k : List γ → Option δ) : ((apd l [z]).bind fun l1 => (idx l1 (l.length : Int)).bind fun _ => (sets l1 (l.length : Int) s).bind k) = (apd l [s]).bind k := by
  unfold apd idx sets
  by_cases h : l.length + [z].length ≤ 4294967296
  · rw [if_pos h, if_pos (by simpa using h)]
    simp
  · rw [if_neg h, if_neg (by simpa using h)]; rfl
end
section
variable {P : Program} {w : Bs} {n : Nat} {f : Nat → Option Value} {E : Nat → Ent} {l : List Oper} {m : Nat} {t : Tn} {Q : Exit → Act → World → Prop} {fu : Nat} {listed : Array Bool}
variable {d ty T T' : Nat} {pos : String} {af : Array Edge} {g : Option (Nat × Bool)} {p q : Operand} {u v : Value}
theorem St.appendY {α : Type} (i κ : Nat) {A : Option Addr} {c e inb b o c2 : Nat} {t' : Fl α} {ll l2 l' : List α} (hY : ∀ b, (ow A c e t' ll).S b → t.Y i b) (hi : l[i]? = some ⟨some d, .call ⟨.builtin .append, #[p, q], #[T, T]⟩, ty, pos, af, g⟩) (hw : Wn l.toArray f ⟨some d, .call ⟨.builtin .append, #[p, q], #[T, T]⟩, ty, pos, af, g⟩) (hdn : Nat.blt d n = true)
    (hp : ev f p = some (.slice A ll.length c)) (hk : E κ = ow A c e t' ll) (hq : ev f q = some (.slice (some ⟨b, o, none⟩) l2.length c2)) (hr : ∀ W, HF w W E → ∃ css, Al (rp t' w.O w.W) css l2 ∧ zf W b o css.flatten)
    (hu : P.underlying T = some (.slice e)) (hs : Vt P e = some t'.sz) (hz : (zeroOf P e).map List.length = some t'.sz) (hsz : 0 < t'.sz) (hby : (P.info? e).map (·.bytes) = some inb) (hib : Nat.ble inb 32768 = true) (hap : apd ll l2 = some l')
    (K : ∀ A' c', SlF A' l'.length c' → (∀ b, (ow A' c' e t' l').S b → t.s0 ≤ b ∨ (ow A c e t' ll).S b) → Dr P w n l m t Q fu (listed.setIfInBounds i true) (uf f d (.slice A' l'.length c')) (up E κ (ow A' c' e t' l'))) : St P w n l m t Q fu listed f E i :=
  St.effU (U := Option Addr × Nat) i hi hw (fun u => SlF u.1 l'.length u.2 ∧ ∀ b, (ow u.1 u.2 e t' l').S b → t.s0 ≤ b ∨ (ow A c e t' ll).S b) (fun a W h1 h2 hs0 K' hK => by
    obtain ⟨hlen, hl'⟩ := zC9 hap
    subst hl'
    cases hin : P.info? e with
    | none => rw [hin] at hby; cases hby
    | some inf =>
      rw [hin] at hby; simp at hby; subst hby
      unfold zeroOf at hz
      unfold Vt at hs
      rw [hin] at hz hs
      simp only [Option.bind_some, Option.map_some, Option.some.injEq] at hz hs
      cases hze : inf.zero with
      | none => rw [hze] at hz; cases hz
      | some z =>
        rw [hze] at hz
        simp at hz
        obtain ⟨css0, hal0, hown⟩ := h2.ow hk
        obtain ⟨css2, hal2, hc2⟩ := hr W h2
        have hbytes : (ll.length + l2.length) * inf.bytes ≤ 140737488355328 := Nat.le_trans (Nat.mul_le_mul hlen (Nat.le_of_ble_eq_true hib)) (by decide)
        have hsm : ll.length + l2.length ≤ maxLen := by unfold maxLen; omega
        obtain ⟨v', W', hrun, ho, hg, _, hat⟩ := run_append_own_at (P := P) W 0 T ty e inf z t'.sz inf.bytes hu hin hze hs rfl hz hsz _ _ _ hown ⟨b, o, none⟩ l2.length c2 css2.flatten (zBY hal2)
          (fun j u hj => by rw [Addr.add_lit]; exact hc2 j u hj) (fun u hu => by
            obtain ⟨i, cs, k, h1, h2, _⟩ := zIp hal2 (List.getElem?_of_mem hu).choose_spec
            have hlt : i < l2.length := by rw [← hal2.len]; exact (List.getElem?_eq_some_iff.1 h1).1
            obtain ⟨cs', h3, h4⟩ := hal2.at_ (List.getElem?_eq_getElem hlt)
            rw [h1] at h3; cases h3
            exact h4.one u (List.mem_of_getElem? h2)) hsm hbytes (Nat.zero_le _)
        rw [← List.flatten_append, ← List.length_append] at ho
        obtain ⟨A', c', rfl, hf, h3⟩ := zFB h2 hk ((Nat.le_refl 0)) hg ((hal0.mono (fun _ _ hr => hr.off h2)).append hal2) ho (fun b' hb' => by
          rcases hat with hat | hat
          · exact .inl (hat ▸ hb')
          · rw [hat] at hb'; simp at hb'; subst hb'; exact .inr (Nat.le_refl _))
        obtain ⟨g1, g2, g3, g4, g5⟩ := hg
        unfold Oper.wp execOp
        simp only [resolve, invoke, builtin, Sem.run_bind, Sem.run_pure, Result.andThen_ok, List.map_toArray, List.map_cons, List.map_nil, h1.ev hp, h1.ev hq, hrun, Oper.upon_value]
        exact hK (A', c') _ _ ⟨hf, fun b' hb' => by
          rcases hat with hat | hat
          · exact .inr (show (Value.slice A ll.length c).ownBlock = some b' from hat ▸ (show (Value.slice A' (ll ++ l2).length c').ownBlock = some b' from hb'))
          · have hb2 : (Value.slice A' (ll ++ l2).length c').ownBlock = some b' := hb'
            rw [hat] at hb2; simp at hb2; subst hb2; exact .inl hs0⟩ (h1.put (Nat.le_of_ble_eq_true hdn) _) h3 ⟨g1, g2, g3, g4, fun b hb hy => g5 b hb (fun e => hy (hY b e.symm)), (Nat.le_refl 0)⟩) (fun u hu => K u.1 u.2 hu.1 hu.2)
end
end Go.Proofs.YtokanbmnoghafaaGreatDoor
