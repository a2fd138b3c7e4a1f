/- A region that draws its order, whose quiet operations float among operations that turn or make memory and wait for one another. Conditions: none beyond each theorem's own. -/
import Derived.Test.YtfddmjoldoddlaaH8
namespace Go.Proofs.Ytfddmjoldoddlaa
open Go.RowKit
/-- From W to W' only the blocks of Y have turned, of those that were. -/
structure Keep (Y : Nat → Prop) (W W' : World) : Prop where
  os : W'.os = W.os
  tape : W'.tape = W.tape
  output : W'.output = W.output
  size : W.heap.size ≤ W'.heap.size
  block : ∀ b, b < W.heap.size → ¬ Y b → W'.heap[b]? = W.heap[b]?
  drawn : W.drawn ≤ W'.drawn
section
variable {W W' W'' : World} {Y Z : Nat → Prop}
theorem Keep.of_below (h : Below W.heap.size W W') : Keep Y W W' := ⟨h.os, h.tape, h.output, h.size, fun b hb _ => h.block b hb, h.drawn⟩
theorem Keep.below (h : Keep Y W W') (hY : ∀ b, ¬ Y b) : Below W.heap.size W W' := ⟨h.os, h.tape, h.output, h.size, fun b hb => h.block b hb (hY b), h.drawn⟩
theorem Keep.trans (h : Keep Y W W') (k : Keep Z W' W'') (hyz : ∀ b, Y b → Z b) : Keep Z W W'' :=
  ⟨k.os.trans h.os, k.tape.trans h.tape, k.output.trans h.output, Nat.le_trans h.size k.size, fun b hb hz => (k.block b (Nat.lt_of_lt_of_le hb h.size) hz).trans (h.block b hb (fun hy => hz (hyz b hy))), Nat.le_trans h.drawn k.drawn⟩
theorem Keep.refl (W : World) : Keep Y W W := ⟨rfl, rfl, rfl, Nat.le_refl _, fun _ _ _ => rfl, Nat.le_refl _⟩
end
theorem bel_trans {W W' W'' : World} (h : Below W.heap.size W W') (k : Below W'.heap.size W' W'') : Below W.heap.size W W'' := h.trans (k.mono h.size)
def NoX : Exit → Act → World → Prop := fun _ _ _ => False
section
variable {P : Program} {ops : Array Oper} {m : Nat} {Y : Nat → Nat → Prop} {L : Array Bool → Act → World → Prop}
/-- The head of a region, from every world behind W: f operations in whatever order, each of which turns but its own blocks; then L. -/
def HeadE (P : Program) (ops : Array Oper) (m : Nat) (Y : Nat → Nat → Prop) (L : Array Bool → Act → World → Prop) : Nat → Array Bool → Act → World → Prop
  | 0, listed, a, W => ∀ W2, Below W.heap.size W W2 → L listed a W2
  | f + 1, listed, a, W => Region.ready .any ops listed ≠ [] ∧ ∀ i ∈ Region.ready .any ops listed, i < m ∧ ∀ W2, Below W.heap.size W W2 →
      wpOp P ops NoX i (fun a' W' => Keep (Y i) W2 W' ∧ HeadE P ops m Y L f (listed.setIfInBounds i true) a' W') a W2
theorem HeadE.later : ∀ {f : Nat} {listed : Array Bool} {a : Act} {W W2 : World}, HeadE P ops m Y L f listed a W → Below W.heap.size W W2 → HeadE P ops m Y L f listed a W2
  | 0, _, _, _, _, h, hb => fun W3 h3 => h W3 (bel_trans hb h3)
  | _ + 1, _, _, _, _, h, hb => ⟨h.1, fun i hi => ⟨(h.2 i hi).1, fun W3 h3 => (h.2 i hi).2 W3 (bel_trans hb h3)⟩⟩
theorem wpOp_exits {Q Q' : Exit → Act → World → Prop} {i : Nat} {a : Act} {w : World} {K : Act → World → Prop} (hQ : ∀ e a w, Q e a w → Q' e a w) (hL : ¬ LetsOut Q) (hh : wpOp P ops Q i K a w) : wpOp P ops Q' i K a w := by
  unfold wpOp at *
  split
  · simpa [*] using hh
  · rename_i o ho
    simp only [ho] at hh
    split
    · rename_i hw
      simp only [hw, if_true] at hh
      rcases hh with hh | hh
      · left
        unfold Oper.wp at *
        generalize (execOp a.eval o).run P w = r at *
        cases r with
        | ok n w' =>
          cases n <;> simp only [Oper.upon] at hh ⊢ <;>
            first
              | exact hh
              | exact Calls.mono hh (fun e w'' he => by cases e <;> first | exact he | exact hQ _ _ _ he | exact absurd he hL)
              | exact Rows.mono hh (fun _ _ he => he)
        | halt x w' => cases x <;> simp only [Oper.upon] at hh ⊢ <;> first | exact hQ _ _ _ hh | exact hh
      · exact absurd hh.2 hL
    · rename_i hw; simp only [hw] at hh; simpa using hh
theorem noX_out : ¬ LetsOut NoX := by
  intro h
  unfold LetsOut NoX at h
  first | exact h | exact h _ _ | simp at h
theorem HeadE.run {g : Nat} {Q : Exit → Act → World → Prop} (hL : ∀ listed a w, L listed a w → wpAny P .any ops Q g listed a w) :
    ∀ (f : Nat) (listed : Array Bool) (a : Act) (W : World), HeadE P ops m Y L f listed a W → wpAny P .any ops Q (f + g) listed a W
  | 0, listed, a, W, h => by rw [Nat.zero_add]; exact hL _ _ _ (h W (Below.refl _ _))
  | f + 1, listed, a, W, h => by
    rw [Nat.add_right_comm]
    exact ⟨fun e => absurd e h.1, fun i hi => wpOp_exits (Q := NoX) (fun _ _ _ h => h.elim) noX_out (wpOp_mono (fun a' W' hh => HeadE.run hL f _ a' W' hh.2) ((h.2 i hi).2 W (Below.refl _ _)))⟩
theorem wpOp_putG {j : Nat} {oi oj : Oper} {v : Value} {Yp : Act → Prop} (hj : ops[j]? = some oj) (hap : oi.apart ops oj = true)
    (hsj : ∀ cs b, oj.op ≠ .select cs b) (keep : ∀ a u, Yp a → Yp (a.put oj.dst u)) (keepD : ∀ a d, Yp a → Yp { a with defers := d :: a.defers })
    {K : Act → World → Prop} {a : Act} {w : World} (hy : Yp a) (h : wpOp P ops NoX j K (a.put oi.dst v) w) :
    wpOp P ops NoX j (fun a' w' => Yp a' ∧ K (a'.put oi.dst v) w') a w := by
  obtain ⟨h1, h2, h3⟩ := Oper.apart_spec hap
  unfold wpOp at *
  simp only [hj] at *
  rw [wanted_put oj a oi.dst v h1] at h
  split
  · rename_i hw
    simp only [hw, if_true] at h
    rcases h with h | ⟨hasks, hlets⟩
    case inr => exact absurd hlets noX_out
    refine .inl ?_
    unfold Oper.wp at *
    rw [execOp_put oj hsj a oi.dst v h1] at h
    generalize (execOp a.eval oj).run P w = r at *
    cases r with
    | ok n w' =>
      cases n <;> simp only [Oper.upon] at h ⊢
      case value u => exact ⟨keep a u hy, by rw [← Act.put_comm a v u h2]; exact h⟩
      case skip => exact ⟨keep a _ hy, by rw [← Act.put_comm a v undef h2]; exact h⟩
      case defer d =>
        refine ⟨keep _ _ (keepD _ d hy), ?_⟩
        rw [← Act.put_comm _ v undef h2, ← Act.put_defers]
        exact h
      case enter f args =>
        refine Calls.mono h fun e w'' he => ?_
        cases e with
        | returned u => exact ⟨keep a u hy, by rw [← Act.put_comm a v u h2]; exact he⟩
        | panicked c => exact he.elim
        | outgrown => exact absurd he noX_out
      case row row args => exact Rows.mono h fun u w'' he => ⟨keep a u hy, by rw [← Act.put_comm a v u h2]; exact he⟩
    | halt x w' =>
      cases x <;> simp only [Oper.upon] at h ⊢
      case panic u => exact h.elim
  · rename_i hw
    simp only [hw] at h
    exact ⟨keep a _ hy, by rw [← Act.put_comm a v undef h2]; exact h⟩
/-- A quiet operation that may come up may come up first. -/
theorem HeadE.first {i : Nat} {oi : Oper} {v : Value} {Z : Nat → Prop} (hi : ops[i]? = some oi) (hsel : Region.noSelect ops = true) (hs : Region.sinkB .any ops m = true) (hc : Region.chainB .any ops m = true)
    (hn : m < ops.size) (him : i < m) (hdone : ∀ listed a W, L listed a W → ∀ j ∈ Region.ready .any ops listed, m ≤ j) :
    ∀ (f : Nat) (listed : Array Bool) (a : Act) (W : World), HeadInv .any ops m listed → i ∈ Region.ready .any ops listed →
      (∀ W', Keep Z W W' → YieldsIn P ops (fun W'' => Below W'.heap.size W' W'') oi v a) →
      (∀ j oj, ops[j]? = some oj → j ≠ i → listed.getD j true = false → (∀ e ∈ oj.after, Region.binds .any e = true → e.on ≠ i) → oi.apart ops oj = true ∧ ∀ b, Y j b → Z b) →
      HeadE P ops m Y L f (listed.setIfInBounds i true) (a.put oi.dst v) W → HeadE P ops m Y L (f + 1) listed a W := by
  have nosel := Region.noSelect_spec hsel
  intro f
  induction f with
  | zero =>
    intro listed a W inv hr hy _ H
    refine ⟨fun e => (by rw [e] at hr; cases hr), fun j hj => ?_⟩
    have hjn : j < m := Nat.lt_of_not_le fun h => tail_waits hs hc hn inv _ i rfl him (mem_ready.1 hr).1 j h hj
    by_cases e : j = i
    · subst e
      exact ⟨hjn, fun W2 h2 => wpOp_of_qOp (C := fun W'' => Below W2.heap.size W2 W'') (Below.refl _ _) (fun a' W' hb (hh : HeadE P ops m Y L 0 _ a' W2) => ⟨Keep.of_below hb, hh.later hb⟩) ((hy W2 (Keep.of_below h2)).qOp hi (H.later h2))⟩
    · exact absurd (hdone _ _ _ (H W (Below.refl _ _)) j (ready_mono hj e)) (by omega)
  | succ f ih =>
    intro listed a W inv hr hy hfree H
    refine ⟨fun e => (by rw [e] at hr; cases hr), fun j hj => ?_⟩
    have hjn : j < m := Nat.lt_of_not_le fun h => tail_waits hs hc hn inv _ i rfl him (mem_ready.1 hr).1 j h hj
    by_cases e : j = i
    · subst e
      exact ⟨hjn, fun W2 h2 => wpOp_of_qOp (C := fun W'' => Below W2.heap.size W2 W'') (Below.refl _ _) (fun a' W' hb (hh : HeadE P ops m Y L (f + 1) _ a' W2) => ⟨Keep.of_below hb, hh.later hb⟩) ((hy W2 (Keep.of_below h2)).qOp hi (H.later h2))⟩
    refine ⟨hjn, fun W2 h2 => ?_⟩
    obtain ⟨hun, oj, hoj, hall⟩ := mem_ready.1 hj
    have hnw : ∀ x ∈ oj.after, Region.binds .any x = true → x.on ≠ i := fun x hx hb he => by
      have h1 := hall x hx hb
      rw [he, getD_both (mem_ready.1 hr).1] at h1
      cases h1
    obtain ⟨hap, hYZ⟩ := hfree j oj hoj e hun hnw
    obtain ⟨_, _, h3⟩ := Oper.apart_spec hap
    have hq := wpOp_putG (Yp := fun a' => ∀ W', Keep Z W W' → YieldsIn P ops (fun W'' => Below W'.heap.size W' W'') oi v a') hoj hap (fun cs b => nosel j oj cs b hoj)
      (fun a u hh W' hW' => (hh W' hW').of_same (execOp_put oi (fun cs b => nosel i oi cs b hi) a oj.dst u h3) (wanted_put oi a oj.dst u h3)) (fun a d hh W' hW' => (hh W' hW').of_same rfl rfl) hy ((H.2 j (ready_mono hj e)).2 W2 h2)
    refine wpOp_mono (fun a' W' ⟨hy', hk, hK⟩ => ⟨hk, ih (listed.setIfInBounds j true) a' W' (inv.set hj hjn) (ready_mono hr (Ne.symm e)) (fun W3 h3 => hy' W3 (((Keep.of_below (Y := fun _ => False) h2).trans hk (fun _ hf => hf.elim)).trans h3 hYZ)) (fun k ok hk' hki hkun hno => ?_) ?_⟩) hq
    · refine hfree k ok hk' hki ?_ hno
      by_cases ejk : j = k
      · subst ejk; exact hun
      · rw [getD_set_ne true ejk] at hkun; exact hkun
    · rw [Array.setIfInBounds_comm _ _ e]; exact hK
end
/-- Behind the head: the tail, whose operations wait for one another. -/
def LT (P : Program) (l : List Oper) (m : Nat) (Q : Exit → Act → World → Prop) : Array Bool → Act → World → Prop :=
  fun listed a W => Region.seqB .any l.toArray (l.length - m) m listed = true ∧ wpList P l.toArray Q (l.drop m) a W
/-- What the operations of a region may turn: boxes from before it (ys), and what is made in it (zs). -/
structure Tn where
  ys : List (Nat × (Nat → Prop))
  zs : List Nat
  s0 : Nat
def Tn.Y (t : Tn) (j b : Nat) : Prop := (∃ p ∈ t.ys, p.1 = j ∧ p.2 b) ∨ (j ∈ t.zs ∧ t.s0 ≤ b)
def cutB (l : List Oper) (m : Nat) : Bool := Region.noSelect l.toArray && decide (m < l.length) && Region.sinkB .any l.toArray m && Region.chainB .any l.toArray m
def qB (l : List Oper) (m i : Nat) (listed : Array Bool) (ks : List Nat) : Bool :=
  decide (i < m) && (Region.ready .any l.toArray listed).contains i && Region.free .any l.toArray listed i &&
  ks.all fun j => j == i || listed.getD j true || match l[j]? with
    | some oj => oj.after.any fun e => Region.binds .any e && e.on == i
    | none => true
def eB (l : List Oper) (m i : Nat) (listed : Array Bool) : Bool := decide (i < m) && decide (Region.ready .any l.toArray listed = [i])
def eB2 (l : List Oper) (m i j : Nat) (listed : Array Bool) : Bool := decide (i < m) && decide (j < m) && decide (Region.ready .any l.toArray listed = [i, j])
/-- Within a region. -/
def Dr (P : Program) (w : Bs) (n : Nat) (l : List Oper) (m : Nat) (t : Tn) (Q : Exit → Act → World → Prop) (fu : Nat) (listed : Array Bool) (f : Nat → Option Value) (E : Nat → Ent) : Prop :=
  HeadInv .any l.toArray m listed → Tr w n f E (fun a W => t.s0 ≤ W.heap.size → HeadE P l.toArray m t.Y (LT P l m Q) fu listed a W)
/-- One operation of a region that turns memory. -/
def St (P : Program) (w : Bs) (n : Nat) (l : List Oper) (m : Nat) (t : Tn) (Q : Exit → Act → World → Prop) (fu : Nat) (listed : Array Bool) (f : Nat → Option Value) (E : Nat → Ent) (i : Nat) : Prop :=
  HeadInv .any l.toArray m (listed.setIfInBounds i true) → Tr w n f E (fun a W => t.s0 ≤ W.heap.size → wpOp P l.toArray NoX i (fun a' W' => Keep (t.Y i) W W' ∧ HeadE P l.toArray m t.Y (LT P l m Q) fu (listed.setIfInBounds i true) a' W') a W)
section
variable {P : Program} {w : Bs} {n : Nat} {f : Nat → Option Value} {E : Nat → Ent} {l : List Oper} {m : Nat} {t : Tn} {Q : Exit → Act → World → Prop} {fu : Nat} {listed : Array Bool}
theorem Tr.drawC {id : Nat} (m : Nat) (ys : List (Nat × (Nat → Prop))) (zs : List Nat) (hm : P.follows .mixedOrders = true) (hB : cutB l m = true)
    (h : ∀ s0, w.W.heap.size ≤ s0 → (∀ k b, (E k).S b → b < s0) → Dr P w n l m ⟨ys, zs, s0⟩ Q m (Array.replicate l.length false) f E) : Tr w n f E ((Code.region id l.toArray true).wp P Q) := by
  intro a W0 h1 h2
  simp only [cutB, Bool.and_eq_true, decide_eq_true_eq] at hB
  obtain ⟨⟨⟨hsel, hn⟩, hs⟩, hc⟩ := hB
  have inv0 : HeadInv .any l.toArray m (Array.replicate l.length false) :=
    ⟨by simp, fun j oj _ hl => (by rw [getD_replicate_false] at hl; cases hl), fun t _ ht => getD_in (by simpa using ht) (getD_replicate_false _ _)⟩
  have hb0 : Below W0.heap.size W0 { W0 with drawn := W0.drawn + 1 } := ⟨rfl, rfl, rfl, Nat.le_refl _, fun _ _ => rfl, by simp⟩
  have H := HeadE.run (g := l.length - m) (Q := Q) (fun listed a w ⟨k1, k2⟩ => by
    have hdl : (l.drop m).length = l.length - m := by simp
    have := wpAny_of_seq (md := .any) (P := P) (ops := l.toArray) (Q' := Q) (l.drop m) m listed a w (fun j => by simp [List.getElem?_drop]) (by rw [hdl]; exact k1) k2
    rwa [hdl] at this) m _ a _ ((h W0.heap.size h2.size (fun k b hb => (h2.bd k b hb).2) inv0 a W0 h1 h2 (Nat.le_refl _)).later hb0)
  rw [show m + (l.length - m) = l.length by omega] at H
  exact wp_region_any hm (by simpa using H)
/-- The end of the head. -/
theorem Dr.tail (hB : Region.seqB .any l.toArray (l.length - m) m listed = true) (h : Tr w n f E (wpList P l.toArray Q (l.drop m))) : Dr P w n l m t Q 0 listed f E :=
  fun _ a _ h1 h2 _ W2 hb => ⟨hB, h a W2 h1 (h2.later hb)⟩
/-- Another name for the state. -/
theorem Dr.use {listed' : Array Bool} {lf : List (Nat × Value)} {le : List (Nat × Ent)} (h : Dr P w n l m t Q fu listed' (LF lf) (LE le)) (hl : listed = listed') (hf : SelF f lf) (he : SelE E le) : Dr P w n l m t Q fu listed f E := by
  subst hl
  exact fun inv a W h1 h2 => h inv a W (h1.sel hf) (h2.sel he)
/-- A quiet operation: what it reads is not turned by those that do not wait for it. -/
theorem Dr.quietZ {o : Oper} {d : Nat} {v : Value} {Em : Nat → Ent} (i : Nat) (fs : List (Nat × Value)) (fl : List Nat) (fz : Bool) (hC : cutB l m = true) (hi : l[i]? = some o) (hd : o.dst = some d) (hB : qB l m i listed ((t.ys.map (·.1)).filter (fun j => !fl.contains j) ++ (if fz = true then [] else t.zs)) = true)
    (hE : ∀ W W', HF w W E → t.s0 ≤ W.heap.size → Keep (fun b => (∃ p ∈ t.ys, p.1 ∈ fl ∧ p.2 b) ∨ (fz = true ∧ t.s0 ≤ b)) W W' → HF w W' Em)
    (h : Tq P w n l.toArray f Em (fun a _ => FR n (LF fs) a) [o]) (hv : LF fs d = some v) (hdn : Nat.blt d n = true) (K : Dr P w n l m t Q fu (listed.setIfInBounds i true) (uf f d v) E) : Dr P w n l m t Q (fu + 1) listed f E := by
  intro inv a W h1 h2 hs0
  simp only [cutB, Bool.and_eq_true, decide_eq_true_eq] at hC
  obtain ⟨⟨⟨hsel, hn⟩, hs⟩, hc⟩ := hC
  simp only [qB, Bool.and_eq_true, decide_eq_true_eq] at hB
  obtain ⟨⟨⟨him, hr⟩, hfr⟩, hks⟩ := hB
  have hr : i ∈ Region.ready .any l.toArray listed := by simpa using hr
  have hi' : (l.toArray)[i]? = some o := by simpa using hi
  have hlt := Nat.le_of_ble_eq_true hdn
  have hyl : ∀ W', Keep (fun b => (∃ p ∈ t.ys, p.1 ∈ fl ∧ p.2 b) ∨ (fz = true ∧ t.s0 ≤ b)) W W' → YieldsIn P l.toArray (fun W'' => Below W'.heap.size W' W'') o v a := fun W' hk => by
    have hq := h a W' h1 (hE W W' h2 hs0 hk)
    obtain ⟨v', hy, hK'⟩ := yieldsIn_of_qOp (K := fun a => ∀ W2, Below W'.heap.size W' W2 → FR n (LF fs) a) hi' (show qOp P l.toArray _ i _ a by unfold qOp; simp only [hi']; simpa [wpQuiet] using hq)
    have hK := hK' W' (Below.refl _ _)
    have : v' = v := by
      have h3 := hK.get d v hv
      rw [hd, put_get (by rw [h1.size]; exact hlt)] at h3
      exact Option.some.inj h3
    rw [← this]; exact hy
  have hlen : m < l.toArray.size := by simpa using hn
  refine HeadE.first (oi := o) (v := v) (Z := fun b => (∃ p ∈ t.ys, p.1 ∈ fl ∧ p.2 b) ∨ (fz = true ∧ t.s0 ≤ b)) hi' hsel hs hc hlen him (fun _ _ _ hL => seqB_ready hL.1) fu listed a W inv hr hyl (fun j oj hj hji hun hno => ⟨Region.free_spec hi' hfr j oj hj hji hun hno, fun b hb => ?_⟩) ?_
  · have hwaits : ∀ ks : List Nat, (∀ x ∈ ks, x ∈ (t.ys.map (·.1)).filter (fun j => !fl.contains j) ++ (if fz = true then [] else t.zs)) → j ∈ ks → False := fun ks hsub hmem => by
      have := List.all_eq_true.1 hks j (hsub j hmem)
      have hj' : l[j]? = some oj := by simpa using hj
      rw [hj'] at this
      simp only [Bool.or_eq_true, beq_iff_eq, hji, false_or, hun, Bool.false_eq_true] at this
      obtain ⟨e, he, hb2⟩ := Array.any_eq_true'.1 this
      simp only [Bool.and_eq_true, beq_iff_eq] at hb2
      exact hno e he hb2.1 hb2.2
    rcases hb with ⟨p, hp, rfl, hb⟩ | ⟨hjz, hb⟩
    · by_cases hjf : p.1 ∈ fl
      · exact .inl ⟨p, hp, hjf, hb⟩
      · exact (hwaits [p.1] (fun x hx => by
          simp at hx; subst hx
          exact List.mem_append_left _ (List.mem_filter.2 ⟨List.mem_map.2 ⟨_, hp, rfl⟩, by simpa using hjf⟩)) (by simp)).elim
    · cases hfz : fz with
      | true => exact .inr ⟨rfl, hb⟩
      | false => exact (hwaits [j] (fun x hx => by
          simp at hx; subst hx
          exact List.mem_append_right _ (by rw [hfz]; simpa using hjz)) (by simp)).elim
  · rw [hd]
    exact K (inv.set hr him) _ W (h1.put hlt v) h2 hs0
theorem Dr.quiet {o : Oper} {d : Nat} {v : Value} (i : Nat) (fs : List (Nat × Value)) (hC : cutB l m = true) (hi : l[i]? = some o) (hd : o.dst = some d) (hB : qB l m i listed (t.ys.map (·.1) ++ t.zs) = true)
    (h : Tq P w n l.toArray f E (fun a _ => FR n (LF fs) a) [o]) (hv : LF fs d = some v) (hdn : Nat.blt d n = true) (K : Dr P w n l m t Q fu (listed.setIfInBounds i true) (uf f d v) E) : Dr P w n l m t Q (fu + 1) listed f E :=
  Dr.quietZ i fs [] false hC hi hd (by have e : (t.ys.map (·.1)).filter (fun j => !([] : List Nat).contains j) = t.ys.map (·.1) := List.filter_eq_self.2 (fun _ _ => by simp)
                                       rw [e]; exact hB) (fun W W' h2 _ hk => h2.later (hk.below (fun b hb => by rcases hb with ⟨_, _, hj, _⟩ | ⟨hj, _⟩ <;> cases hj))) h hv hdn K
/-- A quiet operation that reads no memory. -/
theorem Dr.quietP {o : Oper} {d : Nat} {v : Value} (i : Nat) (hC : cutB l m = true) (hi : l[i]? = some o) (hw : Wn l.toArray f o) (hd : o.dst = some d) (hB : qB l m i listed [] = true) (hr : ∀ (a : Act) (W : World), FR n f a → (execOp a.eval o).run P W = .ok (.value v) W)
    (hdn : Nat.blt d n = true) (K : Dr P w n l m t Q fu (listed.setIfInBounds i true) (uf f d v) E) : Dr P w n l m t Q (fu + 1) listed f E := by
  intro inv a W h1 h2 hs0
  simp only [cutB, Bool.and_eq_true, decide_eq_true_eq] at hC
  obtain ⟨⟨⟨hsel, hn⟩, hs⟩, hc⟩ := hC
  simp only [qB, Bool.and_eq_true, decide_eq_true_eq] at hB
  obtain ⟨⟨⟨him, hrd⟩, hfr⟩, _⟩ := hB
  have hrd : i ∈ Region.ready .any l.toArray listed := by simpa using hrd
  have hi' : (l.toArray)[i]? = some o := by simpa using hi
  have hyl : ∀ W', Keep (fun _ => True) W W' → YieldsIn P l.toArray (fun W'' => Below W'.heap.size W' W'') o v a := fun W' _ => .inl ⟨hw n a h1, fun W'' _ => by
    unfold Oper.quietAt
    rw [hr a W'' h1]
    exact ⟨rfl, rfl⟩⟩
  have hlen : m < l.toArray.size := by simpa using hn
  refine HeadE.first (oi := o) (v := v) (Z := fun _ => True) hi' hsel hs hc hlen him (fun _ _ _ hL => seqB_ready hL.1) fu listed a W inv hrd hyl (fun j oj hj hji hun hno => ⟨Region.free_spec hi' hfr j oj hj hji hun hno, fun b hb => trivial⟩) ?_
  rw [hd]
  exact K (inv.set hrd him) _ W (h1.put (Nat.le_of_ble_eq_true hdn) v) h2 hs0
/-- Parts of memory that what is turned is not among: boxes ks, or what lies from s0 on. -/
theorem HF.keepZ {W W' : World} {le : List (Nat × Ent)} {ks : List (Nat × (Nat → Prop))} {Z : Nat → Prop} {s0 : Nat} (fz : Bool) (h : HF w W E) (hk : Keep Z W W') (hlo : fz = true → w.W.heap.size ≤ s0) (hE : SelE E le) (hz : ∀ b, Z b → (∃ p ∈ ks, p.2 b) ∨ (fz = true ∧ s0 ≤ b ∧ ∀ p ∈ le, ∀ b, p.2.S b → b < s0)) (hks : ∀ p ∈ ks, ∀ b, p.2 b → (E p.1).S b) (hdis : (le.all fun p => ks.all fun q => p.1 != q.1) = true) : HF w W' (LE le) := by
  have hcases : ∀ k, (LE le k = E k ∧ (∀ q ∈ ks, k ≠ q.1) ∧ ∃ p ∈ le, p.2 = E k) ∨ LE le k = emp := by
    intro k
    clear hz hks hk h
    induction le with
    | nil => exact .inr rfl
    | cons p le ih =>
      obtain ⟨k', e⟩ := p
      simp only [List.all_cons, Bool.and_eq_true] at hdis
      unfold LE
      rcases up_cases (LE le) k' e k with ⟨h1, h2⟩ | ⟨_, h2⟩ <;> rw [h2]
      · subst h1
        refine .inl ⟨hE.1.symm, fun q hq => ?_, ⟨_, List.mem_cons_self, hE.1.symm⟩⟩
        have := List.all_eq_true.1 hdis.1 q hq
        simpa using this
      · rcases ih hE.2 hdis.2 with ⟨a1, a2, p, a3, a4⟩ | a
        · exact .inl ⟨a1, a2, p, List.mem_cons_of_mem _ a3, a4⟩
        · exact .inr a
  have hsame : ∀ k b, (∀ q ∈ ks, k ≠ q.1) → (∃ p ∈ le, p.2 = E k) → (E k).S b → W'.heap[b]? = W.heap[b]? := fun k b hne ⟨p0, hp0, hpe⟩ hs => hk.block b (h.bd k b hs).2 (fun hzb => by
    rcases hz b hzb with ⟨p, hp, hpb⟩ | ⟨_, hb, hle⟩
    · exact h.disj k p.1 b (hne p hp) hs (hks p hp b hpb)
    · have := hle p0 hp0 b (by rw [hpe]; exact hs)
      omega)
  have hold : ∀ b, w.R b → W'.heap[b]? = W.heap[b]? := fun b hb => hk.block b (h.rlt hb) (fun hzb => by
    rcases hz b hzb with ⟨p, hp, hpb⟩ | ⟨hf, hb', _⟩
    · exact (h.bd p.1 b (hks p hp b hpb)).1 hb
    · have := w.lt b hb
      have := hlo hf
      omega)
  refine ⟨hk.os.trans h.os, hk.tape.trans h.tape, hk.output.trans h.output, Nat.le_trans h.size hk.size, Nat.le_trans h.drawn hk.drawn, fun b hb => (hold b hb).trans (h.keep b hb), fun k => ?_, fun k => ?_, fun k b => ?_, fun i j b hij => ?_⟩
  · rcases hcases k with ⟨e, hne, hp⟩ | e <;> rw [e]
    · exact (h.loc k).at_ _ W W' (fun b hb => by
        rcases hb with hb | hb
        · exact hold b (.inl hb)
        · exact hsame k b hne hp hb) (h.phi k)
    · trivial
  · rcases hcases k with ⟨e, _⟩ | e <;> rw [e]
    · exact h.loc k
    · exact emp_loc
  · rcases hcases k with ⟨e, _⟩ | e <;> rw [e]
    · exact fun hs => ⟨(h.bd k b hs).1, Nat.lt_of_lt_of_le (h.bd k b hs).2 hk.size⟩
    · exact fun hh => hh.elim
  · rcases hcases i with ⟨e, _⟩ | e <;> rcases hcases j with ⟨e', _⟩ | e' <;> rw [e, e']
    · exact h.disj i j b hij
    · exact fun _ hh => hh.elim
    · exact fun hh => hh.elim
    · exact fun hh => hh.elim
theorem wpOp_of_st {i : Nat} (h : St P w n l m t Q fu listed f E i) (inv : HeadInv .any l.toArray m (listed.setIfInBounds i true)) {a : Act} {W : World} (h1 : FR n f a) (h2 : HF w W E) (hs : t.s0 ≤ W.heap.size) :
    ∀ W2, Below W.heap.size W W2 → wpOp P l.toArray NoX i (fun a' W' => Keep (t.Y i) W2 W' ∧ HeadE P l.toArray m t.Y (LT P l m Q) fu (listed.setIfInBounds i true) a' W') a W2 :=
  fun W2 hb => h inv a W2 h1 (h2.later hb) (Nat.le_trans hs hb.size)
/-- All others wait, for it or it for them. -/
theorem Dr.one (i : Nat) (hB : eB l m i listed = true) (h : St P w n l m t Q fu listed f E i) : Dr P w n l m t Q (fu + 1) listed f E := by
  intro inv a W h1 h2 hs
  simp only [eB, Bool.and_eq_true, decide_eq_true_eq] at hB
  have hr : i ∈ Region.ready .any l.toArray listed := by rw [hB.2]; simp
  refine ⟨by rw [hB.2]; simp, fun j hj => ?_⟩
  rw [hB.2] at hj
  have : j = i := by simpa using hj
  subst this
  exact ⟨hB.1, wpOp_of_st h (inv.set hr hB.1) h1 h2 hs⟩
/-- Two that do not wait for one another: either may be first. -/
theorem Dr.pair (i j : Nat) (hB : eB2 l m i j listed = true) (h1 : St P w n l m t Q fu listed f E i) (h2 : St P w n l m t Q fu listed f E j) : Dr P w n l m t Q (fu + 1) listed f E := by
  intro inv a W k1 k2 hs
  simp only [eB2, Bool.and_eq_true, decide_eq_true_eq] at hB
  have hri : i ∈ Region.ready .any l.toArray listed := by rw [hB.2]; simp
  have hrj : j ∈ Region.ready .any l.toArray listed := by rw [hB.2]; simp
  refine ⟨by rw [hB.2]; simp, fun x hx => ?_⟩
  rw [hB.2] at hx
  have : x = i ∨ x = j := by simpa using hx
  rcases this with rfl | rfl
  · exact ⟨hB.1.1, wpOp_of_st h1 (inv.set hri hB.1.1) k1 k2 hs⟩
  · exact ⟨hB.1.2, wpOp_of_st h2 (inv.set hrj hB.1.2) k1 k2 hs⟩
def eB3 (l : List Oper) (m i j k : Nat) (listed : Array Bool) : Bool := decide (i < m) && decide (j < m) && decide (k < m) && decide (Region.ready .any l.toArray listed = [i, j, k])
theorem Dr.triple (i j k : Nat) (hB : eB3 l m i j k listed = true) (h1 : St P w n l m t Q fu listed f E i) (h2 : St P w n l m t Q fu listed f E j) (h3 : St P w n l m t Q fu listed f E k) : Dr P w n l m t Q (fu + 1) listed f E := by
  intro inv a W k1 k2 hs
  simp only [eB3, Bool.and_eq_true, decide_eq_true_eq] at hB
  have hri : i ∈ Region.ready .any l.toArray listed := by rw [hB.2]; simp
  have hrj : j ∈ Region.ready .any l.toArray listed := by rw [hB.2]; simp
  have hrk : k ∈ Region.ready .any l.toArray listed := by rw [hB.2]; simp
  refine ⟨by rw [hB.2]; simp, fun x hx => ?_⟩
  rw [hB.2] at hx
  have : x = i ∨ x = j ∨ x = k := by simpa using hx
  rcases this with rfl | rfl | rfl
  · exact ⟨hB.1.1.1, wpOp_of_st h1 (inv.set hri hB.1.1.1) k1 k2 hs⟩
  · exact ⟨hB.1.1.2, wpOp_of_st h2 (inv.set hrj hB.1.1.2) k1 k2 hs⟩
  · exact ⟨hB.1.2, wpOp_of_st h3 (inv.set hrk hB.1.2) k1 k2 hs⟩
def lst : List Nat → Array Bool → Array Bool
  | [], a => a
  | i :: l, a => lst l (a.setIfInBounds i true)
/-- Operations that come in several orders: behind all of them the same is known. -/
theorem Dr.cut {U : Type} (is : List Nat) (fu2 : Nat) (Φ : U → Prop) (lf : U → List (Nat × Value)) (le : U → List (Nat × Ent)) (h : (∀ u, Φ u → Dr P w n l m t Q fu2 (lst is listed) (LF (lf u)) (LE (le u))) → Dr P w n l m t Q fu listed f E)
    (C : ∀ u, Φ u → Dr P w n l m t Q fu2 (lst is listed) (LF (lf u)) (LE (le u))) : Dr P w n l m t Q fu listed f E := h C
theorem Dr.cutG {U : Type} (is : List Nat) (fu2 : Nat) (Φ : Bs → U → Prop) (lf : U → List (Nat × Value)) (le : U → List (Nat × Ent)) (h : (∀ (w' : Bs) (u : U), w.Le w' → Φ w' u → Dr P w' n l m t Q fu2 (lst is listed) (LF (lf u)) (LE (le u))) → Dr P w n l m t Q fu listed f E)
    (C : ∀ (w' : Bs) (u : U), w.Le w' → Φ w' u → Dr P w' n l m t Q fu2 (lst is listed) (LF (lf u)) (LE (le u))) : Dr P w n l m t Q fu listed f E := h C
theorem St.eff {o : Oper} (i : Nat) (hi : l[i]? = some o) (hw : Wn l.toArray f o) {f' : Nat → Option Value} {E' : Nat → Ent}
    (h : ∀ a W, FR n f a → HF w W E → ∀ K : Act → World → Prop, (∀ a' W', FR n f' a' → HF w W' E' → Keep (t.Y i) W W' → K a' W') → o.wp P a W K NoX)
    (K : Dr P w n l m t Q fu (listed.setIfInBounds i true) f' E') : St P w n l m t Q fu listed f E i := by
  intro inv a W h1 h2 hs
  have hi' : (l.toArray)[i]? = some o := by simpa using hi
  unfold wpOp
  simp only [hi', hw n a h1, if_true]
  exact .inl (h a W h1 h2 _ (fun a' W' k1 k2 k3 => ⟨k3, K inv a' W' k1 k2 (Nat.le_trans hs k3.size)⟩))
/-- .. of a value that is not known before. -/
theorem St.effU {U : Type} {o : Oper} (i : Nat) (hi : l[i]? = some o) (hw : Wn l.toArray f o) (Φ : U → Prop) {f' : U → Nat → Option Value} {E' : U → Nat → Ent}
    (h : ∀ a W, FR n f a → HF w W E → t.s0 ≤ W.heap.size → ∀ K : Act → World → Prop, (∀ u a' W', Φ u → FR n (f' u) a' → HF w W' (E' u) → Keep (t.Y i) W W' → K a' W') → o.wp P a W K NoX)
    (K : ∀ u, Φ u → Dr P w n l m t Q fu (listed.setIfInBounds i true) (f' u) (E' u)) : St P w n l m t Q fu listed f E i := by
  intro inv a W h1 h2 hs
  have hi' : (l.toArray)[i]? = some o := by simpa using hi
  unfold wpOp
  simp only [hi', hw n a h1, if_true]
  exact .inl (h a W h1 h2 hs _ (fun u a' W' k0 k1 k2 k3 => ⟨k3, K u k0 inv a' W' k1 k2 (Nat.le_trans hs k3.size)⟩))
variable {d ty T T' : Nat} {pos : String} {af : Array Edge} {g : Option (Nat × Bool)} {p q : Operand} {u v : Value}
theorem St.alloc (i κ : Nat) {cs : List Value} (hi : l[i]? = some ⟨some d, .alloc T, ty, pos, af, g⟩) (hw : Wn l.toArray f ⟨some d, .alloc T, ty, pos, af, g⟩) (hdn : Nat.blt d n = true) (hz : zeroOf P T = some cs)
    (K : ∀ b, t.s0 ≤ b → Dr P w n l m t Q fu (listed.setIfInBounds i true) (uf f d (.pointer (some ⟨b, 0, none⟩))) (up E κ (bx b cs.toArray T))) : St P w n l m t Q fu listed f E i :=
  St.effU (U := Nat) i hi hw (t.s0 ≤ ·) (fun a W h1 h2 hs K' hK => by
    unfold Oper.wp
    rw [run_alloc hz]
    exact hK W.heap.size _ _ hs (h1.put (Nat.le_of_ble_eq_true hdn) _) (h2.alloc κ cs.toArray T) (Keep.of_below ((Below.refl _ _).alloc (Nat.le_refl _) _))) K
theorem St.box (i κ : Nat) {cs : List Value} (hi : l[i]? = some ⟨some d, .box T p, ty, pos, af, g⟩) (hw : Wn l.toArray f ⟨some d, .box T p, ty, pos, af, g⟩) (hdn : Nat.blt d n = true) (hp : ev f p = some v) (hc : v.cells = cs.toArray)
    (K : ∀ b, t.s0 ≤ b → Dr P w n l m t Q fu (listed.setIfInBounds i true) (uf f d (.pointer (some ⟨b, 0, none⟩))) (up E κ (bx b cs.toArray T))) : St P w n l m t Q fu listed f E i :=
  St.effU (U := Nat) i hi hw (t.s0 ≤ ·) (fun a W h1 h2 hs K' hK => by
    unfold Oper.wp
    rw [run_box (h1.ev hp) hc]
    exact hK W.heap.size _ _ hs (h1.put (Nat.le_of_ble_eq_true hdn) _) (h2.alloc κ cs.toArray T) (Keep.of_below ((Below.refl _ _).alloc (Nat.le_refl _) _))) K
theorem St.buildSlice (i κ : Nat) {len e : Nat} {ps : List (Nat × Operand)} {vs : List (Nat × Value)} {cs : List Value} (hi : l[i]? = some ⟨some d, .buildSlice T len ps.toArray, ty, pos, af, g⟩) (hw : Wn l.toArray f ⟨some d, .buildSlice T len ps.toArray, ty, pos, af, g⟩) (hdn : Nat.blt d n = true)
    (hv : evs f ps vs) (hb : sliceBuilt P T len vs = some (e, cs))
    (K : ∀ b, t.s0 ≤ b → Dr P w n l m t Q fu (listed.setIfInBounds i true) (uf f d (.slice (some ⟨b, 0, none⟩) len len)) (up E κ (bx b cs.toArray e))) : St P w n l m t Q fu listed f E i :=
  St.effU (U := Nat) i hi hw (t.s0 ≤ ·) (fun a W h1 h2 hs K' hK => by
    unfold Oper.wp
    rw [run_buildSlice (evs_eq hv a h1) hb]
    exact hK W.heap.size _ _ hs (h1.put (Nat.le_of_ble_eq_true hdn) _) (h2.alloc κ cs.toArray e) (Keep.of_below ((Below.refl _ _).alloc (Nat.le_refl _) _))) K
theorem St.store (i κ : Nat) {b o T2 : Nat} {vs cs : List Value} (vs' : List Value) (hi : l[i]? = some ⟨none, .store T p q, ty, pos, af, g⟩) (hw : Wn l.toArray f ⟨none, .store T p q, ty, pos, af, g⟩) (hy : t.Y i b)
    (hp : ev f p = some (.pointer (some ⟨b, o, none⟩))) (hq : ev f q = some v) (hv : v.cells = cs.toArray)
    (hk : E κ = bx b vs.toArray T2) (hs : szOf P T = some cs.length) (hfit : Nat.ble (o + cs.length) vs.length = true) (h1 : cs.all (·.oneCell') = true) (hvs : vs.take o ++ cs ++ vs.drop (o + cs.length) = vs')
    (K : Dr P w n l m t Q fu (listed.setIfInBounds i true) f (up E κ (bx b vs'.toArray T2))) : St P w n l m t Q fu listed f E i :=
  St.eff i hi hw (fun a W k1 k2 K' hK => by
    unfold Oper.wp
    rw [run_store hs (k1.ev hp) (k1.ev hq) hv (k2.bx hk) hfit h1, hvs]
    refine hK _ _ k1 (k2.setRow hk vs'.toArray) ⟨rfl, rfl, rfl, by simp [World.setRow], fun x hx hne => ?_, Nat.le_refl _⟩
    have hbx : ¬ b = x := fun e => hne (e ▸ hy)
    simp only [World.setRow, Array.getElem?_modify]
    rw [if_neg hbx]) K
/-- A store to an element of a slice of the call's own. -/
theorem St.storeEl {α : Type} (i κ : Nat) {A : Option Addr} {c e fo o : Nat} {ix : Int} {t' : Fl α} {ll l' : List α} {x : α} (x' : α) {cs : List Value} (hY : ∀ b, (ow A c e t' ll).S b → t.Y i b) (hi : l[i]? = some ⟨none, .store T p q, ty, pos, af, g⟩) (hw : Wn l.toArray f ⟨none, .store T p q, ty, pos, af, g⟩)
    (hp : ev f p = some (.pointer (some ⟨adB A, o, none⟩))) (hq : ev f q = some v) (hv : v.cells = cs.toArray) (ho : o = adO A + ix.toNat * t'.sz + fo) (hk : E κ = ow A c e t' ll) (hx : ll[ix.toNat]? = some x) (hs : szOf P T = some cs.length) (h1 : cs.all (·.oneCell') = true)
    (hup : ∀ u, t'.ok w.O w.W u x → ∃ u', t'.ok w.O w.W u' x' ∧ t'.enc u' x' = (t'.enc u x).take fo ++ cs ++ (t'.enc u x).drop (fo + cs.length)) (hfit : Nat.ble (fo + cs.length) t'.sz = true) (hset : sets ll ix x' = some l')
    (K : Dr P w n l m t Q fu (listed.setIfInBounds i true) f (up E κ (ow A c e t' l'))) : St P w n l m t Q fu listed f E i :=
  St.eff i hi hw (fun a W k1 k2 K' hK => by
    subst ho
    have hA := (k2.sl hk).form.2.2 (by have := (List.getElem?_eq_some_iff.1 hx).1; omega)
    obtain ⟨vs, hh, hle, hnew⟩ := set_el κ k2 hk hx hup (Nat.le_of_ble_eq_true hfit)
    rw [sets_some hset] at hnew
    unfold Oper.wp
    rw [run_store hs (k1.ev hp) (k1.ev hq) hv hh (Nat.ble_eq_true_of_le hle) h1]
    refine hK _ _ k1 hnew ⟨rfl, rfl, rfl, by simp [World.setRow], fun b hb hne => ?_, Nat.le_refl _⟩
    have hbx : ¬ adB A = b := fun e => hne (hY b (by
      show (Value.slice A ll.length c).ownBlock = some b
      rw [hA, ← e]; rfl))
    simp only [World.setRow, Array.getElem?_modify]
    rw [if_neg hbx]) K
theorem St.freeze {α : Type} {i : Nat} (κ : Nat) {A : Option Addr} {c T : Nat} {t' : Fl α} {ll : List α} (hk : E κ = ow A c T t' ll) (K : ∀ w', w.Le w' → Sl w'.O w'.W t' A c ll → St P w' n l m t Q fu listed f (up E κ emp) i) : St P w n l m t Q fu listed f E i :=
  fun inv => Tr.freeze κ hk fun w' h1 h2 => K w' h1 h2 inv
/-- append to a slice of the call's own. -/
theorem St.append {α : Type} (i κ : Nat) {A : Option Addr} {c e inb b o c2 : Nat} {t' : Fl α} {ll l2 l' : List α} (hY : ∀ b, (ow A c e t' ll).S b → t.Y i b) (hi : l[i]? = some ⟨some d, .call ⟨.builtin .append, #[p, q], #[T, T]⟩, ty, pos, af, g⟩) (hw : Wn l.toArray f ⟨some d, .call ⟨.builtin .append, #[p, q], #[T, T]⟩, ty, pos, af, g⟩) (hdn : Nat.blt d n = true)
    (hp : ev f p = some (.slice A ll.length c)) (hk : E κ = ow A c e t' ll) (hq : ev f q = some (.slice (some ⟨b, o, none⟩) l2.length c2)) (hr : ∀ W, HF w W E → ∃ css, Al (rp t' w.O w.W) css l2 ∧ CellsAt W b o css.flatten)
    (hu : P.underlying T = some (.slice e)) (hs : szOf P e = some t'.sz) (hz : (zeroOf P e).map List.length = some t'.sz) (hsz : 0 < t'.sz) (hby : (P.info? e).map (·.bytes) = some inb) (hib : Nat.ble inb 32768 = true) (hap : apd ll l2 = some l')
    (K : ∀ A' c', SlF A' l'.length c' → Dr P w n l m t Q fu (listed.setIfInBounds i true) (uf f d (.slice A' l'.length c')) (up E κ (ow A' c' e t' l'))) : St P w n l m t Q fu listed f E i :=
  St.effU (U := Option Addr × Nat) i hi hw (fun u => SlF u.1 l'.length u.2) (fun a W h1 h2 hs0 K' hK => by
    obtain ⟨hlen, hl'⟩ := apd_some hap
    subst hl'
    cases hin : P.info? e with
    | none => rw [hin] at hby; cases hby
    | some inf =>
      rw [hin] at hby; simp at hby; subst hby
      unfold zeroOf at hz
      unfold szOf at hs
      rw [hin] at hz hs
      simp only [Option.bind_some, Option.map_some, Option.some.injEq] at hz hs
      cases hze : inf.zero with
      | none => rw [hze] at hz; cases hz
      | some z =>
        rw [hze] at hz
        simp at hz
        obtain ⟨css0, hal0, hown⟩ := h2.ow hk
        obtain ⟨css2, hal2, hc2⟩ := hr W h2
        have hbytes : (ll.length + l2.length) * inf.bytes ≤ 140737488355328 := Nat.le_trans (Nat.mul_le_mul hlen (Nat.le_of_ble_eq_true hib)) (by decide)
        have hsm : ll.length + l2.length ≤ maxLen := by unfold maxLen; omega
        obtain ⟨v', W', hrun, ho, hg, _, hat⟩ := run_append_own_at (P := P) W 0 T ty e inf z t'.sz inf.bytes hu hin hze hs rfl hz hsz _ _ _ hown ⟨b, o, none⟩ l2.length c2 css2.flatten (flat_len hal2)
          (fun j u hj => by rw [Addr.add_lit]; exact hc2 j u hj) (fun u hu => by
            obtain ⟨i, cs, k, h1, h2, _⟩ := flat_inv hal2 (List.getElem?_of_mem hu).choose_spec
            have hlt : i < l2.length := by rw [← hal2.len]; exact (List.getElem?_eq_some_iff.1 h1).1
            obtain ⟨cs', h3, h4⟩ := hal2.at_ (List.getElem?_eq_getElem hlt)
            rw [h1] at h3; cases h3
            exact h4.one u (List.mem_of_getElem? h2)) hsm hbytes (Nat.zero_le _)
        rw [← List.flatten_append, ← List.length_append] at ho
        obtain ⟨A', c', rfl, hf, h3⟩ := grow_owned h2 hk (run_drawn _ _ _ _ hrun) hg ((hal0.mono (fun _ _ hr => hr.off h2)).append hal2) ho (fun b' hb' => by
          rcases hat with hat | hat
          · exact .inl (hat ▸ hb')
          · rw [hat] at hb'; simp at hb'; subst hb'; exact .inr (Nat.le_refl _))
        obtain ⟨g1, g2, g3, g4, g5⟩ := hg
        unfold Oper.wp execOp
        simp only [resolve, invoke, builtin, Sem.run_bind, Sem.run_pure, Result.andThen_ok, List.map_toArray, List.map_cons, List.map_nil, h1.ev hp, h1.ev hq, hrun, Oper.upon_value]
        exact hK (A', c') _ _ hf (h1.put (Nat.le_of_ble_eq_true hdn) _) h3 ⟨g1, g2, g3, g4, fun b hb hy => g5 b hb (fun e => hy (hY b e.symm)), run_drawn _ _ _ _ hrun⟩) (fun u hu => K u.1 u.2 hu)
theorem keep_of_sub {W W' : World} {E1 : Nat → Ent} {ins : List Ent} {Y : Nat → Prop} {w' : Bs} (h : HF w W E) (hle : (h.sub (insS ins)).Le w') (h' : HF w' W' E1) (hY : ∀ b, insS ins b → Y b) : Keep Y W W' :=
  ⟨h'.os.trans hle.os, h'.tape.trans hle.tape, h'.output.trans hle.output, Nat.le_trans hle.size h'.size, fun b hb hy => by
    have hr : (h.sub (insS ins)).R b := .inr ⟨hb, fun hi => hy (hY b hi)⟩
    exact (h'.keep b (hle.r b hr)).trans (hle.blk b hr), Nat.le_trans hle.drawn h'.drawn⟩
/-- What a call leaves: new, or what it was lent. -/
theorem out_new {W W' : World} {ins outs : List Ent} {w' : Bs} {s0 : Nat} (h : HF w W E) (hb : HF w' W' (LEn outs)) (hs : s0 ≤ W.heap.size) (hle : (h.sub (insS ins)).Le w') : ∀ b, insS outs b → s0 ≤ b ∨ insS ins b := fun b ⟨e, he, hS⟩ => by
  obtain ⟨j, hj⟩ := List.getElem?_of_mem he
  have h1 : (LEn outs j).S b := by rw [LEn_at hj]; exact hS
  have h2 := (hb.bd j b h1).1
  by_cases hi : insS ins b
  · exact .inr hi
  · exact .inl (Nat.le_of_not_lt fun hlt => h2 (hle.r b (.inr ⟨Nat.lt_of_lt_of_le hlt hs, hi⟩)))
/-- A call that turns parts, or leaves new ones. -/
theorem St.callM {U : Type} {fn : Nat} {xs : List Operand} {vs : List Value} {ts : Array Nat} (i : Nat) (ks : List Nat) (ins : List Ent) (V : U → Value) (Φ : U → Prop) (outs : U → List Ent) (hn : decide ks.Nodup = true) (hp : Pk E ks ins) (hl : ∀ u, (outs u).length = ks.length)
    (hY : ∀ b, insS ins b → t.Y i b) (hi : l[i]? = some ⟨some d, .call ⟨.value (.func fn), xs.toArray, ts⟩, ty, pos, af, g⟩) (hw : Wn l.toArray f ⟨some d, .call ⟨.value (.func fn), xs.toArray, ts⟩, ty, pos, af, g⟩) (hdn : Nat.blt d n = true)
    (hg : ∀ args W, (callFunc fn args).run P W = .ok (.enter fn args) W) (hx : evl f xs vs)
    (hc : ∀ W (hW : HF w W E) (_ : Pk E ks ins), HF (hW.sub (insS ins)) W (LEn ins) → Calls P fn vs.toArray W fun e W' => ∃ u, e = .returned (V u) ∧ Φ u ∧ HF (hW.sub (insS ins)) W' (LEn (outs u)))
    (K : ∀ u, Φ u → (∀ b, insS (outs u) b → t.s0 ≤ b ∨ insS ins b) → Dr P w n l m t Q fu (listed.setIfInBounds i true) (uf f d (V u)) (upL E ks (outs u))) : St P w n l m t Q fu listed f E i :=
  St.effU i hi hw (fun u => Φ u ∧ ∀ b, insS (outs u) b → t.s0 ≤ b ∨ insS ins b) (fun a W h1 h2 hs0 K' hK => by
    have hn' := of_decide_eq_true hn
    unfold Oper.wp
    rw [run_callD h1 hg hx]
    refine (hc W h2 hp (h2.lend hn' hp)).mono fun e W' ⟨u, he, hu, hb⟩ => ?_
    subst he
    exact hK u _ _ ⟨hu, out_new h2 hb hs0 (.refl _)⟩ (h1.put (Nat.le_of_ble_eq_true hdn) _) (HF.sameO (h2.after_le hp (.refl _)) (fun _ h => h) (h2.back hn' hp (.refl _) hb (hl u))) (keep_of_sub h2 (.refl _) hb hY)) (fun u hu => K u hu.1 hu.2)
theorem St.callG {U : Type} {fn : Nat} {xs : List Operand} {vs : List Value} {ts : Array Nat} (i : Nat) (ks : List Nat) (ins : List Ent) (V : U → Value) (Φ : (Nat → Prop) → World → U → Prop) (outs : U → List Ent) (hn : decide ks.Nodup = true) (hp : Pk E ks ins) (hl : ∀ u, (outs u).length = ks.length)
    (hY : ∀ b, insS ins b → t.Y i b) (hi : l[i]? = some ⟨some d, .call ⟨.value (.func fn), xs.toArray, ts⟩, ty, pos, af, g⟩) (hw : Wn l.toArray f ⟨some d, .call ⟨.value (.func fn), xs.toArray, ts⟩, ty, pos, af, g⟩) (hdn : Nat.blt d n = true)
    (hg : ∀ args W, (callFunc fn args).run P W = .ok (.enter fn args) W) (hx : evl f xs vs)
    (hc : ∀ W (hW : HF w W E) (_ : Pk E ks ins), HF (hW.sub (insS ins)) W (LEn ins) → Calls P fn vs.toArray W fun e W' => ∃ w' u, (hW.sub (insS ins)).Le w' ∧ e = .returned (V u) ∧ Φ w'.O w'.W u ∧ HF w' W' (LEn (outs u)))
    (K : ∀ w' u, w.Le w' → Φ w'.O w'.W u → (∀ b, insS (outs u) b → t.s0 ≤ b ∨ insS ins b) → Dr P w' n l m t Q fu (listed.setIfInBounds i true) (uf f d (V u)) (upL E ks (outs u))) : St P w n l m t Q fu listed f E i := by
  intro inv a W h1 h2 hs
  have hi' : (l.toArray)[i]? = l[i]? := by simp
  rw [hi] at hi'
  have hn' := of_decide_eq_true hn
  unfold wpOp
  simp only [hi', hw n a h1, if_true]
  refine .inl ?_
  unfold Oper.wp
  rw [run_callD h1 hg hx]
  refine (hc W h2 hp (h2.lend hn' hp)).mono fun e W' ⟨w', u, hle, he, hu, hb⟩ => ?_
  subst he
  have hkeep := keep_of_sub (Y := t.Y i) h2 hle hb hY
  exact ⟨hkeep, K (h2.after hle) u (h2.after_le hp hle) hu (out_new h2 hb hs hle) inv _ W' (h1.put (Nat.le_of_ble_eq_true hdn) _) (h2.back hn' hp hle hb (hl u)) (Nat.le_trans hs hkeep.size)⟩
end
end Go.Proofs.Ytfddmjoldoddlaa
