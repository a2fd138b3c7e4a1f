/- A small logic for walks: frames and memory as finite maps of symbols, one rule for each kind of operation. Over any program. Conditions: none beyond each theorem's own. -/
import Derived.WalkKit
import Derived.WalkSpells
import Derived.WalkLawsBesides
import Derived.Test.YtfddmjoldoddlaaGD
namespace Go.Proofs.Ytfddmjoldoddlaa
open Go.RowKit

/-- Below B all is as it was; the tape's place only moves on. -/
structure Below (B : Nat) (w w' : World) : Prop where
  os : w'.os = w.os
  tape : w'.tape = w.tape
  output : w'.output = w.output
  size : w.heap.size ≤ w'.heap.size
  block : ∀ k, k < B → w'.heap[k]? = w.heap[k]?
  drawn : w.drawn ≤ w'.drawn
section
variable {B C : Nat} {a b c w : World}
theorem Below.refl (B : Nat) (w : World) : Below B w w := ⟨rfl, rfl, rfl, Nat.le_refl _, fun _ _ => rfl, Nat.le_refl _⟩
theorem Below.trans (h : Below B a b) (k : Below B b c) : Below B a c :=
  ⟨k.os.trans h.os, k.tape.trans h.tape, k.output.trans h.output, Nat.le_trans h.size k.size, fun i hi => (k.block i hi).trans (h.block i hi), Nat.le_trans h.drawn k.drawn⟩
theorem Below.mono (h : Below B a b) (hc : C ≤ B) : Below C a b := ⟨h.os, h.tape, h.output, h.size, fun k hk => h.block k (Nat.lt_of_lt_of_le hk hc), h.drawn⟩
theorem Below.kit (h : Below B a b) : Go.RowKit.Below B a b := ⟨h.os, h.tape, h.output, h.size, h.block⟩
theorem Below.of_kit (h : Go.RowKit.Below B a b) (hd : a.drawn ≤ b.drawn) : Below B a b := ⟨h.os, h.tape, h.output, h.size, h.block, hd⟩
theorem Below.alloc (h : Below B a b) (hB : B ≤ b.heap.size) (o : Obj) : Below B a (b.alloc o) := Below.of_kit (h.kit.alloc hB o) h.drawn
end
/-- The base of a walk: a world, the blocks that are written no more (O), the blocks that are lent and must stay (K). -/
structure Bs where
  W : World
  O : Nat → Prop
  K : Nat → Prop
  lt : ∀ b, O b ∨ K b → b < W.heap.size
/-- What can be read. -/
def Bs.R (B : Bs) : Nat → Prop := fun b => B.O b ∨ B.K b
/-- A later base. -/
structure Bs.Le (B B' : Bs) : Prop where
  os : B'.W.os = B.W.os
  tape : B'.W.tape = B.W.tape
  output : B'.W.output = B.W.output
  size : B.W.heap.size ≤ B'.W.heap.size
  drawn : B.W.drawn ≤ B'.W.drawn
  sub : ∀ b, B.O b → B'.O b
  new : ∀ b, B'.O b → B.O b ∨ ¬ B.K b
  lent : B'.K = B.K
  blk : ∀ b, B.O b ∨ B.K b → B'.W.heap[b]? = B.W.heap[b]?
theorem Bs.Le.refl (B : Bs) : B.Le B := ⟨rfl, rfl, rfl, Nat.le_refl _, Nat.le_refl _, fun _ h => h, fun _ h => .inl h, rfl, fun _ _ => rfl⟩
theorem Bs.Le.trans {A B C : Bs} (h : A.Le B) (k : B.Le C) : A.Le C :=
  ⟨k.os.trans h.os, k.tape.trans h.tape, k.output.trans h.output, Nat.le_trans h.size k.size, Nat.le_trans h.drawn k.drawn, fun b hb => k.sub b (h.sub b hb),
   fun b hb => by
     rcases k.new b hb with h1 | h1
     · exact h.new b h1
     · rw [h.lent] at h1; exact .inr h1, k.lent.trans h.lent, fun b hb => (k.blk b (hb.imp (h.sub b) (fun hk => by rw [h.lent]; exact hk))).trans (h.blk b hb)⟩
theorem Bs.Le.r {B B' : Bs} (h : B.Le B') : ∀ b, B.R b → B'.R b := fun b hb => hb.imp (h.sub b) (fun hk => by rw [h.lent]; exact hk)
/-- A part of memory: the blocks that it speaks of (beside those that are written no more), and what it says. -/
structure Ent where
  S : Nat → Prop
  φ : (Nat → Prop) → World → Prop
structure Ent.loc (e : Ent) : Prop where
  at_ : ∀ (O : Nat → Prop) (W W' : World), (∀ b, O b ∨ e.S b → W'.heap[b]? = W.heap[b]?) → e.φ O W → e.φ O W'
  up : ∀ (O O' : Nat → Prop) (W : World), (∀ b, O b → O' b) → e.φ O W → e.φ O' W
def emp : Ent := ⟨fun _ => False, fun _ _ => True⟩
/-- Block b holds just these cells. -/
def bx (b : Nat) (vs : Array Value) (T : Nat) : Ent := ⟨fun x => x = b, fun _ W => W.heap[b]? = some (.cells vs T (0, 0))⟩
def up (E : Nat → Ent) (k : Nat) (e : Ent) : Nat → Ent := fun j => bif Nat.beq j k then e else E j
def E0 : Nat → Ent := fun _ => emp
theorem up_same (E : Nat → Ent) (k : Nat) (e : Ent) : up E k e k = e := by simp [up]
theorem up_ne {E : Nat → Ent} {k j : Nat} {e : Ent} (h : j ≠ k) : up E k e j = E j := by
  have : Nat.beq j k = false := by rw [Bool.eq_false_iff]; intro hh; exact h (Nat.eq_of_beq_eq_true hh)
  simp [up, this]
theorem up_cases (E : Nat → Ent) (k : Nat) (e : Ent) (j : Nat) : (j = k ∧ up E k e j = e) ∨ (j ≠ k ∧ up E k e j = E j) := by
  by_cases h : j = k
  · subst h; exact .inl ⟨rfl, up_same _ _ _⟩
  · exact .inr ⟨h, up_ne h⟩
/-- All parts hold in W, apart from one another and from the base's blocks; these are as in the base. -/
structure HF (w : Bs) (W : World) (E : Nat → Ent) : Prop where
  os : W.os = w.W.os
  tape : W.tape = w.W.tape
  output : W.output = w.W.output
  size : w.W.heap.size ≤ W.heap.size
  drawn : w.W.drawn ≤ W.drawn
  keep : ∀ b, w.R b → W.heap[b]? = w.W.heap[b]?
  phi : ∀ k, (E k).φ w.O W
  loc : ∀ k, (E k).loc
  bd : ∀ k b, (E k).S b → ¬ w.R b ∧ b < W.heap.size
  disj : ∀ k k' b, k ≠ k' → (E k).S b → ¬ (E k').S b
theorem emp_loc : emp.loc := ⟨fun _ _ _ _ _ => trivial, fun _ _ _ _ _ => trivial⟩
theorem bx_loc (b : Nat) (vs : Array Value) (T : Nat) : (bx b vs T).loc := ⟨fun _ _ _ h hp => (h b (.inr rfl)).trans hp, fun _ _ _ _ h => h⟩
theorem HF.start (w : Bs) : HF w w.W E0 := ⟨rfl, rfl, rfl, Nat.le_refl _, Nat.le_refl _, fun _ _ => rfl, fun _ => trivial, fun _ => emp_loc, fun _ _ h => h.elim, fun _ _ _ _ h => h.elim⟩
section
variable {w : Bs} {W W' : World} {E : Nat → Ent}
theorem HF.rlt (h : HF w W E) {b : Nat} (hb : w.R b) : b < W.heap.size := Nat.lt_of_lt_of_le (w.lt b hb) h.size
theorem HF.nr (h : HF w W E) {b : Nat} (hb : W.heap.size ≤ b) : ¬ w.R b := fun hr => by have := h.rlt hr; omega
/-- A step that turns only what part k speaks of, and makes blocks. -/
theorem HF.mod (h : HF w W E) (k : Nat) (e : Ent) (hos : W'.os = W.os) (htp : W'.tape = W.tape) (hou : W'.output = W.output) (hsz : W.heap.size ≤ W'.heap.size)
    (hdr : W.drawn ≤ W'.drawn) (hbl : ∀ b, b < W.heap.size → ¬ (E k).S b → W'.heap[b]? = W.heap[b]?) (he : e.loc) (hp : e.φ w.O W')
    (hS : ∀ b, e.S b → ((E k).S b ∨ W.heap.size ≤ b) ∧ b < W'.heap.size) : HF w W' (up E k e) where
  os := hos.trans h.os
  tape := htp.trans h.tape
  output := hou.trans h.output
  size := Nat.le_trans h.size hsz
  drawn := Nat.le_trans h.drawn hdr
  keep b hb := (hbl b (h.rlt hb) (fun hs => (h.bd k b hs).1 hb)).trans (h.keep b hb)
  phi j := by
    rcases up_cases E k e j with ⟨_, h2⟩ | ⟨h1, h2⟩ <;> rw [h2]
    · exact hp
    · refine (h.loc j).at_ _ W W' (fun b hb => ?_) (h.phi j)
      rcases hb with hb | hb
      · exact hbl b (h.rlt (.inl hb)) (fun hs => (h.bd k b hs).1 (.inl hb))
      · exact hbl b (h.bd j b hb).2 (h.disj j k b h1 hb)
  loc j := by
    rcases up_cases E k e j with ⟨_, h2⟩ | ⟨_, h2⟩ <;> rw [h2]
    · exact he
    · exact h.loc j
  bd j b := by
    rcases up_cases E k e j with ⟨_, h2⟩ | ⟨_, h2⟩ <;> rw [h2]
    · intro hs
      refine ⟨?_, (hS b hs).2⟩
      rcases (hS b hs).1 with hh | hh
      · exact (h.bd k b hh).1
      · exact h.nr hh
    · intro hs; exact ⟨(h.bd j b hs).1, Nat.lt_of_lt_of_le (h.bd j b hs).2 hsz⟩
  disj i j b hij := by
    rcases up_cases E k e i with ⟨i1, i2⟩ | ⟨i1, i2⟩ <;> rcases up_cases E k e j with ⟨j1, j2⟩ | ⟨j1, j2⟩ <;> rw [i2, j2]
    · exact absurd (i1.trans j1.symm) hij
    · intro hs hs'
      rcases (hS b hs).1 with hh | hh
      · exact h.disj k j b (Ne.symm j1) hh hs'
      · have := (h.bd j b hs').2; omega
    · intro hs' hs
      rcases (hS b hs).1 with hh | hh
      · exact h.disj k i b (Ne.symm i1) hh hs'
      · have := (h.bd i b hs').2; omega
    · exact h.disj i j b hij
/-- Other names for the same parts, or fewer parts. -/
theorem HF.weaken {E' : Nat → Ent} (h : HF w W E) (he : ∀ k, E' k = E k ∨ E' k = emp) : HF w W E' where
  os := h.os
  tape := h.tape
  output := h.output
  size := h.size
  drawn := h.drawn
  keep := h.keep
  phi k := by rcases he k with e | e <;> rw [e]; exact h.phi k; trivial
  loc k := by rcases he k with e | e <;> rw [e]; exact h.loc k; exact emp_loc
  bd k b := by
    rcases he k with e | e <;> rw [e]
    · exact h.bd k b
    · exact fun hh => hh.elim
  disj i j b hij := by
    rcases he i with e | e <;> rcases he j with e' | e' <;> rw [e, e']
    · exact h.disj i j b hij
    · exact fun _ hh => hh.elim
    · exact fun hh => hh.elim
    · exact fun hh => hh.elim
theorem HF.later (h : HF w W E) (hb : Below W.heap.size W W') : HF w W' E where
  os := hb.os.trans h.os
  tape := hb.tape.trans h.tape
  output := hb.output.trans h.output
  size := Nat.le_trans h.size hb.size
  drawn := Nat.le_trans h.drawn hb.drawn
  keep b hr := (hb.block b (h.rlt hr)).trans (h.keep b hr)
  phi k := (h.loc k).at_ _ W W' (fun b hbb => hb.block b (by rcases hbb with hh | hh; exact h.rlt (.inl hh); exact (h.bd k b hh).2)) (h.phi k)
  loc := h.loc
  bd k b hk := ⟨(h.bd k b hk).1, Nat.lt_of_lt_of_le (h.bd k b hk).2 hb.size⟩
  disj := h.disj
theorem HF.drop (h : HF w W E) (k : Nat) : HF w W (up E k emp) :=
  h.mod k emp rfl rfl rfl (Nat.le_refl _) (Nat.le_refl _) (fun _ _ _ => rfl) emp_loc trivial (fun _ hh => hh.elim)
/-- A new part, of blocks that a callee made. -/
theorem HF.add (h : HF w W E) (k : Nat) (hb : Below W.heap.size W W') (e : Ent) (he : e.loc) (hp : e.φ w.O W') (hS : ∀ b, e.S b → W.heap.size ≤ b ∧ b < W'.heap.size) : HF w W' (up E k e) :=
  h.mod k e hb.os hb.tape hb.output hb.size hb.drawn (fun b hbb _ => hb.block b hbb) he hp (fun b hs => ⟨.inr (hS b hs).1, (hS b hs).2⟩)
theorem HF.alloc (h : HF w W E) (k : Nat) (vs : Array Value) (T : Nat) : HF w (W.alloc (.cells vs T)) (up E k (bx W.heap.size vs T)) :=
  h.add k ((Below.refl _ _).alloc (Nat.le_refl _) _) _ (bx_loc _ _ _) (heap_alloc_new W _) (fun b hb => by
    have hb : b = W.heap.size := hb
    subst hb; exact ⟨Nat.le_refl _, by simp⟩)
theorem HF.bx (h : HF w W E) {k b T : Nat} {vs : Array Value} (hk : E k = bx b vs T) : W.heap[b]? = some (.cells vs T (0, 0)) := by
  have := h.phi k
  rw [hk] at this; exact this
theorem HF.setRow (h : HF w W E) {k b T : Nat} {vs : Array Value} (hk : E k = Proofs.Ytfddmjoldoddlaa.bx b vs T) (vs' : Array Value) : HF w (W.setRow b vs') (up E k (Proofs.Ytfddmjoldoddlaa.bx b vs' T)) := by
  have hb := h.bx hk
  refine h.mod k _ rfl rfl rfl (by simp [World.setRow]) (Nat.le_refl _) (fun x hx hs => ?_) (bx_loc _ _ _) (setRow_heap W b vs vs' T _ hb) (fun x hx => ?_)
  · rw [hk] at hs
    have hne : ¬ b = x := fun e => hs e.symm
    simp only [World.setRow, Array.getElem?_modify]
    rw [if_neg hne]
  · have hx : x = b := hx
    subst hx
    rw [hk]
    exact ⟨.inl rfl, by simp [World.setRow]; exact (Array.getElem?_eq_some_iff.1 hb).1⟩
theorem HF.lt (h : HF w W E) {k b T : Nat} {vs : Array Value} (hk : E k = Proofs.Ytfddmjoldoddlaa.bx b vs T) : b < W.heap.size := (Array.getElem?_eq_some_iff.1 (h.bx hk)).1
/-- Part k is written no more. -/
def HF.raise (h : HF w W E) (k : Nat) : Bs := ⟨W, fun b => w.O b ∨ (E k).S b, w.K, fun b hb => by
  rcases hb with (hb | hb) | hb
  · exact h.rlt (.inl hb)
  · exact (h.bd k b hb).2
  · exact h.rlt (.inr hb)⟩
theorem HF.raise_le (h : HF w W E) (k : Nat) : w.Le (h.raise k) :=
  ⟨h.os, h.tape, h.output, h.size, h.drawn, fun _ hb => .inl hb, fun b hb => by
    rcases hb with hb | hb
    · exact .inl hb
    · exact .inr (fun hk => (h.bd k b hb).1 (.inr hk)), rfl, fun b hb => h.keep b hb⟩
theorem HF.raised (h : HF w W E) (k : Nat) : HF (h.raise k) W (up E k emp) where
  os := rfl
  tape := rfl
  output := rfl
  size := Nat.le_refl _
  drawn := Nat.le_refl _
  keep _ _ := rfl
  phi j := by
    rcases up_cases E k emp j with ⟨_, h2⟩ | ⟨_, h2⟩ <;> rw [h2]
    · trivial
    · exact (h.loc j).up _ _ _ (fun _ hb => .inl hb) (h.phi j)
  loc j := by
    rcases up_cases E k emp j with ⟨_, h2⟩ | ⟨_, h2⟩ <;> rw [h2]
    · exact emp_loc
    · exact h.loc j
  bd j b := by
    rcases up_cases E k emp j with ⟨_, h2⟩ | ⟨h1, h2⟩ <;> rw [h2]
    · exact fun hh => hh.elim
    · refine fun hs => ⟨fun hr => ?_, (h.bd j b hs).2⟩
      rcases hr with (hr | hr) | hr
      · exact (h.bd j b hs).1 (.inl hr)
      · exact h.disj j k b h1 hs hr
      · exact (h.bd j b hs).1 (.inr hr)
  disj i j b hij := by
    rcases up_cases E k emp i with ⟨_, i2⟩ | ⟨_, i2⟩ <;> rcases up_cases E k emp j with ⟨_, j2⟩ | ⟨_, j2⟩ <;> rw [i2, j2]
    · exact fun hh => hh.elim
    · exact fun hh => hh.elim
    · exact fun _ hh => hh.elim
    · exact h.disj i j b hij
/-- Nothing but the base is left. -/
theorem HF.low {w0 : Bs} (hle : w0.Le w) (h : HF w W E) : HF w0 W E0 :=
  ⟨h.os.trans hle.os, h.tape.trans hle.tape, h.output.trans hle.output, Nat.le_trans hle.size h.size, Nat.le_trans hle.drawn h.drawn,
   fun b hb => (h.keep b (hle.r b hb)).trans (hle.blk b hb), fun _ => trivial, fun _ => emp_loc, fun _ _ hh => hh.elim, fun _ _ _ _ hh => hh.elim⟩
end
/-- The named slots of a frame. -/
structure FR (n : Nat) (f : Nat → Option Value) (a : Act) : Prop where
  size : a.tmps.size = n
  dfr : a.defers = []
  get : ∀ t v, f t = some v → a.tmps[t]? = some v
def uf (f : Nat → Option Value) (t : Nat) (v : Value) : Nat → Option Value := fun j => bif Nat.beq j t then some v else f j
def f0 : Nat → Option Value := fun _ => none
section
variable {n : Nat} {f : Nat → Option Value} {a : Act}
theorem FR.put (h : FR n f a) {d : Nat} (hd : d < n) (v : Value) : FR n (uf f d v) (a.put (some d) v) := by
  refine ⟨by simp [Act.put, h.size], h.dfr, fun t u hu => ?_⟩
  have hsz := h.size
  unfold uf at hu
  by_cases e : t = d
  · subst e
    simp at hu
    subst hu
    simp [Act.put, hsz, hd]
  · have : Nat.beq t d = false := by rw [Bool.eq_false_iff]; intro hh; exact e (Nat.eq_of_beq_eq_true hh)
    rw [this] at hu
    have := h.get t u hu
    simp only [Act.put]
    rw [Array.getElem?_setIfInBounds_ne (by omega)]
    exact this
def ev (f : Nat → Option Value) : Operand → Option Value
  | .tmp t => f t
  | .const v => some v
  | .func g => some (.func (.func g) #[] #[])
  | .global g => some (.pointer (some ⟨g, 0, none⟩))
theorem FR.ev (h : FR n f a) {x : Operand} {v : Value} (hx : ev f x = some v) : a.eval x = v := by
  cases x with
  | tmp t => have := h.get t v hx; simp [Act.eval, this]
  | const u => simp [Proofs.Ytfddmjoldoddlaa.ev] at hx; simp [Act.eval, hx]
  | func g => simp [Proofs.Ytfddmjoldoddlaa.ev] at hx; simp [Act.eval, hx]
  | global g => simp [Proofs.Ytfddmjoldoddlaa.ev] at hx; simp [Act.eval, hx]
end
def LF : List (Nat × Value) → Nat → Option Value
  | [] => f0
  | (t, v) :: l => uf (LF l) t v
def SelF (f : Nat → Option Value) : List (Nat × Value) → Prop
  | [] => True
  | (t, v) :: l => f t = some v ∧ SelF f l
theorem FR.sel {n : Nat} {f : Nat → Option Value} {a : Act} (h : FR n f a) {l : List (Nat × Value)} (hl : SelF f l) : FR n (LF l) a := by
  refine ⟨h.size, h.dfr, ?_⟩
  induction l with
  | nil => intro t v hv; cases hv
  | cons p l ih =>
    obtain ⟨s, u⟩ := p
    intro t v hv
    unfold LF uf at hv
    by_cases e : t = s
    · subst e
      simp at hv
      subst hv
      exact h.get _ _ hl.1
    · have : Nat.beq t s = false := by rw [Bool.eq_false_iff]; intro hh; exact e (Nat.eq_of_beq_eq_true hh)
      rw [this] at hv
      exact ih hl.2 t v hv
def LE : List (Nat × Ent) → Nat → Ent
  | [] => E0
  | (k, e) :: l => up (LE l) k e
def SelE (E : Nat → Ent) : List (Nat × Ent) → Prop
  | [] => True
  | (k, e) :: l => E k = e ∧ SelE E l
theorem LE_cases {E : Nat → Ent} : ∀ {l : List (Nat × Ent)} (_ : SelE E l) (k : Nat), LE l k = E k ∨ LE l k = emp
  | [], _, _ => .inr rfl
  | (k', e) :: l, h, k => by
    unfold LE
    rcases up_cases (LE l) k' e k with ⟨h1, h2⟩ | ⟨_, h2⟩ <;> rw [h2]
    · subst h1; exact .inl h.1.symm
    · exact LE_cases h.2 k
theorem HF.sel {w : Bs} {W : World} {E : Nat → Ent} (h : HF w W E) {l : List (Nat × Ent)} (hl : SelE E l) : HF w W (LE l) := h.weaken (LE_cases hl)
/-- From every state of this shape X holds. -/
def Tr (w : Bs) (n : Nat) (f : Nat → Option Value) (E : Nat → Ent) (X : Act → World → Prop) : Prop := ∀ a W, FR n f a → HF w W E → X a W
section
variable {P : Program} {w : Bs} {n : Nat} {f : Nat → Option Value} {E : Nat → Ent} {X Y : Act → World → Prop} {Q : Exit → Act → World → Prop} {x y : Code} {ops : Array Oper} {rest : List Oper}
theorem Tr.sel {lf : List (Nat × Value)} {le : List (Nat × Ent)} (hf : SelF f lf) (he : SelE E le) (h : Tr w n (LF lf) (LE le) X) : Tr w n f E X := fun a W h1 h2 => h a W (h1.sel hf) (h2.sel he)
theorem Tr.seq (h : Tr w n f E (x.wp P (Exit.then (y.wp P Q) Q))) : Tr w n f E ((Code.seq x y).wp P Q) := fun a W h1 h2 => wp_seq (h a W h1 h2)
/-- A cut between two pieces. -/
theorem Tr.cut (J : Act → World → Prop) (h : Tr w n f E (x.wp P (Exit.then J Q))) (h2 : ∀ a W, J a W → y.wp P Q a W) : Tr w n f E ((Code.seq x y).wp P Q) :=
  fun a W h1 h3 => wp_seq (wp_mono (h a W h1 h3) (fun e a' w' hq => by cases e <;> first | exact h2 _ _ hq | exact hq))
theorem Tr.region {id : Nat} {l : List Oper} (h : Tr w n f E (wpList P l.toArray Q l)) : Tr w n f E ((Code.region id l.toArray false).wp P Q) := fun a W h1 h2 => wp_region_lit (h a W h1 h2)
theorem Tr.nil (h : Tr w n f E (Q .normal)) : Tr w n f E (wpList P ops Q []) := h
theorem Tr.nilThen (h : Tr w n f E X) : Tr w n f E (wpList P ops (Exit.then X Q) []) := h
theorem Tr.skip (h : Tr w n f E (Q .normal)) : Tr w n f E (Code.skip.wp P Q) := fun a W h1 h2 => wp_skip (h a W h1 h2)
theorem Tr.skipThen (h : Tr w n f E X) : Tr w n f E (Code.skip.wp P (Exit.then X Q)) := fun a W h1 h2 => wp_skip (h a W h1 h2)
theorem Tr.normThen (h : Tr w n f E X) : Tr w n f E (Exit.then X Q .normal) := h
theorem Tr.normBlock {id : Nat} (h : Tr w n f E (Q .normal)) : Tr w n f E (Exit.inBlock id Q .normal) := h
theorem Tr.exit {id : Nat} (h : Tr w n f E (Q (.exit id))) : Tr w n f E ((Code.exit id).wp P Q) := fun a W h1 h2 => wp_exit (h a W h1 h2)
theorem Tr.exitThen {id : Nat} (h : Tr w n f E (Q (.exit id))) : Tr w n f E (Exit.then X Q (.exit id)) := h
theorem Tr.exitBlock {id : Nat} (h : Tr w n f E (Q .normal)) : Tr w n f E (Exit.inBlock id Q (.exit id)) := by
  intro a W h1 h2
  show if id = id then Q .normal a W else Q (.exit id) a W
  rw [if_pos rfl]; exact h a W h1 h2
theorem Tr.exitOver {id id' : Nat} (hne : Nat.beq id' id = false) (h : Tr w n f E (Q (.exit id'))) : Tr w n f E (Exit.inBlock id Q (.exit id')) := by
  intro a W h1 h2
  show if id' = id then Q .normal a W else Q (.exit id') a W
  rw [if_neg (fun e => by rw [e] at hne; simp at hne)]; exact h a W h1 h2
theorem Tr.ret (h : Tr w n f E (Q .ret)) : Tr w n f E (Code.ret.wp P Q) := fun a W h1 h2 => wp_ret (h a W h1 h2)
theorem Tr.retThen (h : Tr w n f E (Q .ret)) : Tr w n f E (Exit.then X Q .ret) := h
theorem Tr.retBlock {id : Nat} (h : Tr w n f E (Q .ret)) : Tr w n f E (Exit.inBlock id Q .ret) := h
theorem Tr.block {id : Nat} (h : Tr w n f E (x.wp P (Exit.inBlock id Q))) : Tr w n f E ((Code.block id x).wp P Q) := fun a W h1 h2 => wp_block (h a W h1 h2)
theorem Tr.condT {c : Operand} {b : Bool} (hc : ev f c = some (.bool b)) (hb : b = true) (h : Tr w n f E (x.wp P Q)) : Tr w n f E ((Code.cond c x y).wp P Q) := fun a W h1 h2 => wp_cond_true (by rw [h1.ev hc, hb]) (h a W h1 h2)
theorem Tr.condF {c : Operand} {b : Bool} (hc : ev f c = some (.bool b)) (hb : b = false) (h : Tr w n f E (y.wp P Q)) : Tr w n f E ((Code.cond c x y).wp P Q) := fun a W h1 h2 => wp_cond_false (by rw [h1.ev hc, hb]) (h a W h1 h2)
theorem Tr.cond {ρ : Type} {A B : Option ρ} {r : ρ} {c : Operand} {b : Bool} (hc : ev f c = some (.bool b)) (H : (if b = true then A else B) = some r)
    (ht : A = some r → Tr w n f E (x.wp P Q)) (hf : B = some r → Tr w n f E (y.wp P Q)) : Tr w n f E ((Code.cond c x y).wp P Q) := by
  cases b with
  | true => exact Tr.condT hc rfl (ht H)
  | false => exact Tr.condF hc rfl (hf H)
/-- A loop: rounds counted down. -/
theorem wp_loop_down {c : Code} (I : Nat → Act → World → Prop) (hz : ∀ a W, ¬ I 0 a W) (round : ∀ m a W, I (m + 1) a W → c.wp P (Exit.then (I m) Q) a W) : ∀ (m : Nat) (a : Act) (W : World), I m a W → (Code.loop c).wp P Q a W := by
  intro m a W h b k cs
  have key : ∀ m a W, I m a W → ∃ e a' w', Q e a' w' ∧ Arrives P (lone (b.at a (.code c :: .inLoop c :: k)) cs W) b k cs e a' w' := by
    intro m
    induction m with
    | zero => intro a W h; exact absurd h (hz a W)
    | succ m ih =>
      intro a W hI
      obtain ⟨e, a₁, w₁, hq, harr⟩ := round m a W hI b (.inLoop c :: k) cs
      cases e with
      | normal =>
        obtain ⟨e₂, a₂, w₂, hq₂, harr₂⟩ := ih a₁ w₁ hq
        exact ⟨e₂, a₂, w₂, hq₂, .of_steps (Steps.trans harr (.one step_inLoop)) harr₂⟩
      | exit id => exact ⟨_, a₁, w₁, hq, .pass (x := .inLoop c) rfl (fun _ _ => .inl (by simp)) harr⟩
      | goto l => exact ⟨_, a₁, w₁, hq, .pass (x := .inLoop c) rfl (fun _ _ => .inl (by simp)) harr⟩
      | ret => exact ⟨_, a₁, w₁, hq, .pass (x := .inLoop c) rfl (fun _ _ => .inl (by simp)) harr⟩
      | panic ch => exact ⟨_, a₁, w₁, hq, .pass (x := .inLoop c) rfl (fun _ _ => .inl (by simp)) harr⟩
      | outgrown => exact ⟨_, a₁, w₁, hq, .pass (x := .inLoop c) rfl (fun _ _ => .inl (by simp)) harr⟩
  obtain ⟨e, a', w', hq, harr⟩ := key m a W h
  exact ⟨e, a', w', hq, .of_steps (.one step_loop) harr⟩
/-- The head of a loop: what holds of the named slots and of memory, from some later base; the rest of the computation being C. -/
def Inv {σ : Type} (w : Bs) (n : Nat) (C : Nat → Bs → σ → Prop) (fs : σ → List (Nat × Value)) (es : σ → List (Nat × Ent)) (m : Nat) : Act → World → Prop :=
  fun a W => ∃ w' s, w.Le w' ∧ C m w' s ∧ FR n (LF (fs s)) a ∧ HF w' W (LE (es s))
theorem Tr.loop {c : Code} {σ : Type} (C : Nat → Bs → σ → Prop) (fs : σ → List (Nat × Value)) (es : σ → List (Nat × Ent)) (m : Nat) (s : σ) (hC : C m w s) (hf : SelF f (fs s)) (he : SelE E (es s)) (hz : ∀ w s, ¬ C 0 w s)
    (round : ∀ w', w.Le w' → ∀ m s, C (m + 1) w' s → Tr w' n (LF (fs s)) (LE (es s)) (c.wp P (Exit.then (Inv w n C fs es m) Q))) : Tr w n f E ((Code.loop c).wp P Q) :=
  fun a W h1 h2 => wp_loop_down (Inv w n C fs es) (fun _ _ ⟨w', s, _, hs, _⟩ => hz w' s hs) (fun m a W ⟨w', s, hle, hs, k1, k2⟩ => round w' hle m s hs a W k1 k2) m a W ⟨w, s, .refl w, hC, h1.sel hf, h2.sel he⟩
/-- The end of a round (or a join). -/
theorem Tr.back {σ : Type} {w0 : Bs} {C : Nat → Bs → σ → Prop} {fs : σ → List (Nat × Value)} {es : σ → List (Nat × Ent)} {m : Nat} (hle : w0.Le w) (s : σ) (hC : C m w s) (hf : SelF f (fs s)) (he : SelE E (es s)) : Tr w n f E (Inv w0 n C fs es m) :=
  fun _ _ h1 h2 => ⟨w, s, hle, hC, h1.sel hf, h2.sel he⟩
theorem Tr.backThen {σ : Type} {w0 : Bs} {C : Nat → Bs → σ → Prop} {fs : σ → List (Nat × Value)} {es : σ → List (Nat × Ent)} {m : Nat} (hle : w0.Le w) (s : σ) (hC : C m w s) (hf : SelF f (fs s)) (he : SelE E (es s)) : Tr w n f E (Exit.then (Inv w0 n C fs es m) Q .normal) :=
  Tr.back hle s hC hf he
/-- Operations. -/
def Wn (ops : Array Oper) (f : Nat → Option Value) (o : Oper) : Prop := ∀ n a, FR n f a → Region.wanted o (yielded ops a.tmps) = true
theorem wn {o : Oper} (h : o.guard = none) : Wn ops f o := fun _ _ _ => by simp [Region.wanted, h]
theorem wg {o : Oper} {j t : Nat} {b : Bool} (h : o.guard = some (j, b)) (hj : (ops[j]?).bind (·.dst) = some t) (ht : f t = some (.bool b)) : Wn ops f o :=
  fun _ _ hf => by simp [Region.wanted, h, yielded, hj, hf.get t _ ht]
/-- An operation that its guard passes over. -/
theorem Tr.pass {o : Oper} {j t d : Nat} {b b' : Bool} (h : o.guard = some (j, b)) (hj : (ops[j]?).bind (·.dst) = some t) (ht : f t = some (.bool b')) (hne : (b' == b) = false) (hd : o.dst = some d) (hdn : d < n)
    (k : Tr w n (uf f d undef) E (wpList P ops Q rest)) : Tr w n f E (wpList P ops Q (o :: rest)) := by
  intro a W h1 h2
  unfold wpList
  have hw : Region.wanted o (yielded ops a.tmps) = false := by
    simp [Region.wanted, h, yielded, hj, h1.get t _ ht]; exact fun e => by subst e; simp at hne
  rw [if_neg (by rw [hw]; simp), hd]
  exact k _ _ (h1.put hdn undef) h2
theorem Tr.op {o : Oper} (hw : Wn ops f o) (h : ∀ a W, FR n f a → HF w W E → o.wp P a W (wpList P ops Q rest) Q) : Tr w n f E (wpList P ops Q (o :: rest)) := by
  intro a W h1 h2
  unfold wpList
  rw [if_pos (hw n a h1)]
  exact .inl (h a W h1 h2)
/-- The operation yields v and leaves the world alone. -/
theorem Tr.val {d ty : Nat} {op : Op} {pos : String} {af : Array Edge} {g : Option (Nat × Bool)} {v : Value} (hw : Wn ops f ⟨some d, op, ty, pos, af, g⟩) (hdn : Nat.blt d n = true)
    (hr : ∀ a W, FR n f a → HF w W E → (execOp a.eval ⟨some d, op, ty, pos, af, g⟩).run P W = .ok (.value v) W)
    (k : Tr w n (uf f d v) E (wpList P ops Q rest)) : Tr w n f E (wpList P ops Q (⟨some d, op, ty, pos, af, g⟩ :: rest)) :=
  Tr.op hw fun a W h1 h2 => by
    unfold Oper.wp
    rw [hr a W h1 h2]
    exact k _ _ (h1.put (Nat.le_of_ble_eq_true hdn) v) h2
/-- .. and turns the world. -/
theorem Tr.valW {d ty : Nat} {op : Op} {pos : String} {af : Array Edge} {g : Option (Nat × Bool)} {V : World → Value} {W1 : World → World} {E1 : World → Nat → Ent} (hw : Wn ops f ⟨some d, op, ty, pos, af, g⟩) (hdn : Nat.blt d n = true)
    (hr : ∀ a W, FR n f a → HF w W E → (execOp a.eval ⟨some d, op, ty, pos, af, g⟩).run P W = .ok (.value (V W)) (W1 W) ∧ HF w (W1 W) (E1 W))
    (k : ∀ W, HF w W E → Tr w n (uf f d (V W)) (E1 W) (wpList P ops Q rest)) : Tr w n f E (wpList P ops Q (⟨some d, op, ty, pos, af, g⟩ :: rest)) :=
  Tr.op hw fun a W h1 h2 => by
    unfold Oper.wp
    obtain ⟨e, h3⟩ := hr a W h1 h2
    rw [e]
    exact k W h2 _ _ (h1.put (Nat.le_of_ble_eq_true hdn) _) h3
/-- A store (no slot is written). -/
theorem Tr.eff {ty : Nat} {op : Op} {pos : String} {af : Array Edge} {g : Option (Nat × Bool)} {W1 : World → World} {E1 : Nat → Ent} (hw : Wn ops f ⟨none, op, ty, pos, af, g⟩)
    (hr : ∀ a W, FR n f a → HF w W E → (execOp a.eval ⟨none, op, ty, pos, af, g⟩).run P W = .ok .skip (W1 W) ∧ HF w (W1 W) E1)
    (k : Tr w n f E1 (wpList P ops Q rest)) : Tr w n f E (wpList P ops Q (⟨none, op, ty, pos, af, g⟩ :: rest)) :=
  Tr.op hw fun a W h1 h2 => by
    unfold Oper.wp
    obtain ⟨e, h3⟩ := hr a W h1 h2
    rw [e]
    exact k _ _ h1 h3
end
end Go.Proofs.Ytfddmjoldoddlaa
