/- Rules of the walks, or plain laws about the plain functions. Conditions: none beyond each theorem's own. -/
import Derived.WalkKit
import Derived.WalkSpells
import Derived.WalkLawsBesides
import Derived.Maps.AppendAt
import Derived.StillTailTactics
import Derived.Deep.QuietTactic
import Derived.BigQuiet
import Derived.Laws.StructEq
namespace Go.Proofs.YtcjeebkoafonpaaGreatDoor
theorem CJ {p : Program} {w w' : World} {b k : Addr} {u : TypeId} {v : Value} {at_ : Bool} {l : List Addr} (h : w.viewStore p b u k v at_ = .ok (w', l)) : w'.drawn = w.drawn := by
 unfold World.viewStore at h
 simp only [bind, Except.bind, pure, Except.pure] at h
 repeat' split at h
 all_goals first
  | (cases h; done)
  | (cases h; rfl)
  | (simp at h; obtain ⟨rfl, _⟩ := h; rfl)
  | skip
theorem EE {p : Program} {w w' : World} {a : Addr} {v : Value} {at_ : Bool} {l : List Addr} (h : w.farStore p a v at_ = .ok (w', l)) : w'.drawn = w.drawn := by
 unfold World.farStore at h
 split at h
 ·split at h
  ·rename_i r hr
   cases h
   exact CJ hr
  ·cases h
 ·cases h
theorem Cm {α : Type} : ∀ (q : Ask α) (w : World), w.drawn ≤ (w.ask q).2.drawn
 | .done a, w => by unfold World.ask; exact Nat.le_refl _
 | .ask what range k, w => by
  unfold World.ask
  simp only
  split
  ·exact Cm _ w
  ·exact Nat.le_of_succ_le (Cm (k ((Question.extern what range).cut (w.tape w.drawn (Question.extern what range)))) { w with drawn := w.drawn + 1 })
theorem MU (w : World) (c : Sys) : w.drawn ≤ (w.sys c).2.drawn := by
 unfold World.sys
 have := Cm (Kernel.perform c w.os) w
 split
 ·exact Nat.le_refl _
 ·rename_i h; rw [h] at this; exact this
theorem zw {α : Type} {p : Program} (m : Sem α) : ∀ (w w' : World) (a : α), m.run p w = .ok a w' → w.drawn ≤ w'.drawn := by
 induction m with
 | pure _ => intro w w' a h; simp [Sem.run] at h; rw [h.2]; exact Nat.le_refl _
 | load mo ad k ih =>
  intro w w' a h
  simp only [Sem.run] at h
  split at h
  ·exact ih _ _ _ _ h
  ·split at h
   ·exact ih _ _ _ _ h
   ·cases h
 | store mo ad v k ih =>
  intro w w' a h
  have key : ∀ (r : Except Halt (World × List Addr)), (match w.cell? ad with
    | some _ => if w.frozen? ad = true then (.halt (.unsupported (.unsafePointer "a write to bytes that a string shares")) w : Result α) else k.run p (w.setCell ad v)
    | none => match r with
     | .ok (w, _) => k.run p w
     | .error h => .halt h w) = .ok a w' → (∀ w2 l, r = .ok (w2, l) → w2.drawn = w.drawn) → w.drawn ≤ w'.drawn := fun r h hr => by
   split at h
   ·split at h
    ·cases h
    ·exact ih (w.setCell ad v) w' a h
   ·split at h
    ·have := ih _ w' a h
     rw [hr _ _ rfl] at this; exact this
    ·cases h
  have hf : ∀ w2 l, w.farStore p ad v (mo == Mode.atomic) = .ok (w2, l) → w2.drawn = w.drawn := fun w2 l => EE
  cases v <;> simp only [Sem.run] at h <;> first
   | (cases h; done)
   | exact key _ h hf
 | new o k ih => intro w w' a h; simp only [Sem.run] at h; have := ih _ _ _ _ h; exact this
 | shape r k ih => intro w w' a h; simp only [Sem.run] at h; exact ih _ _ _ _ h
 | freeze ad n k ih =>
  intro w w' a h
  simp only [Sem.run] at h
  have := ih _ _ _ h
  have e : (w.freeze ad n).drawn = w.drawn := by unfold World.freeze; split <;> rfl
  rw [e] at this; exact this
 | frozen ad k ih => intro w w' a h; simp only [Sem.run] at h; exact ih _ _ _ _ h
 | getObj r k ih =>
  intro w w' a h
  simp only [Sem.run] at h
  split at h
  ·cases h
  ·exact ih _ _ _ _ h
  ·cases h
 | setObj r o k ih =>
  intro w w' a h
  simp only [Sem.run] at h
  split at h
  ·cases h
  ·have := ih _ _ _ h
   exact this
  ·cases h
 | choose q k ih =>
  intro w w' a h
  simp only [Sem.run] at h
  split at h
  ·exact ih _ _ _ _ h
  ·exact Nat.le_of_succ_le (ih _ _ _ _ h)
 | sys c k ih =>
  intro w w' a h
  simp only [Sem.run] at h
  exact Nat.le_trans (MU w c) (ih _ _ _ _ h)
 | program k ih => intro w w' a h; simp only [Sem.run] at h; exact ih _ _ _ _ h
 | mark _ k ih => intro w w' a h; simp only [Sem.run] at h; exact ih _ _ _ h
 | halt _ => intro w w' a h; simp [Sem.run] at h
open Go.RowKit

structure Below (B : Nat) (w w' : World) : Prop where
 os : w'.os = w.os
 tape : w'.tape = w.tape
 output : w'.output = w.output
 size : w.heap.size ≤ w'.heap.size
 block : ∀ k, k < B → w'.heap[k]? = w.heap[k]?
 drawn : w.drawn ≤ w'.drawn
section
variable {B C : Nat} {a b c w : World}
theorem Below.refl (B : Nat) (w : World) : Below B w w := ⟨rfl, rfl, rfl, Nat.le_refl _, fun _ _ => rfl, Nat.le_refl _⟩
theorem Below.trans (h : Below B a b) (k : Below B b c) : Below B a c :=
 ⟨k.os.trans h.os, k.tape.trans h.tape, k.output.trans h.output, Nat.le_trans h.size k.size, fun i hi => (k.block i hi).trans (h.block i hi), Nat.le_trans h.drawn k.drawn⟩
theorem Below.mono (h : Below B a b) (hc : C ≤ B) : Below C a b := ⟨h.os, h.tape, h.output, h.size, fun k hk => h.block k (Nat.lt_of_lt_of_le hk hc), h.drawn⟩
theorem Below.kit (h : Below B a b) : Go.RowKit.Below B a b := ⟨h.os, h.tape, h.output, h.size, h.block⟩
theorem Below.SF (h : Go.RowKit.Below B a b) (hd : a.drawn ≤ b.drawn) : Below B a b := ⟨h.os, h.tape, h.output, h.size, h.block, hd⟩
theorem Below.alloc (h : Below B a b) (hB : B ≤ b.heap.size) (o : Obj) : Below B a (b.alloc o) := Below.SF (h.kit.alloc hB o) h.drawn
end
structure Bs where
 W : World
 O : Nat → Prop
 K : Nat → Prop
 lt : ∀ b, O b ∨ K b → b < W.heap.size
def Bs.R (B : Bs) : Nat → Prop := fun b => B.O b ∨ B.K b
structure Bs.Le (B B' : Bs) : Prop where
 os : B'.W.os = B.W.os
 tape : B'.W.tape = B.W.tape
 output : B'.W.output = B.W.output
 size : B.W.heap.size ≤ B'.W.heap.size
 drawn : B.W.drawn ≤ B'.W.drawn
 sub : ∀ b, B.O b → B'.O b
 new : ∀ b, B'.O b → B.O b ∨ ¬ B.K b
 lent : B'.K = B.K
 blk : ∀ b, B.O b ∨ B.K b → B'.W.heap[b]? = B.W.heap[b]?
theorem Bs.Le.refl (B : Bs) : B.Le B := ⟨rfl, rfl, rfl, Nat.le_refl _, Nat.le_refl _, fun _ h => h, fun _ h => .inl h, rfl, fun _ _ => rfl⟩
theorem Bs.Le.trans {A B C : Bs} (h : A.Le B) (k : B.Le C) : A.Le C :=
  ⟨k.os.trans h.os, k.tape.trans h.tape, k.output.trans h.output, Nat.le_trans h.size k.size, Nat.le_trans h.drawn k.drawn, fun b hb => k.sub b (h.sub b hb),
   fun b hb => by
     rcases k.new b hb with h1 | h1
     · exact h.new b h1
     · rw [h.lent] at h1; exact .inr h1, k.lent.trans h.lent, fun b hb => (k.blk b (hb.imp (h.sub b) (fun hk => by rw [h.lent]; exact hk))).trans (h.blk b hb)⟩
theorem Bs.Le.r {B B' : Bs} (h : B.Le B') : ∀ b, B.R b → B'.R b := fun b hb => hb.imp (h.sub b) (fun hk => by rw [h.lent]; exact hk)
structure jv where
 S : Nat → Prop
 φ : (Nat → Prop) → World → Prop
structure jv.loc (e : jv) : Prop where
 at_ : ∀ (O : Nat → Prop) (W W' : World), (∀ b, O b ∨ e.S b → W'.heap[b]? = W.heap[b]?) → e.φ O W → e.φ O W'
 up : ∀ (O O' : Nat → Prop) (W : World), (∀ b, O b → O' b) → e.φ O W → e.φ O' W
def emp : jv := ⟨fun _ => False, fun _ _ => True⟩
def bx (b : Nat) (vs : Array Value) (T : Nat) : jv := ⟨fun x => x = b, fun _ W => W.heap[b]? = some (.cells vs T (0, 0))⟩
def up (E : Nat → jv) (k : Nat) (e : jv) : Nat → jv := fun j => bif Nat.beq j k then e else E j
def E0 : Nat → jv := fun _ => emp
theorem xm (E : Nat → jv) (k : Nat) (e : jv) : up E k e k = e := by simp [up]
theorem Dx {E : Nat → jv} {k j : Nat} {e : jv} (h : j ≠ k) : up E k e j = E j := by
 have : Nat.beq j k = false := by rw [Bool.eq_false_iff]; intro hh; exact h (Nat.eq_of_beq_eq_true hh)
 simp [up, this]
theorem dW (E : Nat → jv) (k : Nat) (e : jv) (j : Nat) : (j = k ∧ up E k e j = e) ∨ (j ≠ k ∧ up E k e j = E j) := by
 by_cases h : j = k
 ·subst h; exact .inl ⟨rfl, xm _ _ _⟩
 ·exact .inr ⟨h, Dx h⟩
structure HF (w : Bs) (W : World) (E : Nat → jv) : Prop where
 os : W.os = w.W.os
 tape : W.tape = w.W.tape
 output : W.output = w.W.output
 size : w.W.heap.size ≤ W.heap.size
 drawn : w.W.drawn ≤ W.drawn
 keep : ∀ b, w.R b → W.heap[b]? = w.W.heap[b]?
 phi : ∀ k, (E k).φ w.O W
 loc : ∀ k, (E k).loc
 bd : ∀ k b, (E k).S b → ¬ w.R b ∧ b < W.heap.size
 disj : ∀ k k' b, k ≠ k' → (E k).S b → ¬ (E k').S b
theorem uE : emp.loc := ⟨fun _ _ _ _ _ => trivial, fun _ _ _ _ _ => trivial⟩
theorem Pq (b : Nat) (vs : Array Value) (T : Nat) : (bx b vs T).loc := ⟨fun _ _ _ h hp => (h b (.inr rfl)).trans hp, fun _ _ _ _ h => h⟩
theorem HF.start (w : Bs) : HF w w.W E0 := ⟨rfl, rfl, rfl, Nat.le_refl _, Nat.le_refl _, fun _ _ => rfl, fun _ => trivial, fun _ => uE, fun _ _ h => h.elim, fun _ _ _ _ h => h.elim⟩
section
variable {w : Bs} {W W' : World} {E : Nat → jv}
theorem HF.GR (h : HF w W E) {b : Nat} (hb : w.R b) : b < W.heap.size := Nat.lt_of_lt_of_le (w.lt b hb) h.size
theorem HF.nr (h : HF w W E) {b : Nat} (hb : W.heap.size ≤ b) : ¬ w.R b := fun hr => by have := h.GR hr; omega
theorem HF.mod (h : HF w W E) (k : Nat) (e : jv) (hos : W'.os = W.os) (htp : W'.tape = W.tape) (hou : W'.output = W.output) (hsz : W.heap.size ≤ W'.heap.size)
  (hdr : W.drawn ≤ W'.drawn) (hbl : ∀ b, b < W.heap.size → ¬ (E k).S b → W'.heap[b]? = W.heap[b]?) (he : e.loc) (hp : e.φ w.O W')
  (hS : ∀ b, e.S b → ((E k).S b ∨ W.heap.size ≤ b) ∧ b < W'.heap.size) : HF w W' (up E k e) where
 os := hos.trans h.os
 tape := htp.trans h.tape
 output := hou.trans h.output
 size := Nat.le_trans h.size hsz
 drawn := Nat.le_trans h.drawn hdr
 keep b hb := (hbl b (h.GR hb) (fun hs => (h.bd k b hs).1 hb)).trans (h.keep b hb)
 phi j := by
  rcases dW E k e j with ⟨_, h2⟩ | ⟨h1, h2⟩ <;> rw [h2]
  ·exact hp
  ·refine (h.loc j).at_ _ W W' (fun b hb => ?_) (h.phi j)
   rcases hb with hb | hb
   ·exact hbl b (h.GR (.inl hb)) (fun hs => (h.bd k b hs).1 (.inl hb))
   ·exact hbl b (h.bd j b hb).2 (h.disj j k b h1 hb)
 loc j := by
  rcases dW E k e j with ⟨_, h2⟩ | ⟨_, h2⟩ <;> rw [h2]
  ·exact he
  ·exact h.loc j
 bd j b := by
  rcases dW E k e j with ⟨_, h2⟩ | ⟨_, h2⟩ <;> rw [h2]
  ·intro hs
   refine ⟨?_, (hS b hs).2⟩
   rcases (hS b hs).1 with hh | hh
   ·exact (h.bd k b hh).1
   ·exact h.nr hh
  ·intro hs; exact ⟨(h.bd j b hs).1, Nat.lt_of_lt_of_le (h.bd j b hs).2 hsz⟩
 disj i j b hij := by
  rcases dW E k e i with ⟨i1, i2⟩ | ⟨i1, i2⟩ <;> rcases dW E k e j with ⟨j1, j2⟩ | ⟨j1, j2⟩ <;> rw [i2, j2]
  ·exact absurd (i1.trans j1.symm) hij
  ·intro hs hs'
   rcases (hS b hs).1 with hh | hh
   ·exact h.disj k j b (Ne.symm j1) hh hs'
   ·have := (h.bd j b hs').2; omega
  ·intro hs' hs
   rcases (hS b hs).1 with hh | hh
   ·exact h.disj k i b (Ne.symm i1) hh hs'
   ·have := (h.bd i b hs').2; omega
  ·exact h.disj i j b hij
theorem HF.weaken {E' : Nat → jv} (h : HF w W E) (he : ∀ k, E' k = E k ∨ E' k = emp) : HF w W E' where
 os := h.os
 tape := h.tape
 output := h.output
 size := h.size
 drawn := h.drawn
 keep := h.keep
 phi k := by rcases he k with e | e <;> rw [e]; exact h.phi k; trivial
 loc k := by rcases he k with e | e <;> rw [e]; exact h.loc k; exact uE
 bd k b := by
  rcases he k with e | e <;> rw [e]
  ·exact h.bd k b
  ·exact fun hh => hh.elim
 disj i j b hij := by
  rcases he i with e | e <;> rcases he j with e' | e' <;> rw [e, e']
  ·exact h.disj i j b hij
  ·exact fun _ hh => hh.elim
  ·exact fun hh => hh.elim
  ·exact fun hh => hh.elim
theorem HF.later (h : HF w W E) (hb : Below W.heap.size W W') : HF w W' E where
 os := hb.os.trans h.os
 tape := hb.tape.trans h.tape
 output := hb.output.trans h.output
 size := Nat.le_trans h.size hb.size
 drawn := Nat.le_trans h.drawn hb.drawn
 keep b hr := (hb.block b (h.GR hr)).trans (h.keep b hr)
 phi k := (h.loc k).at_ _ W W' (fun b hbb => hb.block b (by rcases hbb with hh | hh; exact h.GR (.inl hh); exact (h.bd k b hh).2)) (h.phi k)
 loc := h.loc
 bd k b hk := ⟨(h.bd k b hk).1, Nat.lt_of_lt_of_le (h.bd k b hk).2 hb.size⟩
 disj := h.disj
theorem HF.drop (h : HF w W E) (k : Nat) : HF w W (up E k emp) :=
 h.mod k emp rfl rfl rfl (Nat.le_refl _) (Nat.le_refl _) (fun _ _ _ => rfl) uE trivial (fun _ hh => hh.elim)
theorem HF.add (h : HF w W E) (k : Nat) (hb : Below W.heap.size W W') (e : jv) (he : e.loc) (hp : e.φ w.O W') (hS : ∀ b, e.S b → W.heap.size ≤ b ∧ b < W'.heap.size) : HF w W' (up E k e) :=
 h.mod k e hb.os hb.tape hb.output hb.size hb.drawn (fun b hbb _ => hb.block b hbb) he hp (fun b hs => ⟨.inr (hS b hs).1, (hS b hs).2⟩)
theorem HF.alloc (h : HF w W E) (k : Nat) (vs : Array Value) (T : Nat) : HF w (W.alloc (.cells vs T)) (up E k (bx W.heap.size vs T)) :=
 h.add k ((Below.refl _ _).alloc (Nat.le_refl _) _) _ (Pq _ _ _) (heap_alloc_new W _) (fun b hb => by
  have hb : b = W.heap.size := hb
  subst hb; exact ⟨Nat.le_refl _, by simp⟩)
theorem HF.bx (h : HF w W E) {k b T : Nat} {vs : Array Value} (hk : E k = bx b vs T) : W.heap[b]? = some (.cells vs T (0, 0)) := by
 have := h.phi k
 rw [hk] at this; exact this
theorem HF.setRow (h : HF w W E) {k b T : Nat} {vs : Array Value} (hk : E k = Proofs.YtcjeebkoafonpaaGreatDoor.bx b vs T) (vs' : Array Value) : HF w (W.setRow b vs') (up E k (Proofs.YtcjeebkoafonpaaGreatDoor.bx b vs' T)) := by
 have hb := h.bx hk
 refine h.mod k _ rfl rfl rfl (by simp [World.setRow]) (Nat.le_refl _) (fun x hx hs => ?_) (Pq _ _ _) (setRow_heap W b vs vs' T _ hb) (fun x hx => ?_)
 ·rw [hk] at hs
  have hne : ¬ b = x := fun e => hs e.symm
  simp only [World.setRow, Array.getElem?_modify]
  rw [if_neg hne]
 ·have hx : x = b := hx
  subst hx
  rw [hk]
  exact ⟨.inl rfl, by simp [World.setRow]; exact (Array.getElem?_eq_some_iff.1 hb).1⟩
theorem HF.lt (h : HF w W E) {k b T : Nat} {vs : Array Value} (hk : E k = Proofs.YtcjeebkoafonpaaGreatDoor.bx b vs T) : b < W.heap.size := (Array.getElem?_eq_some_iff.1 (h.bx hk)).1
def HF.raise (h : HF w W E) (k : Nat) : Bs := ⟨W, fun b => w.O b ∨ (E k).S b, w.K, fun b hb => by
 rcases hb with (hb | hb) | hb
 ·exact h.GR (.inl hb)
 ·exact (h.bd k b hb).2
 ·exact h.GR (.inr hb)⟩
theorem HF.IV (h : HF w W E) (k : Nat) : w.Le (h.raise k) :=
 ⟨h.os, h.tape, h.output, h.size, h.drawn, fun _ hb => .inl hb, fun b hb => by
  rcases hb with hb | hb
  ·exact .inl hb
  ·exact .inr (fun hk => (h.bd k b hb).1 (.inr hk)), rfl, fun b hb => h.keep b hb⟩
theorem HF.raised (h : HF w W E) (k : Nat) : HF (h.raise k) W (up E k emp) where
 os := rfl
 tape := rfl
 output := rfl
 size := Nat.le_refl _
 drawn := Nat.le_refl _
 keep _ _ := rfl
 phi j := by
  rcases dW E k emp j with ⟨_, h2⟩ | ⟨_, h2⟩ <;> rw [h2]
  ·trivial
  ·exact (h.loc j).up _ _ _ (fun _ hb => .inl hb) (h.phi j)
 loc j := by
  rcases dW E k emp j with ⟨_, h2⟩ | ⟨_, h2⟩ <;> rw [h2]
  ·exact uE
  ·exact h.loc j
 bd j b := by
  rcases dW E k emp j with ⟨_, h2⟩ | ⟨h1, h2⟩ <;> rw [h2]
  ·exact fun hh => hh.elim
  ·refine fun hs => ⟨fun hr => ?_, (h.bd j b hs).2⟩
   rcases hr with (hr | hr) | hr
   ·exact (h.bd j b hs).1 (.inl hr)
   ·exact h.disj j k b h1 hs hr
   ·exact (h.bd j b hs).1 (.inr hr)
 disj i j b hij := by
  rcases dW E k emp i with ⟨_, i2⟩ | ⟨_, i2⟩ <;> rcases dW E k emp j with ⟨_, j2⟩ | ⟨_, j2⟩ <;> rw [i2, j2]
  ·exact fun hh => hh.elim
  ·exact fun hh => hh.elim
  ·exact fun _ hh => hh.elim
  ·exact h.disj i j b hij
theorem HF.low {w0 : Bs} (hle : w0.Le w) (h : HF w W E) : HF w0 W E0 :=
  ⟨h.os.trans hle.os, h.tape.trans hle.tape, h.output.trans hle.output, Nat.le_trans hle.size h.size, Nat.le_trans hle.drawn h.drawn,
   fun b hb => (h.keep b (hle.r b hb)).trans (hle.blk b hb), fun _ => trivial, fun _ => uE, fun _ _ hh => hh.elim, fun _ _ _ _ hh => hh.elim⟩
end
structure FR (n : Nat) (f : Nat → Option Value) (a : Act) : Prop where
 size : a.tmps.size = n
 dfr : a.defers = []
 get : ∀ t v, f t = some v → a.tmps[t]? = some v
def uf (f : Nat → Option Value) (t : Nat) (v : Value) : Nat → Option Value := fun j => bif Nat.beq j t then some v else f j
def f0 : Nat → Option Value := fun _ => none
section
variable {n : Nat} {f : Nat → Option Value} {a : Act}
theorem FR.put (h : FR n f a) {d : Nat} (hd : d < n) (v : Value) : FR n (uf f d v) (a.put (some d) v) := by
 refine ⟨by simp [Act.put, h.size], h.dfr, fun t u hu => ?_⟩
 have hsz := h.size
 unfold uf at hu
 by_cases e : t = d
 ·subst e
  simp at hu
  subst hu
  simp [Act.put, hsz, hd]
 ·have : Nat.beq t d = false := by rw [Bool.eq_false_iff]; intro hh; exact e (Nat.eq_of_beq_eq_true hh)
  rw [this] at hu
  have := h.get t u hu
  simp only [Act.put]
  rw [Array.getElem?_setIfInBounds_ne (by omega)]
  exact this
def ev (f : Nat → Option Value) : Operand → Option Value
 | .tmp t => f t
 | .const v => some v
 | .func g => some (.func (.func g) #[] #[])
 | .global g => some (.pointer (some ⟨g, 0, none⟩))
theorem FR.ev (h : FR n f a) {x : Operand} {v : Value} (hx : ev f x = some v) : a.eval x = v := by
 cases x with
 | tmp t => have := h.get t v hx; simp [Act.eval, this]
 | const u => simp [Proofs.YtcjeebkoafonpaaGreatDoor.ev] at hx; simp [Act.eval, hx]
 | func g => simp [Proofs.YtcjeebkoafonpaaGreatDoor.ev] at hx; simp [Act.eval, hx]
 | global g => simp [Proofs.YtcjeebkoafonpaaGreatDoor.ev] at hx; simp [Act.eval, hx]
end
def LF : List (Nat × Value) → Nat → Option Value
 | [] => f0
 | (t, v) :: l => uf (LF l) t v
def y5 (f : Nat → Option Value) : List (Nat × Value) → Prop
 | [] => True
 | (t, v) :: l => f t = some v ∧ y5 f l
theorem FR.vJ {n : Nat} {f : Nat → Option Value} {a : Act} (h : FR n f a) {l : List (Nat × Value)} (hl : y5 f l) : FR n (LF l) a := by
 refine ⟨h.size, h.dfr, ?_⟩
 induction l with
 | nil => intro t v hv; cases hv
 | cons p l ih =>
  obtain ⟨s, u⟩ := p
  intro t v hv
  unfold LF uf at hv
  by_cases e : t = s
  ·subst e
   simp at hv
   subst hv
   exact h.get _ _ hl.1
  ·have : Nat.beq t s = false := by rw [Bool.eq_false_iff]; intro hh; exact e (Nat.eq_of_beq_eq_true hh)
   rw [this] at hv
   exact ih hl.2 t v hv
def LE : List (Nat × jv) → Nat → jv
 | [] => E0
 | (k, e) :: l => up (LE l) k e
def yj (E : Nat → jv) : List (Nat × jv) → Prop
 | [] => True
 | (k, e) :: l => E k = e ∧ yj E l
theorem JQ {E : Nat → jv} : ∀ {l : List (Nat × jv)} (_ : yj E l) (k : Nat), LE l k = E k ∨ LE l k = emp
 | [], _, _ => .inr rfl
 | (k', e) :: l, h, k => by
  unfold LE
  rcases dW (LE l) k' e k with ⟨h1, h2⟩ | ⟨_, h2⟩ <;> rw [h2]
  ·subst h1; exact .inl h.1.symm
  ·exact JQ h.2 k
theorem HF.vJ {w : Bs} {W : World} {E : Nat → jv} (h : HF w W E) {l : List (Nat × jv)} (hl : yj E l) : HF w W (LE l) := h.weaken (JQ hl)
def Tr (w : Bs) (n : Nat) (f : Nat → Option Value) (E : Nat → jv) (X : Act → World → Prop) : Prop := ∀ a W, FR n f a → HF w W E → X a W
section
variable {P : Program} {w : Bs} {n : Nat} {f : Nat → Option Value} {E : Nat → jv} {X Y : Act → World → Prop} {Q : Exit → Act → World → Prop} {x y : Code} {ops : Array Oper} {rest : List Oper}
theorem Tr.vJ {lf : List (Nat × Value)} {le : List (Nat × jv)} (hf : y5 f lf) (he : yj E le) (h : Tr w n (LF lf) (LE le) X) : Tr w n f E X := fun a W h1 h2 => h a W (h1.vJ hf) (h2.vJ he)
theorem az (h : Tr w n f E (x.wp P (Exit.then (y.wp P Q) Q))) : Tr w n f E ((Code.seq x y).wp P Q) := fun a W h1 h2 => wp_seq (h a W h1 h2)
theorem Tr.cut (J : Act → World → Prop) (h : Tr w n f E (x.wp P (Exit.then J Q))) (h2 : ∀ a W, J a W → y.wp P Q a W) : Tr w n f E ((Code.seq x y).wp P Q) :=
 fun a W h1 h3 => wp_seq (wp_mono (h a W h1 h3) (fun e a' w' hq => by cases e <;> first | exact h2 _ _ hq | exact hq))
theorem aI {id : Nat} {l : List Oper} (h : Tr w n f E (wpList P l.toArray Q l)) : Tr w n f E ((Code.region id l.toArray false).wp P Q) := fun a W h1 h2 => wp_region_lit (h a W h1 h2)
theorem ae (h : Tr w n f E (Q .normal)) : Tr w n f E (wpList P ops Q []) := h
theorem aN (h : Tr w n f E (Q .normal)) : Tr w n f E (Code.skip.wp P Q) := fun a W h1 h2 => wp_skip (h a W h1 h2)
theorem aa (h : Tr w n f E X) : Tr w n f E (Exit.then X Q .normal) := h
theorem aJ {id : Nat} (h : Tr w n f E (Q .normal)) : Tr w n f E (Exit.inBlock id Q .normal) := h
theorem bW {id : Nat} (h : Tr w n f E (Q (.exit id))) : Tr w n f E ((Code.exit id).wp P Q) := fun a W h1 h2 => wp_exit (h a W h1 h2)
theorem aB {id : Nat} (h : Tr w n f E (Q (.exit id))) : Tr w n f E (Exit.then X Q (.exit id)) := h
theorem aR {id : Nat} (h : Tr w n f E (Q .normal)) : Tr w n f E (Exit.inBlock id Q (.exit id)) := by
 intro a W h1 h2
 show if id = id then Q .normal a W else Q (.exit id) a W
 rw [if_pos rfl]; exact h a W h1 h2
theorem JI {id id' : Nat} (hne : Nat.beq id' id = false) (h : Tr w n f E (Q (.exit id'))) : Tr w n f E (Exit.inBlock id Q (.exit id')) := by
 intro a W h1 h2
 show if id' = id then Q .normal a W else Q (.exit id') a W
 rw [if_neg (fun e => by rw [e] at hne; simp at hne)]; exact h a W h1 h2
theorem aW (h : Tr w n f E (Q .ret)) : Tr w n f E (Code.ret.wp P Q) := fun a W h1 h2 => wp_ret (h a W h1 h2)
theorem aK (h : Tr w n f E (Q .ret)) : Tr w n f E (Exit.then X Q .ret) := h
theorem bL {id : Nat} (h : Tr w n f E (Q .ret)) : Tr w n f E (Exit.inBlock id Q .ret) := h
theorem Tr.block {id : Nat} (h : Tr w n f E (x.wp P (Exit.inBlock id Q))) : Tr w n f E ((Code.block id x).wp P Q) := fun a W h1 h2 => wp_block (h a W h1 h2)
theorem eP {c : Operand} {b : Bool} (hc : ev f c = some (.bool b)) (hb : b = true) (h : Tr w n f E (x.wp P Q)) : Tr w n f E ((Code.cond c x y).wp P Q) := fun a W h1 h2 => wp_cond_true (by rw [h1.ev hc, hb]) (h a W h1 h2)
theorem eQ {c : Operand} {b : Bool} (hc : ev f c = some (.bool b)) (hb : b = false) (h : Tr w n f E (y.wp P Q)) : Tr w n f E ((Code.cond c x y).wp P Q) := fun a W h1 h2 => wp_cond_false (by rw [h1.ev hc, hb]) (h a W h1 h2)
theorem aP {ρ : Type} {A B : Option ρ} {r : ρ} {c : Operand} {b : Bool} (hc : ev f c = some (.bool b)) (H : (if b = true then A else B) = some r)
  (ht : A = some r → Tr w n f E (x.wp P Q)) (hf : B = some r → Tr w n f E (y.wp P Q)) : Tr w n f E ((Code.cond c x y).wp P Q) := by
 cases b with
 | true => exact eP hc rfl (ht H)
 | false => exact eQ hc rfl (hf H)
theorem Gu {c : Code} (I : Nat → Act → World → Prop) (hz : ∀ a W, ¬ I 0 a W) (round : ∀ m a W, I (m + 1) a W → c.wp P (Exit.then (I m) Q) a W) : ∀ (m : Nat) (a : Act) (W : World), I m a W → (Code.loop c).wp P Q a W := by
 intro m a W h b k cs
 have key : ∀ m a W, I m a W → ∃ e a' w', Q e a' w' ∧ Arrives P (lone (b.at a (.code c :: .inLoop c :: k)) cs W) b k cs e a' w' := by
  intro m
  induction m with
  | zero => intro a W h; exact absurd h (hz a W)
  | succ m ih =>
   intro a W hI
   obtain ⟨e, a₁, w₁, hq, harr⟩ := round m a W hI b (.inLoop c :: k) cs
   cases e with
   | normal =>
    obtain ⟨e₂, a₂, w₂, hq₂, harr₂⟩ := ih a₁ w₁ hq
    exact ⟨e₂, a₂, w₂, hq₂, .of_steps (Steps.trans harr (.one step_inLoop)) harr₂⟩
   | exit id => exact ⟨_, a₁, w₁, hq, .pass (x := .inLoop c) rfl (fun _ _ => .inl (by simp)) harr⟩
   | goto l => exact ⟨_, a₁, w₁, hq, .pass (x := .inLoop c) rfl (fun _ _ => .inl (by simp)) harr⟩
   | ret => exact ⟨_, a₁, w₁, hq, .pass (x := .inLoop c) rfl (fun _ _ => .inl (by simp)) harr⟩
   | panic ch => exact ⟨_, a₁, w₁, hq, .pass (x := .inLoop c) rfl (fun _ _ => .inl (by simp)) harr⟩
   | outgrown => exact ⟨_, a₁, w₁, hq, .pass (x := .inLoop c) rfl (fun _ _ => .inl (by simp)) harr⟩
 obtain ⟨e, a', w', hq, harr⟩ := key m a W h
 exact ⟨e, a', w', hq, .of_steps (.one step_loop) harr⟩
def Inv {σ : Type} (w : Bs) (n : Nat) (C : Nat → Bs → σ → Prop) (fs : σ → List (Nat × Value)) (es : σ → List (Nat × jv)) (m : Nat) : Act → World → Prop :=
 fun a W => ∃ w' s, w.Le w' ∧ C m w' s ∧ FR n (LF (fs s)) a ∧ HF w' W (LE (es s))
theorem df {c : Code} {σ : Type} (C : Nat → Bs → σ → Prop) (fs : σ → List (Nat × Value)) (es : σ → List (Nat × jv)) (m : Nat) (s : σ) (hC : C m w s) (hf : y5 f (fs s)) (he : yj E (es s)) (hz : ∀ w s, ¬ C 0 w s)
  (round : ∀ w', w.Le w' → ∀ m s, C (m + 1) w' s → Tr w' n (LF (fs s)) (LE (es s)) (c.wp P (Exit.then (Inv w n C fs es m) Q))) : Tr w n f E ((Code.loop c).wp P Q) :=
 fun a W h1 h2 => Gu (Inv w n C fs es) (fun _ _ ⟨w', s, _, hs, _⟩ => hz w' s hs) (fun m a W ⟨w', s, hle, hs, k1, k2⟩ => round w' hle m s hs a W k1 k2) m a W ⟨w, s, .refl w, hC, h1.vJ hf, h2.vJ he⟩
theorem Tr.back {σ : Type} {w0 : Bs} {C : Nat → Bs → σ → Prop} {fs : σ → List (Nat × Value)} {es : σ → List (Nat × jv)} {m : Nat} (hle : w0.Le w) (s : σ) (hC : C m w s) (hf : y5 f (fs s)) (he : yj E (es s)) : Tr w n f E (Inv w0 n C fs es m) :=
 fun _ _ h1 h2 => ⟨w, s, hle, hC, h1.vJ hf, h2.vJ he⟩
theorem aD {σ : Type} {w0 : Bs} {C : Nat → Bs → σ → Prop} {fs : σ → List (Nat × Value)} {es : σ → List (Nat × jv)} {m : Nat} (hle : w0.Le w) (s : σ) (hC : C m w s) (hf : y5 f (fs s)) (he : yj E (es s)) : Tr w n f E (Exit.then (Inv w0 n C fs es m) Q .normal) :=
 Tr.back hle s hC hf he
def Wn (ops : Array Oper) (f : Nat → Option Value) (o : Oper) : Prop := ∀ n a, FR n f a → Region.wanted o (yielded ops a.tmps) = true
theorem wn {o : Oper} (h : o.guard = none) : Wn ops f o := fun _ _ _ => by simp [Region.wanted, h]
theorem wg {o : Oper} {j t : Nat} {b : Bool} (h : o.guard = some (j, b)) (hj : (ops[j]?).bind (·.dst) = some t) (ht : f t = some (.bool b)) : Wn ops f o :=
 fun _ _ hf => by simp [Region.wanted, h, yielded, hj, hf.get t _ ht]
theorem Rj {o : Oper} {j t d : Nat} {b b' : Bool} (h : o.guard = some (j, b)) (hj : (ops[j]?).bind (·.dst) = some t) (ht : f t = some (.bool b')) (hne : (b' == b) = false) (hd : o.dst = some d) (hdn : d < n)
  (k : Tr w n (uf f d undef) E (wpList P ops Q rest)) : Tr w n f E (wpList P ops Q (o :: rest)) := by
 intro a W h1 h2
 unfold wpList
 have hw : Region.wanted o (yielded ops a.tmps) = false := by
  simp [Region.wanted, h, yielded, hj, h1.get t _ ht]; exact fun e => by subst e; simp at hne
 rw [if_neg (by rw [hw]; simp), hd]
 exact k _ _ (h1.put hdn undef) h2
theorem Tr.op {o : Oper} (hw : Wn ops f o) (h : ∀ a W, FR n f a → HF w W E → o.wp P a W (wpList P ops Q rest) Q) : Tr w n f E (wpList P ops Q (o :: rest)) := by
 intro a W h1 h2
 unfold wpList
 rw [if_pos (hw n a h1)]
 exact .inl (h a W h1 h2)
theorem Tr.val {d ty : Nat} {op : Op} {pos : String} {af : Array Edge} {g : Option (Nat × Bool)} {v : Value} (hw : Wn ops f ⟨some d, op, ty, pos, af, g⟩) (hdn : Nat.blt d n = true)
  (hr : ∀ a W, FR n f a → HF w W E → (execOp a.eval ⟨some d, op, ty, pos, af, g⟩).run P W = .ok (.value v) W)
  (k : Tr w n (uf f d v) E (wpList P ops Q rest)) : Tr w n f E (wpList P ops Q (⟨some d, op, ty, pos, af, g⟩ :: rest)) :=
 Tr.op hw fun a W h1 h2 => by
  unfold Oper.wp
  rw [hr a W h1 h2]
  exact k _ _ (h1.put (Nat.le_of_ble_eq_true hdn) v) h2
theorem zH {d ty : Nat} {op : Op} {pos : String} {af : Array Edge} {g : Option (Nat × Bool)} {V : World → Value} {W1 : World → World} {E1 : World → Nat → jv} (hw : Wn ops f ⟨some d, op, ty, pos, af, g⟩) (hdn : Nat.blt d n = true)
  (hr : ∀ a W, FR n f a → HF w W E → (execOp a.eval ⟨some d, op, ty, pos, af, g⟩).run P W = .ok (.value (V W)) (W1 W) ∧ HF w (W1 W) (E1 W))
  (k : ∀ W, HF w W E → Tr w n (uf f d (V W)) (E1 W) (wpList P ops Q rest)) : Tr w n f E (wpList P ops Q (⟨some d, op, ty, pos, af, g⟩ :: rest)) :=
 Tr.op hw fun a W h1 h2 => by
  unfold Oper.wp
  obtain ⟨e, h3⟩ := hr a W h1 h2
  rw [e]
  exact k W h2 _ _ (h1.put (Nat.le_of_ble_eq_true hdn) _) h3
theorem Tx {ty : Nat} {op : Op} {pos : String} {af : Array Edge} {g : Option (Nat × Bool)} {W1 : World → World} {E1 : Nat → jv} (hw : Wn ops f ⟨none, op, ty, pos, af, g⟩)
  (hr : ∀ a W, FR n f a → HF w W E → (execOp a.eval ⟨none, op, ty, pos, af, g⟩).run P W = .ok .skip (W1 W) ∧ HF w (W1 W) E1)
  (k : Tr w n f E1 (wpList P ops Q rest)) : Tr w n f E (wpList P ops Q (⟨none, op, ty, pos, af, g⟩ :: rest)) :=
 Tr.op hw fun a W h1 h2 => by
  unfold Oper.wp
  obtain ⟨e, h3⟩ := hr a W h1 h2
  rw [e]
  exact k _ _ h1 h3
end
open Go.RowKit
def bG (x : Int) : Int := IntKind.i64.wrap x
theorem Gv {x : Int} (h : -9223372036854775808 ≤ x) (h' : x ≤ 9223372036854775807) : bG x = x := IntWalk.i64_in _ ⟨h, h'⟩
section
variable {P : Program} {ρ : Operand → Value} {W : World} {d : Option Tmp} {ty T T' : TypeId} {pos : String} {af : Array Edge} {g : Option (Nat × Bool)} {p q : Operand} {u v : Value} {i j : Int} {k : IntKind} {b c : Bool} {s t : ByteArray}
theorem run_move (hp : ρ p = v) : (execOp ρ ⟨d, .move p, ty, pos, af, g⟩).run P W = .ok (.value v) W := by simp [execOp, go_sem, hp]
theorem run_assign (hp : ρ p = v) : (execOp ρ ⟨d, .assign p, ty, pos, af, g⟩).run P W = .ok (.value v) W := by simp [execOp, go_sem, hp]
theorem bD {x : Operand} (hc : ρ x = .bool true) (hp : ρ p = v) : (execOp ρ ⟨d, .pick x p q, ty, pos, af, g⟩).run P W = .ok (.value v) W := by simp [execOp, go_sem, hc, hp]
theorem bE {x : Operand} (hc : ρ x = .bool false) (hp : ρ q = v) : (execOp ρ ⟨d, .pick x p q, ty, pos, af, g⟩).run P W = .ok (.value v) W := by simp [execOp, go_sem, hc, hp]
theorem bv (hp : ρ p = .int .i64 i) (hq : ρ q = .int .i64 j) : (execOp ρ ⟨d, .binOp .add T p q T', ty, pos, af, g⟩).run P W = .ok (.value (.int .i64 (bG (i + j)))) W := by simp [execOp, go_sem, hp, hq, bG]
theorem gH (hp : ρ p = .int .i64 i) (hq : ρ q = .int .i64 j) : (execOp ρ ⟨d, .binOp .sub T p q T', ty, pos, af, g⟩).run P W = .ok (.value (.int .i64 (bG (i - j)))) W := by simp [execOp, go_sem, hp, hq, bG]
theorem xy (hp : ρ p = .int .i64 i) (hq : ρ q = .int .i64 j) : (execOp ρ ⟨d, .binOp .mul T p q T', ty, pos, af, g⟩).run P W = .ok (.value (.int .i64 (bG (i * j)))) W := by simp [execOp, go_sem, hp, hq, bG]
theorem Li (hp : ρ p = .int .i64 i) (hq : ρ q = .int .i64 j) (h : j ≠ 0) : (execOp ρ ⟨d, .binOp .quo T p q T', ty, pos, af, g⟩).run P W = .ok (.value (.int .i64 (bG (i.tdiv j)))) W := by simp [execOp, go_sem, hp, hq, bG, h]
theorem Qu (hp : ρ p = .int .i64 i) (hq : ρ q = .int .i64 j) (h : j ≠ 0) : (execOp ρ ⟨d, .binOp .rem T p q T', ty, pos, af, g⟩).run P W = .ok (.value (.int .i64 (i.tmod j))) W := by simp [execOp, go_sem, hp, hq, h]
theorem bg (hp : ρ p = .int k i) (hq : ρ q = .int k j) : (execOp ρ ⟨d, .binOp .lss T p q T', ty, pos, af, g⟩).run P W = .ok (.value (.bool (decide (i < j)))) W := by simp [execOp, go_sem, hp, hq]
theorem oH (hp : ρ p = .int k i) (hq : ρ q = .int k j) : (execOp ρ ⟨d, .binOp .leq T p q T', ty, pos, af, g⟩).run P W = .ok (.value (.bool (decide (i ≤ j)))) W := by simp [execOp, go_sem, hp, hq]
theorem jq (hp : ρ p = .int k i) (hq : ρ q = .int k j) : (execOp ρ ⟨d, .binOp .gtr T p q T', ty, pos, af, g⟩).run P W = .ok (.value (.bool (decide (j < i)))) W := by simp [execOp, go_sem, hp, hq]
theorem xA (hp : ρ p = .int k i) (hq : ρ q = .int k j) : (execOp ρ ⟨d, .binOp .geq T p q T', ty, pos, af, g⟩).run P W = .ok (.value (.bool (decide (j ≤ i)))) W := by simp [execOp, go_sem, hp, hq]
theorem dL (hp : ρ p = .int k i) (hq : ρ q = .int k j) : (execOp ρ ⟨d, .binOp .eql T p q T', ty, pos, af, g⟩).run P W = .ok (.value (.bool (i == j))) W := by simp [execOp, go_sem, hp, hq]
theorem jD (hp : ρ p = .int k i) (hq : ρ q = .int k j) : (execOp ρ ⟨d, .binOp .neq T p q T', ty, pos, af, g⟩).run P W = .ok (.value (.bool (i != j))) W := by simp [execOp, go_sem, hp, hq]
def AC (s t : ByteArray) : Bool := s.toList == t.toList
theorem Ob (hp : ρ p = .string s) (hq : ρ q = .string t) : (execOp ρ ⟨d, .binOp .eql T p q T', ty, pos, af, g⟩).run P W = .ok (.value (.bool (AC s t))) W := by simp [execOp, go_sem, hp, hq, binOp, Op.stringOp, AC]
theorem IG (hp : ρ p = .string s) (hq : ρ q = .string t) : (execOp ρ ⟨d, .binOp .neq T p q T', ty, pos, af, g⟩).run P W = .ok (.value (.bool (!AC s t))) W := by simp [execOp, go_sem, hp, hq, binOp, Op.stringOp, AC]
theorem Og (hp : ρ p = .string s) (hq : ρ q = .string t) (h : s.size + t.size ≤ 9223372036854775807) : (execOp ρ ⟨d, .binOp .add T p q T', ty, pos, af, g⟩).run P W = .ok (.value (.string (s ++ t))) W := by
 have h' : ¬ ((s.size + t.size : Nat) : Int) > 9223372036854775807 := by omega
 simp [execOp, go_sem, hp, hq, binOp, Op.stringOp]; omega
theorem Oc (hu : P.underlying T = some .bool) (hp : ρ p = .bool b) (hq : ρ q = .bool c) : (execOp ρ ⟨d, .binOp .eql T p q T', ty, pos, af, g⟩).run P W = .ok (.value (.bool (b == c))) W := by
 have e : (binOp .eql T (.bool b) (.bool c)).run P W = .ok (.bool (b == c)) W := by
  show ((Op.equal T (.bool b) (.bool c)) >>= fun x => (pure (.bool x) : Sem Value)).run P W = _
  rw [Sem.run_bind, run_equal_bool W T b c hu]; rfl
 simp [execOp, go_sem, hp, hq, e]
theorem Oa (hu : P.underlying T = some .bool) (hp : ρ p = .bool b) (hq : ρ q = .bool c) : (execOp ρ ⟨d, .binOp .neq T p q T', ty, pos, af, g⟩).run P W = .ok (.value (.bool (b != c))) W := by
 have e : (binOp .neq T (.bool b) (.bool c)).run P W = .ok (.bool (b != c)) W := by
  show ((Op.equal T (.bool b) (.bool c)) >>= fun x => (pure (.bool (!x)) : Sem Value)).run P W = _
  rw [Sem.run_bind, run_equal_bool W T b c hu]; rfl
 simp [execOp, go_sem, hp, hq, e]
theorem jC (hp : ρ p = .bool b) : (execOp ρ ⟨d, .unOp .not T p, ty, pos, af, g⟩).run P W = .ok (.value (.bool (!b))) W := by simp [execOp, go_sem, hp, Op.unary]
theorem Lj (hp : ρ p = .int .i64 i) : (execOp ρ ⟨d, .unOp .neg T p, ty, pos, af, g⟩).run P W = .ok (.value (.int .i64 (bG (0 - i)))) W := by simp [execOp, go_sem, hp, Op.unary, bG]
theorem ib {vs : Array Value} {m : Nat} (hp : ρ p = .tuple vs) (hv : vs[m]? = some v) : (execOp ρ ⟨d, .extract p m, ty, pos, af, g⟩).run P W = .ok (.value v) W := by simp [execOp, go_sem, hp, hv]
theorem rO {h : FuncId} {cs : Array Operand} {vs : Array Value} (hc : cs.map ρ = vs) : (execOp ρ ⟨d, .makeFunc (.func h) #[] cs, ty, pos, af, g⟩).run P W = .ok (.value (.func (.func h) #[] vs)) W := by simp [execOp, go_sem, hc, Instr.makeFunc]
theorem xz (hp : ρ p = .int k i) (hq : ρ q = .int k j) (ts : Array TypeId) : (execOp ρ ⟨d, .call ⟨.builtin .min, #[p, q], ts⟩, ty, pos, af, g⟩).run P W = .ok (.value (.int k (min i j))) W := by
 simp [execOp, go_sem, hp, hq, Builtin.min_, Builtin.min2, Int.min_def]
 split <;> split <;> first | rfl | omega | (congr 3; omega)
theorem zq (hp : ρ p = .int k i) (hq : ρ q = .int k j) (ts : Array TypeId) : (execOp ρ ⟨d, .call ⟨.builtin .max, #[p, q], ts⟩, ty, pos, af, g⟩).run P W = .ok (.value (.int k (max i j))) W := by
 simp [execOp, go_sem, hp, hq, Builtin.max_, Builtin.max2, Int.max_def]
 split <;> split <;> first | rfl | omega | (congr 3; omega)
end
open Go.RowKit
def mV (A : Option Addr) : Nat := match A with | some a => a.block | none => 0
def pW (A : Option Addr) : Nat := match A with | some a => a.off | none => 0
def dM (A : Option Addr) (n c : Nat) : Prop := n ≤ c ∧ c ≤ maxLen ∧ (0 < n → A = some ⟨mV A, pW A, none⟩)
theorem gL : dM none 0 0 := ⟨Nat.le_refl _, Nat.zero_le _, fun h => absurd h (by simp)⟩
structure Fl (α : Type) where
 Ad : Type
 sz : Nat
 enc : Ad → α → List Value
 ok : (Nat → Prop) → World → Ad → α → Prop
 len : ∀ u x, (enc u x).length = sz
 one : ∀ u x, ∀ v ∈ enc u x, v.oneCell' = true
 loc : ∀ {S S' : Nat → Prop} {W W' : World} {u : Ad} {x : α}, ok S W u x → (∀ b, S b → S' b) → (∀ b, S b → W'.heap[b]? = W.heap[b]?) → ok S' W' u x
def Fl.flat {α : Type} (sz : Nat) (enc : α → List Value) (len : ∀ x, (enc x).length = sz) (one : ∀ x, ∀ v ∈ enc x, v.oneCell' = true) : Fl α :=
 ⟨Unit, sz, fun _ x => enc x, fun _ _ _ _ => True, fun _ x => len x, fun _ x => one x, fun _ _ _ => trivial⟩
def Fl.PK {α : Type} (t : Fl α) : Prop := ∀ S W u x, t.ok S W u x
inductive Al {α β : Type} (R : α → β → Prop) : List α → List β → Prop
 | nil : Al R [] []
 | cons {a : α} {b : β} {l : List α} {m : List β} : R a b → Al R l m → Al R (a :: l) (b :: m)
section
variable {α β : Type} {R R' : α → β → Prop}
theorem Al.mono {l : List α} {m : List β} (h : Al R l m) (hr : ∀ a b, R a b → R' a b) : Al R' l m := by
 induction h with
 | nil => exact .nil
 | cons h1 _ ih => exact .cons (hr _ _ h1) ih
theorem Al.append {l l' : List α} {m m' : List β} (h : Al R l m) (h' : Al R l' m') : Al R (l ++ l') (m ++ m') := by
 induction h with
 | nil => exact h'
 | cons h1 _ ih => exact .cons h1 ih
theorem Al.len {l : List α} {m : List β} (h : Al R l m) : l.length = m.length := by
 induction h with
 | nil => rfl
 | cons _ _ ih => simp [ih]
theorem Al.at_ {l : List α} {m : List β} (h : Al R l m) : ∀ {i : Nat} {y : β}, m[i]? = some y → ∃ x, l[i]? = some x ∧ R x y := by
 induction h with
 | nil => intro i y h; simp at h
 | cons h1 _ ih =>
  intro i y h
  cases i with
  | zero => simp at h; subst h; exact ⟨_, rfl, h1⟩
  | succ i => simpa using ih (by simpa using h)
theorem Al.set {l : List α} {m : List β} (h : Al R l m) : ∀ {i : Nat} {x : α} {y : β}, R x y → Al R (l.set i x) (m.set i y) := by
 induction h with
 | nil => intro i x y _; exact .nil
 | cons h1 h2 ih =>
  intro i x y hr
  cases i with
  | zero => exact .cons hr h2
  | succ i => exact .cons h1 (ih hr)
theorem Al.take {l : List α} {m : List β} (h : Al R l m) : ∀ (n : Nat), Al R (l.take n) (m.take n) := by
 induction h with
 | nil => intro n; simp; exact .nil
 | cons h1 _ ih =>
  intro n
  cases n with
  | zero => exact .nil
  | succ n => exact .cons h1 (ih n)
theorem Al.drop {l : List α} {m : List β} (h : Al R l m) : ∀ (n : Nat), Al R (l.drop n) (m.drop n) := by
 induction h with
 | nil => intro n; simp; exact .nil
 | cons h1 h2 ih =>
  intro n
  cases n with
  | zero => exact .cons h1 h2
  | succ n => exact ih n
theorem Al.of_map {g : β → α} (hg : ∀ y, R (g y) y) : ∀ (m : List β), Al R (m.map g) m
 | [] => .nil
 | y :: m => .cons (hg y) (Al.of_map hg m)
end
def rp {α : Type} (t : Fl α) (O : Nat → Prop) (W : World) (cs : List Value) (x : α) : Prop := ∃ u, t.ok O W u x ∧ cs = t.enc u x
section
variable {α : Type} {t : Fl α} {O O' : Nat → Prop} {W W' : World}
theorem rp.len {cs : List Value} {x : α} (h : rp t O W cs x) : cs.length = t.sz := by obtain ⟨u, _, rfl⟩ := h; exact t.len u x
theorem rp.one {cs : List Value} {x : α} (h : rp t O W cs x) : ∀ v ∈ cs, v.oneCell' = true := by obtain ⟨u, _, rfl⟩ := h; exact t.one u x
theorem rp.loc {cs : List Value} {x : α} (h : rp t O W cs x) (hs : ∀ b, O b → O' b) (hb : ∀ b, O b → W'.heap[b]? = W.heap[b]?) : rp t O' W' cs x := by
 obtain ⟨u, h1, h2⟩ := h; exact ⟨u, t.loc h1 hs hb, h2⟩
theorem qi {css : List (List Value)} {l : List α} (h : Al (rp t O W) css l) : css.flatten.length = l.length * t.sz := by
 induction h with
 | nil => simp
 | cons h1 _ ih => rw [List.flatten_cons, List.length_append, h1.len, ih, List.length_cons, Nat.succ_mul, Nat.add_comm]
theorem Mc {css : List (List Value)} {l : List α} (h : Al (rp t O W) css l) : ∀ {i : Nat} {cs : List Value}, css[i]? = some cs → ∀ {j : Nat} {u : Value}, cs[j]? = some u → css.flatten[i * t.sz + j]? = some u := by
 induction h with
 | nil => intro i cs h; simp at h
 | cons h1 _ ih =>
  intro i cs hi j u hu
  cases i with
  | zero =>
   simp at hi; subst hi
   rw [List.flatten_cons, Nat.zero_mul, Nat.zero_add, List.getElem?_append_left (List.getElem?_eq_some_iff.1 hu).1]; exact hu
  | succ i =>
   have ih := ih (by simpa using hi) hu
   rw [List.flatten_cons, List.getElem?_append_right (by rw [h1.len, Nat.succ_mul]; omega), h1.len]
   rw [show (i + 1) * t.sz + j - t.sz = i * t.sz + j from by rw [Nat.succ_mul]; omega]; exact ih
theorem Jm {css : List (List Value)} {l : List α} (h : Al (rp t O W) css l) : ∀ {j : Nat} {u : Value}, css.flatten[j]? = some u → ∃ (i : Nat) (cs : List Value) (k : Nat), css[i]? = some cs ∧ cs[k]? = some u ∧ j = i * t.sz + k := by
 induction h with
 | nil => intro j u h; simp at h
 | @cons a b l m h1 _ ih =>
  intro j u h
  rw [List.flatten_cons] at h
  by_cases hj : j < t.sz
  ·rw [List.getElem?_append_left (by rw [h1.len]; exact hj)] at h
   exact ⟨0, a, j, rfl, h, by omega⟩
  ·rw [List.getElem?_append_right (by rw [h1.len]; omega), h1.len] at h
   obtain ⟨i, x, k, h1, h2, h3⟩ := ih h
   exact ⟨i + 1, x, k, by simpa using h1, h2, by rw [Nat.succ_mul]; omega⟩
theorem OY {css : List (List Value)} {l : List α} (h : Al (rp t O W) css l) : ∀ {i : Nat} {cs : List Value} (_ : css[i]? = some cs) (fo : Nat) (vs : List Value) (_ : fo + vs.length ≤ t.sz),
  (css.set i (cs.take fo ++ vs ++ cs.drop (fo + vs.length))).flatten = css.flatten.take (i * t.sz + fo) ++ vs ++ css.flatten.drop (i * t.sz + fo + vs.length) := by
 induction h with
 | nil => intro i cs h; simp at h
 | @cons a b l m h1 _ ih =>
  intro i cs hi fo vs hfo
  have hl := h1.len
  cases i with
  | zero =>
   simp at hi; subst hi
   rw [List.set_cons_zero, List.flatten_cons, List.flatten_cons, Nat.zero_mul, Nat.zero_add, List.take_append_of_le_length (by omega), List.drop_append_of_le_length (by omega)]
   simp [List.append_assoc]
  | succ i =>
   rw [List.set_cons_succ, List.flatten_cons, List.flatten_cons, ih (by simpa using hi) fo vs hfo]
   rw [show (i + 1) * t.sz + fo = a.length + (i * t.sz + fo) by rw [Nat.succ_mul, hl]; omega, Nat.add_assoc a.length, List.take_length_add_append, List.drop_length_add_append]
   simp [List.append_assoc]
theorem F8 {css : List (List Value)} {l : List α} (h : Al (rp t O W) css l) : ∀ (n : Nat), (css.take n).flatten = css.flatten.take (n * t.sz) := by
 induction h with
 | nil => intro n; simp
 | @cons a b l m h1 _ ih =>
  intro n
  cases n with
  | zero => simp
  | succ n =>
   rw [List.take_succ_cons, List.flatten_cons, List.flatten_cons, ih n, show (n + 1) * t.sz = a.length + n * t.sz by rw [Nat.succ_mul, h1.len]; omega, List.take_length_add_append]
end
def aF (W : World) (b o : Nat) (cs : List Value) : Prop := ∀ (j : Nat) (u : Value), cs[j]? = some u → W.cell? ⟨b, o + j, none⟩ = some u
theorem aF.drop {W : World} {b o : Nat} {cs : List Value} (h : aF W b o cs) (k : Nat) : aF W b (o + k) (cs.drop k) := fun j u hu => by
 rw [List.getElem?_drop] at hu
 rw [Nat.add_assoc]; exact h _ u hu
theorem aF.take {W : World} {b o : Nat} {cs : List Value} (h : aF W b o cs) (k : Nat) : aF W b o (cs.take k) := fun j u hu => by
 rw [List.getElem?_take] at hu
 split at hu
 ·exact h _ u hu
 ·cases hu
theorem aF.loc {W W' : World} {b o : Nat} {cs : List Value} (h : aF W b o cs) (hb : W'.heap[b]? = W.heap[b]?) : aF W' b o cs := fun j u hu => (World.cell?_of_block (a := ⟨b, _, none⟩) hb).trans (h j u hu)
structure Sl {α : Type} (S : Nat → Prop) (W : World) (t : Fl α) (A : Option Addr) (c : Nat) (l : List α) : Prop where
 form : dM A l.length c
 cells : ∀ (i : Nat) (x : α), l[i]? = some x → S (mV A) ∧ ∃ u, t.ok S W u x ∧ aF W (mV A) (pW A + i * t.sz) (t.enc u x)
def lo (B : Nat) : Nat → Prop := fun b => b < B
section
variable {α : Type} {S S' : Nat → Prop} {W W' : World} {t : Fl α} {A : Option Addr} {c B : Nat} {l : List α}
theorem Sl.nil (S : Nat → Prop) (W : World) (t : Fl α) : Sl S W t none 0 [] := ⟨gL, fun i x h => by simp at h⟩
theorem Sl.go (h : Sl S W t A c l) (hS : ∀ b, S b → S' b) (hs : ∀ b, S b → W'.heap[b]? = W.heap[b]?) : Sl S' W' t A c l :=
 ⟨h.form, fun i x hx => by
  obtain ⟨h1, u, h2, h3⟩ := h.cells i x hx
  exact ⟨hS _ h1, u, t.loc h2 hS hs, h3.loc (hs _ h1)⟩⟩
theorem Sl.loc (h : Sl S W t A c l) (hs : ∀ b, S b → W'.heap[b]? = W.heap[b]?) : Sl S W' t A c l := h.go (fun _ hb => hb) hs
theorem Sl.mono (h : Sl S W t A c l) (hs : ∀ b, S b → S' b) : Sl S' W t A c l := h.go hs (fun _ _ => rfl)
theorem Sl.VK {e : α → List Value} (he : ∀ u x, t.enc u x = e x) (h : Sl S W t A c l) {i : Nat} {x : α} (hx : l[i]? = some x) : S (mV A) ∧ aF W (mV A) (pW A + i * t.sz) (e x) := by
 obtain ⟨h1, u, _, h3⟩ := h.cells i x hx
 exact ⟨h1, he u x ▸ h3⟩
theorem Sl.all (h : Sl S W t A c l) : ∃ css, Al (rp t S W) css l ∧ aF W (mV A) (pW A) css.flatten := by
 have key : ∀ (m : List α) (o : Nat), (∀ (i : Nat) (x : α), m[i]? = some x → ∃ u, t.ok S W u x ∧ aF W (mV A) (o + i * t.sz) (t.enc u x)) → ∃ css, Al (rp t S W) css m ∧ aF W (mV A) o css.flatten := by
  intro m
  induction m with
  | nil => intro o _; exact ⟨[], .nil, fun j u hu => by simp at hu⟩
  | cons y m ih =>
   intro o hm
   obtain ⟨u, h1, h2⟩ := hm 0 y rfl
   obtain ⟨css, h3, h4⟩ := ih (o + t.sz) (fun i x hx => by
    have := hm (i + 1) x (by simpa using hx)
    rwa [show o + (i + 1) * t.sz = o + t.sz + i * t.sz by rw [Nat.succ_mul]; omega] at this)
   refine ⟨t.enc u y :: css, .cons ⟨u, h1, rfl⟩ h3, fun j v hv => ?_⟩
   rw [List.flatten_cons] at hv
   by_cases hj : j < t.sz
   ·rw [List.getElem?_append_left (by rw [t.len]; exact hj)] at hv
    have := h2 j v hv
    simpa using this
   ·rw [List.getElem?_append_right (by rw [t.len]; omega), t.len] at hv
    have := h4 _ v hv
    rwa [show o + t.sz + (j - t.sz) = o + j by omega] at this
 exact key l (pW A) (fun i x hx => (h.cells i x hx).2)
end
section
variable {α : Type} {w w' : Bs} {W : World} {E : Nat → jv} {t : Fl α} {A : Option Addr} {c b o : Nat} {l : List α} {cs : List Value}
theorem Sl.le (h : Sl w.O w.W t A c l) (hle : w.Le w') : Sl w'.O w'.W t A c l := h.go hle.sub (fun b hb => hle.blk b (.inl hb))
theorem Sl.nL (h : Sl w.R w.W t A c l) (hle : w.Le w') : Sl w'.R w'.W t A c l := h.go hle.r (fun b hb => hle.blk b hb)
theorem Sl.rl (h : Sl w.O w.W t A c l) : Sl w.R w.W t A c l := h.mono (fun _ hb => .inl hb)
theorem Sl.VG (h : Sl w.R w.W t A c l) (hW : HF w W E) : Sl w.R W t A c l := h.loc hW.keep
theorem rp.le {x : α} (h : rp t w.O w.W cs x) (hle : w.Le w') : rp t w'.O w'.W cs x := h.loc hle.sub (fun b hb => hle.blk b (.inl hb))
theorem rp.VG {x : α} (h : rp t w.O w.W cs x) (hW : HF w W E) : rp t w.O W cs x := h.loc (fun _ hb => hb) (fun b hb => hW.keep b (.inl hb))
theorem rp.off {x : α} (h : rp t w.O W cs x) (hW : HF w W E) : rp t w.O w.W cs x := h.loc (fun _ hb => hb) (fun b hb => (hW.keep b (.inl hb)).symm)
theorem ut (hb : w.R b) (hc : aF w.W b o cs) (hW : HF w W E) : aF W b o cs := hc.loc (hW.keep b hb)
theorem uZ {e : α → List Value} (he : ∀ u x, t.enc u x = e x) (h : Sl w.R w.W t A c l) {i : Nat} {x : α} (hx : l[i]? = some x) (hW : HF w W E) : aF W (mV A) (pW A + i * t.sz) (e x) :=
 ut (h.VK he hx).1 (h.VK he hx).2 hW
theorem dR {k T : Nat} {vs : List Value} (hW : HF w W E) (hk : E k = bx b vs.toArray T) (o : Nat) : aF W b o (vs.drop o) := fun j u hu => by
 rw [cell_of_row W b (o + j) vs.toArray T (0, 0) (hW.bx hk)]
 rw [List.getElem?_drop] at hu
 simpa using hu
end
def ow {α : Type} (A : Option Addr) (c T : Nat) (t : Fl α) (l : List α) : jv :=
 ⟨fun b => (Value.slice A l.length c).ownBlock = some b, fun O W => ∃ css, Al (rp t O W) css l ∧ W.ownsRow 0 T t.sz (.slice A l.length c) l.length css.flatten⟩
theorem nO {α : Type} (A : Option Addr) (c T : Nat) (t : Fl α) (l : List α) : (ow A c T t l).loc := ⟨fun O W W' h hp => by
 obtain ⟨css, h0, h1, h2⟩ := hp
 refine ⟨css, h0.mono (fun _ _ hr => hr.loc (fun _ hb => hb) (fun b hb => h b (.inl hb))), h1, ?_⟩
 rcases h2 with h2 | ⟨g, cap, cur, hv, hg, hh, r⟩
 ·exact .inl h2
 ·exact .inr ⟨g, cap, cur, hv, hg, (h g (.inr (by show (Value.slice A l.length c).ownBlock = some g; rw [hv]; rfl))).trans hh, r⟩,
 fun O O' W h hp => by
  obtain ⟨css, h0, h1⟩ := hp
  exact ⟨css, h0.mono (fun _ _ hr => hr.loc h (fun _ _ => rfl)), h1⟩⟩
section
variable {α : Type} {w : Bs} {W : World} {E : Nat → jv} {t : Fl α} {A : Option Addr} {c T : Nat} {l : List α}
theorem GX {O : Nat → Prop} {css : List (List Value)} (h0 : Al (rp t O W) css l) (h : W.ownsRow 0 T t.sz (.slice A l.length c) l.length css.flatten) : Sl (fun b => O b ∨ (Value.slice A l.length c).ownBlock = some b) W t A c l := by
 obtain ⟨_, h2⟩ := h
 rcases h2 with ⟨e, h0⟩ | ⟨g, cap, cur, e, _, hh, hn, hc, hs, ht⟩
 ·have hl : l = [] := List.eq_nil_of_length_eq_zero h0
  subst hl
  simp at e
  obtain ⟨rfl, rfl⟩ := e
  exact Sl.nil _ _ _
 ·simp at e
  obtain ⟨rfl, rfl⟩ := e
  refine ⟨⟨hn, hc, fun _ => rfl⟩, fun i x hx => ⟨.inr rfl, ?_⟩⟩
  obtain ⟨cs, hcs, u, hu, rfl⟩ := h0.at_ hx
  refine ⟨u, t.loc hu (fun _ hb => .inl hb) (fun _ _ => rfl), fun j v hv => ?_⟩
  have hf := Mc h0 hcs hv
  rw [← ht, List.getElem?_take] at hf
  split at hf
  ·show W.cell? ⟨g, 0 + i * t.sz + j, none⟩ = some v
   rw [cell_of_row W g _ cur T (0, 0) hh, Nat.zero_add, ← Array.getElem?_toList]; exact hf
  ·cases hf
theorem HF.ow (h : HF w W E) {k : Nat} (hk : E k = Proofs.YtcjeebkoafonpaaGreatDoor.ow A c T t l) : ∃ css, Al (rp t w.O W) css l ∧ W.ownsRow 0 T t.sz (.slice A l.length c) l.length css.flatten := by
 have := h.phi k
 rw [hk] at this; exact this
theorem HF.sl (h : HF w W E) {k : Nat} (hk : E k = Proofs.YtcjeebkoafonpaaGreatDoor.ow A c T t l) : Sl (fun b => w.O b ∨ (E k).S b) W t A c l := by
 obtain ⟨css, h0, h1⟩ := h.ow hk
 rw [hk]
 exact GX h0 h1
theorem HF.VC (h : HF w W E) {k : Nat} (hk : E k = Proofs.YtcjeebkoafonpaaGreatDoor.ow A c T t l) : Sl (lo W.heap.size) W t A c l := (h.sl hk).mono (fun b hb => by
 rcases hb with hb | hb
 ·exact h.GR (.inl hb)
 ·exact (h.bd k b hb).2)
theorem HF.UY (h : HF w W E) {k : Nat} (hk : E k = Proofs.YtcjeebkoafonpaaGreatDoor.ow A c T t l) {i : Nat} {x : α} (hx : l[i]? = some x) : ∃ u, t.ok w.O w.W u x ∧ aF W (mV A) (pW A + i * t.sz) (t.enc u x) := by
 obtain ⟨css, h0, h1⟩ := h.ow hk
 obtain ⟨cs, hcs, u, hu, rfl⟩ := h0.at_ hx
 have hu' : t.ok w.O w.W u x := t.loc hu (fun _ hb => hb) (fun b hb => (h.keep b (.inl hb)).symm)
 refine ⟨u, hu', fun j v hv => ?_⟩
 obtain ⟨_, h2⟩ := h1
 rcases h2 with ⟨e, h0⟩ | ⟨g, cap, cur, e, _, hh, hn, hc, hs, ht⟩
 ·have hl : l = [] := List.eq_nil_of_length_eq_zero h0
  subst hl; simp at hx
 ·simp at e
  obtain ⟨rfl, rfl⟩ := e
  have hf := Mc h0 hcs hv
  rw [← ht, List.getElem?_take] at hf
  split at hf
  ·show W.cell? ⟨g, 0 + i * t.sz + j, none⟩ = some v
   rw [cell_of_row W g _ cur T (0, 0) hh, Nat.zero_add, ← Array.getElem?_toList]; exact hf
  ·cases hf
theorem Ac {e : α → List Value} (he : ∀ u x, t.enc u x = e x) {k : Nat} (hW : HF w W E) (hk : E k = Proofs.YtcjeebkoafonpaaGreatDoor.ow A c T t l) {i : Nat} {x : α} (hx : l[i]? = some x) : aF W (mV A) (pW A + i * t.sz) (e x) := by
 obtain ⟨u, _, h⟩ := hW.UY hk hx
 exact he u x ▸ h
theorem HF.Qr (h : HF w W E) {k : Nat} (hk : E k = Proofs.YtcjeebkoafonpaaGreatDoor.ow A c T t l) : Sl (h.raise k).O (h.raise k).W t A c l := h.sl hk
end
def lT (P : Program) (T : Nat) : Option Nat := (P.info? T).map (·.size)
def lK (P : Program) (T : Nat) : Option Bool := (P.underlying T).map fun d => match d with | .struct _ | .array _ _ => true | _ => false
def zeroOf (P : Program) (T : Nat) : Option (List Value) := ((P.info? T).bind (·.zero)).map (·.cells.toList)
def iJ (P : Program) (T i : Nat) : Option Nat := match P.underlying T with
 | some (.struct fs) => (fs[i]?).bind fun fd => match lT P fd.type with | some (_ + 1) => some fd.offset | _ => none
 | _ => none
def elemOf? (P : Program) (T : Nat) : Option (Nat × Nat) := match P.underlying T with | some (.slice e) => (lT P e).map fun n => (e, n) | _ => none
section
variable {P : Program} {ρ : Operand → Value} {W : World} {d : Option Tmp} {ty T T' : TypeId} {pos : String} {af : Array Edge} {g : Option (Nat × Bool)} {p q : Operand} {u v : Value} {i j : Int} {k : IntKind}
theorem run_sizeOf {n : Nat} (h : lT P T = some n) : (sizeOf T).run P W = .ok n W := by
 unfold lT at h
 cases hi : P.info? T with
 | none => rw [hi] at h; cases h
 | some x => rw [hi] at h; simp at h; subst h; simp [sizeOf, typeInfo, hi]
theorem zt {b : Bool} (h : lK P T = some b) : (isAgg T).run P W = .ok b W := by
 unfold lK at h
 cases hi : P.underlying T with
 | none => rw [hi] at h; cases h
 | some x => rw [hi] at h; simp at h; subst h; simp [isAgg, run_underlying hi]; cases x <;> rfl
theorem D8 {cs : List Value} (h : zeroOf P T = some cs) : ∃ z, (zeroValue T).run P W = .ok z W ∧ z.cells = cs.toArray := by
 unfold zeroOf at h
 cases hi : P.info? T with
 | none => rw [hi] at h; cases h
 | some x =>
  cases hz : x.zero with
  | none => rw [hi] at h; simp [hz] at h
  | some z => rw [hi] at h; simp [hz] at h; subst h; exact ⟨z, by simp [zeroValue, typeInfo, hi, hz], by simp⟩
theorem ah {b o : Nat} {cs : List Value} (ha : lK P T = some false) (hp : ρ p = .pointer (some ⟨b, o, none⟩)) (hc : aF W b o cs) (hv : cs[0]? = some v) : (execOp ρ ⟨d, .load T p, ty, pos, af, g⟩).run P W = .ok (.value v) W := by
 have hcell : W.cell? ⟨b, o, none⟩ = some v := hc 0 v hv
 simp [execOp, hp, Instr.loadAt, Instr.sureAddr, loadVar, zt ha, hcell]
theorem aM {b o n : Nat} {cs : List Value} (ha : lK P T = some true) (hs : lT P T = some n) (hp : ρ p = .pointer (some ⟨b, o, none⟩)) (hc : aF W b o cs) (hn : Nat.beq cs.length n = true) : (execOp ρ ⟨d, .load T p, ty, pos, af, g⟩).run P W = .ok (.value (.agg cs.toArray)) W := by
 have hn' := Nat.eq_of_beq_eq_true hn
 subst hn'
 have hl : (loadCells ⟨b, o, none⟩ cs.length).run P W = .ok cs.toArray W := run_loadCells_list W ⟨b, o, none⟩ cs (fun j u hu => by rw [Addr.add_lit]; exact hc j u hu)
 simp [execOp, hp, Instr.loadAt, Instr.sureAddr, loadVar, zt ha, run_sizeOf hs, hl]
theorem ag {b o m fo : Nat} (hf : iJ P T m = some fo) (hp : ρ p = .pointer (some ⟨b, o, none⟩)) : (execOp ρ ⟨d, .fieldAddr T p m, ty, pos, af, g⟩).run P W = .ok (.value (.pointer (some ⟨b, o + fo, none⟩))) W := by
 unfold iJ at hf
 split at hf
 ·rename_i fs hu
  cases hfd : fs[m]? with
  | none => rw [hfd] at hf; cases hf
  | some fd =>
   rw [hfd] at hf
   simp only [Option.bind_some] at hf
   split at hf
   ·rename_i n hn
    simp at hf; subst hf
    simp [execOp, hp, Instr.fieldAt, Instr.sureAddr, fieldPlace, run_underlying hu, hfd, run_sizeOf hn, Addr.add_lit]
   ·cases hf
 ·cases hf
theorem ak {e sz n c : Nat} {A : Option Addr} (he : elemOf? P T = some (e, sz)) (hp : ρ p = .slice A n c) (hf : dM A n c) (hq : ρ q = .int k i) (h0 : 0 ≤ i) (h1 : i.toNat < n) :
  (execOp ρ ⟨d, .indexAddr T p q, ty, pos, af, g⟩).run P W = .ok (.value (.pointer (some ⟨mV A, pW A + i.toNat * sz, none⟩))) W := by
 have hA := hf.2.2 (by omega)
 unfold elemOf? at he
 split at he
 ·rename_i e' hu
  cases hs : lT P e' with
  | none => rw [hs] at he; cases he
  | some n' =>
   rw [hs] at he; simp at he; obtain ⟨rfl, rfl⟩ := he
   have h2 : i < (n : Int) := by omega
   rw [hA] at hp
   simp [execOp, hp, hq, Instr.indexAt, asIntOf, run_underlying hu, run_sizeOf hs, h0, h2, Addr.add_lit]
 ·cases he
theorem bz {e n c : Nat} {A : Option Addr} (hu : P.underlying T = some (.slice e)) (hp : ρ p = .slice A n c) : (execOp ρ ⟨d, .call ⟨.builtin .len, #[p], #[T]⟩, ty, pos, af, g⟩).run P W = .ok (.value (.int .i64 n)) W := by
 simp [execOp, go_sem, hp, Builtin.len_, run_underlying hu]
theorem run_build {ps : Array (Nat × Operand)} {vs : List (Nat × Value)} {cs : Array Value} (hv : (ps.map fun (i, x) => (i, ρ x)).toList = vs) (hb : P.built T vs = some cs) : (execOp ρ ⟨d, .build T ps, ty, pos, af, g⟩).run P W = .ok (.value (.agg cs)) W := by
 rw [← hv] at hb
 have := Go.run_build (P := P) W T _ cs hb
 simp [execOp, this]
theorem zx {cs : List Value} (hz : zeroOf P T = some cs) : (execOp ρ ⟨d, .alloc T, ty, pos, af, g⟩).run P W = .ok (.value (.pointer (some ⟨W.heap.size, 0, none⟩))) (W.alloc (.cells cs.toArray T)) := by
 obtain ⟨z, h1, h2⟩ := D8 (W := W) hz
 simp [execOp, Instr.alloc, h1, newVar, newRow, h2]
theorem Ll {cs : Array Value} (hp : ρ p = v) (hc : v.cells = cs) : (execOp ρ ⟨d, .box T p, ty, pos, af, g⟩).run P W = .ok (.value (.pointer (some ⟨W.heap.size, 0, none⟩))) (W.alloc (.cells cs T)) := by
 simp [execOp, hp, Instr.box, newVar, newRow, hc]
theorem run_store {b o T2 : Nat} {vs cs : List Value} (hs : lT P T = some cs.length) (hp : ρ p = .pointer (some ⟨b, o, none⟩)) (hq : ρ q = v) (hv : v.cells = cs.toArray) (hh : W.heap[b]? = some (.cells vs.toArray T2 (0, 0)))
  (hfit : Nat.ble (o + cs.length) vs.length = true) (h1 : cs.all (·.oneCell') = true) : (execOp ρ ⟨d, .store T p q, ty, pos, af, g⟩).run P W = .ok .skip (W.setRow b (vs.take o ++ cs ++ vs.drop (o + cs.length)).toArray) := by
 have hst := run_storeCells_at P b o T2 cs 0 vs.toArray W hh (by have := Nat.le_of_ble_eq_true hfit; simpa using this) (fun u hu => List.all_eq_true.1 h1 u hu)
 simp only [Nat.add_zero] at hst
 simp [execOp, hp, hq, Instr.storeAt, Instr.sureAddr, storeVar, hv, run_sizeOf hs, hst]
end
open Go.RowKit
def yX {α : Type} (l m : List α) : Option (List α) := if l.length + m.length ≤ 4294967296 then some (l ++ m) else none
theorem ER {α : Type} {l m x : List α} (h : yX l m = some x) : l.length + m.length ≤ 4294967296 ∧ l ++ m = x := by unfold yX at h; split at h; exact ⟨by assumption, Option.some.inj h⟩; cases h
section
variable {P : Program} {w : Bs} {n : Nat} {f : Nat → Option Value} {E : Nat → jv} {X Y : Act → World → Prop} {Q : Exit → Act → World → Prop} {x y : Code} {ops : Array Oper} {rest : List Oper}
variable {d ty T T' : Nat} {pos : String} {af : Array Edge} {g : Option (Nat × Bool)} {p q : Operand} {u v : Value}
theorem Tr.alloc (κ : Nat) {cs : List Value} (hw : Wn ops f ⟨some d, .alloc T, ty, pos, af, g⟩) (hdn : Nat.blt d n = true) (hz : zeroOf P T = some cs)
  (K : ∀ b, Tr w n (uf f d (.pointer (some ⟨b, 0, none⟩))) (up E κ (bx b cs.toArray T)) (wpList P ops Q rest)) : Tr w n f E (wpList P ops Q (⟨some d, .alloc T, ty, pos, af, g⟩ :: rest)) :=
 zH hw hdn (fun _ W _ h2 => ⟨zx hz, h2.alloc κ cs.toArray T⟩) (fun W _ => K W.heap.size)
theorem gN (κ : Nat) {cs : List Value} (hw : Wn ops f ⟨some d, .box T p, ty, pos, af, g⟩) (hdn : Nat.blt d n = true) (hp : ev f p = some v) (hc : v.cells = cs.toArray)
  (K : ∀ b, Tr w n (uf f d (.pointer (some ⟨b, 0, none⟩))) (up E κ (bx b cs.toArray T)) (wpList P ops Q rest)) : Tr w n f E (wpList P ops Q (⟨some d, .box T p, ty, pos, af, g⟩ :: rest)) :=
 zH hw hdn (fun _ W h1 h2 => ⟨Ll (h1.ev hp) hc, h2.alloc κ cs.toArray T⟩) (fun W _ => K W.heap.size)
theorem bJ (κ : Nat) {b o T2 : Nat} {vs cs : List Value} (vs' : List Value) (hw : Wn ops f ⟨none, .store T p q, ty, pos, af, g⟩) (hp : ev f p = some (.pointer (some ⟨b, o, none⟩))) (hq : ev f q = some v) (hv : v.cells = cs.toArray)
  (hk : E κ = bx b vs.toArray T2) (hs : lT P T = some cs.length) (hfit : Nat.ble (o + cs.length) vs.length = true) (h1 : cs.all (·.oneCell') = true) (hvs : vs.take o ++ cs ++ vs.drop (o + cs.length) = vs')
  (K : Tr w n f (up E κ (bx b vs'.toArray T2)) (wpList P ops Q rest)) : Tr w n f E (wpList P ops Q (⟨none, .store T p q, ty, pos, af, g⟩ :: rest)) :=
 Tx hw (fun _ W k1 k2 => ⟨run_store hs (k1.ev hp) (k1.ev hq) hv (k2.bx hk) hfit h1, by rw [hvs]; exact k2.setRow hk vs'.toArray⟩) K
def uV (P : Program) (T len : Nat) (parts : List (Nat × Value)) : Option (Nat × List Value) :=
 match P.underlying T with
 | some (.slice e) => match lT P e with
  | some sz => if len * sz > 2 ^ 24 then none else
   if len * sz = 0 then (Instr.fill (fun i => some (i * sz, sz)) ((Array.range (len * sz)).map ((#[] : Array Value)[· % 0]!)) parts).map fun cs => (e, cs.toList)
   else match zeroOf P e with
    | some z => (Instr.fill (fun i => some (i * sz, sz)) ((Array.range (len * sz)).map (z.toArray[· % z.toArray.size]!)) parts).map fun cs => (e, cs.toList)
    | none => none
  | none => none
 | _ => none
theorem run_buildSlice {ρ : Operand → Value} {W : World} {d : Option Tmp} {len e : Nat} {ps : Array (Nat × Operand)} {vs : List (Nat × Value)} {cs : List Value} (hv : (ps.map fun (i, x) => (i, ρ x)).toList = vs) (hb : uV P T len vs = some (e, cs)) :
  (execOp ρ ⟨d, .buildSlice T len ps, ty, pos, af, g⟩).run P W = .ok (.value (.slice (some ⟨W.heap.size, 0, none⟩) len len)) (W.alloc (.cells cs.toArray e)) := by
 subst hv
 unfold uV at hb
 split at hb
 ·rename_i e' hu
  cases hs : lT P e' with
  | none => rw [hs] at hb; cases hb
  | some sz =>
   rw [hs] at hb
   simp only at hb
   split at hb
   ·cases hb
   ·rename_i hsz
    split at hb
    ·rename_i h0
     obtain ⟨cs', hf, he⟩ := Option.map_eq_some_iff.1 hb
     simp at he; obtain ⟨rfl, rfl⟩ := he
     simp [execOp, Instr.buildSlice, run_underlying hu, run_sizeOf hs, h0, newRow]
     simp [h0] at hf
     simp [hf]
    ·rename_i h0
     split at hb
     ·rename_i z hz
      obtain ⟨z', hz1, hz2⟩ := D8 (W := W) hz
      obtain ⟨cs', hf, he⟩ := Option.map_eq_some_iff.1 hb
      simp at he; obtain ⟨rfl, rfl⟩ := he
      simp [execOp, Instr.buildSlice, run_underlying hu, run_sizeOf hs, hsz, h0, newRow, hz1, hz2]
      simp at hf
      simp [hf]
     ·cases hb
 ·cases hb
def evs (f : Nat → Option Value) : List (Nat × Operand) → List (Nat × Value) → Prop
 | [], [] => True
 | (i, x) :: l, (j, v) :: m => i = j ∧ ev f x = some v ∧ evs f l m
 | _, _ => False
theorem EG : ∀ {l : List (Nat × Operand)} {m : List (Nat × Value)} (_ : evs f l m) (a : Act) (_ : FR n f a), (l.toArray.map fun (i, x) => (i, a.eval x)).toList = m
 | [], [], _, _, _ => by simp
 | (i, x) :: l, (j, v) :: m, h, a, hf => by
  obtain ⟨rfl, h2, h3⟩ := h
  have ih := EG h3 a hf
  simp at ih
  simp [hf.ev h2, ih]
 | [], _ :: _, h, _, _ => h.elim
 | _ :: _, [], h, _, _ => h.elim
theorem eF : evs f [] [] := trivial
theorem bH {i : Nat} {x : Operand} {v : Value} {l : List (Nat × Operand)} {m : List (Nat × Value)} (h : ev f x = some v) (h2 : evs f l m) : evs f ((i, x) :: l) ((i, v) :: m) := ⟨rfl, h, h2⟩
theorem dS (κ : Nat) {len e : Nat} {ps : List (Nat × Operand)} {vs : List (Nat × Value)} {cs : List Value} (hw : Wn ops f ⟨some d, .buildSlice T len ps.toArray, ty, pos, af, g⟩) (hdn : Nat.blt d n = true)
  (hv : evs f ps vs) (hb : uV P T len vs = some (e, cs))
  (K : ∀ b, Tr w n (uf f d (.slice (some ⟨b, 0, none⟩) len len)) (up E κ (bx b cs.toArray e)) (wpList P ops Q rest)) : Tr w n f E (wpList P ops Q (⟨some d, .buildSlice T len ps.toArray, ty, pos, af, g⟩ :: rest)) :=
 zH hw hdn (fun a W h1 h2 => ⟨run_buildSlice (EG hv a h1) hb, h2.alloc κ cs.toArray e⟩) (fun W _ => K W.heap.size)
theorem Tr.own {α : Type} (κ : Nat) {b : Nat} {vs : List Value} (t : Fl α) (l : List α) {css : List (List Value)} (hk : E κ = bx b vs.toArray T) (hal : Al (rp t w.O w.W) css l) (hl : css.flatten = vs) (hsz : 0 < t.sz) (hm : l.length ≤ maxLen)
  (K : Tr w n f (up E κ (ow (some ⟨b, 0, none⟩) l.length T t l)) X) : Tr w n f E X := by
 intro a W h1 h2
 have hb := h2.bx hk
 refine K a W h1 (h2.mod κ _ rfl rfl rfl (Nat.le_refl _) (Nat.le_refl _) (fun _ _ _ => rfl) (nO _ _ _ _ _) ?_ (fun x hx => ?_))
 ·refine ⟨css, hal.mono (fun _ _ hr => hr.VG h2), qi hal, .inr ⟨b, l.length, vs.toArray, rfl, Nat.zero_le _, hb, Nat.le_refl _, hm, ?_, ?_⟩⟩
  ·rw [← hl, List.size_toArray, qi hal]
  ·rw [← qi hal, hl]; simp
 ·have hx : some b = some x := hx
  simp at hx; subst hx
  rw [hk]
  exact ⟨.inl rfl, (Array.getElem?_eq_some_iff.1 hb).1⟩
theorem bM {α : Type} (κ T : Nat) (t : Fl α) (K : Tr w n f (up E κ (ow none 0 T t [])) X) : Tr w n f E X :=
 fun a W h1 h2 => K a W h1 (h2.mod κ _ rfl rfl rfl (Nat.le_refl _) (Nat.le_refl _) (fun _ _ _ => rfl) (nO _ _ _ _ _) ⟨[], .nil, by simp, .inl ⟨rfl, rfl⟩⟩ (fun b hb => by cases hb))
theorem Tr.freeze {α : Type} (κ : Nat) {A : Option Addr} {c T : Nat} {t : Fl α} {l : List α} (hk : E κ = ow A c T t l) (K : ∀ w', w.Le w' → Sl w'.O w'.W t A c l → Tr w' n f (up E κ emp) X) : Tr w n f E X :=
 fun a W h1 h2 => K (h2.raise κ) (h2.IV κ) (h2.Qr hk) a W h1 (h2.raised κ)
theorem Ey {α : Type} {W W' : World} {κ : Nat} {A : Option Addr} {c e : Nat} {t : Fl α} {l m : List α} {v' : Value} {css : List (List Value)} (h2 : HF w W E) (hk : E κ = ow A c e t l) (hdr : W.drawn ≤ W'.drawn) (hg : W.grownBy W' (Value.slice A l.length c).ownBlock)
  (hal : Al (rp t w.O w.W) css m) (ho : W'.ownsRow 0 e t.sz v' m.length css.flatten) (hnew : ∀ b, v'.ownBlock = some b → (Value.slice A l.length c).ownBlock = some b ∨ W.heap.size ≤ b) : ∃ A' c', v' = .slice A' m.length c' ∧ dM A' m.length c' ∧ HF w W' (up E κ (ow A' c' e t m)) := by
 have hform : ∃ A' c', v' = .slice A' m.length c' := by
  rcases ho.2 with ⟨rfl, h0⟩ | ⟨gg, cap, cur, rfl, _⟩
  ·exact ⟨none, 0, by rw [h0]⟩
  ·exact ⟨_, _, rfl⟩
 obtain ⟨A', c', rfl⟩ := hform
 have hO : ∀ b, w.O b → W'.heap[b]? = w.W.heap[b]? := fun b hb => (hg.block b (h2.GR (.inl hb)) (fun e => (h2.bd κ b (by rw [hk]; exact e.symm)).1 (.inl hb))).trans (h2.keep b (.inl hb))
 have hal' : Al (rp t w.O W') css m := hal.mono (fun _ _ hr => hr.loc (fun _ hb => hb) hO)
 refine ⟨A', c', rfl, (GX hal' ho).form, h2.mod κ _ hg.os hg.tape hg.output hg.size hdr (fun b hb hs => hg.block b hb (fun e => hs ?_)) (nO _ _ _ _ _) ⟨css, hal', ho⟩ (fun b hb => ⟨?_, (World.ownsRow.lt ho b hb).2⟩)⟩
 ·rw [hk]; exact e.symm
 ·rw [hk]; exact hnew b hb
theorem Tr.append {α : Type} (κ : Nat) {A : Option Addr} {c e i b o c2 : Nat} {t : Fl α} {l l2 l' : List α} (hw : Wn ops f ⟨some d, .call ⟨.builtin .append, #[p, q], #[T, T]⟩, ty, pos, af, g⟩) (hdn : Nat.blt d n = true)
  (hp : ev f p = some (.slice A l.length c)) (hk : E κ = ow A c e t l) (hq : ev f q = some (.slice (some ⟨b, o, none⟩) l2.length c2)) (hr : ∀ W, HF w W E → ∃ css, Al (rp t w.O w.W) css l2 ∧ aF W b o css.flatten)
  (hu : P.underlying T = some (.slice e)) (hs : lT P e = some t.sz) (hz : (zeroOf P e).map List.length = some t.sz) (hsz : 0 < t.sz) (hby : (P.info? e).map (·.bytes) = some i) (hi : Nat.ble i 32768 = true) (hap : yX l l2 = some l')
  (K : ∀ A' c', dM A' l'.length c' → Tr w n (uf f d (.slice A' l'.length c')) (up E κ (ow A' c' e t l')) (wpList P ops Q rest)) :
  Tr w n f E (wpList P ops Q (⟨some d, .call ⟨.builtin .append, #[p, q], #[T, T]⟩, ty, pos, af, g⟩ :: rest)) :=
 Tr.op hw fun a W h1 h2 => by
  obtain ⟨hlen, hl'⟩ := ER hap
  subst hl'
  cases hin : P.info? e with
  | none => rw [hin] at hby; cases hby
  | some inf =>
   rw [hin] at hby; simp at hby; subst hby
   unfold zeroOf at hz
   unfold lT at hs
   rw [hin] at hz hs
   simp only [Option.bind_some, Option.map_some, Option.some.injEq] at hz hs
   cases hze : inf.zero with
   | none => rw [hze] at hz; cases hz
   | some z =>
    rw [hze] at hz
    simp at hz
    obtain ⟨css0, hal0, hown⟩ := h2.ow hk
    obtain ⟨css2, hal2, hc2⟩ := hr W h2
    have hbytes : (l.length + l2.length) * inf.bytes ≤ 140737488355328 := Nat.le_trans (Nat.mul_le_mul hlen (Nat.le_of_ble_eq_true hi)) (by decide)
    have hsm : l.length + l2.length ≤ maxLen := by unfold maxLen; omega
    obtain ⟨v', W', hrun, ho, hg, _, hat⟩ := run_append_own_at (P := P) W 0 T ty e inf z t.sz inf.bytes hu hin hze hs rfl hz hsz _ _ _ hown ⟨b, o, none⟩ l2.length c2 css2.flatten (qi hal2)
     (fun j u hj => by rw [Addr.add_lit]; exact hc2 j u hj) (fun u hu => by
      obtain ⟨i, cs, k, h1, h2, _⟩ := Jm hal2 (List.getElem?_of_mem hu).choose_spec
      have hlt : i < l2.length := by rw [← hal2.len]; exact (List.getElem?_eq_some_iff.1 h1).1
      obtain ⟨cs', h3, h4⟩ := hal2.at_ (List.getElem?_eq_getElem hlt)
      rw [h1] at h3; cases h3
      exact h4.one u (List.mem_of_getElem? h2)) hsm hbytes (Nat.zero_le _)
    rw [← List.flatten_append, ← List.length_append] at ho
    obtain ⟨A', c', rfl, hf, h3⟩ := Ey h2 hk (zw _ _ _ _ hrun) hg ((hal0.mono (fun _ _ hr => hr.off h2)).append hal2) ho (fun b' hb' => by
     rcases hat with hat | hat
     ·exact .inl (hat ▸ hb')
     ·rw [hat] at hb'; simp at hb'; subst hb'; exact .inr (Nat.le_refl _))
    unfold Oper.wp execOp
    simp only [resolve, invoke, builtin, Sem.run_bind, Sem.run_pure, Result.andThen_ok, List.map_toArray, List.map_cons, List.map_nil, h1.ev hp, h1.ev hq, hrun, Oper.upon_value]
    exact K A' c' hf _ _ (h1.put (Nat.le_of_ble_eq_true hdn) _) h3
theorem J7 {α : Type} {W : World} (κ : Nat) {A : Option Addr} {c e i fo : Nat} {t : Fl α} {l : List α} {x x' : α} {cs : List Value} (h : HF w W E) (hk : E κ = ow A c e t l) (hx : l[i]? = some x)
  (hup : ∀ u, t.ok w.O w.W u x → ∃ u', t.ok w.O w.W u' x' ∧ t.enc u' x' = (t.enc u x).take fo ++ cs ++ (t.enc u x).drop (fo + cs.length)) (hfit : fo + cs.length ≤ t.sz) :
  ∃ vs : List Value, W.heap[mV A]? = some (.cells vs.toArray e (0, 0)) ∧ pW A + i * t.sz + fo + cs.length ≤ vs.length ∧
   HF w (W.setRow (mV A) (vs.take (pW A + i * t.sz + fo) ++ cs ++ vs.drop (pW A + i * t.sz + fo + cs.length)).toArray) (up E κ (ow A c e t (l.set i x'))) := by
 obtain ⟨css, hal, hown⟩ := h.ow hk
 obtain ⟨cs0, hcs0, u, hu, rfl⟩ := hal.at_ hx
 obtain ⟨hlen, h2⟩ := hown
 rcases h2 with ⟨ev, h0⟩ | ⟨g, cap, cur, ev, hb0, hh, hn, hc, hs, ht⟩
 ·have hl : l = [] := List.eq_nil_of_length_eq_zero h0
  subst hl; simp at hx
 ·simp at ev
  obtain ⟨rfl, rfl⟩ := ev
  have hil : i < l.length := (List.getElem?_eq_some_iff.1 hx).1
  obtain ⟨u', hu', henc⟩ := hup u (t.loc hu (fun _ hb => hb) (fun b hb => (h.keep b (.inl hb)).symm))
  have hrp : rp t w.O W ((t.enc u x).take fo ++ cs ++ (t.enc u x).drop (fo + cs.length)) x' := ⟨u', t.loc hu' (fun _ hb => hb) (fun b hb => h.keep b (.inl hb)), henc.symm⟩
  have hbnd : i * t.sz + t.sz ≤ l.length * t.sz := by rw [← Nat.succ_mul]; exact Nat.mul_le_mul_right _ hil
  have hcur : l.length * t.sz ≤ cur.size := by rw [hs]; exact Nat.mul_le_mul_right _ hn
  refine ⟨cur.toList, by simpa [mV] using hh, by simp [pW]; omega, ?_⟩
  have hal' := hal.set (i := i) hrp
  have hgO : ¬ w.R g := (h.bd κ g (by rw [hk]; rfl)).1
  have hO : ∀ vs, ∀ b, w.O b → (W.setRow g vs).heap[b]? = W.heap[b]? := fun vs b hb => by
   have hne : ¬ g = b := fun e => hgO (.inl (e ▸ hb))
   simp only [World.setRow, Array.getElem?_modify]
   rw [if_neg hne]
  have hm := h.mod (W' := W.setRow g (cur.toList.take (i * t.sz + fo) ++ cs ++ cur.toList.drop (i * t.sz + fo + cs.length)).toArray) κ (Proofs.YtcjeebkoafonpaaGreatDoor.ow (some ⟨g, 0, none⟩) c e t (l.set i x')) rfl rfl rfl (by simp [World.setRow]) (Nat.le_refl _) (fun b hb hs => by
    rw [hk] at hs
    have hne : ¬ g = b := fun e => hs (by rw [← e]; rfl)
    simp only [World.setRow, Array.getElem?_modify]
    rw [if_neg hne]) (nO _ _ _ _ _) ?_ (fun b hb => ?_)
  ·simp only [mV, pW, Nat.zero_add]; exact hm
  ·refine ⟨_, hal'.mono (fun _ _ hr => hr.loc (fun _ hb => hb) (hO _)), ?_, .inr ⟨g, c, _, by simp, Nat.zero_le _, setRow_heap W g cur _ e _ hh, by simpa using hn, hc, ?_, ?_⟩⟩
   ·rw [qi hal']
   ·rw [List.size_toArray, List.length_append, List.length_append, List.length_take, List.length_drop, Array.length_toList]; omega
   ·rw [OY hal hcs0 fo cs hfit, ← ht]
    simp only [List.length_set]
    have key : ∀ (vs cs : List Value) (o m : Nat), o + cs.length ≤ m → m ≤ vs.length → (vs.take o ++ cs ++ vs.drop (o + cs.length)).take m = (vs.take m).take o ++ cs ++ (vs.take m).drop (o + cs.length) := fun vs cs o m h1 h2 => by
     have hle : (vs.take o ++ cs).length = o + cs.length := by simp; omega
     rw [List.take_append, List.take_of_length_le (by omega), hle, List.take_take, Nat.min_eq_left (by omega : o ≤ m), List.drop_take]
    exact key _ _ _ _ (by omega) (by simpa using hcur)
  ·have hb : (Value.slice (some ⟨g, 0, none⟩) (l.set i x').length c).ownBlock = some b := hb
   simp [Value.ownBlock] at hb
   subst hb
   exact ⟨.inl (by rw [hk]; rfl), by simp [World.setRow]; exact (Array.getElem?_eq_some_iff.1 hh).1⟩
def sets {α : Type} (l : List α) (i : Int) (x : α) : Option (List α) := if 0 ≤ i ∧ i.toNat < l.length then some (l.set i.toNat x) else none
theorem BK {α : Type} {l l' : List α} {i : Int} {x : α} (h : sets l i x = some l') : l.set i.toNat x = l' := by unfold sets at h; split at h; exact Option.some.inj h; cases h
theorem nZ {α : Type} {l l' : List α} {i : Int} {x : α} (h : sets l i x = some l') : l'.length = l.length := by rw [← BK h, List.length_set]
theorem oK {α : Type} (κ : Nat) {A : Option Addr} {c e fo o : Nat} {i : Int} {t : Fl α} {l l' : List α} {x : α} (x' : α) {cs : List Value} (hw : Wn ops f ⟨none, .store T p q, ty, pos, af, g⟩) (hp : ev f p = some (.pointer (some ⟨mV A, o, none⟩))) (hq : ev f q = some v) (hv : v.cells = cs.toArray)
  (ho : o = pW A + i.toNat * t.sz + fo) (hk : E κ = ow A c e t l) (hx : l[i.toNat]? = some x) (hs : lT P T = some cs.length) (h1 : cs.all (·.oneCell') = true)
  (hup : ∀ u, t.ok w.O w.W u x → ∃ u', t.ok w.O w.W u' x' ∧ t.enc u' x' = (t.enc u x).take fo ++ cs ++ (t.enc u x).drop (fo + cs.length)) (hfit : Nat.ble (fo + cs.length) t.sz = true) (hset : sets l i x' = some l')
  (K : Tr w n f (up E κ (ow A c e t l')) (wpList P ops Q rest)) : Tr w n f E (wpList P ops Q (⟨none, .store T p q, ty, pos, af, g⟩ :: rest)) :=
 Tr.op hw fun a W k1 k2 => by
  subst ho
  obtain ⟨vs, hh, hle, hnew⟩ := J7 κ k2 hk hx hup (Nat.le_of_ble_eq_true hfit)
  rw [BK hset] at hnew
  unfold Oper.wp
  rw [run_store hs (k1.ev hp) (k1.ev hq) hv hh (Nat.ble_eq_true_of_le hle) h1]
  exact K _ _ k1 hnew
theorem Nr {α : Type} (κ : Nat) {A : Option Addr} {c e : Nat} {t : Fl α} {l : List α} (m : Nat) (hm : m ≤ l.length) (hk : E κ = ow A c e t l) (K : Tr w n f (up E κ (ow A c e t (l.take m))) X) : Tr w n f E X := fun a W h1 h2 => by
 refine K a W h1 (h2.mod κ _ rfl rfl rfl (Nat.le_refl _) (Nat.le_refl _) (fun _ _ _ => rfl) (nO _ _ _ _ _) ?_ (fun b hb => ?_))
 ·obtain ⟨css, hal, hl, h0⟩ := h2.ow hk
  have hlen : (l.take m).length = m := by simp; omega
  refine ⟨css.take m, hal.take m, ?_, ?_⟩
  ·rw [qi (hal.take m)]
  ·rcases h0 with ⟨e1, e2⟩ | ⟨g, cap, cur, ev, hb0, hh, hn, hc, hs, ht⟩
   ·simp at e1
    obtain ⟨rfl, hl0, rfl⟩ := e1
    left
    have : l = [] := List.eq_nil_of_length_eq_zero (by omega)
    subst this
    simp
   ·simp at ev
    obtain ⟨rfl, rfl⟩ := ev
    refine .inr ⟨g, c, cur, rfl, hb0, hh, by omega, hc, hs, ?_⟩
    rw [hlen, F8 hal, ← ht, List.take_take, Nat.min_eq_left (Nat.mul_le_mul_right _ hm)]
 ·have hb' : (E κ).S b := by
   rw [hk]
   have hb : (Value.slice A (l.take m).length c).ownBlock = some b := hb
   show (Value.slice A l.length c).ownBlock = some b
   cases A with
   | none => simp [Value.ownBlock] at hb
   | some a => simpa [Value.ownBlock] using hb
  exact ⟨.inl hb', (h2.bd κ b hb').2⟩
def Hz (f : Nat → Option Value) : List Operand → List Value → Prop
 | [], [] => True
 | x :: l, v :: m => ev f x = some v ∧ Hz f l m
 | _, _ => False
theorem yS : ∀ {l : List Operand} {m : List Value} (_ : Hz f l m) (a : Act) (_ : FR n f a), l.map a.eval = m
 | [], [], _, _, _ => rfl
 | x :: l, v :: m, h, a, hf => by
  obtain ⟨h2, h3⟩ := h
  rw [List.map_cons, hf.ev h2, yS h3 a hf]
 | [], _ :: _, h, _, _ => h.elim
 | _ :: _, [], h, _, _ => h.elim
theorem aL : Hz f [] [] := trivial
theorem aj {x : Operand} {v : Value} {l : List Operand} {m : List Value} (h : ev f x = some v) (h2 : Hz f l m) : Hz f (x :: l) (v :: m) := ⟨h, h2⟩
@[reducible] def HF.sub {W : World} (h : HF w W E) (P : Nat → Prop) : Bs := ⟨W, w.O, fun b => b < W.heap.size ∧ ¬ P b, fun b hb => by
 rcases hb with hb | hb
 ·exact h.GR (.inl hb)
 ·exact hb.1⟩
@[reducible] def HF.all {W : World} (h : HF w W E) : Bs := h.sub (fun _ => False)
theorem HF.Rf {W : World} (h : HF w W E) {b : Nat} (hb : b < W.heap.size) : h.all.R b := .inr ⟨hb, id⟩
theorem HF.Bq {W W' : World} {E1 : Nat → jv} (h : HF w W E) (h' : HF h.all W' E1) : Below W.heap.size W W' := ⟨h'.os, h'.tape, h'.output, h'.size, fun b hb => h'.keep b (h.Rf hb), h'.drawn⟩
theorem HF.sK {α : Type} {W : World} {t : Fl α} {A : Option Addr} {c e k : Nat} {l : List α} (hW : HF w W E) (hk : E k = Proofs.YtcjeebkoafonpaaGreatDoor.ow A c e t l) : Sl hW.all.R hW.all.W t A c l := (hW.VC hk).mono (fun _ hb => hW.Rf hb)
def oh (ins : List jv) : Nat → Prop := fun b => ∃ e ∈ ins, e.S b
def iF (es : List jv) : Nat → jv := fun k => match es[k]? with | some e => e | none => emp
def Pk (E : Nat → jv) : List Nat → List jv → Prop
 | [], [] => True
 | k :: ks, e :: es => E k = e ∧ Pk E ks es
 | _, _ => False
theorem Pk.len {E : Nat → jv} : ∀ {ks : List Nat} {es : List jv}, Pk E ks es → ks.length = es.length
 | [], [], _ => rfl
 | _ :: _, _ :: _, h => by simp [Pk.len h.2]
 | [], _ :: _, h => h.elim
 | _ :: _, [], h => h.elim
theorem Pk.at_ {E : Nat → jv} : ∀ {ks : List Nat} {es : List jv}, Pk E ks es → ∀ {j k : Nat}, ks[j]? = some k → es[j]? = some (E k)
 | _ :: _, _ :: _, h, 0, k, hj => by simp at hj; subst hj; simp [h.1]
 | _ :: _, _ :: _, h, j + 1, k, hj => by simpa using Pk.at_ h.2 (by simpa using hj)
 | [], [], _, _, _, hj => by simp at hj
 | [], _ :: _, h, _, _, _ => h.elim
 | _ :: _, [], h, _, _, _ => h.elim
theorem PY {es : List jv} {k : Nat} {e : jv} (h : es[k]? = some e) : iF es k = e := by simp [iF, h]
theorem Rm {es : List jv} {k : Nat} (h : es[k]? = none) : iF es k = emp := by simp [iF, h]
theorem HF.pick {W : World} (h : HF w W E) {ks : List Nat} {es : List jv} (hn : ks.Nodup) (hp : Pk E ks es) : HF w W (iF es) := by
 have key : ∀ j, (∃ k, ks[j]? = some k ∧ iF es j = E k) ∨ iF es j = emp := fun j => by
  cases hj : ks[j]? with
  | some k => exact .inl ⟨k, rfl, PY (hp.at_ hj)⟩
  | none =>
   right
   have : ks.length ≤ j := List.getElem?_eq_none_iff.1 hj
   exact Rm (List.getElem?_eq_none (by rw [← hp.len]; exact this))
 refine ⟨h.os, h.tape, h.output, h.size, h.drawn, h.keep, fun j => ?_, fun j => ?_, fun j b => ?_, fun i j b hij => ?_⟩
 ·rcases key j with ⟨k, _, e⟩ | e <;> rw [e]; exact h.phi k; trivial
 ·rcases key j with ⟨k, _, e⟩ | e <;> rw [e]; exact h.loc k; exact uE
 ·rcases key j with ⟨k, _, e⟩ | e <;> rw [e]
  ·exact h.bd k b
  ·exact fun hh => hh.elim
 ·rcases key i with ⟨k, hk, e⟩ | e <;> rcases key j with ⟨k', hk', e'⟩ | e' <;> rw [e, e']
  ·refine h.disj k k' b (fun hkk => hij ?_)
   subst hkk
   obtain ⟨h1, h2⟩ := List.getElem?_eq_some_iff.1 hk
   obtain ⟨h3, h4⟩ := List.getElem?_eq_some_iff.1 hk'
   exact (List.getElem_inj hn).1 (h2.trans h4.symm)
  ·exact fun _ hh => hh.elim
  ·exact fun hh => hh.elim
  ·exact fun hh => hh.elim
theorem HF.Nb {W : World} (h : HF w W E) {ks : List Nat} {ins : List jv} (hn : ks.Nodup) (hp : Pk E ks ins) : HF (h.sub (oh ins)) W (iF ins) := by
 have h' := h.pick hn hp
 refine ⟨rfl, rfl, rfl, Nat.le_refl _, Nat.le_refl _, fun _ _ => rfl, h'.phi, h'.loc, fun j b hb => ⟨fun hr => ?_, (h'.bd j b hb).2⟩, h'.disj⟩
 rcases hr with hr | hr
 ·exact (h'.bd j b hb).1 (.inl hr)
 ·refine hr.2 ?_
  unfold iF at hb
  split at hb
  ·rename_i e he
   exact ⟨e, List.mem_of_getElem? he, hb⟩
  ·exact hb.elim
def Nz (E : Nat → jv) : List Nat → List jv → Nat → jv
 | k :: ks, e :: es => up (Nz E ks es) k e
 | _, _ => E
theorem uN : ∀ (ks : List Nat) (es : List jv) (_ : es.length = ks.length) (k : Nat), (∃ j : Nat, ks[j]? = some k ∧ Nz E ks es k = iF es j ∧ j < es.length) ∨ ((∀ j : Nat, ks[j]? ≠ some k) ∧ Nz E ks es k = E k)
 | [], [], _, k => .inr ⟨fun j h => by simp at h, rfl⟩
 | k0 :: ks, e :: es, hl, k => by
  unfold Nz
  rcases dW (Nz E ks es) k0 e k with ⟨h1, h2⟩ | ⟨h1, h2⟩
  ·subst h1
   exact .inl ⟨0, rfl, by rw [h2]; rfl, by simp⟩
  ·rw [h2]
   rcases uN ks es (by simpa using hl) k with ⟨j, h3, h4, h5⟩ | ⟨h3, h4⟩
   ·exact .inl ⟨j + 1, by simpa using h3, h4, by simpa using h5⟩
   ·refine .inr ⟨fun j hj => ?_, h4⟩
    cases j with
    | zero => simp at hj; exact h1 hj.symm
    | succ j => exact h3 j (by simpa using hj)
 | [], _ :: _, hl, _ => by simp at hl
 | _ :: _, [], hl, _ => by simp at hl
@[reducible] def HF.after {W : World} (h : HF w W E) {Pr : Nat → Prop} {w' : Bs} (hle : (h.sub Pr).Le w') : Bs := ⟨w'.W, w'.O, w.K, fun b hb => by
 rcases hb with hb | hb
 ·exact w'.lt b (.inl hb)
 ·exact Nat.lt_of_lt_of_le (h.GR (.inr hb)) hle.size⟩
theorem yO {W : World} {ks : List Nat} {ins : List jv} (h : HF w W E) (hp : Pk E ks ins) {b : Nat} (hb : oh ins b) : ∃ k j : Nat, ks[j]? = some k ∧ (E k).S b := by
 obtain ⟨e, he, hs⟩ := hb
 obtain ⟨j, hj, hje⟩ := List.getElem_of_mem he
 have hjk : j < ks.length := by rw [hp.len]; exact hj
 have := hp.at_ (List.getElem?_eq_getElem hjk)
 rw [List.getElem?_eq_getElem hj, Option.some.injEq] at this
 exact ⟨_, j, List.getElem?_eq_getElem hjk, by rw [← this, hje]; exact hs⟩
theorem HF.wU {W : World} {ks : List Nat} {ins : List jv} (h : HF w W E) (hp : Pk E ks ins) {w' : Bs} (hle : (h.sub (oh ins)).Le w') : w.Le (h.after hle) := by
 have hK : ∀ b, w.K b → (h.sub (oh ins)).K b := fun b hb => ⟨h.GR (.inr hb), fun hi => by
  obtain ⟨k, _, _, hs⟩ := yO h hp hi
  exact (h.bd k b hs).1 (.inr hb)⟩
 refine ⟨hle.os.trans h.os, hle.tape.trans h.tape, hle.output.trans h.output, Nat.le_trans h.size hle.size, Nat.le_trans h.drawn hle.drawn, fun b hb => hle.sub b hb, fun b hb => ?_, rfl, fun b hb => ?_⟩
 ·rcases hle.new b hb with h1 | h1
  ·exact .inl h1
  ·exact .inr (fun hk => h1 (hK b hk))
 ·exact (hle.blk b (hb.imp id (hK b))).trans (h.keep b hb)
theorem HF.back {W W' : World} {ks : List Nat} {ins outs : List jv} (h : HF w W E) (hn : ks.Nodup) (hp : Pk E ks ins) {w' : Bs} (hle : (h.sub (oh ins)).Le w') (h' : HF w' W' (iF outs)) (hl : outs.length = ks.length) :
  HF (h.after hle) W' (Nz E ks outs) := by
 have hK : ∀ b, w.K b → w'.K b := fun b hb => by
  rw [hle.lent]
  exact ⟨h.GR (.inr hb), fun hi => by
   obtain ⟨k, _, _, hs⟩ := yO h hp hi
   exact (h.bd k b hs).1 (.inr hb)⟩
 have hS : ∀ k b, (∀ j : Nat, ks[j]? ≠ some k) → (E k).S b → (h.sub (oh ins)).K b := fun k b hk hs => ⟨(h.bd k b hs).2, fun hi => by
  obtain ⟨k', j, hj, hs'⟩ := yO h hp hi
  exact h.disj k k' b (fun e => hk j (by rw [e]; exact hj)) hs hs'⟩
 have hsame : ∀ b, w.O b ∨ (h.sub (oh ins)).K b → W'.heap[b]? = W.heap[b]? := fun b hb => by
  have hr : w'.R b := hle.r b hb
  exact (h'.keep b hr).trans (hle.blk b hb)
 refine ⟨h'.os, h'.tape, h'.output, h'.size, h'.drawn, fun b hb => ?_, fun k => ?_, fun k => ?_, fun k b hs => ?_, fun i j b hij => ?_⟩
 ·exact h'.keep b (hb.imp id (hK b))
 ·rcases uN (E := E) ks outs hl k with ⟨j, h1, h2, _⟩ | ⟨h1, h2⟩ <;> rw [h2]
  ·exact h'.phi j
  ·exact (h.loc k).up _ _ _ (fun b hb => hle.sub b hb) ((h.loc k).at_ _ W W' (fun b hb => by
    rcases hb with hb | hb
    ·exact hsame b (.inl hb)
    ·exact hsame b (.inr (hS k b h1 hb))) (h.phi k))
 ·rcases uN (E := E) ks outs hl k with ⟨j, h1, h2, _⟩ | ⟨h1, h2⟩ <;> rw [h2]
  ·exact h'.loc j
  ·exact h.loc k
 ·rcases uN (E := E) ks outs hl k with ⟨j, h1, h2, _⟩ | ⟨h1, h2⟩ <;> rw [h2] at hs
  ·exact ⟨fun hr => (h'.bd j b hs).1 (hr.imp id (hK b)), (h'.bd j b hs).2⟩
  ·have hk := hS k b h1 hs
   refine ⟨fun hr => ?_, Nat.lt_of_lt_of_le hk.1 (Nat.le_trans hle.size h'.size)⟩
   rcases hr with hr | hr
   ·rcases hle.new b hr with h3 | h3
    ·exact (h.bd k b hs).1 (.inl h3)
    ·exact h3 hk
   ·exact (h.bd k b hs).1 (.inr hr)
 ·rcases uN (E := E) ks outs hl i with ⟨i1, i2, i3, _⟩ | ⟨i2, i3⟩ <;> rcases uN (E := E) ks outs hl j with ⟨j1, j2, j3, _⟩ | ⟨j2, j3⟩ <;> rw [i3, j3]
  ·refine h'.disj i1 j1 b (fun e => hij ?_)
   subst e
   rw [i2] at j2
   exact Option.some.inj j2
  ·intro hs hs'
   exact (h'.bd i1 b hs).1 (.inr (by rw [hle.lent]; exact hS j b j2 hs'))
  ·intro hs hs'
   exact (h'.bd j1 b hs').1 (.inr (by rw [hle.lent]; exact hS i b i2 hs))
  ·exact h.disj i j b hij
theorem HF.N9 {W : World} {w' : Bs} (hle : w.Le w') (hO : ∀ b, w'.O b → w.O b) (h : HF w' W E) : HF w W E :=
  ⟨h.os.trans hle.os, h.tape.trans hle.tape, h.output.trans hle.output, Nat.le_trans hle.size h.size, Nat.le_trans hle.drawn h.drawn, fun b hb => (h.keep b (hle.r b hb)).trans (hle.blk b hb),
   fun k => (h.loc k).up _ _ _ hO (h.phi k), h.loc, fun k b hs => ⟨fun hr => (h.bd k b hs).1 (hle.r b hr), (h.bd k b hs).2⟩, h.disj⟩
def jv.Any (e : jv) : Prop := ∀ O O' W, e.φ O W → e.φ O' W
theorem Ps (b : Nat) (vs : Array Value) (T : Nat) : (Proofs.YtcjeebkoafonpaaGreatDoor.bx b vs T).Any := fun _ _ _ h => h
theorem QZ : emp.Any := fun _ _ _ h => h
theorem qI {α : Type} (A : Option Addr) (c T : Nat) {t : Fl α} (l : List α) (ht : t.PK) : (Proofs.YtcjeebkoafonpaaGreatDoor.ow A c T t l).Any := fun O O' W h => by
 obtain ⟨css, h0, h1⟩ := h
 exact ⟨css, h0.mono (fun _ _ ⟨u, _, h2⟩ => ⟨u, ht _ _ _ _, h2⟩), h1⟩
def Qa : List jv → Prop
 | [] => True
 | e :: es => e.Any ∧ Qa es
theorem Qa.at_ : ∀ {es : List jv}, Qa es → ∀ k, (iF es k).Any
 | [], _, _ => QZ
 | _ :: _, h, 0 => h.1
 | _ :: es, h, k + 1 => Qa.at_ (es := es) h.2 k
theorem HF.zK {W : World} {w' : Bs} {es : List jv} (hle : w.Le w') (h : HF w' W (iF es)) (he : Qa es) : HF w W (iF es) :=
  ⟨h.os.trans hle.os, h.tape.trans hle.tape, h.output.trans hle.output, Nat.le_trans hle.size h.size, Nat.le_trans hle.drawn h.drawn, fun b hb => (h.keep b (hle.r b hb)).trans (hle.blk b hb),
   fun k => he.at_ k _ _ _ (h.phi k), h.loc, fun k b hs => ⟨fun hr => (h.bd k b hs).1 (hle.r b hr), (h.bd k b hs).2⟩, h.disj⟩
theorem wK {a : Act} {W : World} {fn : Nat} {xs : List Operand} {vs : List Value} {ts : Array Nat} {dd : Option Nat} (h1 : FR n f a) (hg : ∀ args W, (callFunc fn args).run P W = .ok (.enter fn args) W) (hx : Hz f xs vs) :
  (execOp a.eval ⟨dd, .call ⟨.value (.func fn), xs.toArray, ts⟩, ty, pos, af, g⟩).run P W = .ok (.enter fn vs.toArray) W := by
 have := yS hx a h1
 simp [execOp, resolve, invoke, Deferred.ofValue, Act.eval, hg, this]
theorem di {fn : Nat} {xs : List Operand} {vs : List Value} {ts : Array Nat} {r : Value} (hw : Wn ops f ⟨some d, .call ⟨.value (.func fn), xs.toArray, ts⟩, ty, pos, af, g⟩) (hdn : Nat.blt d n = true)
  (hg : ∀ args W, (callFunc fn args).run P W = .ok (.enter fn args) W) (hx : Hz f xs vs)
  (hc : ∀ W (hW : HF w W E), Calls P fn vs.toArray W fun e W' => e = .returned r ∧ HF hW.all W' E0)
  (K : Tr w n (uf f d r) E (wpList P ops Q rest)) : Tr w n f E (wpList P ops Q (⟨some d, .call ⟨.value (.func fn), xs.toArray, ts⟩, ty, pos, af, g⟩ :: rest)) :=
 Tr.op hw fun a W h1 h2 => by
  unfold Oper.wp
  rw [wK h1 hg hx]
  refine (hc W h2).mono fun e W' ⟨he, hb⟩ => ?_
  subst he
  exact K _ _ (h1.put (Nat.le_of_ble_eq_true hdn) _) (h2.later (h2.Bq hb))
theorem ja {U : Type} {fn : Nat} {xs : List Operand} {vs : List Value} {ts : Array Nat} (ks : List Nat) (ins : List jv) (V : U → Value) (Φ : U → Prop) (outs : U → List jv) (hn : decide ks.Nodup = true) (hp : Pk E ks ins) (hl : ∀ u, (outs u).length = ks.length)
  (hw : Wn ops f ⟨some d, .call ⟨.value (.func fn), xs.toArray, ts⟩, ty, pos, af, g⟩) (hdn : Nat.blt d n = true)
  (hg : ∀ args W, (callFunc fn args).run P W = .ok (.enter fn args) W) (hx : Hz f xs vs)
  (hc : ∀ W (hW : HF w W E) (_ : Pk E ks ins), HF (hW.sub (oh ins)) W (iF ins) → Calls P fn vs.toArray W fun e W' => ∃ u, e = .returned (V u) ∧ Φ u ∧ HF (hW.sub (oh ins)) W' (iF (outs u)))
  (K : ∀ u, Φ u → Tr w n (uf f d (V u)) (Nz E ks (outs u)) (wpList P ops Q rest)) : Tr w n f E (wpList P ops Q (⟨some d, .call ⟨.value (.func fn), xs.toArray, ts⟩, ty, pos, af, g⟩ :: rest)) :=
 Tr.op hw fun a W h1 h2 => by
  unfold Oper.wp
  rw [wK h1 hg hx]
  have hn' := of_decide_eq_true hn
  refine (hc W h2 hp (h2.Nb hn' hp)).mono fun e W' ⟨u, he, hu, hb⟩ => ?_
  subst he
  exact K u hu _ _ (h1.put (Nat.le_of_ble_eq_true hdn) _) (HF.N9 (h2.wU hp (.refl _)) (fun _ h => h) (h2.back hn' hp (.refl _) hb (hl u)))
theorem fq {U : Type} {fn : Nat} {xs : List Operand} {vs : List Value} {ts : Array Nat} (ks : List Nat) (ins : List jv) (V : U → Value) (Φ : (Nat → Prop) → World → U → Prop) (outs : U → List jv) (hn : decide ks.Nodup = true) (hp : Pk E ks ins) (hl : ∀ u, (outs u).length = ks.length)
  (hw : Wn ops f ⟨some d, .call ⟨.value (.func fn), xs.toArray, ts⟩, ty, pos, af, g⟩) (hdn : Nat.blt d n = true)
  (hg : ∀ args W, (callFunc fn args).run P W = .ok (.enter fn args) W) (hx : Hz f xs vs)
  (hc : ∀ W (hW : HF w W E) (_ : Pk E ks ins), HF (hW.sub (oh ins)) W (iF ins) → Calls P fn vs.toArray W fun e W' => ∃ w' u, (hW.sub (oh ins)).Le w' ∧ e = .returned (V u) ∧ Φ w'.O w'.W u ∧ HF w' W' (iF (outs u)))
  (K : ∀ w' u, w.Le w' → Φ w'.O w'.W u → Tr w' n (uf f d (V u)) (Nz E ks (outs u)) (wpList P ops Q rest)) : Tr w n f E (wpList P ops Q (⟨some d, .call ⟨.value (.func fn), xs.toArray, ts⟩, ty, pos, af, g⟩ :: rest)) :=
 Tr.op hw fun a W h1 h2 => by
  unfold Oper.wp
  rw [wK h1 hg hx]
  have hn' := of_decide_eq_true hn
  refine (hc W h2 hp (h2.Nb hn' hp)).mono fun e W' ⟨w', u, hle, he, hu, hb⟩ => ?_
  subst he
  exact K (h2.after hle) u (h2.wU hp hle) hu _ _ (h1.put (Nat.le_of_ble_eq_true hdn) _) (h2.back hn' hp hle hb (hl u))
def UT : List Value → Nat → Nat → Option Value
 | [], _ => f0
 | v :: l, i => uf (UT l (i + 1)) i v
theorem OO : ∀ (l : List Value) (i t : Nat) (v : Value), UT l i t = some v → i ≤ t ∧ l[t - i]? = some v
 | [], _, _, _, h => by cases h
 | u :: l, i, t, v, h => by
  unfold UT uf at h
  by_cases e : t = i
  ·subst e; simp at h; subst h; simp
  ·have : Nat.beq t i = false := by rw [Bool.eq_false_iff]; intro hh; exact e (Nat.eq_of_beq_eq_true hh)
   rw [this] at h
   have ih := OO l (i + 1) t v h
   refine ⟨by omega, ?_⟩
   rw [show t - i = (t - (i + 1)) + 1 by omega]
   simpa using ih.2
theorem aZ {fn : Nat} {fu : Func} {c : Code} {vs : List Value} {R : Ending → World → Prop} (hf : P.funcs[fn]? = some fu) (hb : fu.body = some c) (hn : fu.ntmps = n) (hle : Nat.ble vs.length n = true) (hE : HF w w.W E)
  (h : Tr w n (UT vs 0) E (c.wp P (bodyPost P fu R))) : Calls P fn vs.toArray w.W R := by
 refine calls_of_wp hf hb (h _ _ ⟨?_, rfl, fun t v hv => ?_⟩ hE)
 ·have := Nat.le_of_ble_eq_true hle
  simp [hn]; omega
 ·obtain ⟨_, h2⟩ := OO _ _ _ _ hv
  have h2 : vs[t]? = some v := by simpa using h2
  have hlt := (List.getElem?_eq_some_iff.1 h2).1
  rw [Array.getElem?_append_left (by simpa using hlt)]
  simpa using h2
def zU (P : Program) (f : Nat → Option Value) (E : Nat → jv) : List ResultVar → List Value → List Nat → Prop
 | [], [], _ => True
 | .tmp t :: l, v :: m, ks => f t = some v ∧ zU P f E l m ks
 | .cell t T :: l, .agg cs :: m, k :: ks => (∃ b T2, f t = some (.pointer (some ⟨b, 0, none⟩)) ∧ E k = bx b cs T2) ∧ lK P T = some true ∧ lT P T = some cs.size ∧ zU P f E l m ks
 | _, _, _ => False
def Eb (tmps : Array Value) : ResultVar → Sem Value
 | .tmp t => pure (tmps.getD t undef)
 | .cell a t => do loadVar t (← asAddr (tmps.getD a undef))
theorem IU (fu : Func) (tmps : Array Value) : results fu tmps = (do let vs ← fu.results.mapM (Eb tmps); pure (if h : vs.size = 1 then vs[0] else .tuple vs)) := by
 unfold results
 congr 1
theorem BN {w : Bs} {W : World} {E : Nat → jv} {a : Act} (h1 : FR n f a) (h2 : HF w W E) : ∀ {l : List ResultVar} {m : List Value} {ks : List Nat} (_ : zU P f E l m ks),
  (l.mapM (Eb a.tmps)).run P W = .ok m W
 | [], [], _, _ => by simp
 | .tmp t :: l, v :: m, ks, h => by
  obtain ⟨ht, hr⟩ := h
  have ih := BN h1 h2 hr
  rw [List.mapM_cons, Sem.run_bind]
  have e : Eb a.tmps (.tmp t) = pure v := by simp [Eb, h1.get t v ht]
  simp only [e, Sem.run_pure, Result.andThen_ok, Sem.run_bind, ih]
 | .cell t T :: l, .agg cs :: m, k :: ks, h => by
  obtain ⟨⟨b, T2, ht, hk⟩, ha, hs, hr⟩ := h
  have ih := BN h1 h2 hr
  have hl : (loadVar T ⟨b, 0, none⟩).run P W = .ok (.agg cs) W := by
   unfold lK at ha
   cases hu : P.underlying T with
   | none => rw [hu] at ha; cases ha
   | some dd => rw [hu] at ha; simp at ha; exact run_loadVar_row W b T2 T cs (0, 0) dd (h2.bx hk) hu (by cases dd <;> simp_all) hs
  rw [List.mapM_cons, Sem.run_bind]
  have e : Eb a.tmps (.cell t T) = loadVar T ⟨b, 0, none⟩ := by
   have e1 : a.tmps.getD t undef = .pointer (some ⟨b, 0, none⟩) := by simp [h1.get t _ ht]
   show (asAddr (a.tmps.getD t undef)).bind (fun x => loadVar T x) = _
   rw [e1]; rfl
  simp only [e, Sem.run_bind, Sem.run_pure, Result.andThen_ok, hl, ih]
 | [], _ :: _, _, h => h.elim
 | .tmp _ :: _, [], _, h => h.elim
theorem bO {ks : List Nat} : zU P f E [] [] ks := trivial
theorem cO {t : Nat} {l : List ResultVar} {m : List Value} {ks : List Nat} (h : f t = some v) (h2 : zU P f E l m ks) : zU P f E (.tmp t :: l) (v :: m) ks := ⟨h, h2⟩
theorem og {t T T2 b k : Nat} {cs : Array Value} {l : List ResultVar} {m : List Value} {ks : List Nat} (h : f t = some (.pointer (some ⟨b, 0, none⟩))) (hk : E k = bx b cs T2) (ha : lK P T = some true) (hs : lT P T = some cs.size) (h2 : zU P f E l m ks) :
  zU P f E (.cell t T :: l) (.agg cs :: m) (k :: ks) := ⟨⟨b, T2, h, hk⟩, ha, hs, h2⟩
theorem Tr.out {fu : Func} {R : Ending → World → Prop} {m : List Value} (ks : List Nat) (hr : zU P f E fu.results.toList m ks) (h : ∀ W, HF w W E → R (.returned (match m with | [v] => v | _ => .tuple m.toArray)) W) : Tr w n f E (bodyPost P fu R .ret) :=
 fun a W h1 h2 => by
  have hm := BN h1 h2 hr
  refine ⟨h1.dfr, _, ?_, h W h2⟩
  rw [IU, Array.mapM_eq_mapM_toList]
  simp only [Sem.run_bind, Sem.run_map, hm, Result.andThen_ok]
  match m with
  | [] => rfl
  | [v] => rfl
  | v :: u :: m => simp
end
open Go.RowKit
def idx {α : Type} (l : List α) (i : Int) : Option α := if 0 ≤ i then l[i.toNat]? else none
theorem aU {α : Type} {l : List α} {i : Int} {x : α} (h : idx l i = some x) : 0 ≤ i ∧ i.toNat < l.length ∧ l[i.toNat]? = some x := by
 unfold idx at h
 split at h
 ·exact ⟨by assumption, (List.getElem?_eq_some_iff.1 h).1, h⟩
 ·cases h
def dv (a b : Int) : Option Int := if b = 0 then none else some (bG (a.tdiv b))
def md (a b : Int) : Option Int := if b = 0 then none else some (a.tmod b)
theorem Q3 {a b c : Int} (h : dv a b = some c) : b ≠ 0 ∧ bG (a.tdiv b) = c := by unfold dv at h; split at h; cases h; exact ⟨by assumption, Option.some.inj h⟩
theorem QH {a b c : Int} (h : md a b = some c) : b ≠ 0 ∧ a.tmod b = c := by unfold md at h; split at h; cases h; exact ⟨by assumption, Option.some.inj h⟩
def Pm (s t : ByteArray) : Option ByteArray := if s.size + t.size ≤ 9223372036854775807 then some (s ++ t) else none
theorem Nl {s t x : ByteArray} (h : Pm s t = some x) : s.size + t.size ≤ 9223372036854775807 ∧ s ++ t = x := by unfold Pm at h; split at h; exact ⟨by assumption, Option.some.inj h⟩; cases h
theorem bnd {α β : Type} {o : Option α} {k : α → Option β} {r : β} (h : o.bind k = some r) : ∃ x, o = some x ∧ k x = some r := Option.bind_eq_some_iff.1 h
def lt {α β : Type} (a : α) (k : α → Option β) : Option β := k a
theorem y5.nil {f : Nat → Option Value} : y5 f [] := trivial
theorem y5.cons {f : Nat → Option Value} {t : Nat} {v : Value} {l : List (Nat × Value)} (h : f t = some v) (h2 : y5 f l) : y5 f ((t, v) :: l) := ⟨h, h2⟩
theorem yj.nil {E : Nat → jv} : yj E [] := trivial
theorem yj.cons {E : Nat → jv} {k : Nat} {e : jv} {l : List (Nat × jv)} (h : E k = e) (h2 : yj E l) : yj E ((k, e) :: l) := ⟨h, h2⟩
theorem jQ {α : Type} {r : α} {p : Prop} (h : none = some r) : p := by cases h
theorem dZ {α : Type} {l : List α} {i : Nat} (hd : [] = l.drop i) : decide ((i : Int) < (l.length : Int)) = false := by
 have : l.length ≤ i := List.drop_eq_nil_iff.1 hd.symm
 exact decide_eq_false (by omega)
theorem bF {α : Type} {l rest : List α} {x : α} {i : Nat} (hd : x :: rest = l.drop i) : i < l.length := by
 rcases Nat.lt_or_ge i l.length with h | h
 ·exact h
 ·rw [List.drop_of_length_le h] at hd; cases hd
theorem fJ {α : Type} {l rest : List α} {x : α} {i : Nat} (hd : x :: rest = l.drop i) : decide ((i : Int) < (l.length : Int)) = true := decide_eq_true (by have := bF hd; omega)
theorem gy {α : Type} {l rest : List α} {x : α} {i : Nat} (hd : x :: rest = l.drop i) : l[i]? = some x := by
 have h := bF hd
 rw [List.drop_eq_getElem_cons h] at hd
 rw [List.getElem?_eq_getElem h]
 exact congrArg some (List.cons.inj hd).1.symm
theorem fe {α : Type} {l rest : List α} {x : α} {i : Nat} (hd : x :: rest = l.drop i) : rest = l.drop (i + 1) := by
 have h := bF hd
 rw [List.drop_eq_getElem_cons h] at hd
 exact (List.cons.inj hd).2
theorem eZ {α : Type} {l rest : List α} {x : α} {i c : Nat} {A : Option Addr} (hd : x :: rest = l.drop i) (hf : dM A l.length c) : bG ((i : Int) + 1) = ((i + 1 : Nat) : Int) := by
 have h := bF hd
 have h2 := hf.1
 have h3 := hf.2.1
 unfold maxLen at h3
 rw [Gv (by omega) (by omega)]; omega
section
variable {P : Program} {w : Bs} {n : Nat} {f : Nat → Option Value} {E : Nat → jv} {X Y : Act → World → Prop} {Q : Exit → Act → World → Prop} {x y : Code} {ops : Array Oper} {rest l : List Oper}
variable {d ty T T' : Nat} {pos : String} {af : Array Edge} {g : Option (Nat × Bool)} {p q : Operand} {u v : Value}
theorem kT {σ : Type} (C : Bs → σ → Prop) (fs : σ → List (Nat × Value)) (es : σ → List (Nat × jv)) (h : Tr w n f E (x.wp P (Exit.then (Inv w n (fun _ => C) fs es 0) Q))) (h2 : ∀ w' s, w.Le w' → C w' s → Tr w' n (LF (fs s)) (LE (es s)) (y.wp P Q)) :
  Tr w n f E ((Code.seq x y).wp P Q) := Tr.cut _ h (fun a W ⟨w', s, hle, hs, k1, k2⟩ => h2 w' s hle hs a W k1 k2)
theorem MO {o : Oper} {a : Act} {N N' : Act → World → Prop} {Q' : Exit → Act → World → Prop} {r : Result Next} (hN : ∀ a w, N a w → N' a w) (hQ : ∀ c a w, Q (.panic c) a w → Q' (.panic c) a w) (hL : LetsOut Q → LetsOut Q')
    (h : o.upon P a N Q r) : o.upon P a N' Q' r := by
  cases r with
  | ok nx w' =>
    cases nx <;> simp only [Oper.upon] at h ⊢ <;> first
      | exact hN _ _ h
      | (refine h.mono fun e w' hq => ?_
         first
         | exact hN _ _ hq
         | (cases e with
            | returned v => exact hN _ _ hq
            | panicked c => exact hQ _ _ _ hq
            | outgrown => exact hL hq))
      | exact h
  | halt hh w' =>
    cases hh <;> simp only [Oper.upon] at h ⊢ <;> first
      | exact hQ _ _ _ h
      | exact h
theorem xk {X : Act → World → Prop} : ∀ (l1 : List Oper) (a : Act) (W : World), wpList P ops (Exit.then X Q) l1 a W → (∀ a W, X a W → wpList P ops Q rest a W) → wpList P ops Q (l1 ++ rest) a W
 | [], a, W, h, h2 => h2 a W h
 | o :: l1, a, W, h, h2 => by
  have hout : LetsOut (Exit.then X Q) → LetsOut Q := fun ⟨a, w, h⟩ => ⟨a, w, h⟩
  show wpList P ops Q (o :: (l1 ++ rest)) a W
  unfold wpList at h ⊢
  split
  ·rename_i hw
   rw [if_pos hw] at h
   rcases h with h | h
   ·left
    exact MO (fun a w hh => xk l1 a w hh h2) (fun _ _ _ hh => hh) hout h
   ·exact .inr ⟨h.1, hout h.2⟩
  ·rename_i hw
   rw [if_neg hw] at h
   exact xk l1 _ _ h h2
theorem Vx {σ : Type} (m : Nat) (C : Bs → σ → Prop) (fs : σ → List (Nat × Value)) (es : σ → List (Nat × jv)) (h : Tr w n f E (wpList P ops (Exit.then (Inv w n (fun _ => C) fs es 0) Q) (l.take m)))
  (h2 : ∀ w' s, w.Le w' → C w' s → Tr w' n (LF (fs s)) (LE (es s)) (wpList P ops Q (l.drop m))) : Tr w n f E (wpList P ops Q l) := by
 intro a W h1 h3
 have := xk (rest := l.drop m) _ a W (h a W h1 h3) (fun a W ⟨w', s, hle, hs, k1, k2⟩ => h2 w' s hle hs a W k1 k2)
 rwa [List.take_append_drop] at this
theorem pK {h : FuncId} {xs : List Operand} {vs : List Value} (hw : Wn ops f ⟨some d, .makeFunc (.func h) #[] xs.toArray, ty, pos, af, g⟩) (hdn : Nat.blt d n = true) (hx : Hz f xs vs)
  (K : Tr w n (uf f d (.func (.func h) #[] vs.toArray)) E (wpList P ops Q rest)) : Tr w n f E (wpList P ops Q (⟨some d, .makeFunc (.func h) #[] xs.toArray, ty, pos, af, g⟩ :: rest)) :=
 Tr.val hw hdn (fun a W h1 _ => rO (by have := yS hx a h1; simp [this])) K
theorem jh {xs : List (Nat × Operand)} {vs : List (Nat × Value)} {cs : List Value} (hw : Wn ops f ⟨some d, .build T xs.toArray, ty, pos, af, g⟩) (hdn : Nat.blt d n = true) (hx : evs f xs vs) (hb : P.built T vs = some cs.toArray)
  (K : Tr w n (uf f d (.agg cs.toArray)) E (wpList P ops Q rest)) : Tr w n f E (wpList P ops Q (⟨some d, .build T xs.toArray, ty, pos, af, g⟩ :: rest)) :=
 Tr.val hw hdn (fun a W h1 _ => run_build (EG hx a h1) hb) K
theorem vw {fn : Nat} {x : Operand} {xs : List Operand} {vs caps : List Value} {ts : Array Nat} {r : Value} (hw : Wn ops f ⟨some d, .call ⟨.value x, xs.toArray, ts⟩, ty, pos, af, g⟩) (hdn : Nat.blt d n = true)
  (hxf : ev f x = some (.func (.func fn) #[] caps.toArray)) (hg : ∀ args W, (callFunc fn args).run P W = .ok (.enter fn args) W) (hx : Hz f xs vs)
  (hc : ∀ W (hW : HF w W E), Calls P fn (vs ++ caps).toArray W fun e W' => e = .returned r ∧ HF hW.all W' E0)
  (K : Tr w n (uf f d r) E (wpList P ops Q rest)) : Tr w n f E (wpList P ops Q (⟨some d, .call ⟨.value x, xs.toArray, ts⟩, ty, pos, af, g⟩ :: rest)) :=
 Tr.op hw fun a W h1 h2 => by
  have hrun : (execOp a.eval ⟨some d, .call ⟨.value x, xs.toArray, ts⟩, ty, pos, af, g⟩).run P W = .ok (.enter fn (vs ++ caps).toArray) W := by
   have := yS hx a h1
   simp [execOp, resolve, invoke, Deferred.ofValue, h1.ev hxf, hg, this]
  unfold Oper.wp
  rw [hrun]
  refine (hc W h2).mono fun e W' ⟨he, hb⟩ => ?_
  subst he
  exact K _ _ (h1.put (Nat.le_of_ble_eq_true hdn) _) (h2.later (h2.Bq hb))
def Tq (P : Program) (w : Bs) (n : Nat) (ops : Array Oper) (f : Nat → Option Value) (E : Nat → jv) (X : Act → World → Prop) (l : List Oper) : Prop :=
 ∀ a W, FR n f a → HF w W E → wpQuiet P ops (fun W' => Below W.heap.size W W') (fun a' => ∀ W', Below W.heap.size W W' → X a' W') l a
theorem iE (h : Tr w n f E X) : Tq P w n ops f E X [] := fun a _ h1 h2 _ hb => h a _ h1 (h2.later hb)
theorem Tq.val {op : Op} (hw : Wn ops f ⟨some d, op, ty, pos, af, g⟩) (hdn : Nat.blt d n = true) (hr : ∀ a W, FR n f a → HF w W E → (execOp a.eval ⟨some d, op, ty, pos, af, g⟩).run P W = .ok (.value v) W)
  (K : Tq P w n ops (uf f d v) E X rest) : Tq P w n ops f E X (⟨some d, op, ty, pos, af, g⟩ :: rest) := by
 intro a W h1 h2
 unfold wpQuiet
 rw [if_pos (hw n a h1)]
 refine ⟨v, fun W' hb => ?_, K _ W (h1.put (Nat.le_of_ble_eq_true hdn) v) h2⟩
 unfold Oper.quietAt
 rw [hr a W' h1 (h2.later hb)]
 exact ⟨rfl, rfl⟩
theorem Rk {o : Oper} {j t d : Nat} {b b' : Bool} (h : o.guard = some (j, b)) (hj : (ops[j]?).bind (·.dst) = some t) (ht : f t = some (.bool b')) (hne : (b' == b) = false) (hd : o.dst = some d) (hdn : d < n)
  (k : Tq P w n ops (uf f d undef) E X rest) : Tq P w n ops f E X (o :: rest) := by
 intro a W h1 h2
 unfold wpQuiet
 have hw : Region.wanted o (yielded ops a.tmps) = false := by
  simp [Region.wanted, h, yielded, hj, h1.get t _ ht]; exact fun e => by subst e; simp at hne
 rw [if_neg (by rw [hw]; simp), hd]
 exact k _ W (h1.put hdn undef) h2
theorem qV {fn : Nat} {xs : List Operand} {vs : List Value} {ts : Array Nat} {r : Value} (hw : Wn ops f ⟨some d, .call ⟨.value (.func fn), xs.toArray, ts⟩, ty, pos, af, g⟩) (hdn : Nat.blt d n = true)
  (hg : ∀ args W, (callFunc fn args).run P W = .ok (.enter fn args) W) (hx : Hz f xs vs)
  (hc : ∀ W (hW : HF w W E), Calls P fn vs.toArray W fun e W' => e = .returned r ∧ HF hW.all W' E0)
  (K : Tq P w n ops (uf f d r) E X rest) : Tq P w n ops f E X (⟨some d, .call ⟨.value (.func fn), xs.toArray, ts⟩, ty, pos, af, g⟩ :: rest) := by
 intro a W h1 h2
 unfold wpQuiet
 rw [if_pos (hw n a h1)]
 refine ⟨r, fun W' hb => ?_, K _ W (h1.put (Nat.le_of_ble_eq_true hdn) r) h2⟩
 have hrun : (execOp a.eval ⟨some d, .call ⟨.value (.func fn), xs.toArray, ts⟩, ty, pos, af, g⟩).run P W' = .ok (.enter fn vs.toArray) W' := by
  have := yS hx a h1
  simp [execOp, resolve, invoke, Deferred.ofValue, Act.eval, hg, this]
 unfold Oper.quietAt
 rw [hrun]
 exact ⟨rfl, (hc W' (h2.later hb)).mono fun e W'' ⟨he, hb'⟩ => ⟨he, hb.trans (((h2.later hb).Bq hb').mono hb.size)⟩⟩
theorem oo {fn : Nat} {x : Operand} {xs : List Operand} {vs caps : List Value} {ts : Array Nat} {r : Value} (hw : Wn ops f ⟨some d, .call ⟨.value x, xs.toArray, ts⟩, ty, pos, af, g⟩) (hdn : Nat.blt d n = true)
  (hxf : ev f x = some (.func (.func fn) #[] caps.toArray)) (hg : ∀ args W, (callFunc fn args).run P W = .ok (.enter fn args) W) (hx : Hz f xs vs)
  (hc : ∀ W (hW : HF w W E), Calls P fn (vs ++ caps).toArray W fun e W' => e = .returned r ∧ HF hW.all W' E0)
  (K : Tq P w n ops (uf f d r) E X rest) : Tq P w n ops f E X (⟨some d, .call ⟨.value x, xs.toArray, ts⟩, ty, pos, af, g⟩ :: rest) := by
 intro a W h1 h2
 unfold wpQuiet
 rw [if_pos (hw n a h1)]
 refine ⟨r, fun W' hb => ?_, K _ W (h1.put (Nat.le_of_ble_eq_true hdn) r) h2⟩
 have hrun : (execOp a.eval ⟨some d, .call ⟨.value x, xs.toArray, ts⟩, ty, pos, af, g⟩).run P W' = .ok (.enter fn (vs ++ caps).toArray) W' := by
  have := yS hx a h1
  simp [execOp, resolve, invoke, Deferred.ofValue, h1.ev hxf, hg, this]
 unfold Oper.quietAt
 rw [hrun]
 exact ⟨rfl, (hc W' (h2.later hb)).mono fun e W'' ⟨he, hb'⟩ => ⟨he, hb.trans (((h2.later hb).Bq hb').mono hb.size)⟩⟩
theorem Gn {h : FuncId} {xs : List Operand} {vs : List Value} (hw : Wn ops f ⟨some d, .makeFunc (.func h) #[] xs.toArray, ty, pos, af, g⟩) (hdn : Nat.blt d n = true) (hx : Hz f xs vs)
  (K : Tq P w n ops (uf f d (.func (.func h) #[] vs.toArray)) E X rest) : Tq P w n ops f E X (⟨some d, .makeFunc (.func h) #[] xs.toArray, ty, pos, af, g⟩ :: rest) :=
 Tq.val hw hdn (fun a W h1 _ => rO (by have := yS hx a h1; simp [this])) K
theorem Br {xs : List (Nat × Operand)} {vs : List (Nat × Value)} {cs : List Value} (hw : Wn ops f ⟨some d, .build T xs.toArray, ty, pos, af, g⟩) (hdn : Nat.blt d n = true) (hx : evs f xs vs) (hb : P.built T vs = some cs.toArray)
  (K : Tq P w n ops (uf f d (.agg cs.toArray)) E X rest) : Tq P w n ops f E X (⟨some d, .build T xs.toArray, ty, pos, af, g⟩ :: rest) :=
 Tq.val hw hdn (fun a W h1 _ => run_build (EG hx a h1) hb) K
theorem HF.CO {W : World} {k b T : Nat} {vs : List Value} (hW : HF w W E) (hk : E k = Proofs.YtcjeebkoafonpaaGreatDoor.bx b vs.toArray T) : hW.all.R b := hW.Rf (hW.lt hk)
theorem HF.EL {W : World} {k b T : Nat} {vs : List Value} (hW : HF w W E) (hk : E k = Proofs.YtcjeebkoafonpaaGreatDoor.bx b vs.toArray T) : aF hW.all.W b 0 vs := dR hW hk 0
theorem Dp {U : Type} {op : Op} (Φ : U → Prop) (V : U → Value) (hw : Wn ops f ⟨some d, op, ty, pos, af, g⟩) (hdn : Nat.blt d n = true)
  (hr : ∀ a W, FR n f a → HF w W E → ∃ u, Φ u ∧ ∀ W', Below W.heap.size W W' → (execOp a.eval ⟨some d, op, ty, pos, af, g⟩).run P W' = .ok (.value (V u)) W')
  (K : ∀ u, Φ u → Tr w n (uf f d (V u)) E (wpList P ops Q rest)) : Tr w n f E (wpList P ops Q (⟨some d, op, ty, pos, af, g⟩ :: rest)) :=
 Tr.op hw fun a W h1 h2 => by
  obtain ⟨u, hu, hrun⟩ := hr a W h1 h2
  unfold Oper.wp
  rw [hrun W (Below.refl _ _)]
  exact K u hu _ _ (h1.put (Nat.le_of_ble_eq_true hdn) _) h2
theorem uG {U : Type} {op : Op} (Φ : U → Prop) (V : U → Value) (hw : Wn ops f ⟨some d, op, ty, pos, af, g⟩) (hdn : Nat.blt d n = true)
  (hr : ∀ a W, FR n f a → HF w W E → ∃ u, Φ u ∧ ∀ W', Below W.heap.size W W' → (execOp a.eval ⟨some d, op, ty, pos, af, g⟩).run P W' = .ok (.value (V u)) W')
  (K : ∀ u, Φ u → Tq P w n ops (uf f d (V u)) E X rest) : Tq P w n ops f E X (⟨some d, op, ty, pos, af, g⟩ :: rest) := by
 intro a W h1 h2
 obtain ⟨u, hu, hrun⟩ := hr a W h1 h2
 unfold wpQuiet
 rw [if_pos (hw n a h1)]
 refine ⟨V u, fun W' hb => ?_, K u hu _ W (h1.put (Nat.le_of_ble_eq_true hdn) _) h2⟩
 unfold Oper.quietAt
 rw [hrun W' hb]
 exact ⟨rfl, rfl⟩
theorem Fj {α : Type} {κ : Nat} {A : Option Addr} {c e i : Nat} {t : Fl α} {l : List α} {x : α} {V : t.Ad → Value} {op : Op} (hk : E κ = ow A c e t l) (hx : l[i]? = some x)
  (hr : ∀ a W u, FR n f a → aF W (mV A) (pW A + i * t.sz) (t.enc u x) → (execOp a.eval ⟨some d, op, ty, pos, af, g⟩).run P W = .ok (.value (V u)) W) :
  ∀ a W, FR n f a → HF w W E → ∃ u, t.ok w.O w.W u x ∧ ∀ W', Below W.heap.size W W' → (execOp a.eval ⟨some d, op, ty, pos, af, g⟩).run P W' = .ok (.value (V u)) W' := fun a W h1 h2 => by
 obtain ⟨u, hu, hc⟩ := h2.UY hk hx
 refine ⟨u, hu, fun W' hb => hr a W' u h1 (hc.loc (hb.block _ ?_))⟩
 exact (h2.VC hk |>.cells i x hx).1
theorem yz {C : World → Prop} {X Y : Act → Prop} : ∀ (l1 : List Oper) (a : Act), wpQuiet P ops C X l1 a → (∀ a, X a → wpQuiet P ops C Y rest a) → wpQuiet P ops C Y (l1 ++ rest) a
 | [], a, h, h2 => h2 a h
 | o :: l1, a, h, h2 => by
  show wpQuiet P ops C Y (o :: (l1 ++ rest)) a
  unfold wpQuiet at h ⊢
  split
  ·rename_i hw
   rw [if_pos hw] at h
   obtain ⟨v, h3, h4⟩ := h
   exact ⟨v, h3, yz l1 _ h4 h2⟩
  ·rename_i hw
   rw [if_neg hw] at h
   exact yz l1 _ h h2
theorem rz (m : Nat) (fs : List (Nat × Value)) (h : Tq P w n ops f E (fun a _ => FR n (LF fs) a) (l.take m)) (h2 : Tq P w n ops (LF fs) E X (l.drop m)) : Tq P w n ops f E X l := by
 intro a W h1 h3
 have := yz (rest := l.drop m) _ a (h a W h1 h3) (fun a' ha => h2 a' W (ha W (Below.refl _ _)) h3)
 rwa [List.take_append_drop] at this
theorem Tq.fin {fs : List (Nat × Value)} (h : y5 f fs) : Tq P w n ops f E (fun a _ => FR n (LF fs) a) [] := fun _ _ h1 _ _ _ => h1.vJ h
theorem Dy {o : Oper} {j t : Nat} {b : Bool} {a : Act} (hf : FR n f a) (h : o.guard = some (j, b)) (hj : (ops[j]?).bind (·.dst) = some t) (ht : f t = some undef) : Region.wanted o (yielded ops a.tmps) = false := by
 have : undef = Value.tuple #[] := rfl
 simp [Region.wanted, h, yielded, hj, hf.get t _ ht, this]
theorem PN {o : Oper} {j t d : Nat} {b : Bool} (h : o.guard = some (j, b)) (hj : (ops[j]?).bind (·.dst) = some t) (ht : f t = some undef) (hd : o.dst = some d) (hdn : d < n)
  (k : Tr w n (uf f d undef) E (wpList P ops Q rest)) : Tr w n f E (wpList P ops Q (o :: rest)) := by
 intro a W h1 h2
 unfold wpList
 rw [if_neg (by rw [Dy h1 h hj ht]; simp), hd]
 exact k _ _ (h1.put hdn undef) h2
theorem PR {o : Oper} {j t d : Nat} {b : Bool} (h : o.guard = some (j, b)) (hj : (ops[j]?).bind (·.dst) = some t) (ht : f t = some undef) (hd : o.dst = some d) (hdn : d < n)
  (k : Tq P w n ops (uf f d undef) E X rest) : Tq P w n ops f E X (o :: rest) := by
 intro a W h1 h2
 unfold wpQuiet
 rw [if_neg (by rw [Dy h1 h hj ht]; simp), hd]
 exact k _ W (h1.put hdn undef) h2
theorem jb {id : Nat} (hm : P.follows .mixedOrders = true) (hB : Region.lexB .any l.toArray = true) (h : Tq P w n l.toArray f E (Q .normal) l) : Tr w n f E ((Code.region id l.toArray true).wp P Q) :=
 fun a W h1 h2 => wp_region_quiet (C := fun W' => Below W.heap.size W W') hm hB ⟨rfl, rfl, rfl, Nat.le_refl _, fun _ _ => rfl, by simp⟩ (by simpa using h a W h1 h2)
end
open Go.RowKit
section
variable {P : Program} {ops : Array Oper} {C : World → Prop} {n : Nat}
def jG (P : Program) (ops : Array Oper) (C : World → Prop) (n : Nat) (L : Array Bool → Act → Prop) : Nat → Array Bool → Act → Prop
 | 0, listed, a => L listed a
 | f + 1, listed, a => Region.ready .any ops listed ≠ [] ∧ ∀ i ∈ Region.ready .any ops listed, i < n ∧ qOp P ops C i (jG P ops C n L f (listed.setIfInBounds i true)) a
theorem jG.run {g : Nat} {L : Array Bool → Act → Prop} {Q : Exit → Act → World → Prop} (hL : ∀ listed a w, C w → L listed a → wpAny P .any ops Q g listed a w) :
  ∀ (f : Nat) (listed : Array Bool) (a : Act) (w : World), C w → jG P ops C n L f listed a → wpAny P .any ops Q (f + g) listed a w
 | 0, listed, a, w, hw, h => by rw [Nat.zero_add]; exact hL listed a w hw h
 | f + 1, listed, a, w, hw, h => by
  rw [Nat.add_right_comm]
  exact ⟨fun e => absurd e h.1, fun i hi => wpOp_of_qOp hw (fun a' w' hw' hh => jG.run hL f _ a' w' hw' hh) (h.2 i hi).2⟩
theorem jG.first {i : Nat} {oi : Oper} {v : Value} {L : Array Bool → Act → Prop} (hi : ops[i]? = some oi) (hsel : Region.noSelect ops = true) (hs : Region.sinkB .any ops n = true) (hc : Region.chainB .any ops n = true)
  (hn : n < ops.size) (hin : i < n) (hdone : ∀ listed a, L listed a → ∀ j ∈ Region.ready .any ops listed, n ≤ j) :
  ∀ (f : Nat) (listed : Array Bool) (a : Act), HeadInv .any ops n listed → i ∈ Region.ready .any ops listed → YieldsIn P ops C oi v a →
   (∀ j oj, ops[j]? = some oj → j ≠ i → listed.getD j true = false → (∀ e ∈ oj.after, Region.binds .any e = true → e.on ≠ i) → oi.apart ops oj = true) →
   jG P ops C n L f (listed.setIfInBounds i true) (a.put oi.dst v) → jG P ops C n L (f + 1) listed a := by
 have nosel := Region.noSelect_spec hsel
 intro f
 induction f with
 | zero =>
  intro listed a inv hr hy _ H
  refine ⟨fun e => (by rw [e] at hr; cases hr), fun j hj => ?_⟩
  have hjn : j < n := Nat.lt_of_not_le fun h => tail_waits hs hc hn inv _ i rfl hin (mem_ready.1 hr).1 j h hj
  by_cases e : j = i
  ·subst e; exact ⟨hjn, hy.qOp hi H⟩
  ·exact absurd (hdone _ _ H j (ready_mono hj e)) (by omega)
 | succ f ih =>
  intro listed a inv hr hy hfree H
  refine ⟨fun e => (by rw [e] at hr; cases hr), fun j hj => ?_⟩
  have hjn : j < n := Nat.lt_of_not_le fun h => tail_waits hs hc hn inv _ i rfl hin (mem_ready.1 hr).1 j h hj
  by_cases e : j = i
  ·subst e; exact ⟨hjn, hy.qOp hi H⟩
  obtain ⟨hun, oj, hoj, hall⟩ := mem_ready.1 hj
  have hnw : ∀ x ∈ oj.after, Region.binds .any x = true → x.on ≠ i := fun x hx hb he => by
   have h1 := hall x hx hb
   rw [he, getD_both (mem_ready.1 hr).1] at h1
   cases h1
  have hq := qOp_put hoj (hfree j oj hoj e hun hnw) (fun cs b => nosel i oi cs b hi) (fun cs b => nosel j oj cs b hoj) hy (H.2 j (ready_mono hj e)).2
  refine ⟨hjn, qOp_mono (fun a' h => ih (listed.setIfInBounds j true) a' (inv.set hj hjn) (ready_mono hr (Ne.symm e)) h.1 (fun k ok hk hki hkun hno => ?_) ?_) hq⟩
  ·refine hfree k ok hk hki ?_ hno
   by_cases ejk : j = k
   ·subst ejk; exact hun
   ·rw [getD_set_ne true ejk] at hkun; exact hkun
  ·rw [Array.setIfInBounds_comm _ _ e]; exact h.2
theorem jG.lex {g : Nat} {Lq : Act → Prop} (hsel : Region.noSelect ops = true) (hs : Region.sinkB .any ops n = true) (hc : Region.chainB .any ops n = true) (hn : n < ops.size) :
  ∀ (l : List Oper) (k : Nat) (listed : Array Bool) (a : Act), (∀ j, j < l.length → l[j]? = ops[k + j]?) → k + l.length = n → HeadInv .any ops n listed → Region.lexHead .any ops g l.length k listed = true →
   wpQuiet P ops C Lq l a → jG P ops C n (fun listed' a' => Region.seqB .any ops g n listed' = true ∧ Lq a') l.length listed a
 | [], k, listed, a, _, hk, _, hB, h => by
  have : k = n := by simpa using hk
  subst this
  exact ⟨by simpa [Region.lexHead] using hB, h⟩
 | o :: l, k, listed, a, hl, hk, inv, hB, h => by
  have h0 : ops[k]? = some o := by simpa using (hl 0 (by simp)).symm
  simp only [List.length_cons, Region.lexHead, Bool.and_eq_true] at hB hk
  have hr : k ∈ Region.ready .any ops listed := by simpa using hB.1.1
  obtain ⟨v, hy, hK⟩ := yieldsIn_of_qOp (K := wpQuiet P ops C Lq l) h0 (show qOp P ops C k (wpQuiet P ops C Lq l) a by unfold qOp; simp only [h0]; exact h)
  exact jG.first h0 hsel hs hc hn (by omega) (fun _ _ hL => seqB_ready hL.1) l.length listed a inv hr hy (Region.free_spec h0 hB.1.2)
   (jG.lex hsel hs hc hn l (k + 1) _ _ (fun j hj => by have := hl (j + 1) (by simp; omega); simpa [Nat.add_assoc, Nat.add_comm 1 j] using this) (by omega) (inv.set hr (by omega)) hB.2 hK)
end

theorem kG {P : Program} {w : Bs} {n : Nat} {f : Nat → Option Value} {E : Nat → jv} {id : Nat} {Q : Exit → Act → World → Prop} {l : List Oper} (m : Nat) (hm : P.follows .mixedOrders = true) (hB : Region.lexTailB .any l.toArray m = true)
  (h : Tq P w n l.toArray f E (wpList P l.toArray Q (l.drop m)) (l.take m)) : Tr w n f E ((Code.region id l.toArray true).wp P Q) := by
 intro a W0 h1 h2
 simp only [Region.lexTailB, Bool.and_eq_true, decide_eq_true_eq] at hB
 obtain ⟨⟨⟨⟨hsel, hn⟩, hs⟩, hc⟩, hlex⟩ := hB
 have hn' : m < l.length := by simpa using hn
 have htl : (l.take m).length = m := by simp; omega
 have hdl : (l.drop m).length = l.toArray.size - m := by simp
 have inv0 : HeadInv .any l.toArray m (Array.replicate l.toArray.size false) :=
  ⟨by simp, fun j oj _ hl => (by rw [getD_replicate_false] at hl; cases hl), fun t _ ht => getD_in (by simpa using ht) (getD_replicate_false _ _)⟩
 have H := jG.lex (C := fun W' => Below W0.heap.size W0 W') (g := l.toArray.size - m) hsel hs hc hn (l.take m) 0 _ a (fun j hj => by
  have hj' : j < m := by rw [htl] at hj; exact hj
  simp [hj']) (by simpa using htl) inv0 (by rw [htl]; exact hlex) (h a W0 h1 h2)
 refine wp_region_any hm ?_
 have := jG.run (Q := Q) (g := l.toArray.size - m) (fun listed a' w' hw' hL => by
  have := wpAny_of_seq (md := .any) (Q' := Q) (l.drop m) m listed a' w' (fun j => by simp [List.getElem?_drop]) (by rw [hdl]; exact hL.1) (hL.2 _ hw')
  rwa [hdl] at this) _ _ _ { W0 with drawn := W0.drawn + 1 } ⟨rfl, rfl, rfl, Nat.le_refl _, fun _ _ => rfl, by simp⟩ H
 rw [htl, show m + (l.toArray.size - m) = l.toArray.size by omega] at this
 exact this
theorem OD (b : Nat) {n : Nat} (h : Nat.ble n 1000000 = true) : dM (some ⟨b, 0, none⟩) n n := ⟨Nat.le_refl _, by have := Nat.le_of_ble_eq_true h; unfold maxLen; omega, fun _ => rfl⟩
theorem vU {α : Type} {l : List α} (h : Nat.ble l.length 1000000 = true) : l.length ≤ maxLen := by have := Nat.le_of_ble_eq_true h; unfold maxLen; omega
open Go.RowKit
theorem CX {s t : ByteArray} : AC s t = true ↔ s = t := by
 unfold AC
 rw [← beq_toListBytes]
 obtain ⟨x⟩ := s
 obtain ⟨y⟩ := t
 show (x == y) = true ↔ _
 rw [beq_iff_eq]
 exact ⟨fun h => by rw [h], fun h => by injection h⟩
theorem D7 (s : ByteArray) : AC s s = true := CX.2 rfl
section
variable {P : Program} {W : World} {d T : Nat}
theorem x9 {cs : Array Value} {o : Nat} {v : Value} (ha : lK P T = some false) (h : cs[o]? = some v) : (part T cs o).run P W = .ok v W := by
 simp [part, zt ha, h]
theorem Mh {xs ys : Array Value} : (Op.eqFields d xs ys []).run P W = .ok true W := by simp [Op.eqFields]
theorem wR {xs ys : Array Value} {f : Field} {fs : List Field} {a b : Value} {c r : Bool} (hn : (f.name != "_") = true) (ha : (part f.type xs f.offset).run P W = .ok a W) (hb : (part f.type ys f.offset).run P W = .ok b W)
  (hc : (Op.equalIn d f.type a b).run P W = .ok c W) (hr : (Op.eqFields d xs ys fs).run P W = .ok r W) : (Op.eqFields d xs ys (f :: fs)).run P W = .ok (c && r) W := by
 have hn' : f.name ≠ "_" := by simpa using hn
 simp only [Op.eqFields, Sem.run_bind, Sem.run_ite, if_pos hn', ha, hb, hc, Result.andThen_ok]
 cases c <;> simp [hr]
theorem Ce {k k' : IntKind} {a b : Int} (h : P.underlying T = some (.int k')) : (Op.equalIn (d + 1) T (.int k a) (.int k b)).run P W = .ok (a == b) W := run_equalIn_int W d T k k' a b h
theorem IJ {ρ : Operand → Value} {dd : Option Tmp} {ty T' : TypeId} {pos : String} {af : Array Edge} {g : Option (Nat × Bool)} {p q : Operand} {xs ys : Array Value} {c : Bool} {m : Nat} (hd : m = 10000) (hm : P.eqGuardType P.depth T = false)
  (hc : (Op.equalIn m T (.agg xs) (.agg ys)).run P W = .ok c W) (hp : ρ p = .agg xs) (hq : ρ q = .agg ys) : (execOp ρ ⟨dd, .binOp .eql T p q T', ty, pos, af, g⟩).run P W = .ok (.value (.bool c)) W := by
 subst hd
 simp [execOp, hp, hq, run_eqGuard_agg W .eql T p q xs ys hm, run_eql_struct, hc]
theorem II {ρ : Operand → Value} {dd : Option Tmp} {ty T' : TypeId} {pos : String} {af : Array Edge} {g : Option (Nat × Bool)} {p q : Operand} {xs ys : Array Value} {c : Bool} {m : Nat} (hd : m = 10000) (hm : P.eqGuardType P.depth T = false)
  (hc : (Op.equalIn m T (.agg xs) (.agg ys)).run P W = .ok c W) (hp : ρ p = .agg xs) (hq : ρ q = .agg ys) : (execOp ρ ⟨dd, .binOp .neq T p q T', ty, pos, af, g⟩).run P W = .ok (.value (.bool (!c))) W := by
 subst hd
 simp [execOp, hp, hq, run_eqGuard_agg W .neq T p q xs ys hm, run_neq_struct, hc]
end
open Go.RowKit
structure Fd where
 d : Nat
 κ : Nat
 u : Value
 V : Nat → Value
 e : Nat → jv
section
variable {P : Program} {ops ops' : Array Oper} {C : World → Prop} {m n : Nat} {w : Bs} {E : Nat → jv} {fr : Nat → Option Fd}
theorem jG.reach {L : Array Bool → Act → Prop} {S : Nat → Prop} (hne : ∃ W, C W) (hS : ∀ i o d, ops'[i]? = some o → o.dst = some d → S i → True) (D : Nat → Prop) :
  ∀ (f : Nat) (listed : Array Bool) (a : Act), (∀ i o, ops'[i]? = some o → listed.getD i true = false → ∀ d, o.dst = some d → ¬ D d) → jG P ops' C m L f listed a →
   ∃ listed' a', L listed' a' ∧ ∀ t, D t → a'.tmps[t]? = a.tmps[t]?
 | 0, listed, a, _, h => ⟨listed, a, h, fun _ _ => rfl⟩
 | f + 1, listed, a, hD, h => by
  obtain ⟨i, hi⟩ := List.exists_mem_of_ne_nil _ h.1
  obtain ⟨hun, oi, hoi, _⟩ := mem_ready.1 hi
  obtain ⟨v, _, hK⟩ := yieldsIn_of_qOp hoi (h.2 i hi).2
  obtain ⟨l', a', hL, ht⟩ := jG.reach hne hS D f _ _ (fun j o hj hl d hd => by
   by_cases e : i = j
   ·subst e
    have : o = oi := Option.some.inj (hj.symm.trans hoi)
    subst this
    exact hD i o hoi hun d hd
   ·rw [getD_set_ne true e] at hl; exact hD j o hj hl d hd) hK
  refine ⟨l', a', hL, fun t hDt => (ht t hDt).trans ?_⟩
  cases hd : oi.dst with
  | none => rfl
  | some d =>
   have hne : d ≠ t := fun e => by subst e; exact hD i oi hoi hun d hd hDt
   simp only [Act.put]
   rw [Array.getElem?_setIfInBounds_ne hne]
open Classical in
noncomputable def ES (E : Nat → jv) (fr : Nat → Option Fd) (on : Nat → Prop) (bs : Nat → Nat) : Nat → jv :=
 fun k => if h : ∃ i, on i ∧ ∃ x, fr i = some x ∧ x.κ = k then (match fr (Classical.choose h) with | some x => x.e (bs (Classical.choose h)) | none => emp) else E k
theorem Gr {on : Nat → Prop} {bs : Nat → Nat} (hinj : ∀ i j x y, fr i = some x → fr j = some y → i ≠ j → x.κ ≠ y.κ ∧ x.d ≠ y.d) {i : Nat} {x : Fd} (hi : on i) (hx : fr i = some x) : ES E fr on bs x.κ = x.e (bs i) := by
 have h : ∃ i, on i ∧ ∃ y, fr i = some y ∧ y.κ = x.κ := ⟨i, hi, x, hx, rfl⟩
 unfold ES
 rw [dif_pos h]
 obtain ⟨_, y, hy, hk⟩ := Classical.choose_spec h
 have : Classical.choose h = i := Classical.byContradiction fun hne => (hinj _ _ _ _ hy hx hne).1 hk
 rw [this, hx]
theorem AB {on : Nat → Prop} {bs : Nat → Nat} {k : Nat} (h : ¬ ∃ i, on i ∧ ∃ x, fr i = some x ∧ x.κ = k) : ES E fr on bs k = E k := by
 unfold ES; rw [dif_neg h]
structure Twin (w : Bs) (E : Nat → jv) (fr : Nat → Option Fd) (n : Nat) (listed : Array Bool) (a' a : Act) (W : World) : Prop where
 size : a.tmps.size = n
 size' : a'.tmps.size = n
 dfr : a'.defers = a.defers
 same : ∀ t, (∀ i x, fr i = some x → x.d ≠ t) → a'.tmps[t]? = a.tmps[t]?
 mem : ∃ bs : Nat → Nat, (∀ i x, fr i = some x → listed.getD i false = true → a.tmps[x.d]? = some (x.V (bs i))) ∧ HF w W (ES E fr (fun i => listed.getD i false = true) bs)
theorem Gc {a a' : Act} {o : Oper} (hs : ∀ cs b, o.op ≠ .select cs b) (h : ∀ d, d ∈ o.looksAt ops → a'.tmps[d]? = a.tmps[d]?) : execOp a'.eval o = execOp a.eval o :=
 execOp_congr o hs fun x hx => by
  cases x with
  | tmp t =>
   have := h t (List.mem_append_left _ (List.mem_filterMap.2 ⟨.tmp t, by simpa using hx, rfl⟩))
   simp [Act.eval, this]
  | const v => rfl
  | global g => rfl
  | func f => rfl
def twin : List Oper → Nat → List (Nat × Op) → List Oper
 | [], _, _ => []
 | o :: l, i, T => ⟨o.dst, (match T.lookup i with | some op => op | none => o.op), o.type, o.pos, o.after, o.guard⟩ :: twin l (i + 1) T
theorem zl : ∀ (l : List Oper) (k : Nat) (T : List (Nat × Op)) (i : Nat), (twin l k T)[i]? = (l[i]?).map fun o => ⟨o.dst, (match T.lookup (k + i) with | some op => op | none => o.op), o.type, o.pos, o.after, o.guard⟩
 | [], k, T, i => by simp [twin]
 | o :: l, k, T, 0 => by simp [twin]
 | o :: l, k, T, i + 1 => by
  have := zl l (k + 1) T i
  simp only [twin, List.getElem?_cons_succ, this]
  rw [show k + 1 + i = k + (i + 1) by omega]
theorem yE : ∀ (l : List Oper) (k : Nat) (T : List (Nat × Op)), (twin l k T).length = l.length
 | [], _, _ => rfl
 | o :: l, k, T => by simp [twin, yE l (k + 1) T]
theorem MR {l : List Oper} {T : List (Nat × Op)} {i : Nat} (h : T.lookup i = none) : (twin l 0 T)[i]? = l[i]? := by
 rw [zl, Nat.zero_add, h]
 cases l[i]? <;> rfl
theorem xq (md : Region.Mode) (l : List Oper) (T : List (Nat × Op)) (listed : Array Bool) : Region.ready md (twin l 0 T).toArray listed = Region.ready md l.toArray listed := by
 unfold Region.ready
 simp only [List.size_toArray, yE, List.getElem?_toArray, zl]
 congr 1
 funext i
 cases l[i]? <;> rfl
theorem Iq (l : List Oper) (T : List (Nat × Op)) (j : Nat) : (((twin l 0 T).toArray)[j]?).bind (·.dst) = ((l.toArray)[j]?).bind (·.dst) := by
 simp only [List.getElem?_toArray, zl]
 cases l[j]? <;> rfl
theorem Gx (l : List Oper) (T : List (Nat × Op)) (tmps : Array Value) : yielded (twin l 0 T).toArray tmps = yielded l.toArray tmps := by
 funext j
 unfold yielded
 rw [Iq]
theorem Im {l : List Oper} {a a' : Act} {o : Oper} (h : ∀ d, d ∈ o.looksAt l.toArray → a'.tmps[d]? = a.tmps[d]?) : Region.wanted o (yielded l.toArray a'.tmps) = Region.wanted o (yielded l.toArray a.tmps) := by
 unfold Region.wanted
 cases hg : o.guard with
 | none => rfl
 | some gw =>
  obtain ⟨g, want⟩ := gw
  have : yielded l.toArray a'.tmps g = yielded l.toArray a.tmps g := by
   unfold yielded
   cases ht : (l.toArray[g]?).bind (·.dst) with
   | none => rfl
   | some t =>
    have := h t (by simp only [Oper.looksAt, hg, ht]; simp)
    simp only [Option.bind_some, this]
  simp only [this]
def UV (l : List Oper) (T : List (Nat × Op)) (m n : Nat) (D : List (Nat × Nat)) : Bool :=
 (List.range l.length).all (fun i => match (twin l 0 T)[i]? with
  | some o => D.all fun p => (!(decide (i < m)) || !(o.looksAt (twin l 0 T).toArray).contains p.2) && (o.dst != some p.2 || i == p.1)
  | none => true) &&
 D.all (fun p => decide (p.1 < m) && decide (p.2 < n) && (match l[p.1]? with | some o => o.guard.isNone && o.dst == some p.2 | none => false) && (T.lookup p.1).isSome) &&
 T.all (fun p => (D.lookup p.1).isSome)
section
variable {P : Program} {l : List Oper} {T : List (Nat × Op)} {m n : Nat} {w : Bs} {E : Nat → jv} {Fs : List (Nat × Fd)} {f1 : Nat → Option Value}
def MJ (P : Program) (w : Bs) (l : List Oper) (T : List (Nat × Op)) (i : Nat) (x : Fd) : Prop :=
 ∀ (o : Oper) (op : Op), l[i]? = some o → T.lookup i = some op →
  (∀ (ρ : Operand → Value) (W : World), ∃ u, (execOp ρ ⟨o.dst, op, o.type, o.pos, o.after, o.guard⟩).run P W = .ok (.value u) W) ∧
  ∀ (ρ : Operand → Value) (W : World), (execOp ρ ⟨o.dst, op, o.type, o.pos, o.after, o.guard⟩).run P W = .ok (.value x.u) W →
  ∃ W1, (execOp ρ o).run P W = .ok (.value (x.V W.heap.size)) W1 ∧ Below W.heap.size W W1 ∧ ∀ E1, HF w W E1 → HF w W1 (up E1 x.κ (x.e W.heap.size))
theorem sM {α : Type} : ∀ {L : List (Nat × α)} {i : Nat} {x : α}, L.lookup i = some x → (i, x) ∈ L
 | [], _, _, h => by cases h
 | (j, y) :: L, i, x, h => by
  rw [List.lookup_cons] at h
  cases hij : (i == j) with
  | true => rw [hij] at h; simp at h hij; subst h hij; simp
  | false => rw [hij] at h; exact List.mem_cons_of_mem _ (sM h)
theorem El {α β : Type} (g : α → β) : ∀ (L : List (Nat × α)) (i : Nat), (L.map fun p => (p.1, g p.2)).lookup i = (L.lookup i).map g
 | [], _ => rfl
 | (j, y) :: L, i => by
  simp only [List.map_cons, List.lookup_cons]
  cases (i == j) <;> simp [El g L i]
theorem Jg (hB : UV l T m n (Fs.map fun p => (p.1, p.2.d)) = true) :
  (∀ i o, (twin l 0 T)[i]? = some o → ∀ j x, Fs.lookup j = some x → (i < m → x.d ∉ o.looksAt (twin l 0 T).toArray) ∧ (o.dst = some x.d → i = j)) ∧
  (∀ j x, Fs.lookup j = some x → j < m ∧ x.d < n ∧ (∃ o, l[j]? = some o ∧ o.guard = none ∧ o.dst = some x.d) ∧ ∃ op, T.lookup j = some op) ∧ (∀ j, Fs.lookup j = none → T.lookup j = none) := by
 simp only [UV, Bool.and_eq_true] at hB
 obtain ⟨⟨h1, h2⟩, h3⟩ := hB
 have hmem : ∀ {j x}, Fs.lookup j = some x → (j, x.d) ∈ Fs.map fun p => (p.1, p.2.d) := fun h => List.mem_map.2 ⟨_, sM h, rfl⟩
 refine ⟨fun i o ho j x hx => ?_, fun j x hx => ?_, fun j hj => ?_⟩
 ·have hi : i < l.length := by
   have := (List.getElem?_eq_some_iff.1 ho).1
   rwa [yE] at this
  have h := List.all_eq_true.1 h1 i (List.mem_range.2 hi)
  rw [ho] at h
  have h := List.all_eq_true.1 h _ (hmem hx)
  simp only [Bool.and_eq_true, Bool.or_eq_true, Bool.not_eq_true', decide_eq_false_iff_not, List.contains_eq_mem, bne_iff_ne, beq_iff_eq] at h
  refine ⟨fun hm => ?_, fun hd => ?_⟩
  ·rcases h.1 with h | h
   ·exact absurd hm h
   ·simpa using h
  ·rcases h.2 with h | h
   ·exact absurd hd h
   ·exact h
 ·have h := List.all_eq_true.1 h2 _ (hmem hx)
  simp only [Bool.and_eq_true, decide_eq_true_eq] at h
  obtain ⟨⟨⟨a1, a2⟩, a3⟩, a4⟩ := h
  refine ⟨a1, a2, ?_, Option.isSome_iff_exists.1 a4⟩
  split at a3
  ·rename_i o ho
   simp only [Bool.and_eq_true, beq_iff_eq, Option.isNone_iff_eq_none] at a3
   exact ⟨o, ho, a3.1, a3.2⟩
  ·cases a3
 ·cases ht : T.lookup j with
  | none => rfl
  | some op =>
   have h := List.all_eq_true.1 h3 _ (sM ht)
   rw [El (fun x : Fd => x.d) Fs j, hj] at h
   cases h
theorem BQ {a : Act} {d t : Nat} {v : Value} (h : t ≠ d) : (a.put (some d) v).tmps[t]? = a.tmps[t]? := by
 simp only [Act.put]
 exact Array.getElem?_setIfInBounds_ne (fun e => h e.symm)
theorem Be {a : Act} {d : Nat} {v : Value} (h : d < a.tmps.size) : (a.put (some d) v).tmps[d]? = some v := by simp [Act.put, h]
theorem Bc {a : Act} {d : Option Nat} {v : Value} : (a.put d v).tmps.size = a.tmps.size := by cases d <;> simp [Act.put]
theorem C8 {a : Act} {d : Option Nat} {v : Value} : (a.put d v).defers = a.defers := by cases d <;> rfl
theorem jG.value {C : World → Prop} {L : Array Bool → Act → Prop} {f : Nat} {listed : Array Bool} {a' : Act} {i d : Nat} {oi : Oper} {v u : Value} {ops' : Array Oper} (hC : ∃ W, C W) (hL : ∀ listed a, L listed a → FR n f1 a)
  (huniq : ∀ j o, ops'[j]? = some o → o.dst = some d → j = i) (hlt : d < a'.tmps.size) (hset : listed.getD i true = true) (hu : f1 d = some u) (h : jG P ops' C m L f listed (a'.put (some d) v)) : v = u := by
 obtain ⟨l', a2, hL2, ht⟩ := jG.reach (S := fun _ => True) hC (fun _ _ _ _ _ _ => trivial) (fun t => t = d) f listed _ (fun j o hj hl e he hde => by
  subst hde
  have := huniq j o hj he
  subst this
  rw [hset] at hl; cases hl) h
 have h1 := ht d rfl
 rw [Be hlt] at h1
 have h2 := (hL _ _ hL2).get d u hu
 rw [h1] at h2
 exact Option.some.inj h2
theorem jG.Vg {L : Array Bool → Act → Prop} {Q : Exit → Act → World → Prop} {g : Nat} (hinj : ∀ i j x y, Fs.lookup i = some x → Fs.lookup j = some y → i ≠ j → x.κ ≠ y.κ ∧ x.d ≠ y.d)
  (hB : UV l T m n (Fs.map fun p => (p.1, p.2.d)) = true) (hrun : ∀ i x, Fs.lookup i = some x → MJ P w l T i x) (hu : ∀ i x, Fs.lookup i = some x → f1 x.d = some x.u) (hLf : ∀ listed a, L listed a → FR n f1 a)
  (hemp : ∀ i x, Fs.lookup i = some x → E x.κ = emp) (hsel : Region.noSelect (twin l 0 T).toArray = true) (huniq : ∀ (i j : Nat) (o o2 : Oper) (d : Nat), (twin l 0 T)[i]? = some o → (twin l 0 T)[j]? = some o2 → o.dst = some d → o2.dst = some d → i = j)
  (hcov : ∀ i o d, (twin l 0 T)[i]? = some o → i < m → o.dst = some d → d < n ∧ ∃ v, f1 d = some v)
  (hL : ∀ listed a' a W, HeadInv .any (twin l 0 T).toArray m listed → Twin w E (Fs.lookup ·) n listed a' a W → L listed a' → wpAny P .any l.toArray Q g listed a W) :
  ∀ (f : Nat) (listed : Array Bool) (a' a : Act) (W : World), HeadInv .any (twin l 0 T).toArray m listed → listed.size = l.length → Twin w E (Fs.lookup ·) n listed a' a W → (∀ W2, HF w W2 E → jG P (twin l 0 T).toArray (fun W' => Below W2.heap.size W2 W') m L f listed a') → wpAny P .any l.toArray Q (f + g) listed a W := by
 obtain ⟨b1, b2, b3⟩ := Jg hB
 have hE : ∀ {listed : Array Bool} {a' a : Act} {W : World}, Twin w E (Fs.lookup ·) n listed a' a W → HF w W E := fun {listed a' a W} ht => by
  obtain ⟨bs, _, hm⟩ := ht.mem
  refine hm.weaken fun k => ?_
  by_cases hk : ∃ i, (listed.getD i false = true) ∧ ∃ x, Fs.lookup i = some x ∧ x.κ = k
  ·obtain ⟨i, _, x, hx, rfl⟩ := hk
   exact .inr (hemp i x hx)
  ·exact .inl (AB hk).symm
 intro f
 induction f with
 | zero =>
  intro listed a' a W inv _ ht hall
  rw [Nat.zero_add]
  exact hL listed a' a W inv ht (hall W (hE ht))
 | succ f ih =>
  intro listed a' a W inv hls ht hall
  rw [Nat.add_right_comm]
  have h0 := hall W (hE ht)
  refine ⟨fun e => absurd e (by rw [← xq .any l T]; exact h0.1), fun i hi => ?_⟩
  have hi' : i ∈ Region.ready .any (twin l 0 T).toArray listed := by rw [xq]; exact hi
  obtain ⟨him, hq⟩ := h0.2 i hi'
  obtain ⟨hun, o', ho'a, _⟩ := mem_ready.1 hi'
  have ho' : (twin l 0 T)[i]? = some o' := by simpa using ho'a
  have hil : i < listed.size := by
   have := (List.getElem?_eq_some_iff.1 ho').1
   rw [yE] at this; omega
  have hset : (listed.setIfInBounds i true).getD i true = true := by simp [hil]
  obtain ⟨v, hy, hK⟩ := yieldsIn_of_qOp ho'a hq
  have hval : ∀ W2 v2, HF w W2 E → jG P (twin l 0 T).toArray (fun W' => Below W2.heap.size W2 W') m L f (listed.setIfInBounds i true) (a'.put o'.dst v2) → ∀ d, o'.dst = some d → f1 d = some v2 := fun W2 v2 h2 hh d hd => by
   obtain ⟨hdn, u, hu1⟩ := hcov i o' d ho' him hd
   rw [hd] at hh
   have := jG.value (i := i) (oi := o') ⟨W2, Below.refl _ _⟩ hLf (fun j o hj he => (huniq i j o' o d ho' (by simpa using hj) hd he).symm) (by rw [ht.size']; exact hdn) hset hu1 hh
   rw [this]; exact hu1
  have hall' : ∀ W2, HF w W2 E → jG P (twin l 0 T).toArray (fun W' => Below W2.heap.size W2 W') m L f (listed.setIfInBounds i true) (a'.put o'.dst v) := fun W2 h2 => by
   obtain ⟨v2, _, hK2⟩ := yieldsIn_of_qOp ho'a ((hall W2 h2).2 i hi').2
   cases hd : o'.dst with
   | none => rw [hd] at hK2; exact hK2
   | some d =>
    have e1 := hval W v (hE ht) hK d hd
    have e2 := hval W2 v2 h2 hK2 d hd
    rw [e1] at e2
    rw [Option.some.inj e2, ← hd]; exact hK2
  have inv' := inv.set hi' him
  have hls' : (listed.setIfInBounds i true).size = l.length := by simp [hls]
  have hlook : ∀ d, d ∈ o'.looksAt (twin l 0 T).toArray → a'.tmps[d]? = a.tmps[d]? := fun d hd => ht.same d fun j x hx e => (b1 i o' ho' j x hx).1 him (e ▸ hd)
  cases hx : Fs.lookup i with
  | none =>
   have hTn := b3 i hx
   have ho : l[i]? = some o' := by rw [← MR hTn]; exact ho'
   have hlook2 : ∀ d, d ∈ o'.looksAt l.toArray → a'.tmps[d]? = a.tmps[d]? := fun d hd => hlook d (by
    have : o'.looksAt (twin l 0 T).toArray = o'.looksAt l.toArray := by
     unfold Oper.looksAt
     congr 1
     cases o'.guard with
     | none => rfl
     | some gw => simp only [Iq]
    rw [this]; exact hd)
   have hnew : ∀ W', Below W.heap.size W W' → Twin w E (Fs.lookup ·) n (listed.setIfInBounds i true) (a'.put o'.dst v) (a.put o'.dst v) W' := fun W' hb => by
    refine ⟨by rw [Bc]; exact ht.size, by rw [Bc]; exact ht.size', by rw [C8, C8]; exact ht.dfr, fun t htD => ?_, ?_⟩
    ·cases hd : o'.dst with
     | none => exact ht.same t htD
     | some d =>
      by_cases e : t = d
      ·subst e
       obtain ⟨hdn, _⟩ := hcov i o' t ho' him hd
       rw [Be (by rw [ht.size']; exact hdn), Be (by rw [ht.size]; exact hdn)]
      ·rw [BQ e, BQ e]; exact ht.same t htD
    ·obtain ⟨bs, hb1, hb2⟩ := ht.mem
     have hon : (fun j => (listed.setIfInBounds i true).getD j false = true) = (fun j => (listed.getD j false = true) ∨ j = i) := by
      funext j
      apply propext
      by_cases e : i = j
      ·subst e; simp [hil]
      ·rw [getD_set_ne false e]
       exact ⟨.inl, fun h => h.resolve_right (fun h => e h.symm)⟩
     refine ⟨bs, fun j x hj hl => ?_, ?_⟩
     ·have hji : i ≠ j := fun e => by subst e; rw [hx] at hj; cases hj
      rw [getD_set_ne false hji] at hl
      have := hb1 j x hj hl
      cases hd : o'.dst with
      | none => exact this
      | some d =>
       have : x.d ≠ d := fun e => hji ((b1 i o' ho' j x hj).2 (by rw [hd, e]))
       rw [BQ this]; assumption
     ·refine (hb2.later hb).weaken fun k => .inl ?_
      by_cases hk : ∃ j, (listed.getD j false = true) ∧ ∃ x, Fs.lookup j = some x ∧ x.κ = k
      ·obtain ⟨j, hj1, x, hj2, rfl⟩ := hk
       have hji : i ≠ j := fun e => by subst e; rw [hx] at hj2; cases hj2
       have e1 := Gr (E := E) (bs := bs) (on := fun i_1 => (listed.setIfInBounds i true).getD i_1 false = true) hinj (i := j) (by rw [getD_set_ne false hji]; exact hj1) hj2
       have e2 := Gr (E := E) (bs := bs) (on := fun i => listed.getD i false = true) hinj hj1 hj2
       exact e1.trans e2.symm
      ·refine (AB fun ⟨j, hj1, x, hj2, hj3⟩ => hk ⟨j, ?_, x, hj2, hj3⟩).trans (AB hk).symm
       rwa [getD_set_ne false (fun e => by subst e; rw [hx] at hj2; cases hj2)] at hj1
   unfold wpOp
   simp only [show (l.toArray)[i]? = some o' by simpa using ho]
   have hw : Region.wanted o' (yielded l.toArray a.tmps) = Region.wanted o' (yielded (twin l 0 T).toArray a'.tmps) := by rw [Gx]; exact (Im hlook2).symm
   rcases hy with ⟨hw1, hqa⟩ | ⟨hw1, rfl⟩
   ·rw [if_pos (hw.trans hw1)]
    left
    have hq1 := hqa W (Below.refl _ _)
    unfold Oper.quietAt at hq1
    rw [Gc (ops := l.toArray) (fun cs b => Region.noSelect_spec hsel i o' cs b ho'a) hlook2] at hq1
    unfold Oper.wp
    generalize (execOp a.eval o').run P W = r at hq1
    cases r with
    | ok nx W' =>
     cases nx <;> simp only [Oper.quietUpon] at hq1 <;> simp only [Oper.upon]
     case value u' =>
      obtain ⟨e1, e2⟩ := hq1
      subst e1 e2
      exact ih _ _ _ _ inv' hls' (hnew _ (Below.refl _ _)) hall'
     case skip =>
      obtain ⟨e1, e2⟩ := hq1
      subst e1 e2
      exact ih _ _ _ _ inv' hls' (hnew _ (Below.refl _ _)) hall'
     case enter fn args =>
      obtain ⟨e1, hc⟩ := hq1
      subst e1
      exact hc.mono fun e W'' ⟨he, hb⟩ => by subst he; exact ih _ _ _ _ inv' hls' (hnew _ hb) hall'
    | halt h' W' => simp only [Oper.quietUpon] at hq1
   ·rw [if_neg (by rw [hw, hw1]; simp)]
    exact ih _ _ _ _ inv' hls' (hnew _ (Below.refl _ _)) hall'
  | some x =>
   obtain ⟨_, hxn, ⟨o, ho, hog, hod⟩, op, hop⟩ := b2 i x hx
   have hoe : o' = ⟨o.dst, op, o.type, o.pos, o.after, o.guard⟩ := by
    rw [zl, ho, Nat.zero_add] at ho'
    simp only [Option.map_some, hop, Option.some.inj] at ho'
    exact (Option.some.inj ho').symm
   obtain ⟨hrv, hrr⟩ := hrun i x hx o op ho hop
   have hd : o'.dst = some x.d := by rw [hoe]; exact hod
   have hg' : o'.guard = none := by rw [hoe]; exact hog
   have hvu : v = x.u := by
    have e1 := hval W v (hE ht) hK x.d hd
    rw [hu i x hx] at e1
    exact (Option.some.inj e1).symm
   subst hvu
   have hsame := Gc (ops := (twin l 0 T).toArray) (fun cs b => Region.noSelect_spec hsel i o' cs b ho'a) hlook
   have hrun2 : (execOp a.eval o').run P W = .ok (.value x.u) W := by
    rcases hy with ⟨_, hqa⟩ | ⟨hw1, _⟩
    ·have hq1 := hqa W (Below.refl _ _)
     unfold Oper.quietAt at hq1
     rw [hsame] at hq1
     obtain ⟨u, hu2⟩ := hrv a.eval W
     rw [← hoe] at hu2
     rw [hu2] at hq1 ⊢
     simp only [Oper.quietUpon] at hq1
     rw [hq1.2]
    ·simp [Region.wanted, hg'] at hw1
   obtain ⟨W1, hr1, hb1, hh1⟩ := hrr a.eval W (by rw [← hoe]; exact hrun2)
   unfold wpOp
   simp only [show (l.toArray)[i]? = some o by simpa using ho]
   rw [if_pos (by simp [Region.wanted, hog])]
   left
   unfold Oper.wp
   rw [hr1]
   simp only [Oper.upon]
   have hod' : o.dst = o'.dst := by rw [hd, hod]
   rw [hod]
   rw [hd] at hall'
   refine ih _ _ _ _ inv' hls' ?_ hall'
   obtain ⟨bs, hbs1, hbs2⟩ := ht.mem
   refine ⟨by rw [Bc]; exact ht.size, by rw [Bc]; exact ht.size', by rw [C8, C8]; exact ht.dfr, fun t htD => ?_, fun j => if j = i then W.heap.size else bs j, fun j y hj hl => ?_, ?_⟩
   ·have hne : t ≠ x.d := fun e => htD i x hx e.symm
    rw [BQ hne, BQ hne]; exact ht.same t htD
   ·by_cases e : j = i
    ·subst e
     have : y = x := Option.some.inj (hj.symm.trans hx)
     subst this
     rw [Be (by rw [ht.size]; exact hxn)]
     show _ = some (y.V (if j = j then W.heap.size else bs j))
     rw [if_pos rfl]
    ·rw [getD_set_ne false (fun h => e h.symm)] at hl
     rw [BQ (hinj j i y x hj hx e).2]
     show _ = some (y.V (if j = i then W.heap.size else bs j))
     rw [if_neg e]
     exact hbs1 j y hj hl
   ·refine (hh1 _ hbs2).weaken fun k => .inl ?_
    by_cases hkx : k = x.κ
    ·subst hkx
     rw [xm]
     have e1 := Gr (E := E) (bs := fun j => if j = i then W.heap.size else bs j) (on := fun i_1 => (listed.setIfInBounds i true).getD i_1 false = true) hinj (i := i) (by simp [hil]) hx
     refine e1.trans ?_
     show x.e (if i = i then W.heap.size else bs i) = _
     rw [if_pos rfl]
    ·rw [Dx hkx]
     by_cases hk : ∃ j, (listed.getD j false = true) ∧ ∃ x, Fs.lookup j = some x ∧ x.κ = k
     ·obtain ⟨j, hj1, y, hj2, rfl⟩ := hk
      have hji : j ≠ i := fun e => by subst e; rw [hx] at hj2; exact hkx (by rw [Option.some.inj hj2])
      have e1 := Gr (E := E) (bs := fun j => if j = i then W.heap.size else bs j) (on := fun i_1 => (listed.setIfInBounds i true).getD i_1 false = true) hinj (i := j) (by rw [getD_set_ne false (fun h => hji h.symm)]; exact hj1) hj2
      have e2 := Gr (E := E) (bs := bs) (on := fun i => listed.getD i false = true) hinj hj1 hj2
      refine e1.trans (Eq.trans ?_ e2.symm)
      show y.e (if j = i then W.heap.size else bs j) = _
      rw [if_neg hji]
     ·refine (AB fun ⟨j, hj1, y, hj2, hj3⟩ => ?_).trans (AB hk).symm
      by_cases e : j = i
      ·subst e; rw [hx] at hj2; exact hkx (by rw [Option.some.inj hj2, hj3])
      ·rw [getD_set_ne false (fun h => e h.symm)] at hj1
       exact hk ⟨j, hj1, y, hj2, hj3⟩
def Uy (l : List Oper) (m n : Nat) (fs : List (Nat × Value)) : Bool :=
 (List.range l.length).all (fun i => match l[i]? with
  | some o => match o.dst with
   | some d => (!(decide (i < m)) || (decide (d < n) && (LF fs d).isSome)) && (List.range l.length).all fun j => i == j || (match l[j]? with | some o2 => o2.dst != some d | none => true)
   | none => true
  | none => true)
theorem Nk {fs : List (Nat × Value)} (h : Uy l m n fs = true) :
  (∀ (i j : Nat) (o o2 : Oper) (d : Nat), (twin l 0 T)[i]? = some o → (twin l 0 T)[j]? = some o2 → o.dst = some d → o2.dst = some d → i = j) ∧
  ∀ i o d, (twin l 0 T)[i]? = some o → i < m → o.dst = some d → d < n ∧ ∃ v, LF fs d = some v := by
 have key : ∀ (i : Nat) (o : Oper) (d : Nat), (twin l 0 T)[i]? = some o → o.dst = some d → ∃ o1, l[i]? = some o1 ∧ o1.dst = some d ∧ i < l.length := fun i o d ho hd => by
  rw [zl] at ho
  obtain ⟨o1, h1, h2⟩ := Option.map_eq_some_iff.1 ho
  exact ⟨o1, h1, by rw [← h2] at hd; exact hd, (List.getElem?_eq_some_iff.1 h1).1⟩
 refine ⟨fun i j o o2 d ho ho2 hd hd2 => ?_, fun i o d ho him hd => ?_⟩
 ·obtain ⟨p, hp, hpd, hi⟩ := key i o d ho hd
  obtain ⟨q, hq, hqd, hj⟩ := key j o2 d ho2 hd2
  have h1 := List.all_eq_true.1 h i (List.mem_range.2 hi)
  simp only [hp, hpd, Bool.and_eq_true] at h1
  have h2 := List.all_eq_true.1 h1.2 j (List.mem_range.2 hj)
  simp only [hq, hqd, Bool.or_eq_true, beq_iff_eq, bne_self_eq_false, Bool.false_eq_true, or_false] at h2
  exact h2
 ·obtain ⟨p, hp, hpd, hi⟩ := key i o d ho hd
  have h1 := List.all_eq_true.1 h i (List.mem_range.2 hi)
  simp only [hp, hpd, Bool.and_eq_true, Bool.or_eq_true, Bool.not_eq_true', decide_eq_false_iff_not, decide_eq_true_eq] at h1
  rcases h1.1 with h2 | h2
  ·exact absurd him h2
  ·exact ⟨h2.1, Option.isSome_iff_exists.1 h2.2⟩
def Kt (fs : List (Nat × Value)) (Fs : List (Nat × Fd)) (bs : Nat → Nat) : Nat → Option Value :=
 Fs.foldr (fun p f => uf f p.2.d (p.2.V (bs p.1))) (LF fs)
def QC (E : Nat → jv) (Fs : List (Nat × Fd)) (bs : Nat → Nat) : Nat → jv :=
 Fs.foldr (fun p E => up E p.2.κ (p.2.e (bs p.1))) E
theorem vT {α : Type} (p : Nat × α) (L : List (Nat × α)) : (p :: L).lookup p.1 = some p.2 := by
 obtain ⟨i, x⟩ := p
 simp [List.lookup]
theorem tQ {p : Nat × Fd} {L : List (Nat × Fd)} {i : Nat} {x : Fd} (hn : ((p :: L).map (·.1)).Nodup) (h : L.lookup i = some x) : (p :: L).lookup i = some x := by
 rw [List.lookup_cons]
 have : (i == p.1) = false := by
  rw [beq_eq_false_iff_ne]
  rintro rfl
  simp only [List.map_cons, List.nodup_cons] at hn
  exact hn.1 (List.mem_map.2 ⟨_, sM h, rfl⟩)
 rw [this]; exact h
theorem M9 {fs : List (Nat × Value)} {a' a : Act} {bs : Nat → Nat} (ha' : FR n (LF fs) a') (hsz : a.tmps.size = n) (hdf : a'.defers = a.defers) : ∀ (L : List (Nat × Fd)) (_ : (L.map (·.1)).Nodup), (∀ i x, L.lookup i = some x → a.tmps[x.d]? = some (x.V (bs i))) →
  (∀ t, (∀ i x, L.lookup i = some x → x.d ≠ t) → LF fs t ≠ none → a'.tmps[t]? = a.tmps[t]?) → FR n (Kt fs L bs) a
 | [], _, _, h2 => ⟨hsz, hdf ▸ ha'.dfr, fun t v hv => (h2 t (fun i x h => by cases h) (by rw [show LF fs t = some v from hv]; simp)) ▸ ha'.get t v hv⟩
 | p :: L, hn, h1, h2 => by
  refine ⟨hsz, hdf ▸ ha'.dfr, fun t v hv => ?_⟩
  unfold Kt at hv
  simp only [List.foldr_cons, uf] at hv
  by_cases e : t = p.2.d
  ·subst e
   simp at hv
   rw [← hv]
   exact h1 p.1 p.2 (vT _ _)
  ·have hbe : Nat.beq t p.2.d = false := by rw [Bool.eq_false_iff]; intro hh; exact e (Nat.eq_of_beq_eq_true hh)
   rw [hbe] at hv
   have hn' : (L.map (·.1)).Nodup := by simp only [List.map_cons, List.nodup_cons] at hn; exact hn.2
   by_cases hD : ∃ i x, L.lookup i = some x ∧ x.d = t
   · -- a slot of a later block
    have key : ∀ (M : List (Nat × Fd)), (∀ i x, M.lookup i = some x → a.tmps[x.d]? = some (x.V (bs i))) → (M.map (·.1)).Nodup → (∃ i x, M.lookup i = some x ∧ x.d = t) → ∀ v, Kt fs M bs t = some v → a.tmps[t]? = some v := by
     intro M
     induction M with
     | nil => intro _ _ ⟨_, _, h, _⟩; cases h
     | cons q M ih =>
      intro g1 g2 g3 v hv
      unfold Kt at hv
      simp only [List.foldr_cons, uf] at hv
      by_cases e2 : t = q.2.d
      ·subst e2
       simp at hv
       rw [← hv]
       exact g1 q.1 q.2 (vT _ _)
      ·have hbe : Nat.beq t q.2.d = false := by rw [Bool.eq_false_iff]; intro hh; exact e2 (Nat.eq_of_beq_eq_true hh)
       rw [hbe] at hv
       have g2' : (M.map (·.1)).Nodup := by simp only [List.map_cons, List.nodup_cons] at g2; exact g2.2
       refine ih (fun i x h => g1 i x (tQ g2 h)) g2' ?_ v hv
       obtain ⟨i, x, h, hd⟩ := g3
       rw [List.lookup_cons] at h
       cases hiq : (i == q.1) with
       | true => rw [hiq] at h; simp at h; subst h; exact absurd hd.symm e2
       | false => rw [hiq] at h; exact ⟨i, x, h, hd⟩
    exact key L (fun i x h => h1 i x (tQ hn h)) hn' hD v hv
   ·have hno : ∀ i x, (p :: L).lookup i = some x → x.d ≠ t := fun i x h hd => by
     rw [List.lookup_cons] at h
     cases hiq : (i == p.1) with
     | true => rw [hiq] at h; simp at h; subst h; exact e hd.symm
     | false => rw [hiq] at h; exact hD ⟨i, x, h, hd⟩
    have hLF : ∀ (M : List (Nat × Fd)), (∀ i x, M.lookup i = some x → x.d ≠ t) → (M.map (·.1)).Nodup → Kt fs M bs t = some v → LF fs t = some v := by
     intro M
     induction M with
     | nil => intro _ _ h; exact h
     | cons q M ih =>
      intro g1 g2 h
      unfold Kt at h
      simp only [List.foldr_cons, uf] at h
      have e2 : t ≠ q.2.d := fun e2 => g1 q.1 q.2 (vT _ _) e2.symm
      have hbe : Nat.beq t q.2.d = false := by rw [Bool.eq_false_iff]; intro hh; exact e2 (Nat.eq_of_beq_eq_true hh)
      rw [hbe] at h
      exact ih (fun i x h => g1 i x (tQ g2 h)) (by simp only [List.map_cons, List.nodup_cons] at g2; exact g2.2) h
    have hv' := hLF L (fun i x h => hno i x (tQ hn h)) hn' hv
    rw [← h2 t hno (by rw [hv']; simp)]
    exact ha'.get t v hv'
theorem Na {on : Nat → Prop} {bs : Nat → Nat} (hinj : ∀ i j x y, Fs.lookup i = some x → Fs.lookup j = some y → i ≠ j → x.κ ≠ y.κ ∧ x.d ≠ y.d) (hon : ∀ i x, Fs.lookup i = some x → on i) (hn : (Fs.map (·.1)).Nodup) :
  ES E (Fs.lookup ·) on bs = QC E Fs bs := by
 funext k
 have key : ∀ (M : List (Nat × Fd)), (∀ i x, M.lookup i = some x → Fs.lookup i = some x) → (M.map (·.1)).Nodup → (∀ i x, Fs.lookup i = some x → x.κ = k → M.lookup i = some x) → ES E (Fs.lookup ·) on bs k = QC E M bs k := by
  intro M
  induction M with
  | nil =>
   intro _ _ h
   exact AB fun ⟨i, _, x, hx, hk⟩ => by have := h i x hx hk; cases this
  | cons p M ih =>
   intro g1 g2 g3
   have hp : Fs.lookup p.1 = some p.2 := g1 p.1 p.2 (vT _ _)
   unfold QC
   simp only [List.foldr_cons]
   by_cases e : k = p.2.κ
   ·subst e
    rw [xm]
    exact Gr hinj (hon _ _ hp) hp
   ·rw [Dx e]
    refine ih (fun i x h => g1 i x (tQ g2 h)) (by simp only [List.map_cons, List.nodup_cons] at g2; exact g2.2) (fun i x h hk => ?_)
    have h3 := g3 i x h hk
    rw [List.lookup_cons] at h3
    cases hip : (i == p.1) with
    | true => rw [hip] at h3; simp at h3; subst h3; exact absurd hk.symm e
    | false => rw [hip] at h3; exact h3
 exact key Fs (fun _ _ h => h) hn (fun _ _ h _ => h)
theorem JK {f : Nat → Option Value} {id : Nat} {Q : Exit → Act → World → Prop} (m : Nat) (T : List (Nat × Op)) (Fs : List (Nat × Fd)) (fs : List (Nat × Value)) (hm : P.follows .mixedOrders = true) (hB : Region.lexTailB .any (twin l 0 T).toArray m = true)
  (hfr : UV l T m n (Fs.map fun p => (p.1, p.2.d)) = true) (hcov : Uy l m n fs = true) (hn1 : decide (Fs.map (·.1)).Nodup = true) (hn2 : decide (Fs.map (·.2.κ)).Nodup = true) (hn3 : decide (Fs.map (·.2.d)).Nodup = true)
  (hrun : ∀ i x, Fs.lookup i = some x → MJ P w l T i x) (hu : ∀ i x, Fs.lookup i = some x → LF fs x.d = some x.u) (hemp : ∀ i x, Fs.lookup i = some x → E x.κ = emp)
  (h : Tq P w n (twin l 0 T).toArray f E (fun a _ => FR n (LF fs) a) ((twin l 0 T).take m))
  (K : ∀ bs, Tr w n (Kt fs Fs bs) (QC E Fs bs) (wpList P l.toArray Q (l.drop m))) : Tr w n f E ((Code.region id l.toArray true).wp P Q) := by
 intro a W0 h1 h2
 have hn1 := of_decide_eq_true hn1
 have hnd : ∀ {β : Type} (g : Fd → β) (L : List (Nat × Fd)), (L.map fun p => g p.2).Nodup → ∀ i j x y, L.lookup i = some x → L.lookup j = some y → i ≠ j → g x ≠ g y := by
  intro β g L
  induction L with
  | nil => intro _ i j x y hx; cases hx
  | cons p L ih =>
   intro hN i j x y hx hy hij
   simp only [List.map_cons, List.nodup_cons] at hN
   rw [List.lookup_cons] at hx hy
   cases hi : (i == p.1) with
   | true =>
    rw [hi] at hx; simp at hx hi; subst hx
    have hj : (j == p.1) = false := by rw [beq_eq_false_iff_ne]; exact fun e => hij (hi.trans e.symm)
    rw [hj] at hy
    exact fun e => hN.1 (List.mem_map.2 ⟨_, sM hy, e.symm⟩)
   | false =>
    rw [hi] at hx
    cases hj : (j == p.1) with
    | true => rw [hj] at hy; simp at hy; subst hy; exact fun e => hN.1 (List.mem_map.2 ⟨_, sM hx, e⟩)
    | false => rw [hj] at hy; exact ih hN.2 i j x y hx hy hij
 have hinj : ∀ i j x y, Fs.lookup i = some x → Fs.lookup j = some y → i ≠ j → x.κ ≠ y.κ ∧ x.d ≠ y.d := fun i j x y hx hy hij =>
  ⟨hnd (·.κ) Fs (of_decide_eq_true hn2) i j x y hx hy hij, hnd (·.d) Fs (of_decide_eq_true hn3) i j x y hx hy hij⟩
 obtain ⟨c1, c2⟩ := Nk (T := T) hcov
 simp only [Region.lexTailB, Bool.and_eq_true, decide_eq_true_eq] at hB
 obtain ⟨⟨⟨⟨hsel, hn⟩, hs⟩, hc⟩, hlex⟩ := hB
 have hlt : m < (twin l 0 T).length := by simpa using hn
 have htl : ((twin l 0 T).take m).length = m := by simp; omega
 have hlen : (twin l 0 T).length = l.length := yE _ _ _
 have hml : m < l.length := by omega
 have hdl : (l.drop m).length = l.length - m := by simp
 have inv0 : HeadInv .any (twin l 0 T).toArray m (Array.replicate (twin l 0 T).toArray.size false) :=
  ⟨by simp, fun j oj _ hl => (by rw [getD_replicate_false] at hl; cases hl), fun t _ ht => getD_in (by simpa using ht) (getD_replicate_false _ _)⟩
 have H : ∀ W2, HF w W2 E → jG P (twin l 0 T).toArray (fun W' => Below W2.heap.size W2 W') m (fun listed' a' => Region.seqB .any (twin l 0 T).toArray (l.length - m) m listed' = true ∧ FR n (LF fs) a') m (Array.replicate (twin l 0 T).toArray.size false) a := fun W2 hW2 => by
  have := jG.lex (P := P) (C := fun W' => Below W2.heap.size W2 W') (g := (twin l 0 T).toArray.size - m) (Lq := fun a' => FR n (LF fs) a') hsel hs hc hn ((twin l 0 T).take m) 0 _ a (fun j hj => by
   have hj' : j < m := by rw [htl] at hj; exact hj
   simp [hj']) (by simpa using htl) inv0 (by rw [htl]; exact hlex) (by
    have := h a W2 h1 hW2
    have key : ∀ (L : List Oper) (a : Act), wpQuiet P (twin l 0 T).toArray (fun W' => Below W2.heap.size W2 W') (fun a' => ∀ W', Below W2.heap.size W2 W' → FR n (LF fs) a') L a → wpQuiet P (twin l 0 T).toArray (fun W' => Below W2.heap.size W2 W') (fun a' => FR n (LF fs) a') L a := by
     intro L
     induction L with
     | nil => intro a h; exact h W2 (Below.refl _ _)
     | cons o L ih =>
      intro a h
      unfold wpQuiet at h ⊢
      split
      ·rename_i hw; rw [if_pos hw] at h; exact Oper.quiet_mono (fun a => ih a) h
      ·rename_i hw; rw [if_neg hw] at h; exact ih _ h
    exact key _ _ this)
  rw [htl] at this
  simpa [hlen] using this
 refine wp_region_any hm ?_
 have run := jG.Vg (P := P) (l := l) (T := T) (m := m) (n := n) (w := w) (E := E) (Fs := Fs) (f1 := LF fs) (Q := Q) (g := l.length - m)
  (L := fun listed' a' => Region.seqB .any (twin l 0 T).toArray (l.length - m) m listed' = true ∧ FR n (LF fs) a') hinj hfr hrun hu (fun _ _ h => h.2) hemp hsel c1 c2
  (fun listed a' a W inv ht hL => by
   obtain ⟨hseq, hFR⟩ := hL
   have hall : ∀ i x, Fs.lookup i = some x → listed.getD i false = true := fun i x hx => by
    cases hli : listed.getD i false with
    | true => rfl
    | false =>
     have him := ((Jg hfr).2.1 i x hx).1
     have hun : listed.getD i true = false := getD_in (by rw [inv.size]; simp; omega) hli
     have h3 := tail_waits hs hc hn inv _ i rfl him hun m (Nat.le_refl _)
     obtain ⟨g', hg'⟩ : ∃ g', l.length - m = g' + 1 := ⟨l.length - m - 1, by omega⟩
     rw [hg'] at hseq
     simp only [Region.seqB, Bool.and_eq_true, decide_eq_true_eq] at hseq
     rw [hseq.1] at h3
     simp at h3
   obtain ⟨bs, hb1, hb2⟩ := ht.mem
   rw [Na hinj (fun i x hx => hall i x hx) hn1] at hb2
   have hF := M9 hFR ht.size ht.dfr Fs hn1 (fun i x hx => hb1 i x hx (hall i x hx)) (fun t htD _ => ht.same t htD)
   have := wpAny_of_seq (P := P) (md := .any) (Q' := Q) (l.drop m) m listed a W (ops := l.toArray) (fun j => by simp [List.getElem?_drop]) (by
    rw [hdl]
    have key : ∀ (g k : Nat) (listed : Array Bool), Region.seqB .any (twin l 0 T).toArray g k listed = Region.seqB .any l.toArray g k listed := by
     intro g
     induction g with
     | zero => intro k listed; simp only [Region.seqB, xq]
     | succ g ih => intro k listed; simp only [Region.seqB, xq, ih]
    rw [← key]; exact hseq) (K bs a W hF hb2)
   rwa [hdl] at this) m _ a a { W0 with drawn := W0.drawn + 1 } inv0 (by simp [hlen])
  ⟨h1.size, h1.size, rfl, fun _ _ => rfl, fun _ => 0, fun i x _ hl => (by rw [getD_replicate_false] at hl; cases hl), by
   refine (h2.later (W' := { W0 with drawn := W0.drawn + 1 }) ⟨rfl, rfl, rfl, Nat.le_refl _, fun _ _ => rfl, by simp⟩).weaken fun k => .inl ?_
   exact AB fun ⟨i, hi, _⟩ => by rw [getD_replicate_false] at hi; cases hi⟩ H
 rw [show m + (l.length - m) = l.toArray.size by simp; omega] at run
 simpa [hlen] using run
end
end
open Go.RowKit
theorem wQ {p : Nat → Fd → Prop} : ∀ i x, ([] : List (Nat × Fd)).lookup i = some x → p i x := fun _ _ h => by cases h
theorem uU {p : Nat → Fd → Prop} {i : Nat} {x : Fd} {L : List (Nat × Fd)} (h : p i x) (h2 : ∀ i x, L.lookup i = some x → p i x) : ∀ j y, ((i, x) :: L).lookup j = some y → p j y := fun j y hy => by
 rw [List.lookup_cons] at hy
 cases hj : (j == i) with
 | true => rw [hj] at hy; simp at hy hj; subst hy hj; exact h
 | false => rw [hj] at hy; exact h2 j y hy
section
variable {P : Program} {w : Bs} {l : List Oper} {Tw : List (Nat × Op)} {i d κ T ty len e : Nat} {dst : Option Nat} {pos : String} {af : Array Edge} {g : Option (Nat × Bool)}
theorem BL {ρ : Operand → Value} {W : World} {xs : Array Operand} {u : Value} (h : (execOp ρ ⟨dst, .makeFunc (.func 0) #[] xs, ty, pos, af, g⟩).run P W = .ok (.value u) W) : u = .func (.func 0) #[] (xs.map ρ) := by
 rw [rO rfl] at h
 injection h with h1 _
 injection h1 with h1
 exact h1.symm
theorem OV {cs : List Value} (hl : l[i]? = some ⟨dst, .alloc T, ty, pos, af, g⟩) (ht : Tw.lookup i = some (.makeFunc (.func 0) #[] #[])) (hz : zeroOf P T = some cs) :
  MJ P w l Tw i ⟨d, κ, .func (.func 0) #[] #[], fun b => .pointer (some ⟨b, 0, none⟩), fun b => bx b cs.toArray T⟩ := by
 intro o op ho hop
 rw [hl] at ho; obtain rfl := Option.some.inj ho
 rw [ht] at hop; obtain rfl := Option.some.inj hop
 exact ⟨fun ρ W => ⟨_, rO rfl⟩, fun ρ W _ => ⟨_, zx hz, (Below.refl _ _).alloc (Nat.le_refl _) _, fun E1 h => h.alloc κ cs.toArray T⟩⟩
theorem IZ : ∀ {ps : List (Nat × Operand)} {vs : List (Nat × Value)} {ρ : Operand → Value}, ps.map (·.1) = vs.map (·.1) → ps.map (fun p => ρ p.2) = vs.map (·.2) → ps.map (fun p => (p.1, ρ p.2)) = vs
 | [], [], _, _, _ => rfl
 | [], _ :: _, _, h, _ => by cases h
 | _ :: _, [], _, h, _ => by cases h
 | p :: ps, v :: vs, ρ, h, h2 => by
  simp only [List.map_cons, List.cons.injEq] at h h2
  rw [List.map_cons, IZ h.2 h2.2, h.1, h2.1]
theorem Tc {ps : List (Nat × Operand)} {vs : List (Nat × Value)} {cs : List Value} (hl : l[i]? = some ⟨dst, .buildSlice T len ps.toArray, ty, pos, af, g⟩) (ht : Tw.lookup i = some (.makeFunc (.func 0) #[] (ps.map (·.2)).toArray))
  (hk : ps.map (·.1) = vs.map (·.1)) (hb : uV P T len vs = some (e, cs)) :
  MJ P w l Tw i ⟨d, κ, .func (.func 0) #[] (vs.map (·.2)).toArray, fun b => .slice (some ⟨b, 0, none⟩) len len, fun b => bx b cs.toArray e⟩ := by
 intro o op ho hop
 rw [hl] at ho; obtain rfl := Option.some.inj ho
 rw [ht] at hop; obtain rfl := Option.some.inj hop
 refine ⟨fun ρ W => ⟨_, rO rfl⟩, fun ρ W h => ?_⟩
 have h1 := BL h
 have h2 : ps.map (fun p => ρ p.2) = vs.map (·.2) := by
  have := congrArg (fun v => match v with | .func _ _ c => c.toList | _ => []) h1
  simp at this
  exact this.symm
 have h3 := IZ hk h2
 exact ⟨_, run_buildSlice (by simp; exact h3) hb, (Below.refl _ _).alloc (Nat.le_refl _) _, fun E1 h => h.alloc κ cs.toArray e⟩
end
def uF (A : Option Addr) (lo sz c : Nat) : Option Addr := if c = lo then A else A.map (·.add (lo * sz))
def cut {α : Type} (l : List α) (lo hi : Int) : Option (List α) := if 0 ≤ lo ∧ lo ≤ hi ∧ hi ≤ (l.length : Int) then some ((l.take hi.toNat).drop lo.toNat) else none
theorem vv {α : Type} {l l' : List α} {lo hi : Int} (h : cut l lo hi = some l') : (0 ≤ lo ∧ lo ≤ hi ∧ hi ≤ (l.length : Int)) ∧ (l.take hi.toNat).drop lo.toNat = l' := by
 unfold cut at h
 split at h
 ·exact ⟨by assumption, Option.some.inj h⟩
 ·cases h
theorem Bp {α : Type} {l l' : List α} {lo hi : Int} (h : cut l lo hi = some l') : l'.length = hi.toNat - lo.toNat := by
 obtain ⟨h1, rfl⟩ := vv h
 simp; omega
theorem O9 {α : Type} {l l' : List α} {lo hi : Int} {A : Option Addr} {c sz : Nat} (hf : dM A l.length c) (h : cut l lo hi = some l') :
  dM (uF A lo.toNat sz c) l'.length (c - lo.toNat) ∧ (0 < l'.length → mV (uF A lo.toNat sz c) = mV A ∧ pW (uF A lo.toNat sz c) = pW A + lo.toNat * sz) := by
 have hl := Bp h
 obtain ⟨⟨h1, h2, h3⟩, _⟩ := vv h
 obtain ⟨f1, f2, f3⟩ := hf
 have key : 0 < l'.length → uF A lo.toNat sz c = some ⟨mV A, pW A + lo.toNat * sz, none⟩ := fun hp => by
  have hA := f3 (by omega)
  unfold uF
  rw [if_neg (by omega)]
  generalize mV A = b at *
  generalize pW A = o at *
  subst hA
  simp [Addr.add_lit]
 refine ⟨⟨by omega, by omega, fun hp => ?_⟩, fun hp => by rw [key hp]; exact ⟨rfl, rfl⟩⟩
 rw [key hp]; rfl
theorem Sl.cut {α : Type} {S : Nat → Prop} {W : World} {t : Fl α} {A : Option Addr} {c : Nat} {l l' : List α} {lo hi : Int} (h : Sl S W t A c l) (hc : Proofs.YtcjeebkoafonpaaGreatDoor.cut l lo hi = some l') : Sl S W t (uF A lo.toNat t.sz c) (c - lo.toNat) l' := by
 obtain ⟨g1, g2⟩ := O9 (sz := t.sz) h.form hc
 obtain ⟨⟨h1, h2, h3⟩, hl⟩ := vv hc
 refine ⟨g1, fun i x hx => ?_⟩
 have hlt := (List.getElem?_eq_some_iff.1 hx).1
 obtain ⟨e1, e2⟩ := g2 (by omega)
 rw [← hl, List.getElem?_drop, List.getElem?_take] at hx
 split at hx
 ·obtain ⟨s1, u, s2, s3⟩ := h.cells _ x hx
  rw [e1, e2]
  refine ⟨s1, u, s2, ?_⟩
  rw [show pW A + lo.toNat * t.sz + i * t.sz = pW A + (lo.toNat + i) * t.sz by rw [Nat.add_mul]; omega]
  exact s3
 ·cases hx
section
variable {P : Program} {ρ : Operand → Value} {W : World} {d : Option Tmp} {ty T : TypeId} {pos : String} {af : Array Edge} {g : Option (Nat × Bool)} {p q r : Operand} {i j : Int} {α : Type} {l l' : List α} {e sz c : Nat} {A : Option Addr}
theorem FK {x : Int} {y : Nat} {code : BoundsCode} (h0 : 0 ≤ x) (h1 : x ≤ y) : (Instr.sliceBound (.int .i64 x) y code).run P W = .ok x.toNat W := by
 simp [Instr.sliceBound, asIntOf, h0, h1]
theorem Oe (he : elemOf? P T = some (e, sz)) (hp : ρ p = .slice A l.length c) (hf : dM A l.length c) (hr : ρ r = .int .i64 j) (hc : cut l 0 j = some l') :
  (execOp ρ ⟨d, .slice T p none (some r) none, ty, pos, af, g⟩).run P W = .ok (.value (.slice (uF A 0 sz c) l'.length (c - 0))) W := by
 have hl := Bp hc
 obtain ⟨⟨h1, h2, h3⟩, _⟩ := vv hc
 have hfc := hf.1
 unfold elemOf? at he
 split at he
 ·rename_i e' hu
  cases hs : lT P e' with
  | none => rw [hs] at he; cases he
  | some n' =>
   rw [hs] at he; simp at he; obtain ⟨rfl, rfl⟩ := he
   have b1 := FK (P := P) (W := W) (x := j) (y := c) (code := .sliceAcap) (by omega) (by omega)
   simp [execOp, hp, hr, Instr.sliceAt, Instr.slice, Instr.sliceBounds, run_underlying hu, b1, run_sizeOf hs, hl, uF]
 ·cases he
theorem uX (he : elemOf? P T = some (e, sz)) (hp : ρ p = .slice A l.length c) (hf : dM A l.length c) (hq : ρ q = .int .i64 i) (hc : cut l i l.length = some l') :
  (execOp ρ ⟨d, .slice T p (some q) none none, ty, pos, af, g⟩).run P W = .ok (.value (.slice (uF A i.toNat sz c) l'.length (c - i.toNat))) W := by
 have hl := Bp hc
 obtain ⟨⟨h1, h2, h3⟩, _⟩ := vv hc
 have hfc := hf.1
 unfold elemOf? at he
 split at he
 ·rename_i e' hu
  cases hs : lT P e' with
  | none => rw [hs] at he; cases he
  | some n' =>
   rw [hs] at he; simp at he; obtain ⟨rfl, rfl⟩ := he
   have b2 := FK (P := P) (W := W) (x := i) (y := l.length) (code := .sliceB) h1 (by omega)
   simp [execOp, hp, hq, Instr.sliceAt, Instr.slice, Instr.sliceBounds, run_underlying hu, b2, run_sizeOf hs, hl, uF]
 ·cases he
theorem Od {T' : TypeId} {k : Int} (hp : ρ p = .int .i64 i) (hq : ρ q = .int .i64 j) (h : dv i j = some k) : (execOp ρ ⟨d, .binOp .quo T p q T', ty, pos, af, g⟩).run P W = .ok (.value (.int .i64 k)) W := by
 obtain ⟨h0, rfl⟩ := Q3 h
 exact Li hp hq h0
theorem GM {T' : TypeId} {k : Int} (hp : ρ p = .int .i64 i) (hq : ρ q = .int .i64 j) (h : md i j = some k) : (execOp ρ ⟨d, .binOp .rem T p q T', ty, pos, af, g⟩).run P W = .ok (.value (.int .i64 k)) W := by
 obtain ⟨h0, rfl⟩ := QH h
 exact Qu hp hq h0
theorem IK {T' : TypeId} {s t x : ByteArray} (hp : ρ p = .string s) (hq : ρ q = .string t) (h : Pm s t = some x) : (execOp ρ ⟨d, .binOp .add T p q T', ty, pos, af, g⟩).run P W = .ok (.value (.string x)) W := by
 obtain ⟨h0, rfl⟩ := Nl h
 exact Og hp hq h0
end
section
variable {P : Program} {w : Bs} {n : Nat} {f : Nat → Option Value} {E : Nat → jv} {Q : Exit → Act → World → Prop} {ops : Array Oper} {rest : List Oper}
variable {d ty T : Nat} {pos : String} {af : Array Edge} {g : Option (Nat × Bool)} {p q : Operand}
theorem vz {α : Type} (κ : Nat) {A A2 : Option Addr} {c e i c2 : Nat} {t : Fl α} {l l2 l' : List α} (hw : Wn ops f ⟨some d, .call ⟨.builtin .append, #[p, q], #[T, T]⟩, ty, pos, af, g⟩) (hdn : Nat.blt d n = true)
  (hp : ev f p = some (.slice A l.length c)) (hk : E κ = ow A c e t l) (hq : ev f q = some (.slice A2 l2.length c2)) (hr : ∀ W, HF w W E → dM A2 l2.length c2 ∧ ∃ css, Al (rp t w.O w.W) css l2 ∧ aF W (mV A2) (pW A2) css.flatten)
  (hu : P.underlying T = some (.slice e)) (hs : lT P e = some t.sz) (hz : (zeroOf P e).map List.length = some t.sz) (hsz : 0 < t.sz) (hby : (P.info? e).map (·.bytes) = some i) (hi : Nat.ble i 32768 = true) (hap : yX l l2 = some l')
  (K : ∀ A' c', dM A' l'.length c' → Tr w n (uf f d (.slice A' l'.length c')) (up E κ (ow A' c' e t l')) (wpList P ops Q rest)) :
  Tr w n f E (wpList P ops Q (⟨some d, .call ⟨.builtin .append, #[p, q], #[T, T]⟩, ty, pos, af, g⟩ :: rest)) := by
 intro a W h1 h2
 have hf := (hr W h2).1
 cases l2 with
 | nil =>
  obtain ⟨_, hl'⟩ := ER hap
  rw [List.append_nil] at hl'
  subst hl'
  have hle := (h2.sl hk).form.1
  have key : Tr w n (uf f d (.slice A l.length c)) E (wpList P ops Q rest) := fun a W k1 k2 => K A c (k2.sl hk).form a W k1
   (k2.mod κ (ow A c e t l) rfl rfl rfl (Nat.le_refl _) (Nat.le_refl _) (fun _ _ _ => rfl) (nO _ _ _ _ _) (k2.ow hk) (fun b hb => by
    have hb' : (E κ).S b := by rw [hk]; exact hb
    exact ⟨.inl hb', (k2.bd κ b hb').2⟩))
  refine Tr.val (P := P) hw hdn (fun a W h1 _ => ?_) key a W h1 h2
  have hs' := run_sizeOf (W := W) hs
  cases A2 <;> cases A <;> simp [execOp, resolve, invoke, builtin, h1.ev hp, h1.ev hq, Builtin.append_, run_underlying hu, hs', Builtin.lenOf, hle, Builtin.firstCells, storeCells, loadCells, loadCellsFrom]
 | cons x l2 =>
  have hA := hf.2.2 (by simp)
  rw [hA] at hq
  exact Tr.append (P := P) κ hw hdn hp hk hq (fun W hW => (hr W hW).2) hu hs hz hsz hby hi hap K a W h1 h2
theorem VL {α : Type} {t : Fl α} {A2 : Option Addr} {c2 : Nat} {l2 : List α} (h : Sl w.O w.W t A2 c2 l2) : ∀ W, HF w W E → dM A2 l2.length c2 ∧ ∃ css, Al (rp t w.O w.W) css l2 ∧ aF W (mV A2) (pW A2) css.flatten := fun W hW => by
 refine ⟨h.form, ?_⟩
 obtain ⟨css, h1, h2⟩ := h.all
 cases l2 with
 | nil => cases h1; exact ⟨[], .nil, fun j u hu => by simp at hu⟩
 | cons x l2 => exact ⟨css, h1, h2.loc (hW.keep _ (.inl (h.cells 0 x rfl).1))⟩
theorem Vw {α : Type} {t : Fl α} {A2 : Option Addr} {c2 : Nat} {l2 : List α} (ht : t.PK) (h : ∀ W, HF w W E → Sl (lo W.heap.size) W t A2 c2 l2) : ∀ W, HF w W E → dM A2 l2.length c2 ∧ ∃ css, Al (rp t w.O w.W) css l2 ∧ aF W (mV A2) (pW A2) css.flatten := fun W hW => by
 obtain ⟨css, h1, h2⟩ := (h W hW).all
 exact ⟨(h W hW).form, css, h1.mono (fun _ _ ⟨u, _, h3⟩ => ⟨u, ht _ _ _ _, h3⟩), h2⟩
theorem Sl.Cz {α : Type} {t : Fl α} {A2 : Option Addr} {c2 : Nat} {l2 : List α} {W : World} (h : Sl w.R w.W t A2 c2 l2) (hW : HF w W E) : Sl (lo W.heap.size) W t A2 c2 l2 := h.go (fun _ hb => hW.GR hb) hW.keep
end
end Go.Proofs.YtcjeebkoafonpaaGreatDoor
