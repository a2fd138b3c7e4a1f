/- What holds from a base on; calls with parts handed over; cuts within regions; other names for parts. Conditions: none beyond each theorem's own. -/
import Derived.Test.YtfddmjoldoddlaaH11
namespace Go.Proofs.Ytfddmjoldoddlaa
open Go.RowKit
/-- From a base on: what can be read stays. -/
structure Bs.Ext (B B' : Bs) : Prop where
  o : ∀ b, B.O b → B'.O b
  r : ∀ b, B.R b → B'.R b
  blk : ∀ b, B.R b → B'.W.heap[b]? = B.W.heap[b]?
theorem Bs.Ext.refl (B : Bs) : B.Ext B := ⟨fun _ h => h, fun _ h => h, fun _ _ => rfl⟩
theorem Bs.Ext.trans {A B C : Bs} (h : A.Ext B) (k : B.Ext C) : A.Ext C := ⟨fun b hb => k.o b (h.o b hb), fun b hb => k.r b (h.r b hb), fun b hb => (k.blk b (h.r b hb)).trans (h.blk b hb)⟩
theorem Bs.Le.ext {B B' : Bs} (h : B.Le B') : B.Ext B' := ⟨h.sub, h.r, h.blk⟩
theorem Bs.Ext.cells {B B' : Bs} (h : B.Ext B') {b o : Nat} {cs : List Value} (hb : B.R b) (hc : CellsAt B.W b o cs) : CellsAt B'.W b o cs := hc.loc (h.blk b hb)
section
variable {α : Type} {w w' : Bs} {W W' : World} {E : Nat → Ent} {t : Fl α} {A : Option Addr} {c T k b : Nat} {l : List α} {ks : List Nat} {ins : List Ent} {vs : List Value}
theorem Sl.ext (h : Sl w.R w.W t A c l) (he : w.Ext w') : Sl w'.R w'.W t A c l := h.go he.r he.blk
theorem Sl.extO (h : Sl w.O w.W t A c l) (he : w.Ext w') : Sl w'.O w'.W t A c l := h.go he.o (fun b hb => he.blk b (.inl hb))
theorem HF.subR (hW : HF w W E) (hp : Pk E ks ins) (hb : w.R b) : (hW.sub (insS ins)).R b := by
  rcases hb with hb | hb
  · exact .inl hb
  · refine .inr ⟨hW.rlt (.inr hb), fun hi => ?_⟩
    obtain ⟨k, _, _, hs⟩ := insS_not hW hp hi
    exact (hW.bd k b hs).1 (.inr hb)
theorem HF.subS (hW : HF w W E) (hp : Pk E ks ins) (hk : ks.contains k = false) (hb : (E k).S b) : (hW.sub (insS ins)).R b := by
  refine .inr ⟨(hW.bd k b hb).2, fun hi => ?_⟩
  obtain ⟨k', j, hj, hs⟩ := insS_not hW hp hi
  refine hW.disj k k' b (fun e => ?_) hb hs
  subst e
  have : k ∈ ks := List.mem_of_getElem? hj
  simp [this] at hk
theorem HF.extAll (hW : HF w W E) : w.Ext hW.all := ⟨fun _ h => h, fun _ hb => hW.allR (hW.rlt hb), hW.keep⟩
theorem HF.extS (hW : HF w W E) (hp : Pk E ks ins) : w.Ext (hW.sub (insS ins)) := ⟨fun _ h => h, fun _ hb => hW.subR hp hb, hW.keep⟩
theorem HF.slS (hW : HF w W E) (hk : E k = Proofs.Ytfddmjoldoddlaa.ow A c T t l) (hp : Pk E ks ins) (hn : ks.contains k = false) : Sl (hW.sub (insS ins)).R (hW.sub (insS ins)).W t A c l :=
  (hW.sl hk).mono (fun b hb => by
    rcases hb with hb | hb
    · exact .inl hb
    · exact hW.subS hp hn hb)
theorem HF.boxS (hW : HF w W E) (hk : E k = Proofs.Ytfddmjoldoddlaa.bx b vs.toArray T) (hp : Pk E ks ins) (hn : ks.contains k = false) : (hW.sub (insS ins)).R b := hW.subS hp hn (by rw [hk]; rfl)
theorem HF.boxC (hW : HF w W E) (hk : E k = Proofs.Ytfddmjoldoddlaa.bx b vs.toArray T) : CellsAt (hW.sub (insS ins)).W b 0 vs := rdb hW hk 0
theorem pk_nil : Pk E [] [] := trivial
theorem pk_cons {e : Ent} {es : List Ent} (h : E k = e) (h2 : Pk E ks es) : Pk E (k :: ks) (e :: es) := ⟨h, h2⟩
end
section
variable {P : Program} {w : Bs} {n : Nat} {f : Nat → Option Value} {E : Nat → Ent} {X Y : Act → World → Prop} {Q : Exit → Act → World → Prop} {ops : Array Oper} {rest l : List Oper}
/-- A cut within a region; the base stays. -/
theorem Tr.mid0 (m : Nat) (fs : List (Nat × Value)) (es : List (Nat × Ent)) (h : Tr w n f E (wpList P ops (Exit.then (fun a W => FR n (LF fs) a ∧ HF w W (LE es)) Q) (l.take m)))
    (h2 : Tr w n (LF fs) (LE es) (wpList P ops Q (l.drop m))) : Tr w n f E (wpList P ops Q l) := by
  intro a W h1 h3
  have := wpList_two (rest := l.drop m) _ a W (h a W h1 h3) (fun a W ⟨k1, k2⟩ => h2 a W k1 k2)
  rwa [List.take_append_drop] at this
theorem Tr.fin0 {fs : List (Nat × Value)} {es : List (Nat × Ent)} (hf : SelF f fs) (he : SelE E es) : Tr w n f E (Exit.then (fun a W => FR n (LF fs) a ∧ HF w W (LE es)) Q .normal) := fun _ _ h1 h2 => ⟨h1.sel hf, h2.sel he⟩
/-- A part under another name. -/
theorem Tr.ren {e : Ent} (k K : Nat) (hk : E k = e) (hK : E K = emp) (hne : Nat.beq k K = false) (h : Tr w n f (up (up E k emp) K e) X) : Tr w n f E X := fun a W h1 h2 => by
  have hne' : k ≠ K := fun e => by subst e; simp at hne
  refine h a W h1 ?_
  have key : ∀ j, (j = K ∧ up (up E k emp) K e j = E k) ∨ (j ≠ K ∧ j = k ∧ up (up E k emp) K e j = emp) ∨ (j ≠ K ∧ j ≠ k ∧ up (up E k emp) K e j = E j) := fun j => by
    rcases up_cases (up E k emp) K e j with ⟨a1, a2⟩ | ⟨a1, a2⟩
    · exact .inl ⟨a1, by rw [a2, hk]⟩
    · rcases up_cases E k emp j with ⟨b1, b2⟩ | ⟨b1, b2⟩
      · exact .inr (.inl ⟨a1, b1, by rw [a2, b2]⟩)
      · exact .inr (.inr ⟨a1, b1, by rw [a2, b2]⟩)
  refine ⟨h2.os, h2.tape, h2.output, h2.size, h2.drawn, h2.keep, fun j => ?_, fun j => ?_, fun j b => ?_, fun i j b hij => ?_⟩
  · rcases key j with ⟨_, e1⟩ | ⟨_, _, e1⟩ | ⟨_, _, e1⟩ <;> rw [e1]
    · exact h2.phi k
    · trivial
    · exact h2.phi j
  · rcases key j with ⟨_, e1⟩ | ⟨_, _, e1⟩ | ⟨_, _, e1⟩ <;> rw [e1]
    · exact h2.loc k
    · exact emp_loc
    · exact h2.loc j
  · rcases key j with ⟨_, e1⟩ | ⟨_, _, e1⟩ | ⟨_, _, e1⟩ <;> rw [e1]
    · exact h2.bd k b
    · exact fun hh => hh.elim
    · exact h2.bd j b
  · rcases key i with ⟨a1, e1⟩ | ⟨a1, b1, e1⟩ | ⟨a1, b1, e1⟩ <;> rcases key j with ⟨a2, e2⟩ | ⟨a2, b2, e2⟩ | ⟨a2, b2, e2⟩ <;> rw [e1, e2]
    · exact absurd (a1.trans a2.symm) hij
    · exact fun _ hh => hh.elim
    · exact h2.disj k j b (Ne.symm b2)
    · exact fun hh => hh.elim
    · exact fun hh => hh.elim
    · exact fun hh => hh.elim
    · exact h2.disj i k b b1
    · exact fun _ hh => hh.elim
    · exact h2.disj i j b hij
theorem Tr.dropK (k : Nat) (h : Tr w n f (up E k emp) X) : Tr w n f E X := fun a W h1 h2 => h a W h1 (h2.drop k)
end
/-- What a slice reads as, at one place: its addresses. -/
theorem Sl.el {α : Type} {S : Nat → Prop} {W : World} {t : Fl α} {A : Option Addr} {c : Nat} {l : List α} (h : Sl S W t A c l) {i : Nat} {x : α} (hx : l[i]? = some x) : ∃ u, S (adB A) ∧ t.ok S W u x ∧ CellsAt W (adB A) (adO A + i * t.sz) (t.enc u x) := by
  obtain ⟨h1, u, h2, h3⟩ := h.cells i x hx
  exact ⟨u, h1, h2, h3⟩
end Go.Proofs.Ytfddmjoldoddlaa
