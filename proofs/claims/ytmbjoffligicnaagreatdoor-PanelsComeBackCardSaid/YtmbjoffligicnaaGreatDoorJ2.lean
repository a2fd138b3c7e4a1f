/- Slices that are compared with nil. Conditions: none beyond each theorem's own. What holds from a base on; calls with parts handed over; cuts within regions; other names for parts. Conditions: none beyond each theorem's own. Front parts of slices; lengths that stay; a result in a variable of one cell. Conditions: none beyond each theorem's own. min and max of three. Over any program. A literal that becomes a slice of the call's own, within a region that draws. Short words for the steps that come most. Over any program. Calls of a function value that is a function of the program, and that make or turn memory. Calls of closures that turn variables which they hold. strings.Builder: a part of memory that holds a builder and the row of its bytes; WriteString, Len and String over the library's laid bodies. Over any program. Conditions: none beyond each theorem's own. The library's table of powers of ten, and the number that its search in strings reads, as facts of the base; strconv.Itoa at every number. Over any program. Conditions: none beyond each theorem's own. A slice of the call's own, one element of which is held by its cells: its inner slices may be parts of the call's own. Over any program. Conditions: none beyond each theorem's own. Functions of the library over strings, over its proved contracts: Cut, Split, Trim, ContainsFunc, Join, Atoi. Over any program. Conditions: none beyond each theorem's own. -/
import Derived.Test.YtmbjoffligicnaaGreatDoorJ1
import Derived.Lib.LazyBuf
import Derived.Shelf.Strings.Builder1
import Derived.Lib.FrozenHead
import Derived.Shelf.Strconv.Itoa3
import Derived.Shelf.Strings.Cut
import Derived.Shelf.Strings.Split
import Derived.Shelf.Strings.SlTrimAscii
import Derived.Shelf.Strings.FuncGrows
import Derived.Shelf.Strings.OnBuilder
import Derived.Shelf.Strconv.Atoi
import Derived.Lib.SmallJoins
namespace Go.Proofs.YtmbjoffligicnaaGreatDoor
open Go.RowKit
section
variable {P : Program} {ρ : Operand → Value} {W : World} {dd : Option Tmp} {ty T T' e : TypeId} {pos : String} {af : Array Edge} {g : Option (Nat × Bool)} {p q : Operand} {A : Option Addr} {n c : Nat}
theorem run_eqlNil (hu : P.underlying T = some (.slice e)) (hp : ρ p = .slice A n c) (hq : ρ q = .slice none 0 0) : (execOp ρ ⟨dd, .binOp .eql T p q T', ty, pos, af, g⟩).run P W = .ok (.value (.bool A.isNone)) W := by
  simp [execOp, hp, hq, Lib.run_eql_slice_nil W T e A n c 0 0 hu, eqGuard]
theorem run_neqNil (hu : P.underlying T = some (.slice e)) (hp : ρ p = .slice A n c) (hq : ρ q = .slice none 0 0) : (execOp ρ ⟨dd, .binOp .neq T p q T', ty, pos, af, g⟩).run P W = .ok (.value (.bool (!A.isNone))) W := by
  simp [execOp, hp, hq, run_neq_slice_nil_any W T e A n c 0 0 hu, eqGuard]
theorem slf_none {α : Type} {l : List α} {c : Nat} (h : SlF none l.length c) : l = [] := by
  cases l with
  | nil => rfl
  | cons x l => have := h.2.2 (by simp); cases this
end
end Go.Proofs.YtmbjoffligicnaaGreatDoor
namespace Go.Proofs.YtmbjoffligicnaaGreatDoor
open Go.RowKit
/-- From a base on: what can be read stays. -/
structure Bs.Ext (B B' : Bs) : Prop where
  o : ∀ b, B.O b → B'.O b
  r : ∀ b, B.R b → B'.R b
  blk : ∀ b, B.R b → B'.W.heap[b]? = B.W.heap[b]?
theorem Bs.Ext.refl (B : Bs) : B.Ext B := ⟨fun _ h => h, fun _ h => h, fun _ _ => rfl⟩
theorem Bs.Ext.trans {A B C : Bs} (h : A.Ext B) (k : B.Ext C) : A.Ext C := ⟨fun b hb => k.o b (h.o b hb), fun b hb => k.r b (h.r b hb), fun b hb => (k.blk b (h.r b hb)).trans (h.blk b hb)⟩
theorem Bs.Le.ext {B B' : Bs} (h : B.Le B') : B.Ext B' := ⟨h.sub, h.r, h.blk⟩
theorem Bs.Ext.cells {B B' : Bs} (h : B.Ext B') {b o : Nat} {cs : List Value} (hb : B.R b) (hc : CellsAt B.W b o cs) : CellsAt B'.W b o cs := hc.loc (h.blk b hb)
section
variable {α : Type} {w w' : Bs} {W W' : World} {E : Nat → Ent} {t : Fl α} {A : Option Addr} {c T k b : Nat} {l : List α} {ks : List Nat} {ins : List Ent} {vs : List Value}
theorem Sl.ext (h : Sl w.R w.W t A c l) (he : w.Ext w') : Sl w'.R w'.W t A c l := h.go he.r he.blk
theorem Sl.extO (h : Sl w.O w.W t A c l) (he : w.Ext w') : Sl w'.O w'.W t A c l := h.go he.o (fun b hb => he.blk b (.inl hb))
theorem HF.subR (hW : HF w W E) (hp : Pk E ks ins) (hb : w.R b) : (hW.sub (insS ins)).R b := by
  rcases hb with hb | hb
  · exact .inl hb
  · refine .inr ⟨hW.rlt (.inr hb), fun hi => ?_⟩
    obtain ⟨k, _, _, hs⟩ := insS_not hW hp hi
    exact (hW.bd k b hs).1 (.inr hb)
theorem HF.subS (hW : HF w W E) (hp : Pk E ks ins) (hk : ks.contains k = false) (hb : (E k).S b) : (hW.sub (insS ins)).R b := by
  refine .inr ⟨(hW.bd k b hb).2, fun hi => ?_⟩
  obtain ⟨k', j, hj, hs⟩ := insS_not hW hp hi
  refine hW.disj k k' b (fun e => ?_) hb hs
  subst e
  have : k ∈ ks := List.mem_of_getElem? hj
  simp [this] at hk
theorem HF.extAll (hW : HF w W E) : w.Ext hW.all := ⟨fun _ h => h, fun _ hb => hW.allR (hW.rlt hb), hW.keep⟩
theorem HF.extS (hW : HF w W E) (hp : Pk E ks ins) : w.Ext (hW.sub (insS ins)) := ⟨fun _ h => h, fun _ hb => hW.subR hp hb, hW.keep⟩
theorem HF.slS (hW : HF w W E) (hk : E k = Proofs.YtmbjoffligicnaaGreatDoor.ow A c T t l) (hp : Pk E ks ins) (hn : ks.contains k = false) : Sl (hW.sub (insS ins)).R (hW.sub (insS ins)).W t A c l :=
  (hW.sl hk).mono (fun b hb => by
    rcases hb with hb | hb
    · exact .inl hb
    · exact hW.subS hp hn hb)
theorem HF.boxS (hW : HF w W E) (hk : E k = Proofs.YtmbjoffligicnaaGreatDoor.bx b vs.toArray T) (hp : Pk E ks ins) (hn : ks.contains k = false) : (hW.sub (insS ins)).R b := hW.subS hp hn (by rw [hk]; rfl)
theorem HF.boxC (hW : HF w W E) (hk : E k = Proofs.YtmbjoffligicnaaGreatDoor.bx b vs.toArray T) : CellsAt (hW.sub (insS ins)).W b 0 vs := rdb hW hk 0
theorem pk_nil : Pk E [] [] := trivial
theorem pk_cons {e : Ent} {es : List Ent} (h : E k = e) (h2 : Pk E ks es) : Pk E (k :: ks) (e :: es) := ⟨h, h2⟩
end
section
variable {P : Program} {w : Bs} {n : Nat} {f : Nat → Option Value} {E : Nat → Ent} {X Y : Act → World → Prop} {Q : Exit → Act → World → Prop} {ops : Array Oper} {rest l : List Oper}
/-- A cut within a region; the base stays. -/
theorem Tr.mid0 (m : Nat) (fs : List (Nat × Value)) (es : List (Nat × Ent)) (h : Tr w n f E (wpList P ops (Exit.then (fun a W => FR n (LF fs) a ∧ HF w W (LE es)) Q) (l.take m)))
    (h2 : Tr w n (LF fs) (LE es) (wpList P ops Q (l.drop m))) : Tr w n f E (wpList P ops Q l) := by
  intro a W h1 h3
  have := wpList_two (rest := l.drop m) _ a W (h a W h1 h3) (fun a W ⟨k1, k2⟩ => h2 a W k1 k2)
  rwa [List.take_append_drop] at this
theorem Tr.fin0 {fs : List (Nat × Value)} {es : List (Nat × Ent)} (hf : SelF f fs) (he : SelE E es) : Tr w n f E (Exit.then (fun a W => FR n (LF fs) a ∧ HF w W (LE es)) Q .normal) := fun _ _ h1 h2 => ⟨h1.sel hf, h2.sel he⟩
/-- A part under another name. -/
theorem Tr.ren {e : Ent} (k K : Nat) (hk : E k = e) (hK : E K = emp) (hne : Nat.beq k K = false) (h : Tr w n f (up (up E k emp) K e) X) : Tr w n f E X := fun a W h1 h2 => by
  have hne' : k ≠ K := fun e => by subst e; simp at hne
  refine h a W h1 ?_
  have key : ∀ j, (j = K ∧ up (up E k emp) K e j = E k) ∨ (j ≠ K ∧ j = k ∧ up (up E k emp) K e j = emp) ∨ (j ≠ K ∧ j ≠ k ∧ up (up E k emp) K e j = E j) := fun j => by
    rcases up_cases (up E k emp) K e j with ⟨a1, a2⟩ | ⟨a1, a2⟩
    · exact .inl ⟨a1, by rw [a2, hk]⟩
    · rcases up_cases E k emp j with ⟨b1, b2⟩ | ⟨b1, b2⟩
      · exact .inr (.inl ⟨a1, b1, by rw [a2, b2]⟩)
      · exact .inr (.inr ⟨a1, b1, by rw [a2, b2]⟩)
  refine ⟨h2.os, h2.tape, h2.output, h2.size, h2.drawn, h2.keep, fun j => ?_, fun j => ?_, fun j b => ?_, fun i j b hij => ?_⟩
  · rcases key j with ⟨_, e1⟩ | ⟨_, _, e1⟩ | ⟨_, _, e1⟩ <;> rw [e1]
    · exact h2.phi k
    · trivial
    · exact h2.phi j
  · rcases key j with ⟨_, e1⟩ | ⟨_, _, e1⟩ | ⟨_, _, e1⟩ <;> rw [e1]
    · exact h2.loc k
    · exact emp_loc
    · exact h2.loc j
  · rcases key j with ⟨_, e1⟩ | ⟨_, _, e1⟩ | ⟨_, _, e1⟩ <;> rw [e1]
    · exact h2.bd k b
    · exact fun hh => hh.elim
    · exact h2.bd j b
  · rcases key i with ⟨a1, e1⟩ | ⟨a1, b1, e1⟩ | ⟨a1, b1, e1⟩ <;> rcases key j with ⟨a2, e2⟩ | ⟨a2, b2, e2⟩ | ⟨a2, b2, e2⟩ <;> rw [e1, e2]
    · exact absurd (a1.trans a2.symm) hij
    · exact fun _ hh => hh.elim
    · exact h2.disj k j b (Ne.symm b2)
    · exact fun hh => hh.elim
    · exact fun hh => hh.elim
    · exact fun hh => hh.elim
    · exact h2.disj i k b b1
    · exact fun _ hh => hh.elim
    · exact h2.disj i j b hij
theorem Tr.dropK (k : Nat) (h : Tr w n f (up E k emp) X) : Tr w n f E X := fun a W h1 h2 => h a W h1 (h2.drop k)
end
/-- What a slice reads as, at one place: its addresses. -/
theorem Sl.el {α : Type} {S : Nat → Prop} {W : World} {t : Fl α} {A : Option Addr} {c : Nat} {l : List α} (h : Sl S W t A c l) {i : Nat} {x : α} (hx : l[i]? = some x) : ∃ u, S (adB A) ∧ t.ok S W u x ∧ CellsAt W (adB A) (adO A + i * t.sz) (t.enc u x) := by
  obtain ⟨h1, u, h2, h3⟩ := h.cells i x hx
  exact ⟨u, h1, h2, h3⟩
end Go.Proofs.YtmbjoffligicnaaGreatDoor
namespace Go.Proofs.YtmbjoffligicnaaGreatDoor
open Go.RowKit
/-- A front part of a list; none: no such part. -/
def pre {α : Type} (l : List α) (hi : Int) : Option (List α) := if 0 ≤ hi ∧ hi ≤ (l.length : Int) then some (l.take hi.toNat) else none
theorem pre_some {α : Type} {l l' : List α} {hi : Int} (h : pre l hi = some l') : (0 ≤ hi ∧ hi ≤ (l.length : Int)) ∧ l.take hi.toNat = l' := by
  unfold pre at h
  split at h
  · exact ⟨by assumption, Option.some.inj h⟩
  · cases h
theorem pre_len {α : Type} {l l' : List α} {hi : Int} (h : pre l hi = some l') : l'.length = hi.toNat := by
  obtain ⟨h1, rfl⟩ := pre_some h
  simp; omega
theorem pre_form {α : Type} {l l' : List α} {hi : Int} {A : Option Addr} {c : Nat} (hf : SlF A l.length c) (h : pre l hi = some l') : SlF A l'.length c := by
  have hl := pre_len h
  obtain ⟨⟨h1, h2⟩, _⟩ := pre_some h
  obtain ⟨f1, f2, f3⟩ := hf
  exact ⟨by omega, f2, fun hp => f3 (by omega)⟩
theorem Sl.pre {α : Type} {S : Nat → Prop} {W : World} {t : Fl α} {A : Option Addr} {c : Nat} {l l' : List α} {hi : Int} (h : Sl S W t A c l) (hc : Proofs.YtmbjoffligicnaaGreatDoor.pre l hi = some l') : Sl S W t A c l' := by
  refine ⟨pre_form h.form hc, fun i x hx => ?_⟩
  obtain ⟨_, hl⟩ := pre_some hc
  rw [← hl, List.getElem?_take] at hx
  split at hx
  · exact h.cells i x hx
  · cases hx
section
variable {P : Program} {ρ : Operand → Value} {W : World} {d : Option Tmp} {ty T : TypeId} {pos : String} {af : Array Edge} {g : Option (Nat × Bool)} {p r : Operand} {j : Int} {α : Type} {l l' : List α} {e sz c : Nat} {A : Option Addr}
theorem run_pre (he : elemOf? P T = some (e, sz)) (hp : ρ p = .slice A l.length c) (hf : SlF A l.length c) (hr : ρ r = .int .i64 j) (hc : pre l j = some l') :
    (execOp ρ ⟨d, .slice T p none (some r) none, ty, pos, af, g⟩).run P W = .ok (.value (.slice A l'.length c)) W := by
  obtain ⟨⟨h1, h2⟩, hl⟩ := pre_some hc
  have hc' : cut l 0 j = some l' := by
    unfold cut
    rw [if_pos ⟨by omega, h1, h2⟩, ← hl]
    simp
  rw [run_cutH he hp hf hr hc', Nat.sub_zero]
  unfold cutA
  split
  · rfl
  · cases A with
    | none => rfl
    | some a => simp [Addr.add]
end
section
variable {P : Program} {w : Bs} {n : Nat} {f : Nat → Option Value} {E : Nat → Ent} {X : Act → World → Prop}
theorem Tr.shrinkP {α : Type} (κ : Nat) {A : Option Addr} {c e : Nat} {t : Fl α} {l l' : List α} {hi : Int} (hc : pre l hi = some l') (hk : E κ = ow A c e t l) (K : Tr w n f (up E κ (ow A c e t l')) X) : Tr w n f E X := by
  obtain ⟨⟨h1, h2⟩, hl⟩ := pre_some hc
  exact Tr.shrink κ hi.toNat (by omega) hk (by rw [hl]; exact K)
theorem slen {t : Nat} {A : Option Addr} {n m c : Nat} {v : Value} (h : f t = some v) (e : v = .slice A m c) : f t = some (.slice A m c) := e ▸ h
theorem slenV {t : Nat} {v v' : Value} (h : f t = some v) (e : v = v') : f t = some v' := e ▸ h
theorem ebx {k b T : Nat} {vs vs' : Array Value} (h : E k = bx b vs T) (e : vs = vs') : E k = bx b vs' T := e ▸ h
theorem insS_no {es : List Ent} {Y : Nat → Prop} (h : es = List.replicate es.length emp) : ∀ b, insS es b → Y b := fun b ⟨e, he, hs⟩ => by
  rw [h] at he
  have := List.eq_of_mem_replicate he
  subst this
  exact hs.elim
theorem res_cell1 {t T T2 b k : Nat} {v : Value} {l : List ResultVar} {m : List Value} {ks : List Nat} (h : f t = some (.pointer (some ⟨b, 0, none⟩))) (hk : E k = bx b #[v] T2) (ha : aggOf P T = some false) (h2 : resOf P f E l m ks) (hne : ∀ cs, v ≠ .agg cs) :
    True := trivial
end
end Go.Proofs.YtmbjoffligicnaaGreatDoor
namespace Go.Proofs.YtmbjoffligicnaaGreatDoor
open Go.RowKit
section
variable {P : Program} {ρ : Operand → Value} {W : World} {d : Option Tmp} {ty : TypeId} {pos : String} {af : Array Edge} {g : Option (Nat × Bool)} {p q r : Operand} {k : IntKind} {i j m : Int}
theorem max2_run : (Builtin.max2 (.int k i) (.int k j)).run P W = .ok (.int k (max i j)) W := by
  simp [Builtin.max2, Int.max_def]
  split <;> split <;> first | rfl | omega | (congr 2; omega)
theorem min2_run : (Builtin.min2 (.int k i) (.int k j)).run P W = .ok (.int k (min i j)) W := by
  simp [Builtin.min2, Int.min_def]
  split <;> split <;> first | rfl | omega | (congr 2; omega)
theorem run_max3 (hp : ρ p = .int k i) (hq : ρ q = .int k j) (hr : ρ r = .int k m) (ts : Array TypeId) : (execOp ρ ⟨d, .call ⟨.builtin .max, #[p, q, r], ts⟩, ty, pos, af, g⟩).run P W = .ok (.value (.int k (max (max i j) m))) W := by
  simp [execOp, go_sem, hp, hq, hr, Builtin.max_, max2_run]
theorem run_min3 (hp : ρ p = .int k i) (hq : ρ q = .int k j) (hr : ρ r = .int k m) (ts : Array TypeId) : (execOp ρ ⟨d, .call ⟨.builtin .min, #[p, q, r], ts⟩, ty, pos, af, g⟩).run P W = .ok (.value (.int k (min (min i j) m))) W := by
  simp [execOp, go_sem, hp, hq, hr, Builtin.min_, min2_run]
end
/-- A function that falls off its end. -/
theorem Tr.offEnd {P : Program} {w : Bs} {n : Nat} {f : Nat → Option Value} {E : Nat → Ent} {fu : Func} {R : Ending → World → Prop} (h : Tr w n f E (bodyPost P fu R .ret)) : Tr w n f E (bodyPost P fu R .normal) := fun a W h1 h2 => h a W h1 h2
end Go.Proofs.YtmbjoffligicnaaGreatDoor
namespace Go.Proofs.YtmbjoffligicnaaGreatDoor
open Go.RowKit
theorem St.own {P : Program} {w : Bs} {n : Nat} {f : Nat → Option Value} {E : Nat → Ent} {l : List Oper} {m : Nat} {t : Tn} {Q : Exit → Act → World → Prop} {fu : Nat} {listed : Array Bool} {α : Type} {i : Nat} (κ : Nat) {b T : Nat} {vs : List Value} (t' : Fl α) (ll : List α) {css : List (List Value)} (hk : E κ = bx b vs.toArray T) (hal : Al (rp t' w.O w.W) css ll) (hl : css.flatten = vs) (hsz : 0 < t'.sz) (hm : ll.length ≤ maxLen)
    (K : St P w n l m t Q fu listed f (up E κ (ow (some ⟨b, 0, none⟩) ll.length T t' ll)) i) : St P w n l m t Q fu listed f E i :=
  fun inv => Tr.own κ t' ll hk hal hl hsz hm (K inv)
theorem Dr.own {P : Program} {w : Bs} {n : Nat} {f : Nat → Option Value} {E : Nat → Ent} {l : List Oper} {m : Nat} {t : Tn} {Q : Exit → Act → World → Prop} {fu : Nat} {listed : Array Bool} {α : Type} (κ : Nat) {b T : Nat} {vs : List Value} (t' : Fl α) (ll : List α) {css : List (List Value)} (hk : E κ = bx b vs.toArray T) (hal : Al (rp t' w.O w.W) css ll) (hl : css.flatten = vs) (hsz : 0 < t'.sz) (hm : ll.length ≤ maxLen)
    (K : Dr P w n l m t Q fu listed f (up E κ (ow (some ⟨b, 0, none⟩) ll.length T t' ll))) : Dr P w n l m t Q fu listed f E :=
  fun inv => Tr.own κ t' ll hk hal hl hsz hm (K inv)
end Go.Proofs.YtmbjoffligicnaaGreatDoor
namespace Go.Proofs.YtmbjoffligicnaaGreatDoor
open Go.RowKit
abbrev iv (n : Int) : Value := .int .i64 n
abbrev sv (s : ByteArray) : Value := .string s
section
variable {P : Program} {w : Bs} {n : Nat} {ops : Array Oper} {f : Nat → Option Value} {E : Nat → Ent} {Q : Exit → Act → World → Prop} {X : Act → World → Prop} {rest : List Oper} {d ty : Nat} {pos : String} {af : Array Edge} {p : Operand} {v : Value} {x y : Code} {id : Nat} {l : List Oper} {op : Op}
/-- A plain operation without a guard. -/
theorem Tr.va (hdn : Nat.blt d n = true) (hr : ∀ a W, FR n f a → HF w W E → (execOp a.eval ⟨some d, op, ty, pos, af, none⟩).run P W = .ok (.value v) W) (k : Tr w n (uf f d v) E (wpList P ops Q rest)) : Tr w n f E (wpList P ops Q (⟨some d, op, ty, pos, af, none⟩ :: rest)) := Tr.val (wn rfl) hdn hr k
theorem Tq.va (hdn : Nat.blt d n = true) (hr : ∀ a W, FR n f a → HF w W E → (execOp a.eval ⟨some d, op, ty, pos, af, none⟩).run P W = .ok (.value v) W) (k : Tq P w n ops (uf f d v) E X rest) : Tq P w n ops f E X (⟨some d, op, ty, pos, af, none⟩ :: rest) := Tq.val (wn rfl) hdn hr k
theorem Tr.mv (hdn : Nat.blt d n = true) (hp : ev f p = some v) (k : Tr w n (uf f d v) E (wpList P ops Q rest)) : Tr w n f E (wpList P ops Q (⟨some d, .move p, ty, pos, af, none⟩ :: rest)) := Tr.va hdn (fun _ _ h1 _ => run_move (h1.ev hp)) k
theorem Tr.asg (hdn : Nat.blt d n = true) (hp : ev f p = some v) (k : Tr w n (uf f d v) E (wpList P ops Q rest)) : Tr w n f E (wpList P ops Q (⟨some d, .assign p, ty, pos, af, none⟩ :: rest)) := Tr.va hdn (fun _ _ h1 _ => run_assign (h1.ev hp)) k
theorem Tq.mv (hdn : Nat.blt d n = true) (hp : ev f p = some v) (k : Tq P w n ops (uf f d v) E X rest) : Tq P w n ops f E X (⟨some d, .move p, ty, pos, af, none⟩ :: rest) := Tq.va hdn (fun _ _ h1 _ => run_move (h1.ev hp)) k
theorem Tq.asg (hdn : Nat.blt d n = true) (hp : ev f p = some v) (k : Tq P w n ops (uf f d v) E X rest) : Tq P w n ops f E X (⟨some d, .assign p, ty, pos, af, none⟩ :: rest) := Tq.va hdn (fun _ _ h1 _ => run_assign (h1.ev hp)) k
theorem Tr.sr (h : Tr w n f E (wpList P l.toArray (Exit.then (y.wp P Q) Q) l)) : Tr w n f E ((Code.seq (Code.region id l.toArray false) y).wp P Q) := Tr.seq (Tr.region h)
end
end Go.Proofs.YtmbjoffligicnaaGreatDoor
namespace Go.Proofs.YtmbjoffligicnaaGreatDoor
open Go.RowKit
section
variable {P : Program} {w : Bs} {n : Nat} {ops : Array Oper} {f : Nat → Option Value} {E : Nat → Ent} {Q : Exit → Act → World → Prop} {rest : List Oper} {d : Nat} {ty : TypeId} {pos : String} {af : Array Edge} {g : Option (Nat × Bool)}
theorem run_callV {a : Act} {W : World} {fn : Nat} {x : Operand} {xs : List Operand} {vs : List Value} {ts : Array Nat} {dd : Option Nat} (h1 : FR n f a) (hxf : ev f x = some (.func (.func fn) #[] #[])) (hg : ∀ args W, (callFunc fn args).run P W = .ok (.enter fn args) W) (hx : evl f xs vs) :
    (execOp a.eval ⟨dd, .call ⟨.value x, xs.toArray, ts⟩, ty, pos, af, g⟩).run P W = .ok (.enter fn vs.toArray) W := by
  have := evl_eq hx a h1
  simp [execOp, resolve, invoke, Deferred.ofValue, h1.ev hxf, hg, this]
theorem Tr.call0V {fn : Nat} {x : Operand} {xs : List Operand} {vs : List Value} {ts : Array Nat} {r : Value} (hw : Wn ops f ⟨some d, .call ⟨.value x, xs.toArray, ts⟩, ty, pos, af, g⟩) (hdn : Nat.blt d n = true) (hxf : ev f x = some (.func (.func fn) #[] #[]))
    (hg : ∀ args W, (callFunc fn args).run P W = .ok (.enter fn args) W) (hx : evl f xs vs)
    (hc : ∀ W (hW : HF w W E), Calls P fn vs.toArray W fun e W' => e = .returned r ∧ HF hW.all W' E0)
    (K : Tr w n (uf f d r) E (wpList P ops Q rest)) : Tr w n f E (wpList P ops Q (⟨some d, .call ⟨.value x, xs.toArray, ts⟩, ty, pos, af, g⟩ :: rest)) :=
  Tr.op hw fun a W h1 h2 => by
    unfold Oper.wp
    rw [run_callV h1 hxf hg hx]
    refine (hc W h2).mono fun e W' ⟨he, hb⟩ => ?_
    subst he
    exact K _ _ (h1.put (Nat.le_of_ble_eq_true hdn) _) (h2.later (h2.allBelow hb))
theorem Tr.callMV {U : Type} {fn : Nat} {x : Operand} {xs : List Operand} {vs : List Value} {ts : Array Nat} (ks : List Nat) (ins : List Ent) (V : U → Value) (Φ : U → Prop) (outs : U → List Ent) (hn : decide ks.Nodup = true) (hp : Pk E ks ins) (hl : ∀ u, (outs u).length = ks.length)
    (hw : Wn ops f ⟨some d, .call ⟨.value x, xs.toArray, ts⟩, ty, pos, af, g⟩) (hdn : Nat.blt d n = true) (hxf : ev f x = some (.func (.func fn) #[] #[]))
    (hg : ∀ args W, (callFunc fn args).run P W = .ok (.enter fn args) W) (hx : evl f xs vs)
    (hc : ∀ W (hW : HF w W E) (_ : Pk E ks ins), HF (hW.sub (insS ins)) W (LEn ins) → Calls P fn vs.toArray W fun e W' => ∃ u, e = .returned (V u) ∧ Φ u ∧ HF (hW.sub (insS ins)) W' (LEn (outs u)))
    (K : ∀ u, Φ u → Tr w n (uf f d (V u)) (upL E ks (outs u)) (wpList P ops Q rest)) : Tr w n f E (wpList P ops Q (⟨some d, .call ⟨.value x, xs.toArray, ts⟩, ty, pos, af, g⟩ :: rest)) :=
  Tr.op hw fun a W h1 h2 => by
    unfold Oper.wp
    rw [run_callV h1 hxf hg hx]
    have hn' := of_decide_eq_true hn
    refine (hc W h2 hp (h2.lend hn' hp)).mono fun e W' ⟨u, he, hu, hb⟩ => ?_
    subst he
    exact K u hu _ _ (h1.put (Nat.le_of_ble_eq_true hdn) _) (HF.sameO (h2.after_le hp (.refl _)) (fun _ h => h) (h2.back hn' hp (.refl _) hb (hl u)))
theorem Tr.callGV {U : Type} {fn : Nat} {x : Operand} {xs : List Operand} {vs : List Value} {ts : Array Nat} (ks : List Nat) (ins : List Ent) (V : U → Value) (Φ : (Nat → Prop) → World → U → Prop) (outs : U → List Ent) (hn : decide ks.Nodup = true) (hp : Pk E ks ins) (hl : ∀ u, (outs u).length = ks.length)
    (hw : Wn ops f ⟨some d, .call ⟨.value x, xs.toArray, ts⟩, ty, pos, af, g⟩) (hdn : Nat.blt d n = true) (hxf : ev f x = some (.func (.func fn) #[] #[]))
    (hg : ∀ args W, (callFunc fn args).run P W = .ok (.enter fn args) W) (hx : evl f xs vs)
    (hc : ∀ W (hW : HF w W E) (_ : Pk E ks ins), HF (hW.sub (insS ins)) W (LEn ins) → Calls P fn vs.toArray W fun e W' => ∃ w' u, (hW.sub (insS ins)).Le w' ∧ e = .returned (V u) ∧ Φ w'.O w'.W u ∧ HF w' W' (LEn (outs u)))
    (K : ∀ w' u, w.Le w' → Φ w'.O w'.W u → Tr w' n (uf f d (V u)) (upL E ks (outs u)) (wpList P ops Q rest)) : Tr w n f E (wpList P ops Q (⟨some d, .call ⟨.value x, xs.toArray, ts⟩, ty, pos, af, g⟩ :: rest)) :=
  Tr.op hw fun a W h1 h2 => by
    unfold Oper.wp
    rw [run_callV h1 hxf hg hx]
    have hn' := of_decide_eq_true hn
    refine (hc W h2 hp (h2.lend hn' hp)).mono fun e W' ⟨w', u, hle, he, hu, hb⟩ => ?_
    subst he
    exact K (h2.after hle) u (h2.after_le hp hle) hu _ _ (h1.put (Nat.le_of_ble_eq_true hdn) _) (h2.back hn' hp hle hb (hl u))
end
end Go.Proofs.YtmbjoffligicnaaGreatDoor
namespace Go.Proofs.YtmbjoffligicnaaGreatDoor
open Go.RowKit
section
variable {P : Program} {w : Bs} {n : Nat} {ops : Array Oper} {f : Nat → Option Value} {E : Nat → Ent} {Q : Exit → Act → World → Prop} {rest : List Oper} {d : Nat} {ty : TypeId} {pos : String} {af : Array Edge} {g : Option (Nat × Bool)}
theorem run_callC {a : Act} {W : World} {fn : Nat} {x : Operand} {xs : List Operand} {vs caps : List Value} {ts : Array Nat} {dd : Option Nat} (h1 : FR n f a) (hxf : ev f x = some (.func (.func fn) #[] caps.toArray)) (hg : ∀ args W, (callFunc fn args).run P W = .ok (.enter fn args) W) (hx : evl f xs vs) :
    (execOp a.eval ⟨dd, .call ⟨.value x, xs.toArray, ts⟩, ty, pos, af, g⟩).run P W = .ok (.enter fn (vs ++ caps).toArray) W := by
  have := evl_eq hx a h1
  simp [execOp, resolve, invoke, Deferred.ofValue, h1.ev hxf, hg, this]
theorem Tr.callMC {U : Type} {fn : Nat} {x : Operand} {xs : List Operand} {vs caps : List Value} {ts : Array Nat} (ks : List Nat) (ins : List Ent) (V : U → Value) (Φ : U → Prop) (outs : U → List Ent) (hn : decide ks.Nodup = true) (hp : Pk E ks ins) (hl : ∀ u, (outs u).length = ks.length)
    (hw : Wn ops f ⟨some d, .call ⟨.value x, xs.toArray, ts⟩, ty, pos, af, g⟩) (hdn : Nat.blt d n = true) (hxf : ev f x = some (.func (.func fn) #[] caps.toArray))
    (hg : ∀ args W, (callFunc fn args).run P W = .ok (.enter fn args) W) (hx : evl f xs vs)
    (hc : ∀ W (hW : HF w W E) (_ : Pk E ks ins), HF (hW.sub (insS ins)) W (LEn ins) → Calls P fn (vs ++ caps).toArray W fun e W' => ∃ u, e = .returned (V u) ∧ Φ u ∧ HF (hW.sub (insS ins)) W' (LEn (outs u)))
    (K : ∀ u, Φ u → Tr w n (uf f d (V u)) (upL E ks (outs u)) (wpList P ops Q rest)) : Tr w n f E (wpList P ops Q (⟨some d, .call ⟨.value x, xs.toArray, ts⟩, ty, pos, af, g⟩ :: rest)) :=
  Tr.op hw fun a W h1 h2 => by
    unfold Oper.wp
    rw [run_callC h1 hxf hg hx]
    have hn' := of_decide_eq_true hn
    refine (hc W h2 hp (h2.lend hn' hp)).mono fun e W' ⟨u, he, hu, hb⟩ => ?_
    subst he
    exact K u hu _ _ (h1.put (Nat.le_of_ble_eq_true hdn) _) (HF.sameO (h2.after_le hp (.refl _)) (fun _ h => h) (h2.back hn' hp (.refl _) hb (hl u)))
theorem Tr.callGC {U : Type} {fn : Nat} {x : Operand} {xs : List Operand} {vs caps : List Value} {ts : Array Nat} (ks : List Nat) (ins : List Ent) (V : U → Value) (Φ : (Nat → Prop) → World → U → Prop) (outs : U → List Ent) (hn : decide ks.Nodup = true) (hp : Pk E ks ins) (hl : ∀ u, (outs u).length = ks.length)
    (hw : Wn ops f ⟨some d, .call ⟨.value x, xs.toArray, ts⟩, ty, pos, af, g⟩) (hdn : Nat.blt d n = true) (hxf : ev f x = some (.func (.func fn) #[] caps.toArray))
    (hg : ∀ args W, (callFunc fn args).run P W = .ok (.enter fn args) W) (hx : evl f xs vs)
    (hc : ∀ W (hW : HF w W E) (_ : Pk E ks ins), HF (hW.sub (insS ins)) W (LEn ins) → Calls P fn (vs ++ caps).toArray W fun e W' => ∃ w' u, (hW.sub (insS ins)).Le w' ∧ e = .returned (V u) ∧ Φ w'.O w'.W u ∧ HF w' W' (LEn (outs u)))
    (K : ∀ w' u, w.Le w' → Φ w'.O w'.W u → Tr w' n (uf f d (V u)) (upL E ks (outs u)) (wpList P ops Q rest)) : Tr w n f E (wpList P ops Q (⟨some d, .call ⟨.value x, xs.toArray, ts⟩, ty, pos, af, g⟩ :: rest)) :=
  Tr.op hw fun a W h1 h2 => by
    unfold Oper.wp
    rw [run_callC h1 hxf hg hx]
    have hn' := of_decide_eq_true hn
    refine (hc W h2 hp (h2.lend hn' hp)).mono fun e W' ⟨w', u, hle, he, hu, hb⟩ => ?_
    subst he
    exact K (h2.after hle) u (h2.after_le hp hle) hu _ _ (h1.put (Nat.le_of_ble_eq_true hdn) _) (h2.back hn' hp hle hb (hl u))
end
end Go.Proofs.YtmbjoffligicnaaGreatDoor
set_option linter.unusedVariables false
namespace Go.Proofs.YtmbjoffligicnaaGreatDoor
open Go.RowKit Go.Proofs Go.Shelf
/-- A builder of the call's own in block b: what was written is s; its bytes lie at A. -/
def sb (T e b : Nat) (A : Option Addr) (c : Nat) (s : ByteArray) : Ent :=
  ⟨fun x => x = b ∨ (Value.slice A s.size c).ownBlock = some x, fun _ W => ∃ p, (p = .pointer none ∨ p = .pointer (some ⟨b, 0, none⟩)) ∧ Lib.BuilderAtF T e 0 b p (Lib.strCells s) W ∧ W.heap[b]? = some (.cells #[p, .slice A s.size c] T (0, 0)) ∧ ∀ x, (Value.slice A s.size c).ownBlock = some x → x < W.heap.size⟩
theorem sb_lt {T e b : Nat} {A : Option Addr} {c : Nat} {s : ByteArray} {W : World} {p : Value} (h : W.heap[b]? = some (.cells #[p, .slice A s.size c] T (0, 0))) : b < W.heap.size := (Array.getElem?_eq_some_iff.1 h).1
theorem ownsF_same {W W' : World} {v : Value} {e n : Nat} {xs : List Value} (h : W.ownsRowF 0 e 1 v n xs) (hb : ∀ g, v.ownBlock = some g → W'.heap[g]? = W.heap[g]?) : W'.ownsRowF 0 e 1 v n xs := by
  refine ⟨h.1, ?_⟩
  rcases h.2 with h2 | ⟨g, cap, cur, fz, hv, h0, hh, r⟩
  · exact .inl h2
  · exact .inr ⟨g, cap, cur, fz, hv, h0, (hb g (by rw [hv]; rfl)).trans hh, r⟩
theorem sb_loc (T e b : Nat) (A : Option Addr) (c : Nat) (s : ByteArray) : (sb T e b A c s).loc := ⟨fun O W W' h hp => by
  obtain ⟨p, h0, ⟨_, v, h1, h2, h3⟩, h4, h5⟩ := hp
  have hv : v = .slice A s.size c := by rw [h4] at h1; simpa using h1.symm
  subst hv
  have hb : W'.heap[b]? = W.heap[b]? := h b (.inr (.inl rfl))
  have hown := ownsF_same h2 (W' := W') (fun g hg => h g (.inr (.inr hg)))
  refine ⟨p, h0, ⟨Nat.zero_le _, _, hb.trans h4, hown, h3⟩, hb.trans h4, fun x hx => ?_⟩
  rcases hown.2 with ⟨hv, _⟩ | ⟨g, cap, cur, fz, hv, _, hh, _⟩
  · rw [hv] at hx; simp [Value.ownBlock] at hx
  · rw [hv] at hx; simp [Value.ownBlock] at hx; subst hx; exact (Array.getElem?_eq_some_iff.1 hh).1,
  fun _ _ _ _ h => h⟩
section
variable {P : Program} {ρ : Ren} {w : Bs} {A : Option Addr} {c b : Nat} {s x : ByteArray}
theorem sb_any {T e : Nat} : (sb T e b A c s).Any := fun _ _ _ h => h
/-- A builder is made. -/
theorem Tr.sbNew {n T e ty d : Nat} {f : Nat → Option Value} {E : Nat → Ent} {Q : Exit → Act → World → Prop} {ops : Array Oper} {rest : List Oper} {pos : String} {af : Array Edge} {g : Option (Nat × Bool)} (κ : Nat) (hw : Wn ops f ⟨some d, .alloc T, ty, pos, af, g⟩) (hdn : Nat.blt d n = true) (hz : zeroOf P T = some [.pointer none, .slice none 0 0])
    (K : ∀ b, Tr w n (uf f d (.pointer (some ⟨b, 0, none⟩))) (up E κ (sb T e b none 0 ByteArray.empty)) (wpList P ops Q rest)) : Tr w n f E (wpList P ops Q (⟨some d, .alloc T, ty, pos, af, g⟩ :: rest)) :=
  Tr.valW hw hdn (fun _ W _ h2 => ⟨run_alloc hz, h2.add κ ((Below.refl _ _).alloc (Nat.le_refl _) _) (sb T e W.heap.size none 0 ByteArray.empty) (sb_loc _ _ _ _ _ _)
    ⟨.pointer none, .inl rfl, ⟨Nat.zero_le _, _, heap_alloc_new W _, ⟨rfl, .inl ⟨rfl, rfl⟩⟩, by simp [Value.ownBlock]⟩, heap_alloc_new W _, fun x h => by simp [Value.ownBlock] at h⟩ (fun b hb => by
      rcases hb with hb | hb
      · subst hb; exact ⟨Nat.le_refl _, by simp⟩
      · simp [Value.ownBlock] at hb)⟩) (fun W _ => K W.heap.size)
/-- What is written to a builder. -/
def sbW (s x : ByteArray) : Option ByteArray := if s.size + x.size ≤ 140737488355328 then some (s ++ x) else none
/-- What a builder tells. -/
def sbS (s : ByteArray) : Option (ByteArray × ByteArray) := if s.size ≠ 0 then some (s, s) else none
/-- How long it is. -/
def sbL (s : ByteArray) : Option (Int × ByteArray) := some ((s.size : Int), s)
theorem strCells_app (s x : ByteArray) : Lib.strCells (s ++ x) = Lib.strCells s ++ Lib.strCells x := by simp [Lib.strCells]
/-- Only the builder's blocks turn, and new ones are made. -/
theorem sb_put {T e : Nat} {A' : Option Addr} {c' : Nat} {s' : ByteArray} {W' : World} (hE : HF w w.W (LEn [sb T e b A c s])) (ho : W'.os = w.W.os) (htp : W'.tape = w.W.tape) (hou : W'.output = w.W.output) (hsz : w.W.heap.size ≤ W'.heap.size) (hd : zd w.W ≤ zd W')
    (hother : ∀ k, k < w.W.heap.size → k ≠ b → some k ≠ (Value.slice A s.size c).ownBlock → W'.heap[k]? = w.W.heap[k]?) {p : Value} (h0 : p = .pointer none ∨ p = .pointer (some ⟨b, 0, none⟩))
    (h1 : Lib.BuilderAtF T e 0 b p (Lib.strCells s') W') (h2 : W'.heap[b]? = some (.cells #[p, .slice A' s'.size c'] T (0, 0))) (h3 : ∀ g, (Value.slice A' s'.size c').ownBlock = some g → g < W'.heap.size ∧ ((Value.slice A s.size c).ownBlock = some g ∨ w.W.heap.size ≤ g)) :
    HF w W' (LEn [sb T e b A' c' s']) := by
  have hb : b < w.W.heap.size := by
    obtain ⟨p, _, _, h, _⟩ := hE.phi 0
    exact (Array.getElem?_eq_some_iff.1 h).1
  refine (hE.mod (E := LEn [sb T e b A c s]) (W' := W') 0 (sb T e b A' c' s') ho htp hou hsz hd (fun k hk hs => hother k hk (fun e => hs (.inl e)) (fun e => hs (.inr e.symm))) (sb_loc _ _ _ _ _ _) ?_ (fun k hk => ?_)).weaken (fun k => ?_)
  · exact ⟨p, h0, h1, h2, fun g hg => (h3 g hg).1⟩
  · rcases hk with hk | hk
    · subst hk; exact ⟨.inl (.inl rfl), Nat.lt_of_lt_of_le hb hsz⟩
    · exact ⟨(h3 k hk).2.imp (fun h => .inr h) id, (h3 k hk).1⟩
  · cases k with
    | zero => exact .inl rfl
    | succ k => exact .inr rfl
/-- The row behind is the one ahead or a new one. -/
theorem appS_block (w : World) (t u ty e : TypeId) (i : TypeInfo) (ht : P.underlying t = some (.slice e)) (hu : P.underlying u = some .string) (hi : P.info? e = some i) (hz : i.zero = some (.int .u8 0))
    (hsize : i.size = 1) (hby : i.bytes = 1) (v : Value) (n : Nat) (xs : List Value) (hown : w.ownsRowF 0 e 1 v n xs) (s : ByteArray) (h63 : n + s.size ≤ maxLen) (hbytes : n + s.size ≤ 140737488355328) {v' : Value} {w' : World}
    (hr : (Builtin.append_ #[t, u] ty #[v, .string s]).run P w = .ok v' w') : ∀ g, v'.ownBlock = some g → v.ownBlock = some g ∨ w.heap.size ≤ g := by
  intro k hk
  rcases hown.2 with ⟨rfl, rfl⟩ | ⟨g, cap, cur, fz, rfl, hbg, hg, hfz, hnc, hcm, hcs, htake⟩
  · obtain ⟨v2, w2, h1, h2, h3, h4⟩ := Lib.run_append_own_string (P := P) w w.heap.size t u ty e i ht hu hi hz hsize hby (.slice none 0 0) 0 xs ⟨hown.1, .inl ⟨rfl, rfl⟩⟩ s h63 hbytes (Nat.le_refl _)
    rw [hr] at h1
    simp only [Result.ok.injEq] at h1
    obtain ⟨rfl, rfl⟩ := h1
    rcases h2.2 with ⟨hv, _⟩ | ⟨g, cap, cur, hv, hbg, _⟩
    · rw [hv] at hk; simp [Value.ownBlock] at hk
    · rw [hv] at hk; simp [Value.ownBlock] at hk; subst hk; exact .inr hbg
  · have hxl : xs.length = n := by simpa using hown.1
    by_cases hroom : n + s.size ≤ cap
    · have hcs' : cur.size = cap := by simpa using hcs
      have h1 := Lib.run_append_room_stringF (P := P) w t u ty e i ht hu hi hsize g n cap cur fz hg (by simpa using hfz) s hroom (by omega)
      rw [hr] at h1
      simp only [Result.ok.injEq] at h1
      obtain ⟨rfl, rfl⟩ := h1
      exact .inl hk
    · have holds : ∀ j u, xs[j]? = some u → w.cell? ((⟨g, 0, none⟩ : Addr).add j) = some u := hown.cells (g := g) rfl
      have h1 := Lib.run_append_grow_string (P := P) w t u ty e i (.int .u8 0) ht hu hi hz ⟨g, 0, none⟩ n cap xs (by rw [hsize]; simpa using hxl) holds s (by omega) (by omega) (by rw [hby]; exact growslice_fits (by omega) (by omega))
      rw [hr] at h1
      simp only [Result.ok.injEq] at h1
      obtain ⟨rfl, rfl⟩ := h1
      simp [Value.ownBlock] at hk
      exact .inr (by omega)
/-- append of a string to bytes. -/
theorem wpList_appS {ops : Array Oper} {rest : List Oper} {o : Oper} {a : Act} {Q : Exit → Act → World → Prop} (w : World) (hgd : o.guard = none) (sl y : Operand) (t u : TypeId)
    (ho : o.op = .call { callee := .builtin .append, args := #[sl, y], argTypes := #[t, u] })
    (e : TypeId) (i : TypeInfo) (ht : P.underlying t = some (.slice e)) (hu : P.underlying u = some .string) (hi : P.info? e = some i) (hz : i.zero = some (.int .u8 0))
    (hsize : i.size = 1) (hby : i.bytes = 1) (v : Value) (n : Nat) (xs : List Value) (hs : a.eval sl = v) (hown : w.ownsRowF 0 e 1 v n xs) (s : ByteArray) (hx : a.eval y = .string s)
    (h63 : n + s.size ≤ maxLen) (hbytes : n + s.size ≤ 140737488355328)
    (h : ∀ v' w', w'.ownsRowF 0 e 1 v' (n + s.size) (xs ++ Lib.strCells s) → w.grownBy w' v.ownBlock → zd w ≤ zd w' → (∀ g, v'.ownBlock = some g → v.ownBlock = some g ∨ w.heap.size ≤ g) → wpList P ops Q rest (a.put o.dst v') w') : wpList P ops Q (o :: rest) a w := by
  refine wpList_plain hgd fun K hK => ?_
  obtain ⟨v', w', hr, h2, h3, h4⟩ := Lib.run_append_own_stringF (P := P) w 0 t u o.type e i ht hu hi hz hsize hby v n xs hown s h63 hbytes (Nat.zero_le _)
  have hdr := Nat.le_refl 0
  unfold Oper.wp execOp
  simp only [ho, resolve, invoke, builtin, Sem.run_bind, Sem.run_pure, Result.andThen_ok, List.map_toArray, List.map_cons, List.map_nil, hs, hx, hr]
  exact hK _ _ (h v' w' h2 h3 hdr (appS_block w t u o.type e i ht hu hi hz hsize hby v n xs hown s h63 hbytes hr))
set_option maxHeartbeats 2000000 in
set_option maxRecDepth 100000 in
/-- THE CONTRACT of WriteString. -/
theorem sb_write (L : Lays.n166 P ρ) (X : Builder.Extra P ρ) {r : ByteArray} (H : sbW s x = some r) (hE : HF w w.W (LEn [sb (ρ.t 72) (ρ.t 5) b A c s])) :
    Calls P (ρ.f 166) [.pointer (some ⟨b, 0, none⟩), .string x].toArray w.W fun e W' => ∃ u : (Option Addr × Nat), e = .returned (.tuple #[.int .i64 x.size, .nilIface]) ∧ (True) ∧ HF w W' (LEn [sb (ρ.t 72) (ρ.t 5) b u.1 u.2 r]) := by
  unfold sbW at H
  split at H
  case isFalse => cases H
  rename_i hlen
  have hr := Option.some.inj H
  obtain ⟨p, hp, hB, hbk, hlt⟩ := hE.phi 0
  have hB0 := hB
  have hslt : ∀ g, (Value.slice A s.size c).ownBlock = some g → g < w.W.heap.size := hlt
  obtain ⟨_, v, hbk2, hown, hne⟩ := hB
  have hv : v = .slice A s.size c := by rw [hbk] at hbk2; simpa using hbk2.symm
  subst hv
  obtain ⟨i0, hi, hz0, hz1, hz2⟩ := info_parts X.infoByte
  have mixed := L.mixed
  have t72 := L.t72; have a72 := L.a72; have z72 := L.z72; have v72 := L.v72; have u72 := run_underlying L.t72
  have t70 := L.t70; have a70 := L.a70; have z70 := L.z70; have v70 := L.v70; have u70 := run_underlying L.t70
  have t37 := L.t37; have a37 := L.a37; have z37 := L.z37; have v37 := L.v37; have u37 := run_underlying L.t37
  have t3 := L.t3; have a3 := L.a3; have z3 := L.z3; have v3 := L.v3; have u3 := run_underlying L.t3
  have t9 := L.t9; have a9 := L.a9; have z9 := L.z9; have v9 := L.v9; have u9 := run_underlying L.t9
  have t4 := L.t4; have a4 := L.a4; have z4 := L.z4; have v4 := L.v4; have u4 := run_underlying L.t4
  have t164 := L.t164; have a164 := L.a164; have z164 := L.z164; have v164 := L.v164; have u164 := run_underlying L.t164
  have t5 := X.t5; have a5 := X.a5; have z5 := X.z5; have v5 := X.v5; have u5 := run_underlying X.t5
  have e240 : ∀ args w, (callFunc (ρ.f 240) args).run P w = .ok (.enter (ρ.f 240) args) w := enters_of L.f240 (by kernel_rfl) rfl
  have hcc : Calls P (ρ.f 240) #[.pointer (some ⟨b, 0, none⟩)] w.W fun e w1 => e = .returned (.tuple #[]) ∧ w1.os = w.W.os ∧ w1.tape = w.W.tape ∧ w1.output = w.W.output ∧ w1.drawn = w.W.drawn ∧ w1.heap.size = w.W.heap.size ∧ (∀ k, k ≠ b → w1.heap[k]? = w.W.heap[k]?) ∧ w1.heap[b]? = some (.cells #[.pointer (some ⟨b, 0, none⟩), .slice A s.size c] (ρ.t 72) (0, 0)) := by
    rcases hp with rfl | rfl
    · refine (Any.Builder_copyCheck_fresh { L with } X.toX72 b w.W hB0.cell0 hB0.shape hB0.frozen0).mono ?_
      rintro e w' ⟨rfl, rfl⟩
      refine ⟨rfl, rfl, rfl, rfl, rfl, by simp [World.setCell], fun k hk => Below.heap_setCell _ _ _ _ (fun e => hk (by simp [e])), ?_⟩
      simp [World.setCell, Array.getElem?_modify, hbk]
    · refine (Any.Builder_copyCheck_used { L with } X.toX72 b w.W hB0.cell0).mono ?_
      rintro e w' ⟨rfl, rfl⟩
      exact ⟨rfl, rfl, rfl, rfl, rfl, rfl, fun _ _ => rfl, hbk⟩
  go_enter L.f166, Body.n166_ntmps ρ
  go_wp2_with (go_at_fn (ρ.f 240); refine hcc.mono ?_)
  rintro e w1 ⟨rfl, f1, f2, f3, f4, f5, f6, hbk1⟩
  have hown1 := ownsF_same hown (W' := w1) (fun g hg => f6 g (fun e => hne (by rw [hg, e])))
  rw [Lib.strCells_length] at hown1
  have c0 : w1.cell? ⟨b, 0, none⟩ = some (.pointer (some ⟨b, 0, none⟩)) := by rw [Lib.cell_of_heap hbk1]; rfl
  have c1 : w1.cell? ⟨b, 1, none⟩ = some (.slice A s.size c) := by rw [Lib.cell_of_heap hbk1]; rfl
  go_wp2_with (at_builtin; refine wpList_appS w1 rfl _ _ (ρ.t 37) (ρ.t 9) rfl (ρ.t 5) i0 L.t37 L.t9 hi hz0 hz1 hz2 _ _ _ rfl hown1 x rfl ?c3 ?c4 ?_)
  case c3 => unfold maxLen; omega
  case c4 => exact hlen
  intro v' w2 hown' hgrow hblk
  have hb1 : b < w1.heap.size := (Array.getElem?_eq_some_iff.1 hbk1).1
  have hb2 : w2.heap[b]? = some (.cells #[.pointer (some ⟨b, 0, none⟩), .slice A s.size c] (ρ.t 72) (0, 0)) := by
    rw [hgrow.block b hb1 (fun e => hne e.symm)]; exact hbk1
  have d0 : w2.cell? ⟨b, 0, none⟩ = some (.pointer (some ⟨b, 0, none⟩)) := by rw [Lib.cell_of_heap hb2]; rfl
  have d1 : w2.cell? ⟨b, 1, none⟩ = some (.slice A s.size c) := by rw [Lib.cell_of_heap hb2]; rfl
  have g1 : w2.frozen? ⟨b, 1, none⟩ = false := Lib.frozen_of_heap hb2 1
  have hsz : r.size = s.size + x.size := by rw [← hr]; simp
  rw [← hsz, ← strCells_app, hr] at hown'
  clear hsz
  obtain ⟨ao, cap, rfl⟩ : ∃ ao cap, v' = .slice ao r.size cap := by
    rcases hown'.2 with ⟨hv, h0⟩ | ⟨g, cap, cur, fz, hv, _⟩
    · exact ⟨none, 0, by rw [hv, h0]⟩
    · exact ⟨_, _, hv⟩
  have hown2 : w2.ownsRowF 0 (ρ.t 5) 1 (.slice ao r.size cap) (Lib.strCells r).length (Lib.strCells r) := by
    rw [Lib.strCells_length]; exact hown'
  go_wp2
  go_ret2
  refine ⟨(ao, cap), rfl, trivial, sb_put hE (p := .pointer (some ⟨b, 0, none⟩)) ?_ ?_ ?_ ?_ ?_ ?_ (.inr rfl) (Lib.BuilderAtF.put (T := (ρ.t 72)) (e := (ρ.t 5)) (Nat.zero_le _) hb2 hown2 X.neB5) ?_ ?_⟩
  · exact hgrow.os.trans f1
  · exact hgrow.tape.trans f2
  · exact hgrow.output.trans f3
  · simp [World.setCell]; have := hgrow.size; omega
  · exact Nat.le_refl 0
  · intro k hk hkb hkg
    rw [Below.heap_setCell _ _ _ _ (fun e => hkb (by simp [e])), hgrow.block k (by omega) hkg]; exact f6 k hkb
  · simp [World.setCell, Array.getElem?_modify, hb2]
  · intro g hg
    rcases hown'.2 with ⟨hv, _⟩ | ⟨g', cap', cur, fz, hv, _, hh, _⟩
    · rw [hv] at hg; simp [Value.ownBlock] at hg
    · have hg2 := hg
      rw [hv] at hg; simp [Value.ownBlock] at hg; subst hg
      exact ⟨by simp [World.setCell]; exact (Array.getElem?_eq_some_iff.1 hh).1, (hblk _ hg2).imp id (fun h => by omega)⟩
set_option maxHeartbeats 1000000 in
set_option maxRecDepth 100000 in
/-- THE CONTRACT of Len. -/
theorem sb_len (L : Lays.n170 P ρ) {e : Nat} {r : Int × ByteArray} (H : sbL s = some r) (hE : HF w w.W (LEn [sb (ρ.t 72) e b A c s])) :
    Calls P (ρ.f 170) [.pointer (some ⟨b, 0, none⟩)].toArray w.W fun e' W' => ∃ u : (Option Addr × Nat), e' = .returned (.int .i64 r.1) ∧ (True) ∧ HF w W' (LEn [sb (ρ.t 72) e b u.1 u.2 r.2]) := by
  have hr := Option.some.inj H
  subst hr
  obtain ⟨p, hp, hB, hbk, hlt⟩ := hE.phi 0
  have c1 : w.W.cell? ⟨b, 1, none⟩ = some (.slice A s.size c) := by rw [Lib.cell_of_heap hbk]; rfl
  have mixed := L.mixed
  have t72 := L.t72; have a72 := L.a72; have z72 := L.z72; have v72 := L.v72; have u72 := run_underlying L.t72
  have t70 := L.t70; have a70 := L.a70; have z70 := L.z70; have v70 := L.v70; have u70 := run_underlying L.t70
  have t37 := L.t37; have a37 := L.a37; have z37 := L.z37; have v37 := L.v37; have u37 := run_underlying L.t37
  have t3 := L.t3; have a3 := L.a3; have z3 := L.z3; have v3 := L.v3; have u3 := run_underlying L.t3
  go_enter L.f170, Body.n170_ntmps ρ
  go_wp2
  go_ret
  first | exact ⟨(A, c), rfl, trivial, hE⟩ | exact ⟨rfl, A, c, hE⟩ | exact ⟨rfl, A, c, trivial, hE⟩
set_option maxHeartbeats 1000000 in
set_option maxRecDepth 100000 in
/-- THE CONTRACT of String. -/
theorem sb_string (L : Lays.n169 P ρ) (X : Builder.Extra P ρ) {r : ByteArray × ByteArray} (H : sbS s = some r) (hE : HF w w.W (LEn [sb (ρ.t 72) (ρ.t 5) b A c s])) :
    Calls P (ρ.f 169) [.pointer (some ⟨b, 0, none⟩)].toArray w.W fun e W' => ∃ u : (Option Addr × Nat), e = .returned (.string r.1) ∧ (True) ∧ HF w W' (LEn [sb (ρ.t 72) (ρ.t 5) b u.1 u.2 r.2]) := by
  unfold sbS at H
  split at H
  case isFalse => cases H
  rename_i h0
  have hr := Option.some.inj H
  subst hr
  obtain ⟨p, hp, hB, hbk, hlt⟩ := hE.phi 0
  have hA := hB
  obtain ⟨_, v, hbk2, hown, hne⟩ := hB
  have hv : v = .slice A s.size c := by rw [hbk] at hbk2; simpa using hbk2.symm
  subst hv
  rw [Lib.strCells_length] at hown
  obtain ⟨g, cap, cur, fz, hv, hbg, hg, hfz, hnc, hcm, hcs, htake⟩ : ∃ g cap cur fz, Value.slice A s.size c = .slice (some ⟨g, 0, none⟩) s.size cap ∧ 0 ≤ g ∧ w.W.heap[g]? = some (.cells cur (ρ.t 5) fz) ∧ fz.2 ≤ s.size * 1 ∧ s.size ≤ cap ∧ cap ≤ maxLen ∧ cur.size = cap * 1 ∧ cur.toList.take (s.size * 1) = Lib.strCells s := by
    rcases hown.2 with ⟨_, hz⟩ | ⟨g, cap, cur, fz, hv, r⟩
    · exact absurd hz h0
    · exact ⟨g, cap, cur, fz, hv, r⟩
  simp at hv
  obtain ⟨rfl, rfl⟩ := hv
  have hl0 : s.data.toList ≠ [] := by
    intro e
    have : s.data.toList.length = 0 := by rw [e]; rfl
    exact h0 (by simpa using this)
  have hls : s.data.toList.length = s.size := by simp
  have c1 : w.W.drew.cell? ⟨b, 1, none⟩ = some (.slice (some ⟨g, 0, none⟩) s.size c) := by
    have : w.W.drew.heap[b]? = some (.cells #[p, .slice (some ⟨g, 0, none⟩) s.size c] (ρ.t 72) (0, 0)) := hbk
    rw [Lib.cell_of_heap this]; rfl
  have hSD : (Builtin.unsafeSliceData_ #[(ρ.t 37)] (ρ.t 127) #[.slice (some ⟨g, 0, none⟩) s.size c]).run P w.W.drew = .ok (.pointer (some ⟨g, 0, none⟩)) w.W.drew :=
    Lib.run_unsafeSliceData_row _ _ _ _ _ _ (by omega)
  have hUS : (Builtin.unsafeString_ #[(ρ.t 127), (ρ.t 3)] (ρ.t 9) #[.pointer (some ⟨g, 0, none⟩), .int .i64 s.size]).run P w.W.drew = .ok (.string s) (w.W.drew.freeze ⟨g, 0, none⟩ s.size) := by
    have := Lib.run_unsafeString_row (P := P) w.W.drew (ρ.t 127) (ρ.t 3) (ρ.t 9) (ρ.t 5) L.t127 X.cellsByte g cur.size (by have hg' : w.W.drew.heap[g]? = some (.cells cur (ρ.t 5) fz) := hg; simp [World.shape?, hg']) s.data.toList hl0 (by omega) (by unfold maxLen at hcm; omega) (by
      intro j x hx
      exact hown.cells (g := g) rfl j (.int .u8 x.toNat) (by simp [Lib.strCells, hx]))
    rw [hls] at this
    simpa using this
  have mixed := L.mixed
  have t72 := L.t72; have a72 := L.a72; have z72 := L.z72; have v72 := L.v72; have u72 := run_underlying L.t72
  have t70 := L.t70; have a70 := L.a70; have z70 := L.z70; have v70 := L.v70; have u70 := run_underlying L.t70
  have t37 := L.t37; have a37 := L.a37; have z37 := L.z37; have v37 := L.v37; have u37 := run_underlying L.t37
  have t127 := L.t127; have a127 := L.a127; have z127 := L.z127; have v127 := L.v127; have u127 := run_underlying L.t127
  have t3 := L.t3; have a3 := L.a3; have z3 := L.z3; have v3 := L.v3; have u3 := run_underlying L.t3
  have t9 := L.t9; have a9 := L.a9; have z9 := L.z9; have v9 := L.v9; have u9 := run_underlying L.t9
  have t5 := X.t5; have a5 := X.a5; have z5 := X.z5; have v5 := X.v5; have u5 := run_underlying X.t5
  have hgb : g ≠ b := fun e => hne (by simp [Value.ownBlock, e])
  have hF : Lib.BuilderAtF (ρ.t 72) (ρ.t 5) 0 b p (Lib.strCells s) (w.W.drew.freeze ⟨g, 0, none⟩ s.size) := by
    have hA2 : Lib.BuilderAtF (ρ.t 72) (ρ.t 5) 0 b p (Lib.strCells s) w.W.drew := ⟨Nat.zero_le _, _, hbk, by rw [Lib.strCells_length]; exact hown, hne⟩
    have := hA2.froze (g := g) (cap := c) (by rw [Lib.strCells_length]; exact c1)
    rwa [Lib.strCells_length] at this
  have hfr : ∀ k, k ≠ g → (w.W.drew.freeze ⟨g, 0, none⟩ s.size).heap[k]? = w.W.heap[k]? := by
    intro k hk
    unfold World.freeze
    rw [if_neg h0]
    simp only [Array.getElem?_modify]
    rw [if_neg (fun e => hk e.symm)]
    rfl
  have fin : HF w (w.W.drew.freeze ⟨g, 0, none⟩ s.size) (LEn [sb (ρ.t 72) (ρ.t 5) b (some ⟨g, 0, none⟩) c s]) := by
    have hfs : (w.W.drew.freeze ⟨g, 0, none⟩ s.size).heap.size = w.W.heap.size := by
      unfold World.freeze
      rw [if_neg h0]
      simp only [Array.size_modify]; rfl
    have hfd : (w.W.drew.freeze ⟨g, 0, none⟩ s.size).os = w.W.os ∧ (w.W.drew.freeze ⟨g, 0, none⟩ s.size).tape = w.W.tape ∧ (w.W.drew.freeze ⟨g, 0, none⟩ s.size).output = w.W.output ∧ zd w.W ≤ zd (w.W.drew.freeze ⟨g, 0, none⟩ s.size) := by
      unfold World.freeze
      rw [if_neg h0]
      exact ⟨rfl, rfl, rfl, Nat.le_refl 0⟩
    refine sb_put hE (p := p) hfd.1 hfd.2.1 hfd.2.2.1 (Nat.le_of_eq hfs.symm) hfd.2.2.2 (fun k _ hkb hkg => hfr k (fun e => hkg (by simp [Value.ownBlock, e]))) hp hF ((hfr b hgb.symm).trans hbk) (fun k hk => ?_)
    simp [Value.ownBlock] at hk
    subst hk
    exact ⟨by rw [hfs]; exact (Array.getElem?_eq_some_iff.1 hg).1, .inl (by simp [Value.ownBlock])⟩
  go_enter L.f169, Body.n169_ntmps ρ
  go_wp2
  go_region_o
  all_goals (go_wp2; go_ret; first | exact ⟨(some ⟨g, 0, none⟩, c), rfl, trivial, fin⟩ | exact ⟨rfl, some ⟨g, 0, none⟩, c, fin⟩ | exact ⟨rfl, some ⟨g, 0, none⟩, c, trivial, fin⟩)
end
end Go.Proofs.YtmbjoffligicnaaGreatDoor
namespace Go.Proofs.YtmbjoffligicnaaGreatDoor
open Go.RowKit Go.Proofs Go.Shelf Go.Sort
/-- The library's variable holds a number, and stays. -/
def MaxI (P : Program) (w : Bs) : Prop := ∃ g, P.globals.findIdx? (·.name == "internal/bytealg.MaxLen") = some g ∧ w.R g ∧ ∃ m, w.W.cell? ⟨g, 0, none⟩ = some (.int .i64 m)
/-- The table lies in a block that stays. -/
def TabI (P : Program) (w : Bs) : Prop := ∃ g, P.globalNamed "internal/strconv.uint64pow10" = some g ∧ w.R g ∧ Lib.TabIs P w.W "internal/strconv.uint64pow10" .u64 Lib.pow10Tab
/-- Both. -/
def Tab (P : Program) (w : Bs) : Prop := TabI P w ∧ MaxI P w
section
variable {P : Program} {ρ : Ren} {w w' : Bs}
theorem Tab.ext (h : Tab P w) (e : w.Ext w') : Tab P w' := by
  obtain ⟨⟨g, h1, h2, h3⟩, g', k1, k2, m, k3⟩ := h
  refine ⟨⟨g, h1, e.r g h2, ?_⟩, g', k1, e.r g' k2, m, ?_⟩
  · unfold Lib.TabIs World.var? at h3 ⊢
    rw [h1] at h3 ⊢
    simp only [Option.bind_some] at h3 ⊢
    rw [e.blk g h2]; exact h3
  · unfold World.cell? at k3 ⊢
    rw [e.blk g' k2]; exact k3
/-- A number, written. -/
def itoaF (n : Int) : Option ByteArray := if -9223372036854775808 ≤ n ∧ n ≤ 9223372036854775807 then some ⟨(Lib.itoa n).toArray⟩ else none
/-- THE CONTRACT of Itoa. -/
theorem itoaF_rule (L : LaysM.n171 P ρ) (hT : Tab P w) {n : Int} {r : ByteArray} (H : itoaF n = some r) (hE : HF w w.W E0) :
    Calls P (ρ.f 171) [.int .i64 n].toArray w.W fun e W' => e = .returned (.string r) ∧ HF w W' E0 := by
  unfold itoaF at H
  split at H
  case isFalse => cases H
  rename_i hn
  have hr := Option.some.inj H
  subst hr
  obtain ⟨⟨g, _, _, h3⟩, _⟩ := hT
  exact (Any.strconv_Itoa L n hn.1 hn.2 w.W h3).mono fun e W' ⟨h1, k, os, h2⟩ => ⟨h1, hE.later (by
    subst h2
    exact ⟨rfl, rfl, rfl, by simp [grow, World.drewN], fun b hb => heap_grow_old _ _ (by simpa [World.drewN] using hb), Nat.le_refl 0⟩)⟩
end
end Go.Proofs.YtmbjoffligicnaaGreatDoor
namespace Go.Proofs.YtmbjoffligicnaaGreatDoor
open Go.RowKit
/-- The cells of an element. -/
def Raw {α : Type} (t : Fl α) : Type := {cs : List Value // cs.length = t.sz ∧ cs.all (·.oneCell') = true}
def raw {α : Type} (t : Fl α) (cs : List Value) (h1 : cs.length = t.sz) (h2 : cs.all (·.oneCell') = true) : Raw t := ⟨cs, h1, h2⟩
def rawU {α : Type} (t : Fl α) (u : t.Ad) (x : α) : Raw t := raw t (t.enc u x) (t.len u x) (List.all_eq_true.2 (t.one u x))
/-- Elements that are tidy or held by their cells. -/
def mix {α : Type} (t : Fl α) : Fl (α ⊕ Raw t) where
  Ad := t.Ad
  sz := t.sz
  enc u x := match x with | .inl x => t.enc u x | .inr cs => cs.1
  ok S W u x := match x with | .inl x => t.ok S W u x | .inr _ => True
  len u x := by cases x with
    | inl x => exact t.len u x
    | inr cs => exact cs.2.1
  one u x v h := by cases x with
    | inl x => exact t.one u x v h
    | inr cs => exact List.all_eq_true.1 cs.2.2 v h
  loc {_ _ _ _ _ x} h hs hb := by cases x with
    | inl x => exact t.loc h hs hb
    | inr cs => trivial
def mixL {α : Type} {t : Fl α} (l : List α) (i : Nat) (cs : Raw t) : List (α ⊕ Raw t) := (l.map Sum.inl).set i (.inr cs)
section
variable {α : Type} {t : Fl α} {l : List α} {i : Nat} {cs : Raw t} {O : Nat → Prop} {W : World} {w : Bs} {n : Nat} {f : Nat → Option Value} {E : Nat → Ent} {X : Act → World → Prop} {A : Option Addr} {c T : Nat}
theorem mixL_len : (mixL l i cs).length = l.length := by simp [mixL]
theorem mixL_at (hi : i < l.length) : (mixL l i cs)[i]? = some (.inr cs) := by simp [mixL, hi]
theorem al_mix {css : List (List Value)} (h : Al (rp t O W) css l) : Al (rp (mix t) O W) css (l.map Sum.inl) := by
  induction h with
  | nil => exact .nil
  | cons h1 _ ih =>
    obtain ⟨u, h2, h3⟩ := h1
    exact .cons ⟨u, h2, h3⟩ ih
theorem al_unmix : ∀ {l : List α} {css : List (List Value)}, Al (rp (mix t) O W) css (l.map Sum.inl) → Al (rp t O W) css l
  | [], _, h => by cases h; exact .nil
  | x :: l, _, h => by
    cases h with
    | cons h1 h2 =>
      obtain ⟨u, h3, h4⟩ := h1
      exact .cons ⟨u, h3, h4⟩ (al_unmix h2)
theorem set_same {β : Type} {l : List β} {i : Nat} {x : β} (h : l[i]? = some x) : l.set i x = l := by
  apply List.ext_getElem?
  intro j
  rw [List.getElem?_set]
  split
  · rename_i e; subst e
    split
    · exact h.symm
    · rename_i hh; rw [List.getElem?_eq_none (by omega)]
  · rfl
/-- The element at a place is held by its cells. -/
theorem Tr.mixOpen (κ : Nat) {x : α} (hk : E κ = ow A c T t l) (hx : l[i]? = some x) (K : ∀ u, t.ok w.O w.W u x → Tr w n f (up E κ (ow A c T (mix t) (mixL l i (rawU t u x)))) X) : Tr w n f E X := fun a W h1 h2 => by
  obtain ⟨css, hal, hlen, h0⟩ := h2.ow hk
  obtain ⟨cs0, hcs0, u, hu, rfl⟩ := hal.at_ hx
  have hu' : t.ok w.O w.W u x := t.loc hu (fun _ hb => hb) (fun b hb => (h2.keep b (.inl hb)).symm)
  refine K u hu' a W h1 (h2.mod κ _ rfl rfl rfl (Nat.le_refl _) (Nat.le_refl _) (fun _ _ _ => rfl) (ow_loc _ _ _ _ _) ?_ (fun b hb => ?_))
  · have hs := (al_mix hal).set (i := i) (x := t.enc u x) (y := .inr (rawU t u x)) ⟨u, trivial, rfl⟩
    rw [set_same hcs0] at hs
    refine ⟨css, hs, ?_⟩
    show W.ownsRow 0 T t.sz (.slice A (mixL l i _).length c) (mixL l i _).length css.flatten
    rw [mixL_len]; exact ⟨hlen, h0⟩
  · have hb : (Value.slice A (mixL l i _).length c).ownBlock = some b := hb
    rw [mixL_len] at hb
    have hb' : (E κ).S b := by rw [hk]; exact hb
    exact ⟨.inl hb', (h2.bd κ b hb').2⟩
/-- The element is tidy again. -/
theorem Tr.mixClose (κ : Nat) (hk : E κ = ow A c T (mix t) (mixL l i cs)) (u : t.Ad) (x : α) (hu : t.ok w.O w.W u x) (he : t.enc u x = cs.1) (K : Tr w n f (up E κ (ow A c T t (l.set i x))) X) : Tr w n f E X := fun a W h1 h2 => by
  obtain ⟨css, hal, hlen, h0⟩ := h2.ow hk
  refine K a W h1 (h2.mod κ _ rfl rfl rfl (Nat.le_refl _) (Nat.le_refl _) (fun _ _ _ => rfl) (ow_loc _ _ _ _ _) ?_ (fun b hb => ?_))
  · refine ⟨css, al_unmix ?_, ?_⟩
    · by_cases hi : i < l.length
      · obtain ⟨cs0, hcs0, u0, _, e0⟩ := hal.at_ (mixL_at (cs := cs) hi)
        have e0 : cs0 = cs.1 := e0
        have hs := hal.set (i := i) (x := cs0) (y := .inl x) ⟨u, t.loc hu (fun _ hb => hb) (fun b hb => h2.keep b (.inl hb)), by rw [e0]; exact he.symm⟩
        rw [set_same hcs0] at hs
        have : (mixL l i cs).set i (.inl x) = (l.set i x).map Sum.inl := by simp [mixL, List.map_set]
        rwa [this] at hs
      · have e1 : mixL l i cs = l.map Sum.inl := by
          unfold mixL; exact List.set_eq_of_length_le (by simpa using hi)
        rw [e1] at hal
        rw [List.set_eq_of_length_le (by omega)]; exact hal
    · have hm : (mixL l i cs).length = (l.set i x).length := by rw [mixL_len, List.length_set]
      rw [← hm]; exact ⟨hlen, h0⟩
  · have hb : (Value.slice A (l.set i x).length c).ownBlock = some b := hb
    have hb' : (E κ).S b := by
      rw [hk]
      show (Value.slice A (mixL l i cs).length c).ownBlock = some b
      rw [mixL_len, ← List.length_set (a := x) (i := i)]; exact hb
    exact ⟨.inl hb', (h2.bd κ b hb').2⟩
/-- The held element's cells. -/
theorem rdm (hW : HF w W E) {κ : Nat} (hk : E κ = ow A c T (mix t) (mixL l i cs)) (hi : i < l.length) : CellsAt W (adB A) (adO A + i * t.sz) cs.1 := by
  obtain ⟨u, _, h⟩ := hW.atN hk (mixL_at hi)
  exact h
end
theorem emix {α : Type} {E : Nat → Ent} {k : Nat} {A : Option Addr} {c T i : Nat} {t : Fl α} {l : List α} {cs cs' : List Value} {h1 : cs.length = t.sz} {h2 : cs.all (·.oneCell') = true} {h1' : cs'.length = t.sz} {h2' : cs'.all (·.oneCell') = true} (h : E k = ow A c T (mix t) (mixL l i (raw t cs h1 h2))) (he : cs = cs') : E k = ow A c T (mix t) (mixL l i (raw t cs' h1' h2')) := by
  subst he; exact h
section
variable {α : Type} {P : Program} {w : Bs} {n : Nat} {f : Nat → Option Value} {E : Nat → Ent} {Q : Exit → Act → World → Prop} {ops : Array Oper} {rest : List Oper} {ty T : Nat} {pos : String} {af : Array Edge} {g : Option (Nat × Bool)} {p q : Operand} {v : Value}
theorem run_nilCheck {ρ : Operand → Value} {W : World} {d : Option Tmp} {a : Addr} (hp : ρ p = .pointer (some a)) : (execOp ρ ⟨d, .nilCheck p, ty, pos, af, g⟩).run P W = .ok (.value (.pointer (some a))) W := by
  simp [execOp, hp]
/-- A store to a field of the held element. -/
theorem Tr.storeMix (κ : Nat) {A : Option Addr} {c e fo o i : Nat} {t : Fl α} {l : List α} {ds : Raw t} (ds' : Raw t) {cs : List Value} (hw : Wn ops f ⟨none, .store T p q, ty, pos, af, g⟩) (hp : ev f p = some (.pointer (some ⟨adB A, o, none⟩))) (hq : ev f q = some v) (hv : v.cells = cs.toArray)
    (ho : o = adO A + i * t.sz + fo) (hk : E κ = ow A c e (mix t) (mixL l i ds)) (hi : i < l.length) (hs : szOf P T = some cs.length) (h1 : cs.all (·.oneCell') = true)
    (hup : ds'.1 = ds.1.take fo ++ cs ++ ds.1.drop (fo + cs.length)) (hfit : Nat.ble (fo + cs.length) t.sz = true)
    (K : Tr w n f (up E κ (ow A c e (mix t) (mixL l i ds'))) (wpList P ops Q rest)) : Tr w n f E (wpList P ops Q (⟨none, .store T p q, ty, pos, af, g⟩ :: rest)) :=
  Tr.op hw fun a W k1 k2 => by
    subst ho
    obtain ⟨vs, hh, hle, hnew⟩ := set_el (t := mix t) (x' := .inr ds') κ k2 hk (mixL_at hi) (fun u _ => ⟨u, trivial, hup⟩) (Nat.le_of_ble_eq_true hfit)
    have e1 : (mixL l i ds).set i (.inr ds') = mixL l i ds' := by simp [mixL]
    rw [e1] at hnew
    unfold Oper.wp
    rw [run_store hs (k1.ev hp) (k1.ev hq) hv hh (Nat.ble_eq_true_of_le hle) h1]
    exact K _ _ k1 hnew
end
end Go.Proofs.YtmbjoffligicnaaGreatDoor
namespace Go.Proofs.YtmbjoffligicnaaGreatDoor
open Go.RowKit Go.Proofs Go.Shelf Go.Sort
/-- What strings.Cut tells. -/
def cutF (s sep : ByteArray) : Option (ByteArray × ByteArray × Bool) :=
  if s.size < 4294967281 then some (⟨(Lib.cut s.data.toList sep.data.toList).1.toArray⟩, ⟨(Lib.cut s.data.toList sep.data.toList).2.1.toArray⟩, (Lib.cut s.data.toList sep.data.toList).2.2) else none
/-- What strings.Split tells. -/
def splitF (s sep : ByteArray) : Option (List ByteArray) := if s.size < 4294967281 ∧ 1 ≤ sep.size then some (Lib.splitB sep 0 (Lib.countB s sep) s) else none
/-- What strings.Trim tells, of a set of letters below 128. -/
def trimF (s c : ByteArray) : Option ByteArray :=
  if s.size ≤ 9223372036854775807 ∧ c.size < 4294967281 ∧ c.data.toList.all (fun b => decide (b.toNat < 128)) = true then some ⟨(Lib.trimS s.data.toList c.data.toList).toArray⟩ else none
/-- What strconv.Atoi tells of a numeral. -/
def atoiF (s : ByteArray) : Option Int := if s.size ≤ 18 then Lib.atoi s.data.toList else none
/-- What strings.ContainsFunc tells. -/
def containsF (s : ByteArray) (p : Int → Option Bool) : Option Bool :=
  if ∀ x : Nat, x < 1114112 → (p x).isSome = true then some (decide (0 ≤ Lib.idxFunc (fun x => (p x).getD false) true s)) else none
/-- What strings.Join tells. -/
def joinF (l : List ByteArray) (sep : ByteArray) : Option ByteArray :=
  if l.length ≤ 140737488355328 ∧ (Lib.join (l.map (·.data.toList)) sep.data.toList).length ≤ 140737488355328 then some ⟨(Lib.join (l.map (·.data.toList)) sep.data.toList).toArray⟩ else none
section
variable {P : Program} {ρ : Ren} {w : Bs}
theorem MaxI.at_ (h : MaxI P w) (hg : P.globals.findIdx? (·.name == "internal/bytealg.MaxLen") = some (ρ.g 1)) : ∃ m, w.W.cell? ⟨(ρ.g 1), 0, none⟩ = some (.int .i64 m) := by
  obtain ⟨g, h1, _, m, h2⟩ := h
  rw [hg] at h1
  obtain rfl := Option.some.inj h1
  exact ⟨m, h2⟩
theorem below_drewN (W : World) (n : Nat) : Proofs.YtmbjoffligicnaaGreatDoor.Below W.heap.size W (W.drewN n) := ⟨rfl, rfl, rfl, Nat.le_refl _, fun _ _ => rfl, Nat.le_refl 0⟩
theorem cutF_rule (L : Lays.n145 P ρ) (hT : Tab P w) (hg : P.globals.findIdx? (·.name == "internal/bytealg.MaxLen") = some (ρ.g 1)) {s sep : ByteArray} {r : ByteArray × ByteArray × Bool} (H : cutF s sep = some r) (hE : HF w w.W E0) :
    Calls P (ρ.f 145) [.string s, .string sep].toArray w.W fun e W' => e = .returned (.tuple #[.string r.1, .string r.2.1, .bool r.2.2]) ∧ HF w W' E0 := by
  unfold cutF at H
  split at H
  case isFalse => cases H
  rename_i hs
  have hr := Option.some.inj H
  subst hr
  obtain ⟨m, hm⟩ := hT.2.at_ hg
  exact (Any.strings_Cut L s sep m w.W hs hm).mono fun e W' ⟨h1, n, h2⟩ => ⟨h1, by rw [h2]; exact hE.later (below_drewN _ n)⟩
theorem splitF_rule (L : Lays.n146 P ρ) (hT : Tab P w) (hg : P.globals.findIdx? (·.name == "internal/bytealg.MaxLen") = some (ρ.g 1)) {t : Fl ByteArray} (hsz : t.sz = 1) (he : ∀ u x, t.enc u x = [.string x]) (u0 : t.Ad) (htr : t.Tri)
    (hi9 : (P.info? (ρ.t 9)).map (fun i => (i.zero, i.size, i.bytes)) = some (some (.string ByteArray.empty), 1, 16)) {s sep : ByteArray} {r : List ByteArray} (H : splitF s sep = some r) (hE : HF w w.W (LEn [emp])) :
    Calls P (ρ.f 146) [.string s, .string sep].toArray w.W fun e W' => ∃ u : (Option Addr × Nat), e = .returned (.slice u.1 r.length u.2) ∧ (SlF u.1 r.length u.2) ∧ HF w W' (LEn [ow u.1 u.2 (ρ.t 9) t r]) := by
  unfold splitF at H
  split at H
  case isFalse => cases H
  rename_i hs
  have hr := Option.some.inj H
  obtain ⟨m, hm⟩ := hT.2.at_ hg
  have hlen := Lib.splitB_all sep hs.2 0 _ s rfl
  have hle := Lib.countB_le sep hs.2 s.size s (Nat.le_refl _)
  rw [hr] at hlen
  have hmax : r.length ≤ maxLen := by unfold maxLen; omega
  have hall : ∀ O W, Al (rp t O W) (r.map fun x => [Value.string x]) r := fun O W => by
    have : ∀ l : List ByteArray, Al (rp t O W) (l.map fun x => [Value.string x]) l := fun l => by
      induction l with
      | nil => exact .nil
      | cons x l ih => exact .cons ⟨u0, htr _ _ _ _, (he _ _).symm⟩ ih
    exact this r
  have hfl : (r.map fun x => [Value.string x]).flatten = r.map Value.string := by
    have : ∀ l : List ByteArray, (l.map fun x => [Value.string x]).flatten = l.map Value.string := fun l => by
      induction l with
      | nil => rfl
      | cons x l ih => simp only [List.map_cons, List.flatten_cons, ih]; rfl
    exact this r
  have c := Any.strings_Split L hi9 s sep m w.W hs.1 hm hs.2
  rw [hr, ← hlen] at c
  refine c.mono fun e W' ⟨h1, h2⟩ => ⟨(some ⟨w.W.heap.size, 0, none⟩, r.length), h1, ⟨Nat.le_refl _, hmax, fun _ => rfl⟩, ?_⟩
  subst h2
  refine (hE.mod (W' := w.W.alloc (.cells (r.map Value.string).toArray (ρ.t 9))) 0 (ow (some ⟨w.W.heap.size, 0, none⟩) r.length (ρ.t 9) t r) rfl rfl rfl (by simp) (Nat.le_refl 0) (fun b hb _ => ?_) (ow_loc _ _ _ _ _) ?_ (fun b hb => ?_)).weaken (fun k => ?_)
  · exact ((Proofs.YtmbjoffligicnaaGreatDoor.Below.refl _ _).alloc (Nat.le_refl _) _).block b hb
  · refine ⟨r.map fun x => [Value.string x], hall _ _, by rw [hfl, hsz]; simp, .inr ⟨w.W.heap.size, r.length, (r.map Value.string).toArray, rfl, Nat.zero_le _, heap_alloc_new _ _, Nat.le_refl _, hmax, by rw [hsz]; simp, ?_⟩⟩
    rw [hfl, hsz, Nat.mul_one]
    exact List.take_of_length_le (by simp)
  · have hb : (Value.slice (some ⟨w.W.heap.size, 0, none⟩) r.length r.length).ownBlock = some b := hb
    simp [Value.ownBlock] at hb
    subst hb
    exact ⟨.inr (Nat.le_refl _), by simp⟩
  · cases k with
    | zero => exact .inl rfl
    | succ k => exact .inr rfl
theorem trimF_rule (L : Lays.n160 P ρ) (h116 : (P.info? (ρ.t 116)).map (fun i => (i.zero, i.size)) = some (some (.agg (Array.replicate 256 (.bool false))), 256)) {s c r : ByteArray} (H : trimF s c = some r) (hE : HF w w.W E0) :
    Calls P (ρ.f 160) [.string s, .string c].toArray w.W fun e W' => e = .returned (.string r) ∧ HF w W' E0 := by
  unfold trimF at H
  split at H
  case isFalse => cases H
  rename_i hs
  have hr := Option.some.inj H
  subst hr
  refine (Any.strings_Trim_laid L h116 s c w.W hs.1 hs.2.1 (fun j b hb => ?_)).mono fun e W' ⟨h1, h2⟩ => ⟨h1, hE.later (Proofs.YtmbjoffligicnaaGreatDoor.Below.of_kit h2 (Nat.le_refl 0))⟩
  exact of_decide_eq_true (List.all_eq_true.1 hs.2.2 b (List.mem_of_getElem? hb))
theorem atoiF_rule (L : Lays.n172 P ρ) {s : ByteArray} {r : Int} (H : atoiF s = some r) (hE : HF w w.W E0) :
    Calls P (ρ.f 172) [.string s].toArray w.W fun e W' => e = .returned (.tuple #[.int .i64 r, .nilIface]) ∧ HF w W' E0 := by
  unfold atoiF at H
  split at H
  case isFalse => cases H
  rename_i hs
  exact (Any.strconv_Atoi L s r hs H w.W).mono fun e W' ⟨h1, t, h2⟩ => ⟨h1, by rw [h2]; exact hE.later (Proofs.YtmbjoffligicnaaGreatDoor.Below.of_kit (Go.Joins.below_bytesWorld _ _ _ _ (Nat.le_refl _)) (Nat.le_refl 0))⟩
theorem containsF_rule (L : LaysGw.n17 P ρ) {s : ByteArray} {p : Int → Option Bool} {fid : Nat} {cap : List Value} (hg : ∀ args W, (callFunc fid args).run P W = .ok (.enter fid args) W)
    (hf : ∀ (w' : Bs), w.Ext w' → ∀ (z0 : Int), ∀ y, p z0 = some y → Calls P fid (([(.int .i32 z0)] : List Value) ++ cap).toArray w'.W fun e W'' => e = .returned (.bool y) ∧ HF w' W'' E0) {r : Bool} (H : containsF s p = some r) (hE : HF w w.W E0) :
    Calls P (ρ.f 17) [.string s, .func (.func fid) #[] cap.toArray].toArray w.W fun e W' => e = .returned (.bool r) ∧ HF w W' E0 := by
  unfold containsF at H
  split at H
  case isFalse => cases H
  rename_i hs
  have hr := Option.some.inj H
  subst hr
  refine (Any.strings_ContainsFunc_grows L fid cap.toArray hg (fun x => (p x).getD false) s w.W (fun W x hx hb => ?_)).mono fun e W' ⟨h1, h2⟩ => ⟨h1, hE.later (Proofs.YtmbjoffligicnaaGreatDoor.Below.of_kit h2 (Nat.le_refl 0))⟩
  obtain ⟨y, hy⟩ := Option.isSome_iff_exists.1 (hs x (by omega))
  have hext : w.Ext ⟨W, w.O, fun b => b < W.heap.size, fun b h => by
      rcases h with h | h
      · exact Nat.lt_of_lt_of_le (w.lt b (.inl h)) hb.size
      · exact h⟩ := ⟨fun _ h => h, fun b h => .inr (Nat.lt_of_lt_of_le (w.lt b h) hb.size), fun b h => hb.block b (w.lt b h)⟩
  have := hf _ hext x y hy
  have hargs : (([(.int .i32 (x : Int))] : List Value) ++ cap).toArray = #[encR x] ++ cap.toArray := by simp [encR]
  rw [hargs] at this
  refine this.mono fun e' W'' ⟨h1, h2⟩ => ⟨by rw [h1]; simp [hy], ?_⟩
  exact ⟨h2.os, h2.tape, h2.output, h2.size, fun b hb => h2.keep b (.inr hb)⟩
theorem joinF_rule (L : Lays.n156 P ρ) (X : Builder.Extra P ρ) {t : Fl ByteArray} (he : ∀ u x, t.enc u x = [.string x]) {A : Option Addr} {c : Nat} {l : List ByteArray} (hl : Sl w.R w.W t A c l) {sep r : ByteArray} (H : joinF l sep = some r) (hE : HF w w.W E0) :
    Calls P (ρ.f 156) [.slice A l.length c, .string sep].toArray w.W fun e W' => e = .returned (.string r) ∧ HF w W' E0 := by
  unfold joinF at H
  split at H
  case isFalse => cases H
  rename_i hs
  have hr := Option.some.inj H
  subst hr
  cases hl0 : l with
  | nil =>
    refine (Any.strings_Join_none L X A c sep w.W).mono fun e W' ⟨h1, h2⟩ => ⟨h1, by rw [h2]; exact hE⟩
  | cons x l' =>
    have hpos : 0 < l.length := by rw [hl0]; simp
    have hsz : t.sz = 1 := by
      obtain ⟨_, u, _, _⟩ := hl.cells 0 x (by rw [hl0]; rfl)
      have := t.len u ByteArray.empty
      rw [he] at this; exact this.symm
    have hA := hl.form.2.2 hpos
    have hc : ∀ (j : Nat) x, l[j]? = some x → w.W.cell? ⟨adB A, adO A + j, none⟩ = some (.string x) := fun j x hx => by
      obtain ⟨_, u, _, h3⟩ := hl.cells j x hx
      have := h3 0 (.string x) (by rw [he]; rfl)
      rw [hsz, Nat.mul_one, Nat.add_zero] at this; exact this
    have hlt : adB A < w.W.heap.size := w.lt _ ((hl.cells 0 x (by rw [hl0]; rfl)).1)
    rw [← hl0, hA]
    exact (Any.strings_Join L X (adB A) (adO A) c l sep w.W hc hlt hs.1 hl.form.1 hs.2).mono fun e W' ⟨h1, h2⟩ => ⟨h1, hE.later (Proofs.YtmbjoffligicnaaGreatDoor.Below.of_kit h2 (Nat.le_refl 0))⟩
theorem run_cutSH {ρ : Operand → Value} {W : World} {d : Option Tmp} {ty T : TypeId} {pos : String} {af : Array Edge} {g : Option (Nat × Bool)} {p y : Operand} {s t : ByteArray} {j : Int} (hu : P.underlying T = some .string) (hp : ρ p = .string s) (hy : ρ y = .int .i64 j) (hv : strCut s 0 j = some t) : (execOp ρ ⟨d, .slice T p none (some y) none, ty, pos, af, g⟩).run P W = .ok (.value (.string t)) W := by
  unfold strCut at hv
  split at hv
  · rename_i h; obtain ⟨h1, h2, h3⟩ := h; simp at hv; subst hv
    simp [execOp, go_sem, hp, hy, Instr.sliceAt, Instr.slice, Instr.sliceBounds, Instr.sliceBound, run_underlying hu, h3, h2]
  · cases hv
theorem run_cutSL {ρ : Operand → Value} {W : World} {d : Option Tmp} {ty T : TypeId} {pos : String} {af : Array Edge} {g : Option (Nat × Bool)} {p x : Operand} {s t : ByteArray} {i : Int} (hu : P.underlying T = some .string) (hp : ρ p = .string s) (hx : ρ x = .int .i64 i) (hv : strCut s i s.size = some t) : (execOp ρ ⟨d, .slice T p (some x) none none, ty, pos, af, g⟩).run P W = .ok (.value (.string t)) W := by
  unfold strCut at hv
  split at hv
  · rename_i h; obtain ⟨h1, h2, h3⟩ := h; simp at hv; subst hv
    simp [execOp, go_sem, hp, hx, Instr.sliceAt, Instr.slice, Instr.sliceBounds, Instr.sliceBound, run_underlying hu, h1, h2]
  · cases hv
end
end Go.Proofs.YtmbjoffligicnaaGreatDoor
