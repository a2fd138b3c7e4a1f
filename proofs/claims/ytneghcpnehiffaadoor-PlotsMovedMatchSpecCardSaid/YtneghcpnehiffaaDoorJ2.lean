/- Slices that are compared with nil. Conditions: none beyond each theorem's own. What holds from a base on; calls with parts handed over; cuts within regions; other names for parts. Conditions: none beyond each theorem's own. Front parts of slices; lengths that stay; a result in a variable of one cell. Conditions: none beyond each theorem's own. Plain words: counting loops over lists, numbers in range. No program. Conditions: none beyond each theorem's own. min and max of three. Over any program. Short words for the steps that come most. Over any program. Calls of a function value that is a function of the program, and that make or turn memory. Calls of closures that turn variables which they hold. Types whose values hold lists of themselves: how they lie, by depth. Conditions: none beyond each theorem's own. strings.Builder: a part of memory that holds a builder and the row of its bytes; WriteString, Len and String over the library's laid bodies. Over any program. Conditions: none beyond each theorem's own. strconv.Itoa at small numbers. Over any program. Conditions: none beyond each theorem's own. A field of a struct's value. Over any program. Conditions: none beyond each theorem's own. A slice of the call's own, one element of which is held by its cells: its inner slices may be parts of the call's own. Over any program. Conditions: none beyond each theorem's own. Parts of memory taken apart and put together; a map's block. Over any program. Conditions: none beyond each theorem's own. make of slices, maps from integers to integers, slices of slices all of which are the call's own. Over any program. Conditions: none beyond each theorem's own. A slice of slices, all of which are the call's own: one is taken out, appended to, and put back. Over any program. Conditions: none beyond each theorem's own. A literal that becomes a slice of the call's own, within a region that draws. A slice of the call's own whose elements have a slice of the call's own within. Over any program. Conditions: none beyond each theorem's own. -/
import Derived.Test.YtneghcpnehiffaaDoorJ1
import Derived.Lib.LazyBuf
import Derived.Shelf.Strings.Builder1
import Derived.Lib.FrozenHead
import Derived.Shelf.Strconv.Itoa3
import Derived.Maps.Keyed
import Derived.Carry
import Derived.Laws.MakeOwn
import Derived.Laws.OwnMore
namespace Go.Proofs.YtneghcpnehiffaaDoor
open Go.RowKit
section
variable {P : Program} {ρ : Operand → Value} {W : World} {dd : Option Tmp} {ty T T' e : TypeId} {pos : String} {af : Array Edge} {g : Option (Nat × Bool)} {p q : Operand} {A : Option Addr} {n c : Nat}
theorem run_eqlNil (hu : P.underlying T = some (.slice e)) (hp : ρ p = .slice A n c) (hq : ρ q = .slice none 0 0) : (execOp ρ ⟨dd, .binOp .eql T p q T', ty, pos, af, g⟩).run P W = .ok (.value (.bool A.isNone)) W := by
  simp [execOp, hp, hq, Lib.run_eql_slice_nil W T e A n c 0 0 hu, eqGuard]
theorem run_neqNil (hu : P.underlying T = some (.slice e)) (hp : ρ p = .slice A n c) (hq : ρ q = .slice none 0 0) : (execOp ρ ⟨dd, .binOp .neq T p q T', ty, pos, af, g⟩).run P W = .ok (.value (.bool (!A.isNone))) W := by
  simp [execOp, hp, hq, run_neq_slice_nil_any W T e A n c 0 0 hu, eqGuard]
theorem slf_none {α : Type} {l : List α} {c : Nat} (h : SlF none l.length c) : l = [] := by
  cases l with
  | nil => rfl
  | cons x l => have := h.2.2 (by simp); cases this
end
end Go.Proofs.YtneghcpnehiffaaDoor
namespace Go.Proofs.YtneghcpnehiffaaDoor
open Go.RowKit
/-- From a base on: what can be read stays. -/
structure Bs.Ext (B B' : Bs) : Prop where
  o : ∀ b, B.O b → B'.O b
  r : ∀ b, B.R b → B'.R b
  blk : ∀ b, B.R b → B'.W.heap[b]? = B.W.heap[b]?
theorem Bs.Ext.refl (B : Bs) : B.Ext B := ⟨fun _ h => h, fun _ h => h, fun _ _ => rfl⟩
theorem Bs.Ext.trans {A B C : Bs} (h : A.Ext B) (k : B.Ext C) : A.Ext C := ⟨fun b hb => k.o b (h.o b hb), fun b hb => k.r b (h.r b hb), fun b hb => (k.blk b (h.r b hb)).trans (h.blk b hb)⟩
theorem Bs.Le.ext {B B' : Bs} (h : B.Le B') : B.Ext B' := ⟨h.sub, h.r, h.blk⟩
theorem Bs.Ext.cells {B B' : Bs} (h : B.Ext B') {b o : Nat} {cs : List Value} (hb : B.R b) (hc : CellsAt B.W b o cs) : CellsAt B'.W b o cs := hc.loc (h.blk b hb)
section
variable {α : Type} {w w' : Bs} {W W' : World} {E : Nat → Ent} {t : Fl α} {A : Option Addr} {c T k b : Nat} {l : List α} {ks : List Nat} {ins : List Ent} {vs : List Value}
theorem Sl.ext (h : Sl w.R w.W t A c l) (he : w.Ext w') : Sl w'.R w'.W t A c l := h.go he.r he.blk
theorem Sl.extO (h : Sl w.O w.W t A c l) (he : w.Ext w') : Sl w'.O w'.W t A c l := h.go he.o (fun b hb => he.blk b (.inl hb))
theorem HF.subR (hW : HF w W E) (hp : Pk E ks ins) (hb : w.R b) : (hW.sub (insS ins)).R b := by
  rcases hb with hb | hb
  · exact .inl hb
  · refine .inr ⟨hW.rlt (.inr hb), fun hi => ?_⟩
    obtain ⟨k, _, _, hs⟩ := insS_not hW hp hi
    exact (hW.bd k b hs).1 (.inr hb)
theorem HF.subS (hW : HF w W E) (hp : Pk E ks ins) (hk : ks.contains k = false) (hb : (E k).S b) : (hW.sub (insS ins)).R b := by
  refine .inr ⟨(hW.bd k b hb).2, fun hi => ?_⟩
  obtain ⟨k', j, hj, hs⟩ := insS_not hW hp hi
  refine hW.disj k k' b (fun e => ?_) hb hs
  subst e
  have : k ∈ ks := List.mem_of_getElem? hj
  simp [this] at hk
theorem HF.extAll (hW : HF w W E) : w.Ext hW.all := ⟨fun _ h => h, fun _ hb => hW.allR (hW.rlt hb), hW.keep⟩
theorem HF.extS (hW : HF w W E) (hp : Pk E ks ins) : w.Ext (hW.sub (insS ins)) := ⟨fun _ h => h, fun _ hb => hW.subR hp hb, hW.keep⟩
theorem HF.slS (hW : HF w W E) (hk : E k = Proofs.YtneghcpnehiffaaDoor.ow A c T t l) (hp : Pk E ks ins) (hn : ks.contains k = false) : Sl (hW.sub (insS ins)).R (hW.sub (insS ins)).W t A c l :=
  (hW.sl hk).mono (fun b hb => by
    rcases hb with hb | hb
    · exact .inl hb
    · exact hW.subS hp hn hb)
theorem HF.boxS (hW : HF w W E) (hk : E k = Proofs.YtneghcpnehiffaaDoor.bx b vs.toArray T) (hp : Pk E ks ins) (hn : ks.contains k = false) : (hW.sub (insS ins)).R b := hW.subS hp hn (by rw [hk]; rfl)
theorem HF.boxC (hW : HF w W E) (hk : E k = Proofs.YtneghcpnehiffaaDoor.bx b vs.toArray T) : CellsAt (hW.sub (insS ins)).W b 0 vs := rdb hW hk 0
theorem pk_nil : Pk E [] [] := trivial
theorem pk_cons {e : Ent} {es : List Ent} (h : E k = e) (h2 : Pk E ks es) : Pk E (k :: ks) (e :: es) := ⟨h, h2⟩
end
section
variable {P : Program} {w : Bs} {n : Nat} {f : Nat → Option Value} {E : Nat → Ent} {X Y : Act → World → Prop} {Q : Exit → Act → World → Prop} {ops : Array Oper} {rest l : List Oper}
/-- A cut within a region; the base stays. -/
theorem Tr.mid0 (m : Nat) (fs : List (Nat × Value)) (es : List (Nat × Ent)) (h : Tr w n f E (wpList P ops (Exit.then (fun a W => FR n (LF fs) a ∧ HF w W (LE es)) Q) (l.take m)))
    (h2 : Tr w n (LF fs) (LE es) (wpList P ops Q (l.drop m))) : Tr w n f E (wpList P ops Q l) := by
  intro a W h1 h3
  have := wpList_two (rest := l.drop m) _ a W (h a W h1 h3) (fun a W ⟨k1, k2⟩ => h2 a W k1 k2)
  rwa [List.take_append_drop] at this
theorem Tr.fin0 {fs : List (Nat × Value)} {es : List (Nat × Ent)} (hf : SelF f fs) (he : SelE E es) : Tr w n f E (Exit.then (fun a W => FR n (LF fs) a ∧ HF w W (LE es)) Q .normal) := fun _ _ h1 h2 => ⟨h1.sel hf, h2.sel he⟩
/-- A part under another name. -/
theorem Tr.ren {e : Ent} (k K : Nat) (hk : E k = e) (hK : E K = emp) (hne : Nat.beq k K = false) (h : Tr w n f (up (up E k emp) K e) X) : Tr w n f E X := fun a W h1 h2 => by
  have hne' : k ≠ K := fun e => by subst e; simp at hne
  refine h a W h1 ?_
  have key : ∀ j, (j = K ∧ up (up E k emp) K e j = E k) ∨ (j ≠ K ∧ j = k ∧ up (up E k emp) K e j = emp) ∨ (j ≠ K ∧ j ≠ k ∧ up (up E k emp) K e j = E j) := fun j => by
    rcases up_cases (up E k emp) K e j with ⟨a1, a2⟩ | ⟨a1, a2⟩
    · exact .inl ⟨a1, by rw [a2, hk]⟩
    · rcases up_cases E k emp j with ⟨b1, b2⟩ | ⟨b1, b2⟩
      · exact .inr (.inl ⟨a1, b1, by rw [a2, b2]⟩)
      · exact .inr (.inr ⟨a1, b1, by rw [a2, b2]⟩)
  refine ⟨h2.os, h2.tape, h2.output, h2.size, h2.drawn, h2.keep, fun j => ?_, fun j => ?_, fun j b => ?_, fun i j b hij => ?_⟩
  · rcases key j with ⟨_, e1⟩ | ⟨_, _, e1⟩ | ⟨_, _, e1⟩ <;> rw [e1]
    · exact h2.phi k
    · trivial
    · exact h2.phi j
  · rcases key j with ⟨_, e1⟩ | ⟨_, _, e1⟩ | ⟨_, _, e1⟩ <;> rw [e1]
    · exact h2.loc k
    · exact emp_loc
    · exact h2.loc j
  · rcases key j with ⟨_, e1⟩ | ⟨_, _, e1⟩ | ⟨_, _, e1⟩ <;> rw [e1]
    · exact h2.bd k b
    · exact fun hh => hh.elim
    · exact h2.bd j b
  · rcases key i with ⟨a1, e1⟩ | ⟨a1, b1, e1⟩ | ⟨a1, b1, e1⟩ <;> rcases key j with ⟨a2, e2⟩ | ⟨a2, b2, e2⟩ | ⟨a2, b2, e2⟩ <;> rw [e1, e2]
    · exact absurd (a1.trans a2.symm) hij
    · exact fun _ hh => hh.elim
    · exact h2.disj k j b (Ne.symm b2)
    · exact fun hh => hh.elim
    · exact fun hh => hh.elim
    · exact fun hh => hh.elim
    · exact h2.disj i k b b1
    · exact fun _ hh => hh.elim
    · exact h2.disj i j b hij
theorem Tr.dropK (k : Nat) (h : Tr w n f (up E k emp) X) : Tr w n f E X := fun a W h1 h2 => h a W h1 (h2.drop k)
end
/-- What a slice reads as, at one place: its addresses. -/
theorem Sl.el {α : Type} {S : Nat → Prop} {W : World} {t : Fl α} {A : Option Addr} {c : Nat} {l : List α} (h : Sl S W t A c l) {i : Nat} {x : α} (hx : l[i]? = some x) : ∃ u, S (adB A) ∧ t.ok S W u x ∧ CellsAt W (adB A) (adO A + i * t.sz) (t.enc u x) := by
  obtain ⟨h1, u, h2, h3⟩ := h.cells i x hx
  exact ⟨u, h1, h2, h3⟩
end Go.Proofs.YtneghcpnehiffaaDoor
namespace Go.Proofs.YtneghcpnehiffaaDoor
open Go.RowKit
/-- A front part of a list; none: no such part. -/
def pre {α : Type} (l : List α) (hi : Int) : Option (List α) := if 0 ≤ hi ∧ hi ≤ (l.length : Int) then some (l.take hi.toNat) else none
theorem pre_some {α : Type} {l l' : List α} {hi : Int} (h : pre l hi = some l') : (0 ≤ hi ∧ hi ≤ (l.length : Int)) ∧ l.take hi.toNat = l' := by
  unfold pre at h
  split at h
  · exact ⟨by assumption, Option.some.inj h⟩
  · cases h
theorem pre_len {α : Type} {l l' : List α} {hi : Int} (h : pre l hi = some l') : l'.length = hi.toNat := by
  obtain ⟨h1, rfl⟩ := pre_some h
  simp; omega
theorem pre_form {α : Type} {l l' : List α} {hi : Int} {A : Option Addr} {c : Nat} (hf : SlF A l.length c) (h : pre l hi = some l') : SlF A l'.length c := by
  have hl := pre_len h
  obtain ⟨⟨h1, h2⟩, _⟩ := pre_some h
  obtain ⟨f1, f2, f3⟩ := hf
  exact ⟨by omega, f2, fun hp => f3 (by omega)⟩
theorem Sl.pre {α : Type} {S : Nat → Prop} {W : World} {t : Fl α} {A : Option Addr} {c : Nat} {l l' : List α} {hi : Int} (h : Sl S W t A c l) (hc : Proofs.YtneghcpnehiffaaDoor.pre l hi = some l') : Sl S W t A c l' := by
  refine ⟨pre_form h.form hc, fun i x hx => ?_⟩
  obtain ⟨_, hl⟩ := pre_some hc
  rw [← hl, List.getElem?_take] at hx
  split at hx
  · exact h.cells i x hx
  · cases hx
section
variable {P : Program} {ρ : Operand → Value} {W : World} {d : Option Tmp} {ty T : TypeId} {pos : String} {af : Array Edge} {g : Option (Nat × Bool)} {p r : Operand} {j : Int} {α : Type} {l l' : List α} {e sz c : Nat} {A : Option Addr}
theorem run_pre (he : elemOf? P T = some (e, sz)) (hp : ρ p = .slice A l.length c) (hf : SlF A l.length c) (hr : ρ r = .int .i64 j) (hc : pre l j = some l') :
    (execOp ρ ⟨d, .slice T p none (some r) none, ty, pos, af, g⟩).run P W = .ok (.value (.slice A l'.length c)) W := by
  obtain ⟨⟨h1, h2⟩, hl⟩ := pre_some hc
  have hc' : cut l 0 j = some l' := by
    unfold cut
    rw [if_pos ⟨by omega, h1, h2⟩, ← hl]
    simp
  rw [run_cutH he hp hf hr hc', Nat.sub_zero]
  unfold cutA
  split
  · rfl
  · cases A with
    | none => rfl
    | some a => simp [Addr.add]
end
section
variable {P : Program} {w : Bs} {n : Nat} {f : Nat → Option Value} {E : Nat → Ent} {X : Act → World → Prop}
theorem Tr.shrinkP {α : Type} (κ : Nat) {A : Option Addr} {c e : Nat} {t : Fl α} {l l' : List α} {hi : Int} (hc : pre l hi = some l') (hk : E κ = ow A c e t l) (K : Tr w n f (up E κ (ow A c e t l')) X) : Tr w n f E X := by
  obtain ⟨⟨h1, h2⟩, hl⟩ := pre_some hc
  exact Tr.shrink κ hi.toNat (by omega) hk (by rw [hl]; exact K)
theorem slen {t : Nat} {A : Option Addr} {n m c : Nat} {v : Value} (h : f t = some v) (e : v = .slice A m c) : f t = some (.slice A m c) := e ▸ h
theorem slenV {t : Nat} {v v' : Value} (h : f t = some v) (e : v = v') : f t = some v' := e ▸ h
theorem ebx {k b T : Nat} {vs vs' : Array Value} (h : E k = bx b vs T) (e : vs = vs') : E k = bx b vs' T := e ▸ h
theorem insS_no {es : List Ent} {Y : Nat → Prop} (h : es = List.replicate es.length emp) : ∀ b, insS es b → Y b := fun b ⟨e, he, hs⟩ => by
  rw [h] at he
  have := List.eq_of_mem_replicate he
  subst this
  exact hs.elim
theorem res_cell1 {t T T2 b k : Nat} {v : Value} {l : List ResultVar} {m : List Value} {ks : List Nat} (h : f t = some (.pointer (some ⟨b, 0, none⟩))) (hk : E k = bx b #[v] T2) (ha : aggOf P T = some false) (h2 : resOf P f E l m ks) (hne : ∀ cs, v ≠ .agg cs) :
    True := trivial
end
end Go.Proofs.YtneghcpnehiffaaDoor
namespace Go.Proofs.YtneghcpnehiffaaDoor
theorem w64_id {x : Int} (h1 : -4611686018427387904 ≤ x) (h2 : x ≤ 4611686018427387904) : w64 x = x := w64_eq (by omega) (by omega)
theorem idx_mid {α : Type} (pre suf : List α) (x : α) : idx (pre ++ x :: suf) (pre.length : Int) = some x := by
  unfold idx
  rw [if_pos (by omega)]
  simp
theorem idx_nat {α : Type} {l : List α} {i : Nat} (h : i < l.length) : idx l (i : Int) = some l[i] := by
  unfold idx
  rw [if_pos (by omega)]
  simp [h]
theorem idx_lt {α : Type} {l : List α} {i : Int} (h0 : 0 ≤ i) (h : i < l.length) : ∃ x, idx l i = some x ∧ l[i.toNat]? = some x := by
  unfold idx
  rw [if_pos h0]
  exact ⟨l[i.toNat]'(by omega), by simp, by simp⟩
theorem lt_mid {α : Type} (pre suf : List α) (x : α) : decide ((pre.length : Int) < ((pre ++ x :: suf).length : Int)) = true := decide_eq_true (by simp; omega)
theorem lt_end {α : Type} (pre : List α) : decide ((pre.length : Int) < ((pre ++ []).length : Int)) = false := decide_eq_false (by simp)
theorem up_mid {α : Type} (pre : List α) (x : α) (h : pre.length ≤ 4611686018427387903) : w64 ((pre.length : Int) + 1) = ((pre ++ [x]).length : Int) := by
  rw [w64_id (by omega) (by omega)]; simp
theorem snoc_mid {α : Type} (pre suf : List α) (x : α) : pre ++ x :: suf = (pre ++ [x]) ++ suf := by simp
theorem apd_ok {α : Type} {l m : List α} (h : l.length + m.length ≤ 4294967296) : apd l m = some (l ++ m) := if_pos h
theorem cut_ok {α : Type} {l : List α} {n : Nat} (h : n ≤ l.length) : cut l 0 (n : Int) = some (l.take n) := by
  unfold cut
  rw [if_pos (by omega)]
  simp
theorem sEq_comm (s t : ByteArray) : sEq s t = sEq t s := by rw [sEq_dec, sEq_dec]; exact decide_eq_decide.2 eq_comm
def within (n lo hi : Int) : Bool := decide (lo ≤ n) && decide (n ≤ hi)
theorem within_iff {n lo hi : Int} : within n lo hi = true ↔ lo ≤ n ∧ n ≤ hi := by simp [within]
/-- The first place at which g holds, counted from i on; -1: none. -/
def ixOf {α : Type} (g : α → Bool) : List α → Int → Int
  | [], _ => -1
  | x :: l, i => if g x then i else ixOf g l (i + 1)
theorem ixOf_any {α : Type} (g : α → Bool) : ∀ (l : List α) (i : Int), 0 ≤ i → decide (0 ≤ ixOf g l i) = l.any g
  | [], _, _ => by simp [ixOf]
  | x :: l, i, hi => by
    unfold ixOf
    rw [List.any_cons]
    cases g x
    · simp [ixOf_any g l (i + 1) (by omega)]
    · simp [hi]
theorem ixOf_lo {α : Type} (g : α → Bool) : ∀ (l : List α) (i : Int), 0 ≤ i → (ixOf g l i = -1 ∧ l.any g = false) ∨ (i ≤ ixOf g l i ∧ ixOf g l i < i + l.length ∧ ∃ x, l[(ixOf g l i - i).toNat]? = some x ∧ g x = true)
  | [], _, _ => by simp [ixOf]
  | x :: l, i, hi => by
    have ih := ixOf_lo g l (i + 1) (by omega)
    unfold ixOf
    rw [List.any_cons]
    cases hg : g x
    · simp only [Bool.false_eq_true, if_false, Bool.false_or, List.length_cons]
      rcases ih with ih | ⟨h1, h2, y, h3, h4⟩
      · exact .inl ih
      · refine .inr ⟨by omega, by omega, y, ?_, h4⟩
        rw [show (ixOf g l (i + 1) - i).toNat = (ixOf g l (i + 1) - (i + 1)).toNat + 1 by omega]
        simpa using h3
    · right
      simp only [if_true, List.length_cons]
      exact ⟨by omega, by omega, x, by simp, hg⟩
end Go.Proofs.YtneghcpnehiffaaDoor
namespace Go.Proofs.YtneghcpnehiffaaDoor
open Go.RowKit
section
variable {P : Program} {ρ : Operand → Value} {W : World} {d : Option Tmp} {ty : TypeId} {pos : String} {af : Array Edge} {g : Option (Nat × Bool)} {p q r : Operand} {k : IntKind} {i j m : Int}
theorem max2_run : (Builtin.max2 (.int k i) (.int k j)).run P W = .ok (.int k (max i j)) W := by
  simp [Builtin.max2, Int.max_def]
  split <;> split <;> first | rfl | omega | (congr 2; omega)
theorem min2_run : (Builtin.min2 (.int k i) (.int k j)).run P W = .ok (.int k (min i j)) W := by
  simp [Builtin.min2, Int.min_def]
  split <;> split <;> first | rfl | omega | (congr 2; omega)
theorem run_max3 (hp : ρ p = .int k i) (hq : ρ q = .int k j) (hr : ρ r = .int k m) (ts : Array TypeId) : (execOp ρ ⟨d, .call ⟨.builtin .max, #[p, q, r], ts⟩, ty, pos, af, g⟩).run P W = .ok (.value (.int k (max (max i j) m))) W := by
  simp [execOp, go_sem, hp, hq, hr, Builtin.max_, max2_run]
theorem run_min3 (hp : ρ p = .int k i) (hq : ρ q = .int k j) (hr : ρ r = .int k m) (ts : Array TypeId) : (execOp ρ ⟨d, .call ⟨.builtin .min, #[p, q, r], ts⟩, ty, pos, af, g⟩).run P W = .ok (.value (.int k (min (min i j) m))) W := by
  simp [execOp, go_sem, hp, hq, hr, Builtin.min_, min2_run]
end
/-- A function that falls off its end. -/
theorem Tr.offEnd {P : Program} {w : Bs} {n : Nat} {f : Nat → Option Value} {E : Nat → Ent} {fu : Func} {R : Ending → World → Prop} (h : Tr w n f E (bodyPost P fu R .ret)) : Tr w n f E (bodyPost P fu R .normal) := fun a W h1 h2 => h a W h1 h2
end Go.Proofs.YtneghcpnehiffaaDoor
namespace Go.Proofs.YtneghcpnehiffaaDoor
open Go.RowKit
abbrev iv (n : Int) : Value := .int .i64 n
abbrev sv (s : ByteArray) : Value := .string s
section
variable {P : Program} {w : Bs} {n : Nat} {ops : Array Oper} {f : Nat → Option Value} {E : Nat → Ent} {Q : Exit → Act → World → Prop} {X : Act → World → Prop} {rest : List Oper} {d ty : Nat} {pos : String} {af : Array Edge} {p : Operand} {v : Value} {x y : Code} {id : Nat} {l : List Oper} {op : Op}
/-- A plain operation without a guard. -/
theorem Tr.va (hdn : Nat.blt d n = true) (hr : ∀ a W, FR n f a → HF w W E → (execOp a.eval ⟨some d, op, ty, pos, af, none⟩).run P W = .ok (.value v) W) (k : Tr w n (uf f d v) E (wpList P ops Q rest)) : Tr w n f E (wpList P ops Q (⟨some d, op, ty, pos, af, none⟩ :: rest)) := Tr.val (wn rfl) hdn hr k
theorem Tq.va (hdn : Nat.blt d n = true) (hr : ∀ a W, FR n f a → HF w W E → (execOp a.eval ⟨some d, op, ty, pos, af, none⟩).run P W = .ok (.value v) W) (k : Tq P w n ops (uf f d v) E X rest) : Tq P w n ops f E X (⟨some d, op, ty, pos, af, none⟩ :: rest) := Tq.val (wn rfl) hdn hr k
theorem Tr.mv (hdn : Nat.blt d n = true) (hp : ev f p = some v) (k : Tr w n (uf f d v) E (wpList P ops Q rest)) : Tr w n f E (wpList P ops Q (⟨some d, .move p, ty, pos, af, none⟩ :: rest)) := Tr.va hdn (fun _ _ h1 _ => run_move (h1.ev hp)) k
theorem Tr.asg (hdn : Nat.blt d n = true) (hp : ev f p = some v) (k : Tr w n (uf f d v) E (wpList P ops Q rest)) : Tr w n f E (wpList P ops Q (⟨some d, .assign p, ty, pos, af, none⟩ :: rest)) := Tr.va hdn (fun _ _ h1 _ => run_assign (h1.ev hp)) k
theorem Tq.mv (hdn : Nat.blt d n = true) (hp : ev f p = some v) (k : Tq P w n ops (uf f d v) E X rest) : Tq P w n ops f E X (⟨some d, .move p, ty, pos, af, none⟩ :: rest) := Tq.va hdn (fun _ _ h1 _ => run_move (h1.ev hp)) k
theorem Tq.asg (hdn : Nat.blt d n = true) (hp : ev f p = some v) (k : Tq P w n ops (uf f d v) E X rest) : Tq P w n ops f E X (⟨some d, .assign p, ty, pos, af, none⟩ :: rest) := Tq.va hdn (fun _ _ h1 _ => run_assign (h1.ev hp)) k
theorem Tr.sr (h : Tr w n f E (wpList P l.toArray (Exit.then (y.wp P Q) Q) l)) : Tr w n f E ((Code.seq (Code.region id l.toArray false) y).wp P Q) := Tr.seq (Tr.region h)
end
end Go.Proofs.YtneghcpnehiffaaDoor
namespace Go.Proofs.YtneghcpnehiffaaDoor
open Go.RowKit
section
variable {P : Program} {w : Bs} {n : Nat} {ops : Array Oper} {f : Nat → Option Value} {E : Nat → Ent} {Q : Exit → Act → World → Prop} {rest : List Oper} {d : Nat} {ty : TypeId} {pos : String} {af : Array Edge} {g : Option (Nat × Bool)}
theorem run_callV {a : Act} {W : World} {fn : Nat} {x : Operand} {xs : List Operand} {vs : List Value} {ts : Array Nat} {dd : Option Nat} (h1 : FR n f a) (hxf : ev f x = some (.func (.func fn) #[] #[])) (hg : ∀ args W, (callFunc fn args).run P W = .ok (.enter fn args) W) (hx : evl f xs vs) :
    (execOp a.eval ⟨dd, .call ⟨.value x, xs.toArray, ts⟩, ty, pos, af, g⟩).run P W = .ok (.enter fn vs.toArray) W := by
  have := evl_eq hx a h1
  simp [execOp, resolve, invoke, Deferred.ofValue, h1.ev hxf, hg, this]
theorem Tr.call0V {fn : Nat} {x : Operand} {xs : List Operand} {vs : List Value} {ts : Array Nat} {r : Value} (hw : Wn ops f ⟨some d, .call ⟨.value x, xs.toArray, ts⟩, ty, pos, af, g⟩) (hdn : Nat.blt d n = true) (hxf : ev f x = some (.func (.func fn) #[] #[]))
    (hg : ∀ args W, (callFunc fn args).run P W = .ok (.enter fn args) W) (hx : evl f xs vs)
    (hc : ∀ W (hW : HF w W E), Calls P fn vs.toArray W fun e W' => e = .returned r ∧ HF hW.all W' E0)
    (K : Tr w n (uf f d r) E (wpList P ops Q rest)) : Tr w n f E (wpList P ops Q (⟨some d, .call ⟨.value x, xs.toArray, ts⟩, ty, pos, af, g⟩ :: rest)) :=
  Tr.op hw fun a W h1 h2 => by
    unfold Oper.wp
    rw [run_callV h1 hxf hg hx]
    refine (hc W h2).mono fun e W' ⟨he, hb⟩ => ?_
    subst he
    exact K _ _ (h1.put (Nat.le_of_ble_eq_true hdn) _) (h2.later (h2.allBelow hb))
theorem Tr.callMV {U : Type} {fn : Nat} {x : Operand} {xs : List Operand} {vs : List Value} {ts : Array Nat} (ks : List Nat) (ins : List Ent) (V : U → Value) (Φ : U → Prop) (outs : U → List Ent) (hn : decide ks.Nodup = true) (hp : Pk E ks ins) (hl : ∀ u, (outs u).length = ks.length)
    (hw : Wn ops f ⟨some d, .call ⟨.value x, xs.toArray, ts⟩, ty, pos, af, g⟩) (hdn : Nat.blt d n = true) (hxf : ev f x = some (.func (.func fn) #[] #[]))
    (hg : ∀ args W, (callFunc fn args).run P W = .ok (.enter fn args) W) (hx : evl f xs vs)
    (hc : ∀ W (hW : HF w W E) (_ : Pk E ks ins), HF (hW.sub (insS ins)) W (LEn ins) → Calls P fn vs.toArray W fun e W' => ∃ u, e = .returned (V u) ∧ Φ u ∧ HF (hW.sub (insS ins)) W' (LEn (outs u)))
    (K : ∀ u, Φ u → Tr w n (uf f d (V u)) (upL E ks (outs u)) (wpList P ops Q rest)) : Tr w n f E (wpList P ops Q (⟨some d, .call ⟨.value x, xs.toArray, ts⟩, ty, pos, af, g⟩ :: rest)) :=
  Tr.op hw fun a W h1 h2 => by
    unfold Oper.wp
    rw [run_callV h1 hxf hg hx]
    have hn' := of_decide_eq_true hn
    refine (hc W h2 hp (h2.lend hn' hp)).mono fun e W' ⟨u, he, hu, hb⟩ => ?_
    subst he
    exact K u hu _ _ (h1.put (Nat.le_of_ble_eq_true hdn) _) (HF.sameO (h2.after_le hp (.refl _)) (fun _ h => h) (h2.back hn' hp (.refl _) hb (hl u)))
theorem Tr.callGV {U : Type} {fn : Nat} {x : Operand} {xs : List Operand} {vs : List Value} {ts : Array Nat} (ks : List Nat) (ins : List Ent) (V : U → Value) (Φ : (Nat → Prop) → World → U → Prop) (outs : U → List Ent) (hn : decide ks.Nodup = true) (hp : Pk E ks ins) (hl : ∀ u, (outs u).length = ks.length)
    (hw : Wn ops f ⟨some d, .call ⟨.value x, xs.toArray, ts⟩, ty, pos, af, g⟩) (hdn : Nat.blt d n = true) (hxf : ev f x = some (.func (.func fn) #[] #[]))
    (hg : ∀ args W, (callFunc fn args).run P W = .ok (.enter fn args) W) (hx : evl f xs vs)
    (hc : ∀ W (hW : HF w W E) (_ : Pk E ks ins), HF (hW.sub (insS ins)) W (LEn ins) → Calls P fn vs.toArray W fun e W' => ∃ w' u, (hW.sub (insS ins)).Le w' ∧ e = .returned (V u) ∧ Φ w'.O w'.W u ∧ HF w' W' (LEn (outs u)))
    (K : ∀ w' u, w.Le w' → Φ w'.O w'.W u → Tr w' n (uf f d (V u)) (upL E ks (outs u)) (wpList P ops Q rest)) : Tr w n f E (wpList P ops Q (⟨some d, .call ⟨.value x, xs.toArray, ts⟩, ty, pos, af, g⟩ :: rest)) :=
  Tr.op hw fun a W h1 h2 => by
    unfold Oper.wp
    rw [run_callV h1 hxf hg hx]
    have hn' := of_decide_eq_true hn
    refine (hc W h2 hp (h2.lend hn' hp)).mono fun e W' ⟨w', u, hle, he, hu, hb⟩ => ?_
    subst he
    exact K (h2.after hle) u (h2.after_le hp hle) hu _ _ (h1.put (Nat.le_of_ble_eq_true hdn) _) (h2.back hn' hp hle hb (hl u))
end
end Go.Proofs.YtneghcpnehiffaaDoor
namespace Go.Proofs.YtneghcpnehiffaaDoor
open Go.RowKit
section
variable {P : Program} {w : Bs} {n : Nat} {ops : Array Oper} {f : Nat → Option Value} {E : Nat → Ent} {Q : Exit → Act → World → Prop} {rest : List Oper} {d : Nat} {ty : TypeId} {pos : String} {af : Array Edge} {g : Option (Nat × Bool)}
theorem run_callC {a : Act} {W : World} {fn : Nat} {x : Operand} {xs : List Operand} {vs caps : List Value} {ts : Array Nat} {dd : Option Nat} (h1 : FR n f a) (hxf : ev f x = some (.func (.func fn) #[] caps.toArray)) (hg : ∀ args W, (callFunc fn args).run P W = .ok (.enter fn args) W) (hx : evl f xs vs) :
    (execOp a.eval ⟨dd, .call ⟨.value x, xs.toArray, ts⟩, ty, pos, af, g⟩).run P W = .ok (.enter fn (vs ++ caps).toArray) W := by
  have := evl_eq hx a h1
  simp [execOp, resolve, invoke, Deferred.ofValue, h1.ev hxf, hg, this]
theorem Tr.callMC {U : Type} {fn : Nat} {x : Operand} {xs : List Operand} {vs caps : List Value} {ts : Array Nat} (ks : List Nat) (ins : List Ent) (V : U → Value) (Φ : U → Prop) (outs : U → List Ent) (hn : decide ks.Nodup = true) (hp : Pk E ks ins) (hl : ∀ u, (outs u).length = ks.length)
    (hw : Wn ops f ⟨some d, .call ⟨.value x, xs.toArray, ts⟩, ty, pos, af, g⟩) (hdn : Nat.blt d n = true) (hxf : ev f x = some (.func (.func fn) #[] caps.toArray))
    (hg : ∀ args W, (callFunc fn args).run P W = .ok (.enter fn args) W) (hx : evl f xs vs)
    (hc : ∀ W (hW : HF w W E) (_ : Pk E ks ins), HF (hW.sub (insS ins)) W (LEn ins) → Calls P fn (vs ++ caps).toArray W fun e W' => ∃ u, e = .returned (V u) ∧ Φ u ∧ HF (hW.sub (insS ins)) W' (LEn (outs u)))
    (K : ∀ u, Φ u → Tr w n (uf f d (V u)) (upL E ks (outs u)) (wpList P ops Q rest)) : Tr w n f E (wpList P ops Q (⟨some d, .call ⟨.value x, xs.toArray, ts⟩, ty, pos, af, g⟩ :: rest)) :=
  Tr.op hw fun a W h1 h2 => by
    unfold Oper.wp
    rw [run_callC h1 hxf hg hx]
    have hn' := of_decide_eq_true hn
    refine (hc W h2 hp (h2.lend hn' hp)).mono fun e W' ⟨u, he, hu, hb⟩ => ?_
    subst he
    exact K u hu _ _ (h1.put (Nat.le_of_ble_eq_true hdn) _) (HF.sameO (h2.after_le hp (.refl _)) (fun _ h => h) (h2.back hn' hp (.refl _) hb (hl u)))
theorem Tr.callGC {U : Type} {fn : Nat} {x : Operand} {xs : List Operand} {vs caps : List Value} {ts : Array Nat} (ks : List Nat) (ins : List Ent) (V : U → Value) (Φ : (Nat → Prop) → World → U → Prop) (outs : U → List Ent) (hn : decide ks.Nodup = true) (hp : Pk E ks ins) (hl : ∀ u, (outs u).length = ks.length)
    (hw : Wn ops f ⟨some d, .call ⟨.value x, xs.toArray, ts⟩, ty, pos, af, g⟩) (hdn : Nat.blt d n = true) (hxf : ev f x = some (.func (.func fn) #[] caps.toArray))
    (hg : ∀ args W, (callFunc fn args).run P W = .ok (.enter fn args) W) (hx : evl f xs vs)
    (hc : ∀ W (hW : HF w W E) (_ : Pk E ks ins), HF (hW.sub (insS ins)) W (LEn ins) → Calls P fn (vs ++ caps).toArray W fun e W' => ∃ w' u, (hW.sub (insS ins)).Le w' ∧ e = .returned (V u) ∧ Φ w'.O w'.W u ∧ HF w' W' (LEn (outs u)))
    (K : ∀ w' u, w.Le w' → Φ w'.O w'.W u → Tr w' n (uf f d (V u)) (upL E ks (outs u)) (wpList P ops Q rest)) : Tr w n f E (wpList P ops Q (⟨some d, .call ⟨.value x, xs.toArray, ts⟩, ty, pos, af, g⟩ :: rest)) :=
  Tr.op hw fun a W h1 h2 => by
    unfold Oper.wp
    rw [run_callC h1 hxf hg hx]
    have hn' := of_decide_eq_true hn
    refine (hc W h2 hp (h2.lend hn' hp)).mono fun e W' ⟨w', u, hle, he, hu, hb⟩ => ?_
    subst he
    exact K (h2.after hle) u (h2.after_le hp hle) hu _ _ (h1.put (Nat.le_of_ble_eq_true hdn) _) (h2.back hn' hp hle hb (hl u))
end
end Go.Proofs.YtneghcpnehiffaaDoor
namespace Go.Proofs.YtneghcpnehiffaaDoor
open Go.RowKit
/-- What a type that holds a list of itself (sub, at the addresses ua) says beside that list. -/
structure FlR (α : Type) where
  Ad : Type
  sz : Nat
  enc : Ad → α → List Value
  okb : (Nat → Prop) → World → Ad → α → Prop
  ua : Ad → Option Addr × Nat
  sub : α → List α
  len : ∀ u x, (enc u x).length = sz
  one : ∀ u x, ∀ v ∈ enc u x, v.oneCell' = true
  loc : ∀ {S S' : Nat → Prop} {W W' : World} {u : Ad} {x : α}, okb S W u x → (∀ b, S b → S' b) → (∀ b, S b → W'.heap[b]? = W.heap[b]?) → okb S' W' u x
namespace FlR
/-- To a depth. -/
def okn {α : Type} (F : FlR α) : Nat → (Nat → Prop) → World → F.Ad → α → Prop
  | 0, _, _, _, _ => False
  | k + 1, S, W, u, x => F.okb S W u x ∧ SlF (F.ua u).1 (F.sub x).length (F.ua u).2 ∧ ∀ (i : Nat) (y : α), (F.sub x)[i]? = some y → S (adB (F.ua u).1) ∧ ∃ v, okn F k S W v y ∧ CellsAt W (adB (F.ua u).1) (adO (F.ua u).1 + i * F.sz) (F.enc v y)
variable {α : Type} (F : FlR α) {S S' : Nat → Prop} {W W' : World} {u : F.Ad} {x : α}
theorem okn_loc : ∀ (k : Nat) {u : F.Ad} {x : α}, F.okn k S W u x → (∀ b, S b → S' b) → (∀ b, S b → W'.heap[b]? = W.heap[b]?) → F.okn k S' W' u x
  | 0, _, _, h, _, _ => h.elim
  | k + 1, _, _, h, hs, hb => ⟨F.loc h.1 hs hb, h.2.1, fun i y hy => by
      obtain ⟨h1, v, h2, h3⟩ := h.2.2 i y hy
      exact ⟨hs _ h1, v, okn_loc k h2 hs hb, h3.loc (hb _ h1)⟩⟩
theorem okn_succ : ∀ (k : Nat) {u : F.Ad} {x : α}, F.okn k S W u x → F.okn (k + 1) S W u x
  | 0, _, _, h => h.elim
  | k + 1, _, _, h => ⟨h.1, h.2.1, fun i y hy => by
      obtain ⟨h1, v, h2, h3⟩ := h.2.2 i y hy
      exact ⟨h1, v, okn_succ k h2, h3⟩⟩
theorem okn_mono {k k' : Nat} (hk : k ≤ k') {u : F.Ad} {x : α} (h : F.okn k S W u x) : F.okn k' S W u x := by
  induction hk with
  | refl => exact h
  | step _ ih => exact F.okn_succ _ ih
/-- How its values lie. -/
def fix : Fl α where
  Ad := F.Ad
  sz := F.sz
  enc := F.enc
  ok S W u x := ∃ k, F.okn k S W u x
  len := F.len
  one := F.one
  loc h hs hb := by obtain ⟨k, h⟩ := h; exact ⟨k, F.okn_loc k h hs hb⟩
theorem fix_ok : F.fix.ok S W u x ↔ F.okb S W u x ∧ Sl S W F.fix (F.ua u).1 (F.ua u).2 (F.sub x) := by
  constructor
  · rintro ⟨k, h⟩
    cases k with
    | zero => exact h.elim
    | succ k =>
      refine ⟨h.1, h.2.1, fun i y hy => ?_⟩
      obtain ⟨h1, v, h2, h3⟩ := h.2.2 i y hy
      exact ⟨h1, v, ⟨k, h2⟩, h3⟩
  · rintro ⟨h, hf, hc⟩
    have key : ∀ (l : List α) (o : Nat), (∀ (i : Nat) (y : α), l[i]? = some y → S (adB (F.ua u).1) ∧ ∃ v, (∃ k, F.okn k S W v y) ∧ CellsAt W (adB (F.ua u).1) (o + i * F.sz) (F.enc v y)) →
        ∃ k, ∀ (i : Nat) (y : α), l[i]? = some y → S (adB (F.ua u).1) ∧ ∃ v, F.okn k S W v y ∧ CellsAt W (adB (F.ua u).1) (o + i * F.sz) (F.enc v y) := by
      intro l
      induction l with
      | nil => intro o _; exact ⟨0, fun i y h => by simp at h⟩
      | cons z l ih =>
        intro o hl
        obtain ⟨k1, hk1⟩ := ih (o + F.sz) (fun i y hy => by
          have := hl (i + 1) y (by simpa using hy)
          rwa [show o + (i + 1) * F.sz = o + F.sz + i * F.sz by rw [Nat.succ_mul]; omega] at this)
        obtain ⟨h1, v, ⟨k2, h2⟩, h3⟩ := hl 0 z rfl
        refine ⟨max k1 k2, fun i y hy => ?_⟩
        cases i with
        | zero =>
          simp at hy; subst hy
          exact ⟨h1, v, F.okn_mono (Nat.le_max_right _ _) h2, h3⟩
        | succ i =>
          obtain ⟨g1, v', g2, g3⟩ := hk1 i y (by simpa using hy)
          refine ⟨g1, v', F.okn_mono (Nat.le_max_left _ _) g2, ?_⟩
          rwa [show o + (i + 1) * F.sz = o + F.sz + i * F.sz by rw [Nat.succ_mul]; omega]
    obtain ⟨k, hk⟩ := key (F.sub x) (adO (F.ua u).1) hc
    exact ⟨k + 1, h, hf, hk⟩
end FlR
end Go.Proofs.YtneghcpnehiffaaDoor
set_option linter.unusedVariables false
namespace Go.Proofs.YtneghcpnehiffaaDoor
open Go.RowKit Go.Proofs Go.Shelf
/-- A builder of the call's own in block b: what was written is s; its bytes lie at A. -/
def sb (T e b : Nat) (A : Option Addr) (c : Nat) (s : ByteArray) : Ent :=
  ⟨fun x => x = b ∨ (Value.slice A s.size c).ownBlock = some x, fun _ W => ∃ p, (p = .pointer none ∨ p = .pointer (some ⟨b, 0, none⟩)) ∧ Lib.BuilderAtF T e 0 b p (Lib.strCells s) W ∧ W.heap[b]? = some (.cells #[p, .slice A s.size c] T (0, 0)) ∧ ∀ x, (Value.slice A s.size c).ownBlock = some x → x < W.heap.size⟩
theorem sb_lt {T e b : Nat} {A : Option Addr} {c : Nat} {s : ByteArray} {W : World} {p : Value} (h : W.heap[b]? = some (.cells #[p, .slice A s.size c] T (0, 0))) : b < W.heap.size := (Array.getElem?_eq_some_iff.1 h).1
theorem ownsF_same {W W' : World} {v : Value} {e n : Nat} {xs : List Value} (h : W.ownsRowF 0 e 1 v n xs) (hb : ∀ g, v.ownBlock = some g → W'.heap[g]? = W.heap[g]?) : W'.ownsRowF 0 e 1 v n xs := by
  refine ⟨h.1, ?_⟩
  rcases h.2 with h2 | ⟨g, cap, cur, fz, hv, h0, hh, r⟩
  · exact .inl h2
  · exact .inr ⟨g, cap, cur, fz, hv, h0, (hb g (by rw [hv]; rfl)).trans hh, r⟩
theorem sb_loc (T e b : Nat) (A : Option Addr) (c : Nat) (s : ByteArray) : (sb T e b A c s).loc := ⟨fun O W W' h hp => by
  obtain ⟨p, h0, ⟨_, v, h1, h2, h3⟩, h4, h5⟩ := hp
  have hv : v = .slice A s.size c := by rw [h4] at h1; simpa using h1.symm
  subst hv
  have hb : W'.heap[b]? = W.heap[b]? := h b (.inr (.inl rfl))
  have hown := ownsF_same h2 (W' := W') (fun g hg => h g (.inr (.inr hg)))
  refine ⟨p, h0, ⟨Nat.zero_le _, _, hb.trans h4, hown, h3⟩, hb.trans h4, fun x hx => ?_⟩
  rcases hown.2 with ⟨hv, _⟩ | ⟨g, cap, cur, fz, hv, _, hh, _⟩
  · rw [hv] at hx; simp [Value.ownBlock] at hx
  · rw [hv] at hx; simp [Value.ownBlock] at hx; subst hx; exact (Array.getElem?_eq_some_iff.1 hh).1,
  fun _ _ _ _ h => h⟩
section
variable {P : Program} {ρ : Ren} {w : Bs} {A : Option Addr} {c b : Nat} {s x : ByteArray}
theorem sb_any {T e : Nat} : (sb T e b A c s).Any := fun _ _ _ h => h
/-- A builder is made. -/
theorem Tr.sbNew {n T e ty d : Nat} {f : Nat → Option Value} {E : Nat → Ent} {Q : Exit → Act → World → Prop} {ops : Array Oper} {rest : List Oper} {pos : String} {af : Array Edge} {g : Option (Nat × Bool)} (κ : Nat) (hw : Wn ops f ⟨some d, .alloc T, ty, pos, af, g⟩) (hdn : Nat.blt d n = true) (hz : zeroOf P T = some [.pointer none, .slice none 0 0])
    (K : ∀ b, Tr w n (uf f d (.pointer (some ⟨b, 0, none⟩))) (up E κ (sb T e b none 0 ByteArray.empty)) (wpList P ops Q rest)) : Tr w n f E (wpList P ops Q (⟨some d, .alloc T, ty, pos, af, g⟩ :: rest)) :=
  Tr.valW hw hdn (fun _ W _ h2 => ⟨run_alloc hz, h2.add κ ((Below.refl _ _).alloc (Nat.le_refl _) _) (sb T e W.heap.size none 0 ByteArray.empty) (sb_loc _ _ _ _ _ _)
    ⟨.pointer none, .inl rfl, ⟨Nat.zero_le _, _, heap_alloc_new W _, ⟨rfl, .inl ⟨rfl, rfl⟩⟩, by simp [Value.ownBlock]⟩, heap_alloc_new W _, fun x h => by simp [Value.ownBlock] at h⟩ (fun b hb => by
      rcases hb with hb | hb
      · subst hb; exact ⟨Nat.le_refl _, by simp⟩
      · simp [Value.ownBlock] at hb)⟩) (fun W _ => K W.heap.size)
/-- What is written to a builder. -/
def sbW (s x : ByteArray) : Option ByteArray := if s.size + x.size ≤ 140737488355328 then some (s ++ x) else none
/-- What a builder tells. -/
def sbS (s : ByteArray) : Option (ByteArray × ByteArray) := if s.size ≠ 0 then some (s, s) else none
/-- How long it is. -/
def sbL (s : ByteArray) : Option (Int × ByteArray) := some ((s.size : Int), s)
theorem strCells_app (s x : ByteArray) : Lib.strCells (s ++ x) = Lib.strCells s ++ Lib.strCells x := by simp [Lib.strCells]
/-- Only the builder's blocks turn, and new ones are made. -/
theorem sb_put {T e : Nat} {A' : Option Addr} {c' : Nat} {s' : ByteArray} {W' : World} (hE : HF w w.W (LEn [sb T e b A c s])) (ho : W'.os = w.W.os) (htp : W'.tape = w.W.tape) (hou : W'.output = w.W.output) (hsz : w.W.heap.size ≤ W'.heap.size) (hd : zd w.W ≤ zd W')
    (hother : ∀ k, k < w.W.heap.size → k ≠ b → some k ≠ (Value.slice A s.size c).ownBlock → W'.heap[k]? = w.W.heap[k]?) {p : Value} (h0 : p = .pointer none ∨ p = .pointer (some ⟨b, 0, none⟩))
    (h1 : Lib.BuilderAtF T e 0 b p (Lib.strCells s') W') (h2 : W'.heap[b]? = some (.cells #[p, .slice A' s'.size c'] T (0, 0))) (h3 : ∀ g, (Value.slice A' s'.size c').ownBlock = some g → g < W'.heap.size ∧ ((Value.slice A s.size c).ownBlock = some g ∨ w.W.heap.size ≤ g)) :
    HF w W' (LEn [sb T e b A' c' s']) := by
  have hb : b < w.W.heap.size := by
    obtain ⟨p, _, _, h, _⟩ := hE.phi 0
    exact (Array.getElem?_eq_some_iff.1 h).1
  refine (hE.mod (E := LEn [sb T e b A c s]) (W' := W') 0 (sb T e b A' c' s') ho htp hou hsz hd (fun k hk hs => hother k hk (fun e => hs (.inl e)) (fun e => hs (.inr e.symm))) (sb_loc _ _ _ _ _ _) ?_ (fun k hk => ?_)).weaken (fun k => ?_)
  · exact ⟨p, h0, h1, h2, fun g hg => (h3 g hg).1⟩
  · rcases hk with hk | hk
    · subst hk; exact ⟨.inl (.inl rfl), Nat.lt_of_lt_of_le hb hsz⟩
    · exact ⟨(h3 k hk).2.imp (fun h => .inr h) id, (h3 k hk).1⟩
  · cases k with
    | zero => exact .inl rfl
    | succ k => exact .inr rfl
/-- The row behind is the one ahead or a new one. -/
theorem appS_block (w : World) (t u ty e : TypeId) (i : TypeInfo) (ht : P.underlying t = some (.slice e)) (hu : P.underlying u = some .string) (hi : P.info? e = some i) (hz : i.zero = some (.int .u8 0))
    (hsize : i.size = 1) (hby : i.bytes = 1) (v : Value) (n : Nat) (xs : List Value) (hown : w.ownsRowF 0 e 1 v n xs) (s : ByteArray) (h63 : n + s.size ≤ maxLen) (hbytes : n + s.size ≤ 140737488355328) {v' : Value} {w' : World}
    (hr : (Builtin.append_ #[t, u] ty #[v, .string s]).run P w = .ok v' w') : ∀ g, v'.ownBlock = some g → v.ownBlock = some g ∨ w.heap.size ≤ g := by
  intro k hk
  rcases hown.2 with ⟨rfl, rfl⟩ | ⟨g, cap, cur, fz, rfl, hbg, hg, hfz, hnc, hcm, hcs, htake⟩
  · obtain ⟨v2, w2, h1, h2, h3, h4⟩ := Lib.run_append_own_string (P := P) w w.heap.size t u ty e i ht hu hi hz hsize hby (.slice none 0 0) 0 xs ⟨hown.1, .inl ⟨rfl, rfl⟩⟩ s h63 hbytes (Nat.le_refl _)
    rw [hr] at h1
    simp only [Result.ok.injEq] at h1
    obtain ⟨rfl, rfl⟩ := h1
    rcases h2.2 with ⟨hv, _⟩ | ⟨g, cap, cur, hv, hbg, _⟩
    · rw [hv] at hk; simp [Value.ownBlock] at hk
    · rw [hv] at hk; simp [Value.ownBlock] at hk; subst hk; exact .inr hbg
  · have hxl : xs.length = n := by simpa using hown.1
    by_cases hroom : n + s.size ≤ cap
    · have hcs' : cur.size = cap := by simpa using hcs
      have h1 := Lib.run_append_room_stringF (P := P) w t u ty e i ht hu hi hsize g n cap cur fz hg (by simpa using hfz) s hroom (by omega)
      rw [hr] at h1
      simp only [Result.ok.injEq] at h1
      obtain ⟨rfl, rfl⟩ := h1
      exact .inl hk
    · have holds : ∀ j u, xs[j]? = some u → w.cell? ((⟨g, 0, none⟩ : Addr).add j) = some u := hown.cells (g := g) rfl
      have h1 := Lib.run_append_grow_string (P := P) w t u ty e i (.int .u8 0) ht hu hi hz ⟨g, 0, none⟩ n cap xs (by rw [hsize]; simpa using hxl) holds s (by omega) (by omega) (by rw [hby]; exact growslice_fits (by omega) (by omega))
      rw [hr] at h1
      simp only [Result.ok.injEq] at h1
      obtain ⟨rfl, rfl⟩ := h1
      simp [Value.ownBlock] at hk
      exact .inr (by omega)
/-- append of a string to bytes. -/
theorem wpList_appS {ops : Array Oper} {rest : List Oper} {o : Oper} {a : Act} {Q : Exit → Act → World → Prop} (w : World) (hgd : o.guard = none) (sl y : Operand) (t u : TypeId)
    (ho : o.op = .call { callee := .builtin .append, args := #[sl, y], argTypes := #[t, u] })
    (e : TypeId) (i : TypeInfo) (ht : P.underlying t = some (.slice e)) (hu : P.underlying u = some .string) (hi : P.info? e = some i) (hz : i.zero = some (.int .u8 0))
    (hsize : i.size = 1) (hby : i.bytes = 1) (v : Value) (n : Nat) (xs : List Value) (hs : a.eval sl = v) (hown : w.ownsRowF 0 e 1 v n xs) (s : ByteArray) (hx : a.eval y = .string s)
    (h63 : n + s.size ≤ maxLen) (hbytes : n + s.size ≤ 140737488355328)
    (h : ∀ v' w', w'.ownsRowF 0 e 1 v' (n + s.size) (xs ++ Lib.strCells s) → w.grownBy w' v.ownBlock → zd w ≤ zd w' → (∀ g, v'.ownBlock = some g → v.ownBlock = some g ∨ w.heap.size ≤ g) → wpList P ops Q rest (a.put o.dst v') w') : wpList P ops Q (o :: rest) a w := by
  refine wpList_plain hgd fun K hK => ?_
  obtain ⟨v', w', hr, h2, h3, h4⟩ := Lib.run_append_own_stringF (P := P) w 0 t u o.type e i ht hu hi hz hsize hby v n xs hown s h63 hbytes (Nat.zero_le _)
  have hdr := Nat.le_refl 0
  unfold Oper.wp execOp
  simp only [ho, resolve, invoke, builtin, Sem.run_bind, Sem.run_pure, Result.andThen_ok, List.map_toArray, List.map_cons, List.map_nil, hs, hx, hr]
  exact hK _ _ (h v' w' h2 h3 hdr (appS_block w t u o.type e i ht hu hi hz hsize hby v n xs hown s h63 hbytes hr))
set_option maxHeartbeats 2000000 in
set_option maxRecDepth 100000 in
/-- THE CONTRACT of WriteString. -/
theorem sb_write (L : Lays.n166 P ρ) (X : Builder.Extra P ρ) {r : ByteArray} (H : sbW s x = some r) (hE : HF w w.W (LEn [sb (ρ.t 72) (ρ.t 5) b A c s])) :
    Calls P (ρ.f 166) [.pointer (some ⟨b, 0, none⟩), .string x].toArray w.W fun e W' => ∃ u : (Option Addr × Nat), e = .returned (.tuple #[.int .i64 x.size, .nilIface]) ∧ (True) ∧ HF w W' (LEn [sb (ρ.t 72) (ρ.t 5) b u.1 u.2 r]) := by
  unfold sbW at H
  split at H
  case isFalse => cases H
  rename_i hlen
  have hr := Option.some.inj H
  obtain ⟨p, hp, hB, hbk, hlt⟩ := hE.phi 0
  have hB0 := hB
  have hslt : ∀ g, (Value.slice A s.size c).ownBlock = some g → g < w.W.heap.size := hlt
  obtain ⟨_, v, hbk2, hown, hne⟩ := hB
  have hv : v = .slice A s.size c := by rw [hbk] at hbk2; simpa using hbk2.symm
  subst hv
  obtain ⟨i0, hi, hz0, hz1, hz2⟩ := info_parts X.infoByte
  have mixed := L.mixed
  have t72 := L.t72; have a72 := L.a72; have z72 := L.z72; have v72 := L.v72; have u72 := run_underlying L.t72
  have t70 := L.t70; have a70 := L.a70; have z70 := L.z70; have v70 := L.v70; have u70 := run_underlying L.t70
  have t37 := L.t37; have a37 := L.a37; have z37 := L.z37; have v37 := L.v37; have u37 := run_underlying L.t37
  have t3 := L.t3; have a3 := L.a3; have z3 := L.z3; have v3 := L.v3; have u3 := run_underlying L.t3
  have t9 := L.t9; have a9 := L.a9; have z9 := L.z9; have v9 := L.v9; have u9 := run_underlying L.t9
  have t4 := L.t4; have a4 := L.a4; have z4 := L.z4; have v4 := L.v4; have u4 := run_underlying L.t4
  have t164 := L.t164; have a164 := L.a164; have z164 := L.z164; have v164 := L.v164; have u164 := run_underlying L.t164
  have t5 := X.t5; have a5 := X.a5; have z5 := X.z5; have v5 := X.v5; have u5 := run_underlying X.t5
  have e240 : ∀ args w, (callFunc (ρ.f 240) args).run P w = .ok (.enter (ρ.f 240) args) w := enters_of L.f240 (by kernel_rfl) rfl
  have hcc : Calls P (ρ.f 240) #[.pointer (some ⟨b, 0, none⟩)] w.W fun e w1 => e = .returned (.tuple #[]) ∧ w1.os = w.W.os ∧ w1.tape = w.W.tape ∧ w1.output = w.W.output ∧ w1.drawn = w.W.drawn ∧ w1.heap.size = w.W.heap.size ∧ (∀ k, k ≠ b → w1.heap[k]? = w.W.heap[k]?) ∧ w1.heap[b]? = some (.cells #[.pointer (some ⟨b, 0, none⟩), .slice A s.size c] (ρ.t 72) (0, 0)) := by
    rcases hp with rfl | rfl
    · refine (Any.Builder_copyCheck_fresh { L with } X.toX72 b w.W hB0.cell0 hB0.shape hB0.frozen0).mono ?_
      rintro e w' ⟨rfl, rfl⟩
      refine ⟨rfl, rfl, rfl, rfl, rfl, by simp [World.setCell], fun k hk => Below.heap_setCell _ _ _ _ (fun e => hk (by simp [e])), ?_⟩
      simp [World.setCell, Array.getElem?_modify, hbk]
    · refine (Any.Builder_copyCheck_used { L with } X.toX72 b w.W hB0.cell0).mono ?_
      rintro e w' ⟨rfl, rfl⟩
      exact ⟨rfl, rfl, rfl, rfl, rfl, rfl, fun _ _ => rfl, hbk⟩
  go_enter L.f166, Body.n166_ntmps ρ
  go_wp2_with (go_at_fn (ρ.f 240); refine hcc.mono ?_)
  rintro e w1 ⟨rfl, f1, f2, f3, f4, f5, f6, hbk1⟩
  have hown1 := ownsF_same hown (W' := w1) (fun g hg => f6 g (fun e => hne (by rw [hg, e])))
  rw [Lib.strCells_length] at hown1
  have c0 : w1.cell? ⟨b, 0, none⟩ = some (.pointer (some ⟨b, 0, none⟩)) := by rw [Lib.cell_of_heap hbk1]; rfl
  have c1 : w1.cell? ⟨b, 1, none⟩ = some (.slice A s.size c) := by rw [Lib.cell_of_heap hbk1]; rfl
  go_wp2_with (at_builtin; refine wpList_appS w1 rfl _ _ (ρ.t 37) (ρ.t 9) rfl (ρ.t 5) i0 L.t37 L.t9 hi hz0 hz1 hz2 _ _ _ rfl hown1 x rfl ?c3 ?c4 ?_)
  case c3 => unfold maxLen; omega
  case c4 => exact hlen
  intro v' w2 hown' hgrow hblk
  have hb1 : b < w1.heap.size := (Array.getElem?_eq_some_iff.1 hbk1).1
  have hb2 : w2.heap[b]? = some (.cells #[.pointer (some ⟨b, 0, none⟩), .slice A s.size c] (ρ.t 72) (0, 0)) := by
    rw [hgrow.block b hb1 (fun e => hne e.symm)]; exact hbk1
  have d0 : w2.cell? ⟨b, 0, none⟩ = some (.pointer (some ⟨b, 0, none⟩)) := by rw [Lib.cell_of_heap hb2]; rfl
  have d1 : w2.cell? ⟨b, 1, none⟩ = some (.slice A s.size c) := by rw [Lib.cell_of_heap hb2]; rfl
  have g1 : w2.frozen? ⟨b, 1, none⟩ = false := Lib.frozen_of_heap hb2 1
  have hsz : r.size = s.size + x.size := by rw [← hr]; simp
  rw [← hsz, ← strCells_app, hr] at hown'
  clear hsz
  obtain ⟨ao, cap, rfl⟩ : ∃ ao cap, v' = .slice ao r.size cap := by
    rcases hown'.2 with ⟨hv, h0⟩ | ⟨g, cap, cur, fz, hv, _⟩
    · exact ⟨none, 0, by rw [hv, h0]⟩
    · exact ⟨_, _, hv⟩
  have hown2 : w2.ownsRowF 0 (ρ.t 5) 1 (.slice ao r.size cap) (Lib.strCells r).length (Lib.strCells r) := by
    rw [Lib.strCells_length]; exact hown'
  go_wp2
  go_ret2
  refine ⟨(ao, cap), rfl, trivial, sb_put hE (p := .pointer (some ⟨b, 0, none⟩)) ?_ ?_ ?_ ?_ ?_ ?_ (.inr rfl) (Lib.BuilderAtF.put (T := (ρ.t 72)) (e := (ρ.t 5)) (Nat.zero_le _) hb2 hown2 X.neB5) ?_ ?_⟩
  · exact hgrow.os.trans f1
  · exact hgrow.tape.trans f2
  · exact hgrow.output.trans f3
  · simp [World.setCell]; have := hgrow.size; omega
  · exact Nat.le_refl 0
  · intro k hk hkb hkg
    rw [Below.heap_setCell _ _ _ _ (fun e => hkb (by simp [e])), hgrow.block k (by omega) hkg]; exact f6 k hkb
  · simp [World.setCell, Array.getElem?_modify, hb2]
  · intro g hg
    rcases hown'.2 with ⟨hv, _⟩ | ⟨g', cap', cur, fz, hv, _, hh, _⟩
    · rw [hv] at hg; simp [Value.ownBlock] at hg
    · have hg2 := hg
      rw [hv] at hg; simp [Value.ownBlock] at hg; subst hg
      exact ⟨by simp [World.setCell]; exact (Array.getElem?_eq_some_iff.1 hh).1, (hblk _ hg2).imp id (fun h => by omega)⟩
set_option maxHeartbeats 1000000 in
set_option maxRecDepth 100000 in
/-- THE CONTRACT of Len. -/
theorem sb_len (L : Lays.n170 P ρ) {e : Nat} {r : Int × ByteArray} (H : sbL s = some r) (hE : HF w w.W (LEn [sb (ρ.t 72) e b A c s])) :
    Calls P (ρ.f 170) [.pointer (some ⟨b, 0, none⟩)].toArray w.W fun e' W' => ∃ u : (Option Addr × Nat), e' = .returned (.int .i64 r.1) ∧ (True) ∧ HF w W' (LEn [sb (ρ.t 72) e b u.1 u.2 r.2]) := by
  have hr := Option.some.inj H
  subst hr
  obtain ⟨p, hp, hB, hbk, hlt⟩ := hE.phi 0
  have c1 : w.W.cell? ⟨b, 1, none⟩ = some (.slice A s.size c) := by rw [Lib.cell_of_heap hbk]; rfl
  have mixed := L.mixed
  have t72 := L.t72; have a72 := L.a72; have z72 := L.z72; have v72 := L.v72; have u72 := run_underlying L.t72
  have t70 := L.t70; have a70 := L.a70; have z70 := L.z70; have v70 := L.v70; have u70 := run_underlying L.t70
  have t37 := L.t37; have a37 := L.a37; have z37 := L.z37; have v37 := L.v37; have u37 := run_underlying L.t37
  have t3 := L.t3; have a3 := L.a3; have z3 := L.z3; have v3 := L.v3; have u3 := run_underlying L.t3
  go_enter L.f170, Body.n170_ntmps ρ
  go_wp2
  go_ret
  first | exact ⟨(A, c), rfl, trivial, hE⟩ | exact ⟨rfl, A, c, hE⟩ | exact ⟨rfl, A, c, trivial, hE⟩
set_option maxHeartbeats 1000000 in
set_option maxRecDepth 100000 in
/-- THE CONTRACT of String. -/
theorem sb_string (L : Lays.n169 P ρ) (X : Builder.Extra P ρ) {r : ByteArray × ByteArray} (H : sbS s = some r) (hE : HF w w.W (LEn [sb (ρ.t 72) (ρ.t 5) b A c s])) :
    Calls P (ρ.f 169) [.pointer (some ⟨b, 0, none⟩)].toArray w.W fun e W' => ∃ u : (Option Addr × Nat), e = .returned (.string r.1) ∧ (True) ∧ HF w W' (LEn [sb (ρ.t 72) (ρ.t 5) b u.1 u.2 r.2]) := by
  unfold sbS at H
  split at H
  case isFalse => cases H
  rename_i h0
  have hr := Option.some.inj H
  subst hr
  obtain ⟨p, hp, hB, hbk, hlt⟩ := hE.phi 0
  have hA := hB
  obtain ⟨_, v, hbk2, hown, hne⟩ := hB
  have hv : v = .slice A s.size c := by rw [hbk] at hbk2; simpa using hbk2.symm
  subst hv
  rw [Lib.strCells_length] at hown
  obtain ⟨g, cap, cur, fz, hv, hbg, hg, hfz, hnc, hcm, hcs, htake⟩ : ∃ g cap cur fz, Value.slice A s.size c = .slice (some ⟨g, 0, none⟩) s.size cap ∧ 0 ≤ g ∧ w.W.heap[g]? = some (.cells cur (ρ.t 5) fz) ∧ fz.2 ≤ s.size * 1 ∧ s.size ≤ cap ∧ cap ≤ maxLen ∧ cur.size = cap * 1 ∧ cur.toList.take (s.size * 1) = Lib.strCells s := by
    rcases hown.2 with ⟨_, hz⟩ | ⟨g, cap, cur, fz, hv, r⟩
    · exact absurd hz h0
    · exact ⟨g, cap, cur, fz, hv, r⟩
  simp at hv
  obtain ⟨rfl, rfl⟩ := hv
  have hl0 : s.data.toList ≠ [] := by
    intro e
    have : s.data.toList.length = 0 := by rw [e]; rfl
    exact h0 (by simpa using this)
  have hls : s.data.toList.length = s.size := by simp
  have c1 : w.W.drew.cell? ⟨b, 1, none⟩ = some (.slice (some ⟨g, 0, none⟩) s.size c) := by
    have : w.W.drew.heap[b]? = some (.cells #[p, .slice (some ⟨g, 0, none⟩) s.size c] (ρ.t 72) (0, 0)) := hbk
    rw [Lib.cell_of_heap this]; rfl
  have hSD : (Builtin.unsafeSliceData_ #[(ρ.t 37)] (ρ.t 127) #[.slice (some ⟨g, 0, none⟩) s.size c]).run P w.W.drew = .ok (.pointer (some ⟨g, 0, none⟩)) w.W.drew :=
    Lib.run_unsafeSliceData_row _ _ _ _ _ _ (by omega)
  have hUS : (Builtin.unsafeString_ #[(ρ.t 127), (ρ.t 3)] (ρ.t 9) #[.pointer (some ⟨g, 0, none⟩), .int .i64 s.size]).run P w.W.drew = .ok (.string s) (w.W.drew.freeze ⟨g, 0, none⟩ s.size) := by
    have := Lib.run_unsafeString_row (P := P) w.W.drew (ρ.t 127) (ρ.t 3) (ρ.t 9) (ρ.t 5) L.t127 X.cellsByte g cur.size (by have hg' : w.W.drew.heap[g]? = some (.cells cur (ρ.t 5) fz) := hg; simp [World.shape?, hg']) s.data.toList hl0 (by omega) (by unfold maxLen at hcm; omega) (by
      intro j x hx
      exact hown.cells (g := g) rfl j (.int .u8 x.toNat) (by simp [Lib.strCells, hx]))
    rw [hls] at this
    simpa using this
  have mixed := L.mixed
  have t72 := L.t72; have a72 := L.a72; have z72 := L.z72; have v72 := L.v72; have u72 := run_underlying L.t72
  have t70 := L.t70; have a70 := L.a70; have z70 := L.z70; have v70 := L.v70; have u70 := run_underlying L.t70
  have t37 := L.t37; have a37 := L.a37; have z37 := L.z37; have v37 := L.v37; have u37 := run_underlying L.t37
  have t127 := L.t127; have a127 := L.a127; have z127 := L.z127; have v127 := L.v127; have u127 := run_underlying L.t127
  have t3 := L.t3; have a3 := L.a3; have z3 := L.z3; have v3 := L.v3; have u3 := run_underlying L.t3
  have t9 := L.t9; have a9 := L.a9; have z9 := L.z9; have v9 := L.v9; have u9 := run_underlying L.t9
  have t5 := X.t5; have a5 := X.a5; have z5 := X.z5; have v5 := X.v5; have u5 := run_underlying X.t5
  have hgb : g ≠ b := fun e => hne (by simp [Value.ownBlock, e])
  have hF : Lib.BuilderAtF (ρ.t 72) (ρ.t 5) 0 b p (Lib.strCells s) (w.W.drew.freeze ⟨g, 0, none⟩ s.size) := by
    have hA2 : Lib.BuilderAtF (ρ.t 72) (ρ.t 5) 0 b p (Lib.strCells s) w.W.drew := ⟨Nat.zero_le _, _, hbk, by rw [Lib.strCells_length]; exact hown, hne⟩
    have := hA2.froze (g := g) (cap := c) (by rw [Lib.strCells_length]; exact c1)
    rwa [Lib.strCells_length] at this
  have hfr : ∀ k, k ≠ g → (w.W.drew.freeze ⟨g, 0, none⟩ s.size).heap[k]? = w.W.heap[k]? := by
    intro k hk
    unfold World.freeze
    rw [if_neg h0]
    simp only [Array.getElem?_modify]
    rw [if_neg (fun e => hk e.symm)]
    rfl
  have fin : HF w (w.W.drew.freeze ⟨g, 0, none⟩ s.size) (LEn [sb (ρ.t 72) (ρ.t 5) b (some ⟨g, 0, none⟩) c s]) := by
    have hfs : (w.W.drew.freeze ⟨g, 0, none⟩ s.size).heap.size = w.W.heap.size := by
      unfold World.freeze
      rw [if_neg h0]
      simp only [Array.size_modify]; rfl
    have hfd : (w.W.drew.freeze ⟨g, 0, none⟩ s.size).os = w.W.os ∧ (w.W.drew.freeze ⟨g, 0, none⟩ s.size).tape = w.W.tape ∧ (w.W.drew.freeze ⟨g, 0, none⟩ s.size).output = w.W.output ∧ zd w.W ≤ zd (w.W.drew.freeze ⟨g, 0, none⟩ s.size) := by
      unfold World.freeze
      rw [if_neg h0]
      exact ⟨rfl, rfl, rfl, Nat.le_refl 0⟩
    refine sb_put hE (p := p) hfd.1 hfd.2.1 hfd.2.2.1 (Nat.le_of_eq hfs.symm) hfd.2.2.2 (fun k _ hkb hkg => hfr k (fun e => hkg (by simp [Value.ownBlock, e]))) hp hF ((hfr b hgb.symm).trans hbk) (fun k hk => ?_)
    simp [Value.ownBlock] at hk
    subst hk
    exact ⟨by rw [hfs]; exact (Array.getElem?_eq_some_iff.1 hg).1, .inl (by simp [Value.ownBlock])⟩
  go_enter L.f169, Body.n169_ntmps ρ
  go_wp2
  go_region_o
  all_goals (go_wp2; go_ret; first | exact ⟨(some ⟨g, 0, none⟩, c), rfl, trivial, fin⟩ | exact ⟨rfl, some ⟨g, 0, none⟩, c, fin⟩ | exact ⟨rfl, some ⟨g, 0, none⟩, c, trivial, fin⟩)
end
end Go.Proofs.YtneghcpnehiffaaDoor
namespace Go.Proofs.YtneghcpnehiffaaDoor
open Go.RowKit Go.Proofs Go.Shelf
section
variable {P : Program} {ρ : Ren} {w : Bs}
/-- A number of at most two digits, written. -/
def itoaS (n : Int) : Option ByteArray := if 0 ≤ n ∧ n < 100 then some ⟨(Lib.decDigits n.toNat).toArray⟩ else none
/-- THE CONTRACT of Itoa at small numbers. -/
theorem itoaS_rule (L : Lays.n171 P ρ) {n : Int} {r : ByteArray} (H : itoaS n = some r) (hE : HF w w.W E0) :
    Calls P (ρ.f 171) [.int .i64 n].toArray w.W fun e W' => e = .returned (.string r) ∧ HF w W' E0 := by
  unfold itoaS at H
  split at H
  case isFalse => cases H
  rename_i hn
  have hr := Option.some.inj H
  subst hr
  have h := Any.strconv_Itoa_small L n.toNat (by omega) w.W
  rw [Int.toNat_of_nonneg hn.1] at h
  exact h.mono fun e W' ⟨h1, h2⟩ => ⟨h1, by rw [h2]; exact hE⟩
end
end Go.Proofs.YtneghcpnehiffaaDoor
namespace Go.Proofs.YtneghcpnehiffaaDoor
open Go.RowKit
def fieldAtT (P : Program) (T i : Nat) : Option (Nat × Nat) := match P.underlying T with
  | some (.struct fs) => (fs[i]?).map fun f => (f.offset, f.type)
  | _ => none
section
variable {P : Program} {ρ : Operand → Value} {W : World} {d : Option Tmp} {ty T : TypeId} {pos : String} {af : Array Edge} {g : Option (Nat × Bool)} {p : Operand} {v : Value} {i fo ft : Nat} {cs : Array Value}
theorem run_field1 (hf : fieldAtT P T i = some (fo, ft)) (ha : aggOf P ft = some false) (hp : ρ p = .agg cs) (hv : cs[fo]? = some v) : (execOp ρ ⟨d, .field T p i, ty, pos, af, g⟩).run P W = .ok (.value v) W := by
  unfold fieldAtT at hf
  split at hf
  · rename_i fs hu
    obtain ⟨f, h1, h2⟩ := Option.map_eq_some_iff.1 hf
    simp only [Prod.mk.injEq] at h2
    obtain ⟨rfl, rfl⟩ := h2
    simp [execOp, Instr.field, run_underlying hu, h1, hp, asAgg, part1 ha hv]
  · cases hf
theorem run_fieldN {n : Nat} (hf : fieldAtT P T i = some (fo, ft)) (ha : aggOf P ft = some true) (hs : szOf P ft = some n) (hp : ρ p = .agg cs) (hv : Value.agg (cs.extract fo (fo + n)) = v) : (execOp ρ ⟨d, .field T p i, ty, pos, af, g⟩).run P W = .ok (.value v) W := by
  subst hv
  unfold fieldAtT at hf
  split at hf
  · rename_i fs hu
    obtain ⟨f, h1, h2⟩ := Option.map_eq_some_iff.1 hf
    simp only [Prod.mk.injEq] at h2
    obtain ⟨rfl, rfl⟩ := h2
    simp [execOp, Instr.field, run_underlying hu, h1, hp, asAgg, partN ha hs]
  · cases hf
end
end Go.Proofs.YtneghcpnehiffaaDoor
namespace Go.Proofs.YtneghcpnehiffaaDoor
open Go.RowKit
/-- The cells of an element. -/
def Raw {α : Type} (t : Fl α) : Type := {cs : List Value // cs.length = t.sz ∧ cs.all (·.oneCell') = true}
def raw {α : Type} (t : Fl α) (cs : List Value) (h1 : cs.length = t.sz) (h2 : cs.all (·.oneCell') = true) : Raw t := ⟨cs, h1, h2⟩
def rawU {α : Type} (t : Fl α) (u : t.Ad) (x : α) : Raw t := raw t (t.enc u x) (t.len u x) (List.all_eq_true.2 (t.one u x))
/-- Elements that are tidy or held by their cells. -/
def mix {α : Type} (t : Fl α) : Fl (α ⊕ Raw t) where
  Ad := t.Ad
  sz := t.sz
  enc u x := match x with | .inl x => t.enc u x | .inr cs => cs.1
  ok S W u x := match x with | .inl x => t.ok S W u x | .inr _ => True
  len u x := by cases x with
    | inl x => exact t.len u x
    | inr cs => exact cs.2.1
  one u x v h := by cases x with
    | inl x => exact t.one u x v h
    | inr cs => exact List.all_eq_true.1 cs.2.2 v h
  loc {_ _ _ _ _ x} h hs hb := by cases x with
    | inl x => exact t.loc h hs hb
    | inr cs => trivial
def mixL {α : Type} {t : Fl α} (l : List α) (i : Nat) (cs : Raw t) : List (α ⊕ Raw t) := (l.map Sum.inl).set i (.inr cs)
section
variable {α : Type} {t : Fl α} {l : List α} {i : Nat} {cs : Raw t} {O : Nat → Prop} {W : World} {w : Bs} {n : Nat} {f : Nat → Option Value} {E : Nat → Ent} {X : Act → World → Prop} {A : Option Addr} {c T : Nat}
theorem mixL_len : (mixL l i cs).length = l.length := by simp [mixL]
theorem mixL_at (hi : i < l.length) : (mixL l i cs)[i]? = some (.inr cs) := by simp [mixL, hi]
theorem al_mix {css : List (List Value)} (h : Al (rp t O W) css l) : Al (rp (mix t) O W) css (l.map Sum.inl) := by
  induction h with
  | nil => exact .nil
  | cons h1 _ ih =>
    obtain ⟨u, h2, h3⟩ := h1
    exact .cons ⟨u, h2, h3⟩ ih
theorem al_unmix : ∀ {l : List α} {css : List (List Value)}, Al (rp (mix t) O W) css (l.map Sum.inl) → Al (rp t O W) css l
  | [], _, h => by cases h; exact .nil
  | x :: l, _, h => by
    cases h with
    | cons h1 h2 =>
      obtain ⟨u, h3, h4⟩ := h1
      exact .cons ⟨u, h3, h4⟩ (al_unmix h2)
theorem set_same {β : Type} {l : List β} {i : Nat} {x : β} (h : l[i]? = some x) : l.set i x = l := by
  apply List.ext_getElem?
  intro j
  rw [List.getElem?_set]
  split
  · rename_i e; subst e
    split
    · exact h.symm
    · rename_i hh; rw [List.getElem?_eq_none (by omega)]
  · rfl
/-- The element at a place is held by its cells. -/
theorem Tr.mixOpen (κ : Nat) {x : α} (hk : E κ = ow A c T t l) (hx : l[i]? = some x) (K : ∀ u, t.ok w.O w.W u x → Tr w n f (up E κ (ow A c T (mix t) (mixL l i (rawU t u x)))) X) : Tr w n f E X := fun a W h1 h2 => by
  obtain ⟨css, hal, hlen, h0⟩ := h2.ow hk
  obtain ⟨cs0, hcs0, u, hu, rfl⟩ := hal.at_ hx
  have hu' : t.ok w.O w.W u x := t.loc hu (fun _ hb => hb) (fun b hb => (h2.keep b (.inl hb)).symm)
  refine K u hu' a W h1 (h2.mod κ _ rfl rfl rfl (Nat.le_refl _) (Nat.le_refl _) (fun _ _ _ => rfl) (ow_loc _ _ _ _ _) ?_ (fun b hb => ?_))
  · have hs := (al_mix hal).set (i := i) (x := t.enc u x) (y := .inr (rawU t u x)) ⟨u, trivial, rfl⟩
    rw [set_same hcs0] at hs
    refine ⟨css, hs, ?_⟩
    show W.ownsRow 0 T t.sz (.slice A (mixL l i _).length c) (mixL l i _).length css.flatten
    rw [mixL_len]; exact ⟨hlen, h0⟩
  · have hb : (Value.slice A (mixL l i _).length c).ownBlock = some b := hb
    rw [mixL_len] at hb
    have hb' : (E κ).S b := by rw [hk]; exact hb
    exact ⟨.inl hb', (h2.bd κ b hb').2⟩
/-- The element is tidy again. -/
theorem Tr.mixClose (κ : Nat) (hk : E κ = ow A c T (mix t) (mixL l i cs)) (u : t.Ad) (x : α) (hu : t.ok w.O w.W u x) (he : t.enc u x = cs.1) (K : Tr w n f (up E κ (ow A c T t (l.set i x))) X) : Tr w n f E X := fun a W h1 h2 => by
  obtain ⟨css, hal, hlen, h0⟩ := h2.ow hk
  refine K a W h1 (h2.mod κ _ rfl rfl rfl (Nat.le_refl _) (Nat.le_refl _) (fun _ _ _ => rfl) (ow_loc _ _ _ _ _) ?_ (fun b hb => ?_))
  · refine ⟨css, al_unmix ?_, ?_⟩
    · by_cases hi : i < l.length
      · obtain ⟨cs0, hcs0, u0, _, e0⟩ := hal.at_ (mixL_at (cs := cs) hi)
        have e0 : cs0 = cs.1 := e0
        have hs := hal.set (i := i) (x := cs0) (y := .inl x) ⟨u, t.loc hu (fun _ hb => hb) (fun b hb => h2.keep b (.inl hb)), by rw [e0]; exact he.symm⟩
        rw [set_same hcs0] at hs
        have : (mixL l i cs).set i (.inl x) = (l.set i x).map Sum.inl := by simp [mixL, List.map_set]
        rwa [this] at hs
      · have e1 : mixL l i cs = l.map Sum.inl := by
          unfold mixL; exact List.set_eq_of_length_le (by simpa using hi)
        rw [e1] at hal
        rw [List.set_eq_of_length_le (by omega)]; exact hal
    · have hm : (mixL l i cs).length = (l.set i x).length := by rw [mixL_len, List.length_set]
      rw [← hm]; exact ⟨hlen, h0⟩
  · have hb : (Value.slice A (l.set i x).length c).ownBlock = some b := hb
    have hb' : (E κ).S b := by
      rw [hk]
      show (Value.slice A (mixL l i cs).length c).ownBlock = some b
      rw [mixL_len, ← List.length_set (a := x) (i := i)]; exact hb
    exact ⟨.inl hb', (h2.bd κ b hb').2⟩
/-- The held element's cells. -/
theorem rdm (hW : HF w W E) {κ : Nat} (hk : E κ = ow A c T (mix t) (mixL l i cs)) (hi : i < l.length) : CellsAt W (adB A) (adO A + i * t.sz) cs.1 := by
  obtain ⟨u, _, h⟩ := hW.atN hk (mixL_at hi)
  exact h
end
theorem emix {α : Type} {E : Nat → Ent} {k : Nat} {A : Option Addr} {c T i : Nat} {t : Fl α} {l : List α} {cs cs' : List Value} {h1 : cs.length = t.sz} {h2 : cs.all (·.oneCell') = true} {h1' : cs'.length = t.sz} {h2' : cs'.all (·.oneCell') = true} (h : E k = ow A c T (mix t) (mixL l i (raw t cs h1 h2))) (he : cs = cs') : E k = ow A c T (mix t) (mixL l i (raw t cs' h1' h2')) := by
  subst he; exact h
section
variable {α : Type} {P : Program} {w : Bs} {n : Nat} {f : Nat → Option Value} {E : Nat → Ent} {Q : Exit → Act → World → Prop} {ops : Array Oper} {rest : List Oper} {ty T : Nat} {pos : String} {af : Array Edge} {g : Option (Nat × Bool)} {p q : Operand} {v : Value}
theorem run_nilCheck {ρ : Operand → Value} {W : World} {d : Option Tmp} {a : Addr} (hp : ρ p = .pointer (some a)) : (execOp ρ ⟨d, .nilCheck p, ty, pos, af, g⟩).run P W = .ok (.value (.pointer (some a))) W := by
  simp [execOp, hp]
/-- A store to a field of the held element. -/
theorem Tr.storeMix (κ : Nat) {A : Option Addr} {c e fo o i : Nat} {t : Fl α} {l : List α} {ds : Raw t} (ds' : Raw t) {cs : List Value} (hw : Wn ops f ⟨none, .store T p q, ty, pos, af, g⟩) (hp : ev f p = some (.pointer (some ⟨adB A, o, none⟩))) (hq : ev f q = some v) (hv : v.cells = cs.toArray)
    (ho : o = adO A + i * t.sz + fo) (hk : E κ = ow A c e (mix t) (mixL l i ds)) (hi : i < l.length) (hs : szOf P T = some cs.length) (h1 : cs.all (·.oneCell') = true)
    (hup : ds'.1 = ds.1.take fo ++ cs ++ ds.1.drop (fo + cs.length)) (hfit : Nat.ble (fo + cs.length) t.sz = true)
    (K : Tr w n f (up E κ (ow A c e (mix t) (mixL l i ds'))) (wpList P ops Q rest)) : Tr w n f E (wpList P ops Q (⟨none, .store T p q, ty, pos, af, g⟩ :: rest)) :=
  Tr.op hw fun a W k1 k2 => by
    subst ho
    obtain ⟨vs, hh, hle, hnew⟩ := set_el (t := mix t) (x' := .inr ds') κ k2 hk (mixL_at hi) (fun u _ => ⟨u, trivial, hup⟩) (Nat.le_of_ble_eq_true hfit)
    have e1 : (mixL l i ds).set i (.inr ds') = mixL l i ds' := by simp [mixL]
    rw [e1] at hnew
    unfold Oper.wp
    rw [run_store hs (k1.ev hp) (k1.ev hq) hv hh (Nat.ble_eq_true_of_le hle) h1]
    exact K _ _ k1 hnew
end
end Go.Proofs.YtneghcpnehiffaaDoor
namespace Go.Proofs.YtneghcpnehiffaaDoor
open Go.RowKit Go.Proofs
open Go.ChangeMaps Go.MapKept
open Go.Maps (Keyed int_keyed keyOf_int_mk)
def inR (k : Int) : Bool := decide (-9223372036854775808 ≤ k) && decide (k ≤ 9223372036854775807)
section
variable {P : Program} {w : Bs} {n : Nat} {f : Nat → Option Value} {E : Nat → Ent} {X : Act → World → Prop} {Q : Exit → Act → World → Prop} {ops : Array Oper} {rest : List Oper}
variable {d ty T MT KT VT : Nat} {pos : String} {af : Array Edge} {g : Option (Nat × Bool)} {p q x : Operand} {b : Nat}
/-- A block is a map with these entries. -/
def mblk (W : World) (b : Nat) (kv : List (Value × Value)) : Prop := ∃ es clock, W.heap[b]? = some (.map es clock) ∧ es.toList.map (fun x => (x.key, x.val)) = kv
theorem mblk_loc {W W' : World} {b : Nat} {kv : List (Value × Value)} (h : W'.heap[b]? = W.heap[b]?) (hp : mblk W b kv) : mblk W' b kv := by
  obtain ⟨es, clock, h1, h2⟩ := hp
  exact ⟨es, clock, h.trans h1, h2⟩
theorem HF.split {W : World} (h : HF w W E) {κ κ' : Nat} {e1 e2 : Ent} (hne : κ' ≠ κ) (l1 : e1.loc) (l2 : e2.loc) (p1 : e1.φ w.O W) (p2 : e2.φ w.O W) (s1 : ∀ b, e1.S b → (E κ).S b) (s2 : ∀ b, e2.S b → (E κ).S b) (hd : ∀ b, e1.S b → ¬ e2.S b) :
    HF w W (up (up E κ e1) κ' e2) where
  os := h.os
  tape := h.tape
  output := h.output
  size := h.size
  drawn := h.drawn
  keep := h.keep
  phi j := by
    rcases up_cases (up E κ e1) κ' e2 j with ⟨_, h2⟩ | ⟨_, h2⟩ <;> rw [h2]
    · exact p2
    · rcases up_cases E κ e1 j with ⟨_, h2⟩ | ⟨_, h2⟩ <;> rw [h2]
      · exact p1
      · exact h.phi j
  loc j := by
    rcases up_cases (up E κ e1) κ' e2 j with ⟨_, h2⟩ | ⟨_, h2⟩ <;> rw [h2]
    · exact l2
    · rcases up_cases E κ e1 j with ⟨_, h2⟩ | ⟨_, h2⟩ <;> rw [h2]
      · exact l1
      · exact h.loc j
  bd j x := by
    rcases up_cases (up E κ e1) κ' e2 j with ⟨_, h2⟩ | ⟨_, h2⟩ <;> rw [h2]
    · exact fun hx => h.bd κ x (s2 x hx)
    · rcases up_cases E κ e1 j with ⟨_, h2⟩ | ⟨_, h2⟩ <;> rw [h2]
      · exact fun hx => h.bd κ x (s1 x hx)
      · exact h.bd j x
  disj j j' x hjj := by
    rcases up_cases (up E κ e1) κ' e2 j with ⟨a1, a2⟩ | ⟨a1, a2⟩ <;> rw [a2]
    · rcases up_cases (up E κ e1) κ' e2 j' with ⟨b1, b2⟩ | ⟨b1, b2⟩ <;> rw [b2]
      · exact absurd (a1.trans b1.symm) hjj
      · rcases up_cases E κ e1 j' with ⟨c1, c2⟩ | ⟨c1, c2⟩ <;> rw [c2]
        · exact fun hx hy => hd x hy hx
        · exact fun hx => h.disj κ j' x (fun e => c1 e.symm) (s2 x hx)
    · rcases up_cases (up E κ e1) κ' e2 j' with ⟨b1, b2⟩ | ⟨b1, b2⟩ <;> rw [b2]
      · rcases up_cases E κ e1 j with ⟨c1, c2⟩ | ⟨c1, c2⟩ <;> rw [c2]
        · exact fun hx => hd x hx
        · exact fun hx hy => h.disj j κ x c1 hx (s2 x hy)
      · rcases up_cases E κ e1 j with ⟨c1, c2⟩ | ⟨c1, c2⟩ <;> rw [c2]
        · rcases up_cases E κ e1 j' with ⟨d1, d2⟩ | ⟨d1, d2⟩ <;> rw [d2]
          · exact absurd (c1.trans d1.symm) hjj
          · exact fun hx => h.disj κ j' x (fun e => d1 e.symm) (s1 x hx)
        · rcases up_cases E κ e1 j' with ⟨d1, d2⟩ | ⟨d1, d2⟩ <;> rw [d2]
          · exact fun hx hy => h.disj j κ x c1 hx (s1 x hy)
          · exact h.disj j j' x hjj
theorem HF.merge {W W' : World} (h : HF w W E) {κ κ' : Nat} (e : Ent) (hne : κ' ≠ κ) (hos : W'.os = W.os) (htp : W'.tape = W.tape) (hou : W'.output = W.output) (hsz : W.heap.size ≤ W'.heap.size) (hdr : zd W ≤ zd W')
    (hbl : ∀ x, x < W.heap.size → ¬ (E κ).S x → W'.heap[x]? = W.heap[x]?) (he : e.loc) (hp : e.φ w.O W') (hS : ∀ x, e.S x → (E κ).S x ∨ (E κ').S x) : HF w W' (up (up E κ' emp) κ e) where
  os := hos.trans h.os
  tape := htp.trans h.tape
  output := hou.trans h.output
  size := Nat.le_trans h.size hsz
  drawn := Nat.le_trans h.drawn hdr
  keep x hx := (hbl x (h.rlt hx) (fun hs => (h.bd κ x hs).1 hx)).trans (h.keep x hx)
  phi j := by
    rcases up_cases (up E κ' emp) κ e j with ⟨_, h2⟩ | ⟨h1, h2⟩ <;> rw [h2]
    · exact hp
    · rcases up_cases E κ' emp j with ⟨_, h3⟩ | ⟨h4, h3⟩ <;> rw [h3]
      · trivial
      · refine (h.loc j).at_ _ W W' (fun x hx => ?_) (h.phi j)
        rcases hx with hx | hx
        · exact hbl x (h.rlt (.inl hx)) (fun hs => (h.bd κ x hs).1 (.inl hx))
        · exact hbl x (h.bd j x hx).2 (fun hs => h.disj j κ x h1 hx hs)
  loc j := by
    rcases up_cases (up E κ' emp) κ e j with ⟨_, h2⟩ | ⟨_, h2⟩ <;> rw [h2]
    · exact he
    · rcases up_cases E κ' emp j with ⟨_, h2⟩ | ⟨_, h2⟩ <;> rw [h2]
      · exact emp_loc
      · exact h.loc j
  bd j x := by
    rcases up_cases (up E κ' emp) κ e j with ⟨_, h2⟩ | ⟨_, h2⟩ <;> rw [h2]
    · intro hx
      rcases hS x hx with hx | hx
      · exact ⟨(h.bd κ x hx).1, Nat.lt_of_lt_of_le (h.bd κ x hx).2 hsz⟩
      · exact ⟨(h.bd κ' x hx).1, Nat.lt_of_lt_of_le (h.bd κ' x hx).2 hsz⟩
    · rcases up_cases E κ' emp j with ⟨_, h2⟩ | ⟨_, h2⟩ <;> rw [h2]
      · exact fun hx => hx.elim
      · exact fun hx => ⟨(h.bd j x hx).1, Nat.lt_of_lt_of_le (h.bd j x hx).2 hsz⟩
  disj j j' x hjj := by
    rcases up_cases (up E κ' emp) κ e j with ⟨a1, a2⟩ | ⟨a1, a2⟩ <;> rw [a2]
    · rcases up_cases (up E κ' emp) κ e j' with ⟨b1, b2⟩ | ⟨b1, b2⟩ <;> rw [b2]
      · exact absurd (a1.trans b1.symm) hjj
      · rcases up_cases E κ' emp j' with ⟨c1, c2⟩ | ⟨c1, c2⟩ <;> rw [c2]
        · exact fun _ hy => hy
        · intro hx
          rcases hS x hx with hx | hx
          · exact h.disj κ j' x (fun e => b1 e.symm) hx
          · exact h.disj κ' j' x (fun e => c1 e.symm) hx
    · rcases up_cases (up E κ' emp) κ e j' with ⟨b1, b2⟩ | ⟨b1, b2⟩ <;> rw [b2]
      · rcases up_cases E κ' emp j with ⟨c1, c2⟩ | ⟨c1, c2⟩ <;> rw [c2]
        · exact fun hx => hx.elim
        · intro hx hy
          rcases hS x hy with hy | hy
          · exact h.disj j κ x a1 hx hy
          · exact h.disj j κ' x c1 hx hy
      · rcases up_cases E κ' emp j with ⟨c1, c2⟩ | ⟨c1, c2⟩ <;> rw [c2]
        · exact fun hx => hx.elim
        · rcases up_cases E κ' emp j' with ⟨d1, d2⟩ | ⟨d1, d2⟩ <;> rw [d2]
          · exact fun _ hy => hy
          · exact h.disj j j' x hjj
theorem inR_wf {k : Int} (h : inR k = true) : (Lit.int .i64 k).wf = true := by
  unfold inR at h
  simp only [Bool.and_eq_true, decide_eq_true_eq] at h
  have e1 : IntKind.min .i64 = -9223372036854775808 := by decide
  have e2 : IntKind.max .i64 = 9223372036854775807 := by decide
  simp [Lit.wf, e1, e2, h]
/-- A block of a map, behind a store. -/
theorem run_mapUpdateK {W : World} {kvs : List (Value × Value)} {k : Int} {val : Value} (hMT : P.underlying MT = some (.map KT VT)) (hKT : P.underlying KT = some (.int .i64)) (hr : inR k = true) (hb : mblk W b kvs) (hkeys : ∀ p ∈ kvs, ∃ k', p.1 = Value.int .i64 k' ∧ inR k' = true) :
    ∃ W', (Instr.mapUpdate MT (.map (some b)) (.int .i64 k) val).run P W = .ok () W' ∧ W'.os = W.os ∧ W'.tape = W.tape ∧ W'.output = W.output ∧ W'.heap.size = W.heap.size ∧ W'.drawn = W.drawn ∧ (∀ x, x ≠ b → W'.heap[x]? = W.heap[x]?) ∧
      (((∀ p ∈ kvs, p.1 ≠ Value.int .i64 k) ∧ mblk W' b (kvs ++ [(Value.int .i64 k, val)])) ∨ ∃ j v, kvs[j]? = some (Value.int .i64 k, v) ∧ mblk W' b (kvs.set j (Value.int .i64 k, val))) := by
  obtain ⟨es, clock, hb, rfl⟩ := hb
  have K := int_keyed hKT
  have hkey := keyOf_int_mk hKT (inR_wf hr)
  have hks : ∀ e ∈ es.toList, ∃ l, keyOf P KT e.key = some l := fun e he => by
    obtain ⟨k', h1, h2⟩ := hkeys (e.key, e.val) (List.mem_map_of_mem (f := fun x : MapEntry => (x.key, x.val)) he)
    simp only at h1
    exact ⟨_, by rw [h1]; exact keyOf_int_mk hKT (inR_wf h2)⟩
  rcases K.find W hkey es.toList hks with ⟨f1, f2⟩ | ⟨j, e0, f1, f2, f3⟩
  · refine ⟨setBlock W b (.map (es.push ⟨.int .i64 k, val, clock⟩) (clock + 1)), ?_, rfl, rfl, rfl, by simp [setBlock], rfl, fun x hx => heap_setBlock_other hb _ hx, .inl ⟨fun p hp => ?_, ?_⟩⟩
    · simp [Instr.mapUpdate, run_underlying hMT, MapKept.run_getObj_map hb, K.check W false hkey, f1, MapKept.run_setObj_map _ hb, Result.andThen, setBlock]
    · obtain ⟨x, hx, rfl⟩ := List.mem_map.1 hp
      exact f2 x hx
    · exact ⟨_, _, heap_setBlock_same hb _, by simp⟩
  · have hj : es[j]? = some e0 := by simpa using f2
    have hlist : (es.modify j (fun e' => { e' with key := .int .i64 k, val := val })).toList = es.toList.set j { e0 with key := .int .i64 k, val := val } := by rw [Array.toList_modify, modify_eq_set _ _ _ _ f2]
    refine ⟨setBlock W b (.map (es.modify j fun e' => { e' with key := .int .i64 k, val := val }) clock), ?_, rfl, rfl, rfl, by simp [setBlock], rfl, fun x hx => heap_setBlock_other hb _ hx, .inr ⟨j, e0.val, ?_, ?_⟩⟩
    · simp [Instr.mapUpdate, run_underlying hMT, MapKept.run_getObj_map hb, K.check W false hkey, f1, hj, f3, K.stays W hkey, MapKept.run_setObj_map _ hb, Result.andThen, setBlock]
    · rw [List.getElem?_map, f2, Option.map_some, f3]
    · exact ⟨_, _, heap_setBlock_same hb _, by rw [hlist, List.map_set]⟩
end
end Go.Proofs.YtneghcpnehiffaaDoor
namespace Go.Proofs.YtneghcpnehiffaaDoor
open Go.RowKit Go.Proofs
open Go.ChangeMaps Go.MapKept
open Go.Maps (Keyed int_keyed keyOf_int_mk)
section words
/-- A list of so many. -/
def mkl {α : Type} (z : α) (m : Int) : Option (List α) := if 0 ≤ m ∧ m ≤ 4294967296 then some (List.replicate m.toNat z) else none
def iget : List (Int × Int) → Int → Option Int
  | [], _ => none
  | p :: m, k => if p.1 = k then some p.2 else iget m k
def iput : List (Int × Int) → Int → Int → List (Int × Int)
  | [], k, v => [(k, v)]
  | p :: m, k, v => if p.1 = k then (k, v) :: m else p :: iput m k v
def igetO (m : List (Int × Int)) (k : Int) : Option (Int × Bool) := if inR k = true then some ((iget m k).getD 0, (iget m k).isSome) else none
def iputO (m : List (Int × Int)) (k v : Int) : Option (List (Int × Int)) := if inR k = true then some (iput m k v) else none
theorem flat_rep1 {β : Type} (z : β) : ∀ k : Nat, (List.replicate k [z]).flatten = List.replicate k z
  | 0 => rfl
  | k + 1 => by rw [List.replicate_succ, List.flatten_cons, flat_rep1 z k]; rfl
theorem iat (k : Int) : ∀ m : List (Int × Int), ((∀ p ∈ m, p.1 ≠ k) ∧ iget m k = none ∧ ∀ v, iput m k v = m ++ [(k, v)]) ∨ ∃ a v z, m = a ++ (k, v) :: z ∧ (∀ p ∈ a, p.1 ≠ k) ∧ iget m k = some v ∧ ∀ u, iput m k u = a ++ (k, u) :: z
  | [] => .inl ⟨fun _ h => (nomatch h), rfl, fun _ => rfl⟩
  | p :: m => by
    by_cases h : p.1 = k
    · obtain ⟨a, b⟩ := p
      simp only at h
      subst h
      exact .inr ⟨[], b, m, rfl, fun _ h => (nomatch h), by simp [iget], fun u => by simp [iput]⟩
    · rcases iat k m with ⟨h1, h2, h3⟩ | ⟨a, v, z, h1, h2, h3, h4⟩
      · refine .inl ⟨fun q hq => ?_, by simp [iget, h, h2], fun v => by simp [iput, h, h3]⟩
        rcases List.mem_cons.1 hq with rfl | hq
        · exact h
        · exact h1 q hq
      · refine .inr ⟨p :: a, v, z, by rw [h1]; rfl, fun q hq => ?_, by simp [iget, h, h3], fun u => by simp [iput, h, h4]⟩
        rcases List.mem_cons.1 hq with rfl | hq
        · exact h
        · exact h2 q hq
end words
section
variable {P : Program} {w : Bs} {n : Nat} {f : Nat → Option Value} {E : Nat → Ent} {X : Act → World → Prop} {Q : Exit → Act → World → Prop} {ops : Array Oper} {rest : List Oper}
variable {d ty T MT KT VT : Nat} {pos : String} {af : Array Edge} {g : Option (Nat × Bool)} {p q x : Operand} {α : Type} {t : Fl α} {b : Nat}
theorem Tr.makeSlice (κ : Nat) (t : Fl α) (z : α) {e i : Nat} {m : Int} {z0 : Value} {l : List α} (hw : Wn ops f ⟨some d, .makeSlice T p q, ty, pos, af, g⟩) (hdn : Nat.blt d n = true) (hp : ev f p = some (.int .i64 m)) (hq : ev f q = some (.int .i64 m))
    (hu : P.underlying T = some (.slice e)) (hs : szOf P e = some t.sz) (h1 : t.sz = 1) (hz : zeroOf P e = some [z0]) (hby : (P.info? e).map (·.bytes) = some i) (hi : Nat.ble i 32768 = true) (hr : ∃ u, (∀ S W, t.ok S W u z) ∧ t.enc u z = [z0]) (hm : mkl z m = some l)
    (K : ∀ b, SlF (some ⟨b, 0, none⟩) l.length l.length → Tr w n (uf f d (.slice (some ⟨b, 0, none⟩) l.length l.length)) (up E κ (ow (some ⟨b, 0, none⟩) l.length e t l)) (wpList P ops Q rest)) :
    Tr w n f E (wpList P ops Q (⟨some d, .makeSlice T p q, ty, pos, af, g⟩ :: rest)) := by
  unfold mkl at hm
  split at hm
  · rename_i hm0
    have hm := (Option.some.inj hm).symm
    obtain ⟨k, rfl⟩ : ∃ k : Nat, m = (k : Int) := ⟨m.toNat, by omega⟩
    have hl : l = List.replicate k z := by rw [hm, Int.toNat_natCast]
    have hlen : l.length = k := by rw [hl, List.length_replicate]
    have hk : k ≤ 4294967296 := by omega
    have hmax : k ≤ maxLen := by unfold maxLen; omega
    obtain ⟨u, hu1, hu2⟩ := hr
    have hform : ∀ b : Nat, SlF (some ⟨b, 0, none⟩) l.length l.length := fun b => ⟨Nat.le_refl _, by rw [hlen]; exact hmax, fun _ => rfl⟩
    refine Tr.valW (V := fun W => .slice (some ⟨W.heap.size, 0, none⟩) l.length l.length) (W1 := fun W => W.alloc (.cells (madeCells #[z0] k) e)) (E1 := fun W => up E κ (ow (some ⟨W.heap.size, 0, none⟩) l.length e t l)) hw hdn (fun a W k1 k2 => ?_) (fun W _ => K W.heap.size (hform _))
    cases hin : P.info? e with
    | none => rw [hin] at hby; cases hby
    | some inf =>
      rw [hin] at hby; simp at hby; subst hby
      unfold zeroOf at hz
      unfold szOf at hs
      rw [hin] at hz hs
      simp only [Option.bind_some, Option.map_some, Option.some.injEq] at hz hs
      cases hze : inf.zero with
      | none => rw [hze] at hz; cases hz
      | some zv =>
        rw [hze] at hz
        simp only [Option.map_some, Option.some.injEq] at hz
        have hzc : zv.cells = #[z0] := by rw [← Array.toArray_toList (xs := zv.cells), hz]
        have hby : inf.bytes * k ≤ 281474976710656 := Nat.le_trans (Nat.mul_le_mul (Nat.le_of_ble_eq_true hi) hk) (by decide)
        have hrun := run_make (P := P) W T e inf zv hu hin hze .i64 .i64 (k : Int) (k : Int) (by omega) (Int.le_refl _) (by rw [← Int.natCast_mul]; omega) (by omega)
        rw [hs, h1, Int.toNat_natCast, Nat.mul_one, hzc] at hrun
        refine ⟨?_, ?_⟩
        · simp only [execOp, k1.ev hp, k1.ev hq, hlen]
          simp [hrun]
        · refine k2.add κ ((Below.refl _ _).alloc (Nat.le_refl _) _) _ (ow_loc _ _ _ _ _) ⟨List.replicate k [z0], ?_, ?_⟩ (fun b hb => ?_)
          · rw [hl]
            have : ∀ j : Nat, Al (rp t w.O (W.alloc (.cells (madeCells #[z0] k) e))) (List.replicate j [z0]) (List.replicate j z) := by
              intro j
              induction j with
              | zero => exact .nil
              | succ j ih => exact .cons ⟨u, hu1 _ _, hu2.symm⟩ ih
            exact this k
          · rw [flat_rep1, hlen, h1]
            refine ⟨by rw [List.length_replicate, Nat.mul_one], .inr ⟨W.heap.size, k, madeCells #[z0] k, rfl, Nat.zero_le _, heap_alloc_new W _, Nat.le_refl _, hmax, by rw [size_madeCells, Nat.mul_one], ?_⟩⟩
            rw [toList_madeCells_one, Nat.mul_one, List.take_of_length_le (by rw [List.length_replicate]; exact Nat.le_refl _)]
          · have hb : some W.heap.size = some b := hb
            simp at hb; subst hb
            exact ⟨Nat.le_refl _, by simp⟩
  · cases hm
/-- A map of the call's own, from integers to integers. -/
def mi (b : Nat) (m : List (Int × Int)) : Ent :=
  ⟨fun x => x = b, fun _ W => mblk W b (m.map fun e => (Value.int .i64 e.1, Value.int .i64 e.2)) ∧ (∀ e ∈ m, inR e.1 = true) ∧ m.Pairwise fun e e' => e.1 ≠ e'.1⟩
theorem mi_loc (b : Nat) (m : List (Int × Int)) : (mi b m).loc := ⟨fun O W W' h hp => ⟨mblk_loc (h b (.inr rfl)) hp.1, hp.2⟩, fun _ _ _ _ hp => hp⟩
theorem Tr.makeMapI (κ : Nat) (hw : Wn ops f ⟨some d, .makeMap MT none, ty, pos, af, g⟩) (hdn : Nat.blt d n = true)
    (K : ∀ b, Tr w n (uf f d (.map (some b))) (up E κ (mi b [])) (wpList P ops Q rest)) : Tr w n f E (wpList P ops Q (⟨some d, .makeMap MT none, ty, pos, af, g⟩ :: rest)) :=
  Tr.valW hw hdn (fun _ W _ h2 => ⟨rfl, h2.add κ ((Below.refl _ _).alloc (Nat.le_refl _) _) (mi W.heap.size []) (mi_loc _ _)
    ⟨⟨#[], 0, heap_alloc_new W _, rfl⟩, fun _ h => (nomatch h), .nil⟩ (fun b hb => by
      have hb : b = W.heap.size := hb
      subst hb; exact ⟨Nat.le_refl _, by simp⟩)⟩) (fun W _ => K W.heap.size)
theorem run_lookupI {ρ : Operand → Value} {W : World} {dd : Option Nat} {m : List (Int × Int)} {k v : Int} {o : Bool} (hMT : P.underlying MT = some (.map KT VT)) (hKT : P.underlying KT = some (.int .i64)) (hz : (P.info? VT).bind (·.zero) = some (.int .i64 0))
    (hp : ρ p = .map (some b)) (hq : ρ q = .int .i64 k) (h2 : HF w W E) {κ : Nat} (hk : E κ = mi b m) (hm : igetO m k = some (v, o)) : (execOp ρ ⟨dd, .lookup MT p q true, ty, pos, af, g⟩).run P W = .ok (.value (.tuple #[.int .i64 v, .bool o])) W := by
  unfold igetO at hm
  split at hm
  · rename_i hr
    have hm := Option.some.inj hm
    have hφ := h2.phi κ
    rw [hk] at hφ
    obtain ⟨⟨es, clock, hb, hes⟩, g2, g3⟩ := hφ
    have K := int_keyed hKT
    have hkey := keyOf_int_mk hKT (inR_wf hr)
    have hkeys : ∀ e ∈ es.toList, ∃ l, keyOf P KT e.key = some l := fun e he => by
      have : (e.key, e.val) ∈ m.map fun e => (Value.int .i64 e.1, Value.int .i64 e.2) := by rw [← hes]; exact List.mem_map_of_mem (f := fun x : MapEntry => (x.key, x.val)) he
      obtain ⟨e', he', h3⟩ := List.mem_map.1 this
      have h4 := congrArg Prod.fst h3
      simp only at h4
      exact ⟨_, by rw [← h4]; exact keyOf_int_mk hKT (inR_wf (g2 e' he'))⟩
    have hzr : (zeroValue VT).run P W = .ok (.int .i64 0) W := by
      cases hi : P.info? VT with
      | none => rw [hi] at hz; cases hz
      | some inf =>
        rw [hi] at hz
        simp only [Option.bind_some] at hz
        simp [zeroValue, typeInfo, hi, hz]
    have main : (Instr.lookup MT (.map (some b)) (.int .i64 k) true).run P W = .ok (.tuple #[.int .i64 v, .bool o]) W := by
      rcases K.find W hkey es.toList hkeys with ⟨f1, f2⟩ | ⟨j, e0, f1, f2, f3⟩
      · have hno : ∀ e ∈ m, e.1 ≠ k := fun e he hek => by
          have : (Value.int .i64 e.1, Value.int .i64 e.2) ∈ es.toList.map fun x => (x.key, x.val) := by rw [hes]; exact List.mem_map_of_mem (f := fun e : Int × Int => (Value.int .i64 e.1, Value.int .i64 e.2)) he
          obtain ⟨x0, hx0, h3⟩ := List.mem_map.1 this
          exact f2 x0 hx0 ((congrArg Prod.fst h3).trans (by show Value.int .i64 e.1 = _; rw [hek]))
        rcases iat k m with ⟨_, q3, _⟩ | ⟨a0, e, z, q1, q2, _⟩
        · rw [q3] at hm
          simp at hm
          obtain ⟨rfl, rfl⟩ := hm
          simp [Instr.lookup, run_underlying hMT, MapKept.run_getObj_map hb, K.check W _ hkey, f1, hzr, Result.andThen]
        · exact absurd rfl (hno (k, e) (by rw [q1]; simp))
      · have hm0 : e0 ∈ es.toList := List.mem_of_getElem? f2
        have hin : (e0.key, e0.val) ∈ m.map fun e => (Value.int .i64 e.1, Value.int .i64 e.2) := by rw [← hes]; exact List.mem_map_of_mem (f := fun x : MapEntry => (x.key, x.val)) hm0
        obtain ⟨e', he', h3⟩ := List.mem_map.1 hin
        have h4 : Value.int .i64 e'.1 = e0.key := congrArg Prod.fst h3
        have h5 : Value.int .i64 e'.2 = e0.val := congrArg Prod.snd h3
        have hek : e'.1 = k := by rw [f3] at h4; simpa using h4
        rcases iat k m with ⟨q1, _⟩ | ⟨a0, e, z, q1, q2, q3, _⟩
        · exact absurd hek (q1 e' he')
        · have : e' = (k, e) := by
            rw [q1] at he' g3
            obtain ⟨_, pw2, _⟩ := List.pairwise_append.1 g3
            obtain ⟨pw4, _⟩ := List.pairwise_cons.1 pw2
            rcases List.mem_append.1 he' with he' | he'
            · exact absurd hek (q2 e' he')
            · rcases List.mem_cons.1 he' with he' | he'
              · exact he'
              · exact absurd hek.symm (pw4 e' he')
          subst this
          rw [q3] at hm
          simp at hm
          obtain ⟨rfl, rfl⟩ := hm
          simp only at h5
          simp [Instr.lookup, run_underlying hMT, MapKept.run_getObj_map hb, K.check W _ hkey, f1, ← h5, Result.andThen]
    simp [execOp, hp, hq, main]
  · cases hm
theorem Tr.mapPutI (κ : Nat) {m m' : List (Int × Int)} {k v : Int} (hw : Wn ops f ⟨none, .mapUpdate MT p q x, ty, pos, af, g⟩) (hMT : P.underlying MT = some (.map KT VT)) (hKT : P.underlying KT = some (.int .i64))
    (hp : ev f p = some (.map (some b))) (hq : ev f q = some (.int .i64 k)) (hx : ev f x = some (.int .i64 v)) (hk : E κ = mi b m) (hm' : iputO m k v = some m')
    (K : Tr w n f (up E κ (mi b m')) (wpList P ops Q rest)) : Tr w n f E (wpList P ops Q (⟨none, .mapUpdate MT p q x, ty, pos, af, g⟩ :: rest)) := by
  unfold iputO at hm'
  split at hm'
  · rename_i hr
    have hm' := (Option.some.inj hm').symm
    subst hm'
    refine Tr.op hw fun a W h1 h2 => ?_
    have hφ := h2.phi κ
    rw [hk] at hφ
    obtain ⟨g1, g2, g3⟩ := hφ
    obtain ⟨W', r1, r2, r3, r4, r5, r6, r7, r8⟩ := run_mapUpdateK (P := P) (val := .int .i64 v) hMT hKT hr g1 (fun p hp => by
      obtain ⟨e, he, rfl⟩ := List.mem_map.1 hp
      exact ⟨e.1, rfl, g2 e he⟩)
    have hrun : (execOp a.eval ⟨none, .mapUpdate MT p q x, ty, pos, af, g⟩).run P W = .ok .skip W' := by
      simp [execOp, h1.ev hp, h1.ev hq, h1.ev hx, r1]
    unfold Oper.wp
    rw [hrun]
    refine K _ W' (by exact h1) (h2.mod κ (mi b (iput m k v)) r2 r3 r4 (Nat.le_of_eq r5.symm) (by first | exact Nat.le_of_eq r6.symm | exact Nat.le_refl 0) (fun x _ hs => r7 x (fun e => hs (by rw [hk]; exact e))) (mi_loc _ _) ?_ (fun y hy => ?_))
    · rcases iat k m with ⟨q1, q2, q3⟩ | ⟨a0, e, z, q1, q2, q3, q4⟩
      · rw [q3]
        refine ⟨?_, fun e he => ?_, ?_⟩
        · rcases r8 with ⟨_, r8⟩ | ⟨j, u, r8, _⟩
          · simpa using r8
          · obtain ⟨e', he', h3⟩ := List.mem_map.1 (List.mem_of_getElem? r8)
            have : e'.1 = k := by have := congrArg Prod.fst h3; simpa using this
            exact absurd this (q1 e' he')
        · rcases List.mem_append.1 he with he | he
          · exact g2 e he
          · simp at he; subst he; exact hr
        · rw [List.pairwise_append]
          refine ⟨g3, by simp, fun e1 he1 e2 he2 => ?_⟩
          simp at he2; subst he2
          exact q1 e1 he1
      · rw [q1] at g3
        obtain ⟨pw1, pw2, pw3⟩ := List.pairwise_append.1 g3
        obtain ⟨pw4, pw5⟩ := List.pairwise_cons.1 pw2
        rw [q4]
        refine ⟨?_, fun e' he' => ?_, ?_⟩
        · rcases r8 with ⟨r8, _⟩ | ⟨j, u, r8, r9⟩
          · exact absurd rfl (r8 (Value.int .i64 k, Value.int .i64 e) (List.mem_map_of_mem (f := fun e : Int × Int => (Value.int .i64 e.1, Value.int .i64 e.2)) (a := (k, e)) (by rw [q1]; simp)))
          · have hj : j = a0.length := by
              rw [q1, List.map_append, List.map_cons] at r8
              rcases Nat.lt_trichotomy j a0.length with h | h | h
              · rw [List.getElem?_append_left (by simpa using h), List.getElem?_map] at r8
                obtain ⟨e', h3, h4⟩ := Option.map_eq_some_iff.1 r8
                have : e'.1 = k := by have := congrArg Prod.fst h4; simpa using this
                exact absurd this (q2 e' (List.mem_of_getElem? h3))
              · exact h
              · rw [List.getElem?_append_right (by simp; omega), List.length_map] at r8
                obtain ⟨i, hi⟩ : ∃ i, j - a0.length = i + 1 := ⟨j - a0.length - 1, by omega⟩
                rw [hi, List.getElem?_cons_succ, List.getElem?_map] at r8
                obtain ⟨e', h3, h4⟩ := Option.map_eq_some_iff.1 r8
                have : e'.1 = k := by have := congrArg Prod.fst h4; simpa using this
                exact absurd this.symm (pw4 e' (List.mem_of_getElem? h3))
            subst hj
            rw [q1, List.map_append, List.map_cons, List.set_append_right _ _ (by simp)] at r9
            simpa using r9
        · rcases List.mem_append.1 he' with he' | he'
          · exact g2 e' (by rw [q1]; exact List.mem_append_left _ he')
          · rcases List.mem_cons.1 he' with rfl | he'
            · exact hr
            · exact g2 e' (by rw [q1]; exact List.mem_append_right _ (List.mem_cons_of_mem _ he'))
        · rw [List.pairwise_append, List.pairwise_cons]
          refine ⟨pw1, ⟨fun e' he' => pw4 e' he', pw5⟩, fun e1 he1 e2 he2 => ?_⟩
          rcases List.mem_cons.1 he2 with rfl | he2
          · exact q2 e1 he1
          · exact pw3 e1 he1 e2 (List.mem_cons_of_mem _ he2)
    · have hy : y = b := hy
      subst hy
      have hS : (E κ).S y := by rw [hk]; rfl
      exact ⟨.inl hS, by rw [r5]; exact (h2.bd κ y hS).2⟩
  · cases hm'
end
end Go.Proofs.YtneghcpnehiffaaDoor
namespace Go.Proofs.YtneghcpnehiffaaDoor
open Go.RowKit Go.Proofs
/-- The head of a slice. -/
structure Hd where
  A : Option Addr
  n : Nat
  c : Nat
def flH : Fl Hd := Fl.flat 1 (fun h => [.slice h.A h.n h.c]) (fun _ => rfl) (fun _ u h => by
  simp at h
  subst h; rfl)
/-- A slice within: where it lies, what it holds, whether it is there. -/
structure NE (α : Type) where
  A : Option Addr
  c : Nat
  l : List α
  own : Bool
def NE.hd {α : Type} (e : NE α) : Hd := ⟨e.A, e.l.length, e.c⟩
def NE.blk {α : Type} (e : NE α) (x : Nat) : Prop := e.own = true ∧ (Value.slice e.A e.l.length e.c).ownBlock = some x
theorem own_any (A : Option Addr) (n m c d : Nat) : (Value.slice A n c).ownBlock = (Value.slice A m d).ownBlock := by cases A <;> rfl
section
variable {P : Program} {w : Bs} {n : Nat} {f : Nat → Option Value} {E : Nat → Ent} {X : Act → World → Prop} {Q : Exit → Act → World → Prop} {ops : Array Oper} {rest : List Oper}
variable {d ty T T0 T' e : Nat} {pos : String} {af : Array Edge} {g : Option (Nat × Bool)} {p q x : Operand} {α : Type} {t : Fl α} {A : Option Addr} {c b : Nat} {ms : List (NE α)} {ls : List (List α)}
/-- The slices within. -/
def ins (T' : Nat) (t : Fl α) (ms : List (NE α)) : Ent :=
  ⟨fun x => ∃ e ∈ ms, e.blk x, fun O W => (∀ e ∈ ms, SlF e.A e.l.length e.c ∧ (e.own = true → (ow e.A e.c T' t e.l).φ O W)) ∧ ms.Pairwise fun e e' => ∀ x, e.blk x → ¬ e'.blk x⟩
theorem ins_loc (T' : Nat) (t : Fl α) (ms : List (NE α)) : (ins T' t ms).loc := ⟨fun O W W' h hp => ⟨fun e he => ⟨(hp.1 e he).1, fun ho => (ow_loc e.A e.c T' t e.l).at_ O W W' (fun x hx => h x (hx.imp id fun hx => ⟨e, he, ho, hx⟩)) ((hp.1 e he).2 ho)⟩, hp.2⟩,
  fun O O' W h hp => ⟨fun e he => ⟨(hp.1 e he).1, fun ho => (ow_loc e.A e.c T' t e.l).up O O' W h ((hp.1 e he).2 ho)⟩, hp.2⟩⟩
/-- The whole. -/
def no (A : Option Addr) (n c T0 T' : Nat) (t : Fl α) (ms : List (NE α)) : Ent :=
  ⟨fun x => (Value.slice A n c).ownBlock = some x ∨ ∃ e ∈ ms, e.blk x, fun O W => n = ms.length ∧ (ow A c T0 flH (ms.map NE.hd)).φ O W ∧ (ins T' t ms).φ O W ∧ ∀ e ∈ ms, ∀ x, e.blk x → ¬ (Value.slice A n c).ownBlock = some x⟩
theorem no_loc (A : Option Addr) (n c T0 T' : Nat) (t : Fl α) (ms : List (NE α)) : (no A n c T0 T' t ms).loc := ⟨fun O W W' h hp => ⟨hp.1, (ow_loc _ _ _ _ _).at_ O W W' (fun x hx => h x (hx.imp id fun hx => .inl ((own_any _ _ _ _ _).trans hx))) hp.2.1, (ins_loc _ _ _).at_ O W W' (fun x hx => h x (hx.imp id fun hx => .inr hx)) hp.2.2.1, hp.2.2.2⟩,
  fun O O' W h hp => ⟨hp.1, (ow_loc _ _ _ _ _).up O O' W h hp.2.1, (ins_loc _ _ _).up O O' W h hp.2.2.1, hp.2.2.2⟩⟩
/-- All slices are there, with these data. -/
def NC (ms : List (NE α)) (ls : List (List α)) : Prop := ms.map (·.l) = ls ∧ ∀ e ∈ ms, e.own = true
/-- .. but one, that lies here. -/
def NH (ms : List (NE α)) (ls : List (List α)) (i : Nat) (A : Option Addr) (n c : Nat) : Prop := ms.map (·.l) = ls ∧ (∀ j e, ms[j]? = some e → j ≠ i → e.own = true) ∧ ∃ e, ms[i]? = some e ∧ e.own = false ∧ e.A = A ∧ e.l.length = n ∧ e.c = c
theorem NC.nil : NC ([] : List (NE α)) [] := ⟨rfl, fun _ h => (nomatch h)⟩
theorem NC.len (h : NC ms ls) : ls.length = ms.length := by rw [← h.1]; simp
theorem HF.noSplit {W : World} (h : HF w W E) {κ κ' n0 : Nat} (hk : E κ = no A n0 c T0 T' t ms) (hne : κ' ≠ κ) : HF w W (up (up E κ (Proofs.YtneghcpnehiffaaDoor.ow A c T0 flH (ms.map NE.hd))) κ' (ins T' t ms)) := by
  have hφ := h.phi κ
  rw [hk] at hφ
  obtain ⟨h1, h2, h3, h4⟩ := hφ
  refine h.split hne (ow_loc _ _ _ _ _) (ins_loc _ _ _) h2 h3 (fun x hx => ?_) (fun x hx => ?_) (fun x hx hy => ?_)
  · rw [hk]; exact .inl ((own_any _ _ _ _ _).trans hx)
  · rw [hk]; exact .inr hx
  · obtain ⟨e, he, hx'⟩ := hy
    exact h4 e he x hx' ((own_any _ _ _ _ _).trans hx)
theorem HF.noMerge {W : World} (h : HF w W E) {κ κ' n0 : Nat} (hk : E κ = Proofs.YtneghcpnehiffaaDoor.ow A c T0 flH (ms.map NE.hd)) (hk' : E κ' = ins T' t ms) (hne : κ' ≠ κ) (hn : n0 = ms.length) : HF w W (up (up E κ' emp) κ (no A n0 c T0 T' t ms)) := by
  have h1 := h.phi κ
  rw [hk] at h1
  have h2 := h.phi κ'
  rw [hk'] at h2
  refine h.merge (no A n0 c T0 T' t ms) hne rfl rfl rfl (Nat.le_refl _) (Nat.le_refl _) (fun _ _ _ => rfl) (no_loc _ _ _ _ _ _ _) ⟨hn, h1, h2, fun e he x hx hy => ?_⟩ (fun x hx => ?_)
  · exact h.disj κ κ' x (fun e => hne e.symm) (by rw [hk]; exact (own_any _ _ _ _ _).trans hy) (by rw [hk']; exact ⟨e, he, hx⟩)
  · rcases hx with hx | hx
    · exact .inl (by rw [hk]; exact (own_any _ _ _ _ _).trans hx)
    · exact .inr (by rw [hk']; exact hx)
/-- A slice comes into its place. -/
theorem HF.insPut {W : World} (h : HF w W E) {κ κ' i c' : Nat} {A' : Option Addr} {l' : List α} {e0 : NE α} (hk : E κ = ins T' t ms) (hk' : E κ' = Proofs.YtneghcpnehiffaaDoor.ow A' c' T' t l') (hne : κ' ≠ κ) (he : ms[i]? = some e0) (hf : SlF A' l'.length c') : HF w W (up (up E κ' emp) κ (ins T' t (ms.set i ⟨A', c', l', true⟩))) := by
  have h1 := h.phi κ
  rw [hk] at h1
  have h2 := h.phi κ'
  rw [hk'] at h2
  obtain ⟨h1, h3⟩ := h1
  have hi : i < ms.length := (List.getElem?_eq_some_iff.1 he).1
  have hmem : ∀ e ∈ ms.set i ⟨A', c', l', true⟩, e = ⟨A', c', l', true⟩ ∨ e ∈ ms := fun e he => by
    obtain ⟨j, hj⟩ := List.getElem?_of_mem he
    by_cases hij : i = j
    · subst hij
      rw [List.getElem?_set_self hi] at hj
      exact .inl (Option.some.inj hj).symm
    · rw [List.getElem?_set_ne hij] at hj
      exact .inr (List.mem_of_getElem? hj)
  have hd : ∀ e ∈ ms, ∀ x, e.blk x → ¬ (⟨A', c', l', true⟩ : NE α).blk x := fun e he x hx hy => h.disj κ κ' x (fun e => hne e.symm) (by rw [hk]; exact ⟨e, he, hx⟩) (by rw [hk']; exact hy.2)
  refine h.merge (ins T' t (ms.set i ⟨A', c', l', true⟩)) hne rfl rfl rfl (Nat.le_refl _) (Nat.le_refl _) (fun _ _ _ => rfl) (ins_loc _ _ _) ⟨fun e he => ?_, ?_⟩ (fun x hx => ?_)
  · rcases hmem e he with rfl | he
    · exact ⟨hf, fun _ => h2⟩
    · exact h1 e he
  · have hms : ms.set i ⟨A', c', l', true⟩ = ms.take i ++ ⟨A', c', l', true⟩ :: ms.drop (i + 1) := List.set_eq_take_append_cons_drop.trans (if_pos hi)
    have hms2 : ms = ms.take i ++ e0 :: ms.drop (i + 1) := by
      have := List.take_append_drop i ms
      rw [List.drop_eq_getElem_cons hi] at this
      have h4 : ms[i] = e0 := (List.getElem?_eq_some_iff.1 he).2
      rw [h4] at this; exact this.symm
    rw [hms2] at h3
    obtain ⟨p1, p2, p3⟩ := List.pairwise_append.1 h3
    obtain ⟨p4, p5⟩ := List.pairwise_cons.1 p2
    rw [hms, List.pairwise_append, List.pairwise_cons]
    refine ⟨p1, ⟨fun e' he' x hx hy => hd e' (List.mem_of_mem_drop he') x hy hx, p5⟩, fun e1 he1 e2 he2 => ?_⟩
    rcases List.mem_cons.1 he2 with rfl | he2
    · exact fun x hx => hd e1 (List.mem_of_mem_take he1) x hx
    · exact p3 e1 he1 e2 (List.mem_cons_of_mem _ he2)
  · obtain ⟨e, he, hx⟩ := hx
    rcases hmem e he with rfl | he
    · right; rw [hk']; exact hx.2
    · left; rw [hk]; exact ⟨e, he, hx⟩
theorem Tr.nestNil (κ T0 T' : Nat) (t : Fl α) (K : Tr w n f (up E κ (no none 0 0 T0 T' t [])) X) : Tr w n f E X :=
  fun a W h1 h2 => K a W h1 (h2.mod κ _ rfl rfl rfl (Nat.le_refl _) (Nat.le_refl _) (fun _ _ _ => rfl) (no_loc _ _ _ _ _ _ _)
    ⟨rfl, ⟨[], .nil, by simp, .inl ⟨rfl, rfl⟩⟩, ⟨fun _ h => (nomatch h), .nil⟩, fun _ h => (nomatch h)⟩ (fun b hb => by
      rcases hb with hb | ⟨e, he, _⟩
      · cases hb
      · cases he))
theorem up_up {κ κ' : Nat} {e0 e1 e2 : Ent} (hk' : E κ' = emp) (hne : κ' ≠ κ) {E3 : Nat → Ent} (h3 : ∀ j, j ≠ κ → j ≠ κ' → E3 j = E j) : ∀ k, up E κ e0 k = up (up E3 κ' emp) κ e0 k ∨ up E κ e0 k = emp := by
  intro k
  rcases up_cases E κ e0 k with ⟨a1, a2⟩ | ⟨a1, a2⟩
  · subst a1
    exact .inl (by rw [a2, up_same])
  · rcases up_cases E3 κ' emp k with ⟨b1, b2⟩ | ⟨b1, b2⟩
    · subst b1
      exact .inr (by rw [a2, hk'])
    · exact .inl (by rw [a2, up_ne a1, b2, h3 k a1 b1])
/-- An empty slice more. -/
theorem Tr.nestPush (κ κ' κb : Nat) {i : Nat} {ls' : List (List α)} (hκ : E κ' = emp) (hne : Nat.beq κ' κ = false) (hnb : Nat.beq κb κ = false) (hnb' : Nat.beq κb κ' = false) (hw : Wn ops f ⟨some d, .call ⟨.builtin .append, #[p, q], #[T, T]⟩, ty, pos, af, g⟩) (hdn : Nat.blt d n = true)
    (hp : ev f p = some (.slice A ls.length c)) (hk : E κ = no A ls.length c e T' t ms) (hm : NC ms ls) (hq : ev f q = some (.slice (some ⟨b, 0, none⟩) 1 1)) (hb : E κb = bx b #[.slice none 0 0] e)
    (hu : P.underlying T = some (.slice e)) (hs : szOf P e = some 1) (hz : (zeroOf P e).map List.length = some 1) (hby : (P.info? e).map (·.bytes) = some i) (hi : Nat.ble i 32768 = true) (hap : apd ls [[]] = some ls')
    (K : ∀ A' c' ms', NC ms' ls' → SlF A' ls'.length c' → Tr w n (uf f d (.slice A' ls'.length c')) (up E κ (no A' ls'.length c' e T' t ms')) (wpList P ops Q rest)) :
    Tr w n f E (wpList P ops Q (⟨some d, .call ⟨.builtin .append, #[p, q], #[T, T]⟩, ty, pos, af, g⟩ :: rest)) := by
  have hne : κ' ≠ κ := fun e => by subst e; simp at hne
  have hnb : κb ≠ κ := fun e => by subst e; simp at hnb
  have hnb' : κb ≠ κ' := fun e => by subst e; simp at hnb'
  obtain ⟨ha1, ha2⟩ := apd_some hap
  subst ha2
  have hlen := hm.len
  have hml : (ms.map NE.hd).length = ls.length := by simp [hlen]
  intro a W h1 h2
  have h3 := h2.noSplit hk hne
  refine Tr.append (P := P) (E := up (up E κ (ow A c e flH (ms.map NE.hd))) κ' (ins T' t ms)) κ (t := flH) (l := ms.map NE.hd) (l2 := [⟨none, 0, 0⟩]) (l' := ms.map NE.hd ++ [⟨none, 0, 0⟩]) (b := b) (o := 0) (c2 := 1) hw hdn (by rw [hml]; exact hp) (by rw [up_ne (fun e => hne e.symm), up_same]) hq (fun W' hW => ?_) hu hs hz (by decide) hby hi ?_ (fun A' c' hf => ?_) a W h1 h3
  · refine ⟨[[.slice none 0 0]], .cons ⟨(), trivial, rfl⟩ .nil, ?_⟩
    exact rdb (k := κb) (vs := [.slice none 0 0]) (T := e) hW (by rw [up_ne hnb', up_ne hnb, hb]) 0
  · unfold apd
    rw [if_pos (by simp only [List.length_map, List.length_cons, List.length_nil] at *; omega)]
  · intro a2 W2 f1 f2
    have hl2 : (ms.map NE.hd ++ [(⟨none, 0, 0⟩ : Hd)]).length = (ls ++ [[]]).length := by simp [hlen]
    rw [hl2] at hf f1
    have hmap : (ms ++ [(⟨none, 0, [], true⟩ : NE α)]).map NE.hd = ms.map NE.hd ++ [⟨none, 0, 0⟩] := by simp [NE.hd]
    have f3 : HF w W2 (up (up (up (up E κ (ow A c e flH (ms.map NE.hd))) κ' (ins T' t ms)) κ (ow A' c' e flH ((ms ++ [(⟨none, 0, [], true⟩ : NE α)]).map NE.hd))) κ' (ins T' t (ms ++ [(⟨none, 0, [], true⟩ : NE α)]))) := by
      rw [hmap]
      refine f2.mod κ' _ rfl rfl rfl (Nat.le_refl _) (Nat.le_refl _) (fun _ _ _ => rfl) (ins_loc _ _ _) ?_ (fun y hy => ?_)
      · have hφ := f2.phi κ'
        rw [up_ne hne, up_same] at hφ
        obtain ⟨g1, g2⟩ := hφ
        refine ⟨fun e' he' => ?_, ?_⟩
        · rcases List.mem_append.1 he' with he' | he'
          · exact g1 e' he'
          · simp at he'; subst he'
            exact ⟨slf_nil, fun _ => ⟨[], .nil, by simp, .inl ⟨rfl, rfl⟩⟩⟩
        · rw [List.pairwise_append]
          refine ⟨g2, by simp, fun e1 he1 e2 he2 => ?_⟩
          simp at he2; subst he2
          intro x _ hx
          exact absurd hx.2 (by simp [Value.ownBlock])
      · obtain ⟨e', he', hx⟩ := hy
        have hin : (up (up (up E κ (ow A c e flH (ms.map NE.hd))) κ' (ins T' t ms)) κ (ow A' c' e flH (ms.map NE.hd ++ [⟨none, 0, 0⟩])) κ').S y := by
          rw [up_ne hne, up_same]
          rcases List.mem_append.1 he' with he' | he'
          · exact ⟨e', he', hx⟩
          · simp at he'; subst he'
            exact absurd hx.2 (by simp [Value.ownBlock])
        exact ⟨.inl hin, (f2.bd κ' y hin).2⟩
    have f4 := f3.noMerge (n0 := (ls ++ [[]]).length) (by rw [up_ne (fun e => hne e.symm), up_same]) (up_same _ _ _) hne (by simp [hlen])
    refine K A' c' (ms ++ [⟨none, 0, [], true⟩]) ⟨by simp [hm.1], fun e' he' => ?_⟩ hf a2 W2 f1 (f4.weaken (up_up (e1 := emp) (e2 := emp) hκ hne fun j hj hj' => ?_))
    · rcases List.mem_append.1 he' with he' | he'
      · exact hm.2 e' he'
      · simp at he'; subst he'; rfl
    · rw [up_ne hj', up_ne hj, up_ne hj', up_ne hj]
theorem map_set_same {β γ : Type} {g : β → γ} {l : List β} {j : Nat} {e x : β} (h : l[j]? = some e) (hg : g x = g e) : (l.set j x).map g = l.map g := by
  apply List.ext_getElem?
  intro k
  rw [List.getElem?_map, List.getElem?_map]
  by_cases hk : j = k
  · subst hk
    rw [List.getElem?_set_self (List.getElem?_eq_some_iff.1 h).1, h, Option.map_some, Option.map_some, hg]
  · rw [List.getElem?_set_ne hk]
/-- A slice is taken out. -/
theorem Tr.nestTake (κ κ' : Nat) {i : Int} {l : List α} (hk : E κ = no A ls.length c T0 T' t ms) (hne : Nat.beq κ' κ = false) (hm : NC ms ls) (hl : idx ls i = some l)
    (K : ∀ ms' A1 c1, NH ms' ls i.toNat A1 l.length c1 → SlF A1 l.length c1 → Tr w n f (up (up E κ (no A ls.length c T0 T' t ms')) κ' (ow A1 c1 T' t l)) X) : Tr w n f E X := by
  intro a W h1 h2
  have hne : κ' ≠ κ := fun e => by subst e; simp at hne
  obtain ⟨hm1, hm2⟩ := hm
  obtain ⟨hi0, hi1, hi2⟩ := idx_some hl
  have hlen : ls.length = ms.length := by rw [← hm1]; simp
  have hφ := h2.phi κ
  rw [hk] at hφ
  obtain ⟨g1, g2, ⟨g3, g4⟩, g5⟩ := hφ
  generalize hj : i.toNat = j at *
  rw [← hm1, List.getElem?_map] at hi2
  obtain ⟨e0, he0, rfl⟩ := Option.map_eq_some_iff.1 hi2
  have hjm : j < ms.length := by omega
  have he0m := List.mem_of_getElem? he0
  have ho := hm2 e0 he0m
  have hset : ms.set j { e0 with own := false } = ms.take j ++ { e0 with own := false } :: ms.drop (j + 1) := List.set_eq_take_append_cons_drop.trans (if_pos hjm)
  have hms2 : ms = ms.take j ++ e0 :: ms.drop (j + 1) := by
    have := List.take_append_drop j ms
    rw [List.drop_eq_getElem_cons hjm] at this
    have h4 : ms[j] = e0 := (List.getElem?_eq_some_iff.1 he0).2
    rw [h4] at this; exact this.symm
  have hmem : ∀ e ∈ ms.set j { e0 with own := false }, e = { e0 with own := false } ∨ e ∈ ms.take j ∨ e ∈ ms.drop (j + 1) := fun e he => by
    rw [hset] at he
    rcases List.mem_append.1 he with he | he
    · exact .inr (.inl he)
    · rcases List.mem_cons.1 he with rfl | he
      · exact .inl rfl
      · exact .inr (.inr he)
  have hmem2 : ∀ e, (e ∈ ms.take j ∨ e ∈ ms.drop (j + 1)) → e ∈ ms := fun e he => he.elim List.mem_of_mem_take List.mem_of_mem_drop
  have hnb : ∀ x, ¬ ({ e0 with own := false } : NE α).blk x := fun x hx => by cases hx.1
  have hmap : (ms.set j { e0 with own := false }).map NE.hd = ms.map NE.hd := map_set_same he0 rfl
  have hmapl : (ms.set j { e0 with own := false }).map (·.l) = ms.map (·.l) := map_set_same he0 rfl
  have g4' := g4
  rw [hms2] at g4'
  obtain ⟨p1, p2, p3⟩ := List.pairwise_append.1 g4'
  obtain ⟨p4, p5⟩ := List.pairwise_cons.1 p2
  refine K (ms.set j { e0 with own := false }) e0.A e0.c ⟨by rw [hmapl, hm1], fun k e' hk' hkj => ?_, ⟨{ e0 with own := false }, List.getElem?_set_self hjm, rfl, rfl, rfl, rfl⟩⟩ (g3 e0 he0m).1 a W h1 (h2.split hne (no_loc _ _ _ _ _ _ _) (ow_loc _ _ _ _ _) ⟨by rw [g1, List.length_set], by rw [hmap]; exact g2, ⟨fun e' he' => ?_, ?_⟩, fun e' he' x hx => ?_⟩ ((g3 e0 he0m).2 ho) (fun x hx => ?_) (fun x hx => ?_) (fun x hx hy => ?_))
  · rw [List.getElem?_set_ne (fun e => hkj e.symm)] at hk'
    exact hm2 e' (List.mem_of_getElem? hk')
  · rcases hmem e' he' with rfl | he'
    · exact ⟨(g3 e0 he0m).1, fun h => by cases h⟩
    · exact g3 e' (hmem2 e' he')
  · rw [hset, List.pairwise_append, List.pairwise_cons]
    refine ⟨p1, ⟨fun e' he' x hx => absurd hx (hnb x), p5⟩, fun e1 he1 e2 he2 => ?_⟩
    rcases List.mem_cons.1 he2 with rfl | he2
    · exact fun x _ => hnb x
    · exact p3 e1 he1 e2 (List.mem_cons_of_mem _ he2)
  · rcases hmem e' he' with rfl | he'
    · exact absurd hx (hnb x)
    · exact g5 e' (hmem2 e' he') x hx
  · rw [hk]
    rcases hx with hx | ⟨e', he', hx⟩
    · exact .inl hx
    · rcases hmem e' he' with rfl | he'
      · exact absurd hx (hnb x)
      · exact .inr ⟨e', hmem2 e' he', hx⟩
  · rw [hk]
    exact .inr ⟨e0, he0m, ho, hx⟩
  · have hy : e0.blk x := ⟨ho, hy⟩
    rcases hx with hx | ⟨e', he', hx⟩
    · exact g5 e0 he0m x hy hx
    · rcases hmem e' he' with rfl | he'
      · exact hnb x hx
      · rcases he' with he' | he'
        · exact p3 e' he' e0 List.mem_cons_self x hx hy
        · exact p4 e' he' x hy hx
/-- The head of the one that was taken. -/
theorem run_loadNest {ρ : Operand → Value} {W : World} {dd : Option Nat} {i n1 c1 o : Nat} {A1 : Option Addr} (ha : aggOf P T = some false) (hp : ρ p = .pointer (some ⟨adB A, o, none⟩)) (ho : o = adO A + i * 1) (h2 : HF w W E) {κ : Nat} {n0 : Nat} (hk : E κ = no A n0 c T0 T' t ms) (hm : NH ms ls i A1 n1 c1) :
    (execOp ρ ⟨dd, .load T p, ty, pos, af, g⟩).run P W = .ok (.value (.slice A1 n1 c1)) W := by
  obtain ⟨m1, m2, e0, m3, m4, m5, m6, m7⟩ := hm
  have hφ := h2.phi κ
  rw [hk] at hφ
  obtain ⟨g1, ⟨css, g2, g2'⟩, _⟩ := hφ
  have hsl := owns_sl g2 g2'
  obtain ⟨_, u, _, hc⟩ := hsl.cells i e0.hd (by rw [List.getElem?_map, m3]; rfl)
  subst ho
  refine run_load1 ha hp hc ?_
  show some (Value.slice e0.A e0.l.length e0.c) = _
  rw [m5, m6, m7]
/-- A slice is put back. -/
theorem Tr.nestPut (κ κ' κ'' : Nat) {i : Int} {A1 A' : Option Addr} {n1 c1 c' o : Nat} {l' : List α} {ls' : List (List α)} (hκ : E κ'' = emp) (hne : Nat.beq κ' κ = false) (hne' : Nat.beq κ'' κ = false) (hne'' : Nat.beq κ'' κ' = false) (hw : Wn ops f ⟨none, .store T p q, ty, pos, af, g⟩)
    (hp : ev f p = some (.pointer (some ⟨adB A, o, none⟩))) (ho : o = adO A + i.toNat * 1) (hq : ev f q = some (.slice A' l'.length c')) (hk : E κ = no A ls.length c T0 T' t ms) (hk' : E κ' = ow A' c' T' t l') (hm : NH ms ls i.toNat A1 n1 c1) (hf : SlF A' l'.length c') (hs : szOf P T = some 1) (hset : sets ls i l' = some ls')
    (K : ∀ ms', NC ms' ls' → Tr w n f (up (up E κ' emp) κ (no A ls'.length c T0 T' t ms')) (wpList P ops Q rest)) : Tr w n f E (wpList P ops Q (⟨none, .store T p q, ty, pos, af, g⟩ :: rest)) := by
  have hne : κ' ≠ κ := fun e => by subst e; simp at hne
  have hne' : κ'' ≠ κ := fun e => by subst e; simp at hne'
  have hne'' : κ'' ≠ κ' := fun e => by subst e; simp at hne''
  obtain ⟨m1, m2, e0, m3, m4, m5, m6, m7⟩ := hm
  have hlen : ls.length = ms.length := by rw [← m1]; simp
  have hil : i.toNat < ms.length := (List.getElem?_eq_some_iff.1 m3).1
  have hi0 : 0 ≤ i := by
    unfold sets at hset
    split at hset
    · rename_i h; exact h.1
    · cases hset
  have hls' := sets_some hset
  have hlen' := sets_len hset
  intro a W h1 h2
  have h3 := h2.noSplit (κ' := κ'') hk hne'
  refine Tr.storeEl (P := P) (E := up (up E κ (ow A c T0 flH (ms.map NE.hd))) κ'' (ins T' t ms)) κ (t := flH) (l := ms.map NE.hd) (l' := (ms.map NE.hd).set i.toNat ⟨A', l'.length, c'⟩) (i := i) (fo := 0) (x := e0.hd) (⟨A', l'.length, c'⟩ : Hd) (cs := [.slice A' l'.length c']) (v := .slice A' l'.length c') hw hp hq rfl (by rw [ho]; rfl) (by rw [up_ne (fun e => hne' e.symm), up_same]) (by rw [List.getElem?_map, m3]; rfl) hs rfl (fun u _ => ⟨(), trivial, rfl⟩) rfl ?_ ?_ a W h1 h3
  · unfold sets
    rw [if_pos ⟨hi0, by simp; omega⟩]
  · intro a2 W2 f1 f2
    have hmap : (ms.set i.toNat (⟨A', c', l', true⟩ : NE α)).map NE.hd = (ms.map NE.hd).set i.toNat ⟨A', l'.length, c'⟩ := by rw [List.map_set]; rfl
    have f3 := f2.insPut (κ := κ'') (κ' := κ') (i := i.toNat) (e0 := e0) (A' := A') (c' := c') (l' := l') (by rw [up_ne hne', up_same]) (by rw [up_ne hne, up_ne (fun e => hne'' e.symm), up_ne hne, hk']) (fun e => hne'' e.symm) m3 hf
    have f4 := f3.noMerge (κ := κ) (κ' := κ'') (A := A) (c := c) (T0 := T0) (n0 := ls'.length) (by rw [up_ne (fun e => hne' e.symm), up_ne (fun e => hne e.symm), up_same, hmap]) (up_same _ _ _) hne' (by rw [List.length_set]; omega)
    refine K (ms.set i.toNat ⟨A', c', l', true⟩) ⟨by rw [List.map_set, m1, ← hls'], fun e' he' => ?_⟩ a2 W2 f1 (f4.weaken fun k => ?_)
    · obtain ⟨j, hj⟩ := List.getElem?_of_mem he'
      by_cases hij : i.toNat = j
      · rw [← hij, List.getElem?_set_self hil] at hj
        rw [← Option.some.inj hj]
      · rw [List.getElem?_set_ne hij] at hj
        exact m2 j e' hj (fun e => hij e.symm)
    · by_cases k1 : k = κ
      · subst k1; exact .inl (by rw [up_same, up_same])
      · by_cases k2 : k = κ'
        · subst k2; exact .inr (by rw [up_ne k1, up_same])
        · by_cases k3 : k = κ''
          · subst k3; exact .inr (by rw [up_ne k1, up_ne k2, hκ])
          · exact .inl (by rw [up_ne k1, up_ne k2, up_ne k1, up_ne k3, up_ne k3, up_ne k2, up_ne k1, up_ne k3, up_ne k1])
/-- All are written no more. -/
theorem Tr.nestFreeze (κ : Nat) (tl : Fl (List α)) (hk : E κ = no A ls.length c T0 T' t ms) (hm : NC ms ls) (hsz : tl.sz = 1) (htl : ∀ (A : Option Addr) (c : Nat) (l : List α), ∃ u, tl.enc u l = [.slice A l.length c] ∧ ∀ S W, Sl S W t A c l → tl.ok S W u l)
    (K : ∀ w', w.Le w' → Sl w'.O w'.W tl A c ls → Tr w' n f (up E κ emp) X) : Tr w n f E X := by
  intro a W h1 h2
  refine K (h2.raise κ) (h2.raise_le κ) ?_ a W h1 (h2.raised κ)
  obtain ⟨hm1, hm2⟩ := hm
  have hφ := h2.phi κ
  rw [hk] at hφ
  obtain ⟨g1, ⟨css, g2, g2'⟩, ⟨g3, _⟩, _⟩ := hφ
  have hsl := owns_sl g2 g2'
  have hform := hsl.form
  have hl2 : (ms.map NE.hd).length = ls.length := by rw [← hm1]; simp
  rw [hl2] at hform
  refine ⟨hform, fun i x hx => ?_⟩
  rw [← hm1, List.getElem?_map] at hx
  obtain ⟨e0, he0, rfl⟩ := Option.map_eq_some_iff.1 hx
  have hem := List.mem_of_getElem? he0
  obtain ⟨s1, u, s2, s3⟩ := hsl.cells i e0.hd (by rw [List.getElem?_map, he0]; rfl)
  obtain ⟨u', q1, q2⟩ := htl e0.A e0.c e0.l
  obtain ⟨css', r1, r2⟩ := (g3 e0 hem).2 (hm2 e0 hem)
  have hin := owns_sl r1 r2
  refine ⟨?_, u', q2 _ _ (hin.mono fun y hy => ?_), ?_⟩
  · rcases s1 with s1 | s1
    · exact .inl s1
    · exact .inr (by rw [hk]; exact .inl ((own_any _ _ _ _ _).trans s1))
  · rcases hy with hy | hy
    · exact .inl hy
    · exact .inr (by rw [hk]; exact .inr ⟨e0, hem, hm2 e0 hem, hy⟩)
  · rw [q1, hsz]; exact s3
end
end Go.Proofs.YtneghcpnehiffaaDoor
namespace Go.Proofs.YtneghcpnehiffaaDoor
open Go.RowKit
theorem St.own {P : Program} {w : Bs} {n : Nat} {f : Nat → Option Value} {E : Nat → Ent} {l : List Oper} {m : Nat} {t : Tn} {Q : Exit → Act → World → Prop} {fu : Nat} {listed : Array Bool} {α : Type} {i : Nat} (κ : Nat) {b T : Nat} {vs : List Value} (t' : Fl α) (ll : List α) {css : List (List Value)} (hk : E κ = bx b vs.toArray T) (hal : Al (rp t' w.O w.W) css ll) (hl : css.flatten = vs) (hsz : 0 < t'.sz) (hm : ll.length ≤ maxLen)
    (K : St P w n l m t Q fu listed f (up E κ (ow (some ⟨b, 0, none⟩) ll.length T t' ll)) i) : St P w n l m t Q fu listed f E i :=
  fun inv => Tr.own κ t' ll hk hal hl hsz hm (K inv)
theorem Dr.own {P : Program} {w : Bs} {n : Nat} {f : Nat → Option Value} {E : Nat → Ent} {l : List Oper} {m : Nat} {t : Tn} {Q : Exit → Act → World → Prop} {fu : Nat} {listed : Array Bool} {α : Type} (κ : Nat) {b T : Nat} {vs : List Value} (t' : Fl α) (ll : List α) {css : List (List Value)} (hk : E κ = bx b vs.toArray T) (hal : Al (rp t' w.O w.W) css ll) (hl : css.flatten = vs) (hsz : 0 < t'.sz) (hm : ll.length ≤ maxLen)
    (K : Dr P w n l m t Q fu listed f (up E κ (ow (some ⟨b, 0, none⟩) ll.length T t' ll))) : Dr P w n l m t Q fu listed f E :=
  fun inv => Tr.own κ t' ll hk hal hl hsz hm (K inv)
end Go.Proofs.YtneghcpnehiffaaDoor
namespace Go.Proofs.YtneghcpnehiffaaDoor
open Go.RowKit Go.Proofs
/-- How a slice lies within an element. -/
structure Lens {α β : Type} (t : Fl α) (ti : Fl β) where
  get : α → List β
  ga : t.Ad → Option Addr × Nat
  okR : (Nat → Prop) → World → t.Ad → α → Prop
  ok : ∀ S W u x, okR S W u x → Sl S W ti (ga u).1 (ga u).2 (get x) → t.ok S W u x
  locR : ∀ {S S' : Nat → Prop} {W W' : World} {u : t.Ad} {x : α}, okR S W u x → (∀ b, S b → S' b) → (∀ b, S b → W'.heap[b]? = W.heap[b]?) → okR S' W' u x
section
variable {α β : Type} {t : Fl α} {ti : Fl β}
/-- An element: where its slices lie, what it is, whether its inner slice is there. -/
structure DE (t : Fl α) where
  u : t.Ad
  x : α
  own : Bool
def ne (L : Lens t ti) (d : DE t) : NE β := ⟨(L.ga d.u).1, (L.ga d.u).2, L.get d.x, d.own⟩
def flU (L : Lens t ti) : Fl (DE t) where
  Ad := Unit
  sz := t.sz
  enc _ d := t.enc d.u d.x
  ok S W _ d := L.okR S W d.u d.x
  len _ d := t.len d.u d.x
  one _ d := t.one d.u d.x
  loc h hs hb := L.locR h hs hb
/-- The whole. -/
def dq (A : Option Addr) (n c T T' : Nat) (L : Lens t ti) (ms : List (DE t)) : Ent :=
  ⟨fun x => (Value.slice A n c).ownBlock = some x ∨ ∃ e ∈ ms.map (ne L), e.blk x, fun O W => n = ms.length ∧ (ow A c T (flU L) ms).φ O W ∧ (ins T' ti (ms.map (ne L))).φ O W ∧ ∀ e ∈ ms.map (ne L), ∀ x, e.blk x → ¬ (Value.slice A n c).ownBlock = some x⟩
theorem dq_loc (A : Option Addr) (n c T T' : Nat) (L : Lens t ti) (ms : List (DE t)) : (dq A n c T T' L ms).loc := ⟨fun O W W' h hp => ⟨hp.1, (ow_loc _ _ _ _ _).at_ O W W' (fun x hx => h x (hx.imp id fun hx => .inl ((own_any _ _ _ _ _).trans hx))) hp.2.1, (ins_loc _ _ _).at_ O W W' (fun x hx => h x (hx.imp id fun hx => .inr hx)) hp.2.2.1, hp.2.2.2⟩,
  fun O O' W h hp => ⟨hp.1, (ow_loc _ _ _ _ _).up O O' W h hp.2.1, (ins_loc _ _ _).up O O' W h hp.2.2.1, hp.2.2.2⟩⟩
/-- All inner slices are there, and these are the elements. -/
def DC (ms : List (DE t)) (l : List α) : Prop := ms.map (·.x) = l ∧ ∀ d ∈ ms, d.own = true
/-- .. but the one at a place, that lies here. -/
def DH (L : Lens t ti) (ms : List (DE t)) (l : List α) (i : Nat) (A : Option Addr) (c : Nat) : Prop := ms.map (·.x) = l ∧ (∀ j d, ms[j]? = some d → j ≠ i → d.own = true) ∧ ∃ d, ms[i]? = some d ∧ d.own = false ∧ L.ga d.u = (A, c)
end
section
variable {P : Program} {w : Bs} {n : Nat} {f : Nat → Option Value} {E : Nat → Ent} {X : Act → World → Prop} {Q : Exit → Act → World → Prop} {ops : Array Oper} {rest : List Oper}
variable {d ty T T0 T' e : Nat} {pos : String} {af : Array Edge} {g : Option (Nat × Bool)} {p q : Operand} {α β : Type} {t : Fl α} {ti : Fl β} {L : Lens t ti} {A : Option Addr} {c b : Nat} {ms : List (DE t)} {ls : List α}
theorem DC.nil : DC ([] : List (DE t)) [] := ⟨rfl, fun _ h => (nomatch h)⟩
theorem DC.len (h : DC ms ls) : ls.length = ms.length := by rw [← h.1]; simp
theorem HF.dqSplit {W : World} (h : HF w W E) {κ κ' n0 : Nat} (hk : E κ = dq A n0 c T0 T' L ms) (hne : κ' ≠ κ) : HF w W (up (up E κ (Proofs.YtneghcpnehiffaaDoor.ow A c T0 (flU L) ms)) κ' (ins T' ti (ms.map (Proofs.YtneghcpnehiffaaDoor.ne L)))) := by
  have hφ := h.phi κ
  rw [hk] at hφ
  obtain ⟨h1, h2, h3, h4⟩ := hφ
  refine h.split hne (ow_loc _ _ _ _ _) (ins_loc _ _ _) h2 h3 (fun x hx => ?_) (fun x hx => ?_) (fun x hx hy => ?_)
  · rw [hk]; exact .inl ((own_any _ _ _ _ _).trans hx)
  · rw [hk]; exact .inr hx
  · obtain ⟨e, he, hx'⟩ := hy
    exact h4 e he x hx' ((own_any _ _ _ _ _).trans hx)
theorem HF.dqMerge {W : World} (h : HF w W E) {κ κ' n0 : Nat} (hk : E κ = Proofs.YtneghcpnehiffaaDoor.ow A c T0 (flU L) ms) (hk' : E κ' = ins T' ti (ms.map (Proofs.YtneghcpnehiffaaDoor.ne L))) (hne : κ' ≠ κ) (hn : n0 = ms.length) : HF w W (up (up E κ' emp) κ (dq A n0 c T0 T' L ms)) := by
  have h1 := h.phi κ
  rw [hk] at h1
  have h2 := h.phi κ'
  rw [hk'] at h2
  refine h.merge (dq A n0 c T0 T' L ms) hne rfl rfl rfl (Nat.le_refl _) (Nat.le_refl _) (fun _ _ _ => rfl) (dq_loc _ _ _ _ _ _ _) ⟨hn, h1, h2, fun e he x hx hy => ?_⟩ (fun x hx => ?_)
  · exact h.disj κ κ' x (fun e => hne e.symm) (by rw [hk]; exact (own_any _ _ _ _ _).trans hy) (by rw [hk']; exact ⟨e, he, hx⟩)
  · rcases hx with hx | hx
    · exact .inl (by rw [hk]; exact (own_any _ _ _ _ _).trans hx)
    · exact .inr (by rw [hk']; exact hx)
theorem Tr.dqNil (κ T0 T' : Nat) (L : Lens t ti) (K : Tr w n f (up E κ (dq none 0 0 T0 T' L [])) X) : Tr w n f E X :=
  fun a W h1 h2 => K a W h1 (h2.mod κ _ rfl rfl rfl (Nat.le_refl _) (Nat.le_refl _) (fun _ _ _ => rfl) (dq_loc _ _ _ _ _ _ _)
    ⟨rfl, ⟨[], .nil, by simp, .inl ⟨rfl, rfl⟩⟩, ⟨fun _ h => (nomatch h), .nil⟩, fun _ h => (nomatch h)⟩ (fun b hb => by
      rcases hb with hb | ⟨e, he, _⟩
      · cases hb
      · cases he))
/-- Two sets of inner slices become one. -/
theorem HF.insJoin {W : World} (h : HF w W E) {κ κ' : Nat} {m1 m2 : List (NE β)} (hk : E κ = ins T' ti m1) (hk' : E κ' = ins T' ti m2) (hne : κ' ≠ κ) : HF w W (up (up E κ' emp) κ (ins T' ti (m1 ++ m2))) := by
  have h1 := h.phi κ
  rw [hk] at h1
  have h2 := h.phi κ'
  rw [hk'] at h2
  refine h.merge (ins T' ti (m1 ++ m2)) hne rfl rfl rfl (Nat.le_refl _) (Nat.le_refl _) (fun _ _ _ => rfl) (ins_loc _ _ _) ⟨fun e he => ?_, ?_⟩ (fun x hx => ?_)
  · rcases List.mem_append.1 he with he | he
    · exact h1.1 e he
    · exact h2.1 e he
  · rw [List.pairwise_append]
    exact ⟨h1.2, h2.2, fun e1 he1 e2 he2 x hx hy => h.disj κ κ' x (fun e => hne e.symm) (by rw [hk]; exact ⟨e1, he1, hx⟩) (by rw [hk']; exact ⟨e2, he2, hy⟩)⟩
  · obtain ⟨e, he, hx⟩ := hx
    rcases List.mem_append.1 he with he | he
    · exact .inl (by rw [hk]; exact ⟨e, he, hx⟩)
    · exact .inr (by rw [hk']; exact ⟨e, he, hx⟩)
/-- A slice of the call's own as a set of one. -/
theorem HF.insOne {W : World} (h : HF w W E) {κ : Nat} {A' : Option Addr} {c' : Nat} {l' : List β} (hk : E κ = Proofs.YtneghcpnehiffaaDoor.ow A' c' T' ti l') (hf : SlF A' l'.length c') : HF w W (up E κ (ins T' ti [⟨A', c', l', true⟩])) := by
  have h1 := h.phi κ
  rw [hk] at h1
  refine h.mod κ _ rfl rfl rfl (Nat.le_refl _) (Nat.le_refl _) (fun _ _ _ => rfl) (ins_loc _ _ _) ⟨fun e he => ?_, by simp⟩ (fun x hx => ?_)
  · simp at he; subst he; exact ⟨hf, fun _ => h1⟩
  · obtain ⟨e, he, hx⟩ := hx
    simp at he; subst he
    have : (E κ).S x := by rw [hk]; exact hx.2
    exact ⟨.inl this, (h.bd κ x this).2⟩
theorem up5 {κ κ1 κ2 : Nat} {e0 a1 a2 a3 a4 : Ent} (h12 : κ1 ≠ κ) (h22 : κ2 ≠ κ) (h3 : κ1 ≠ κ2) : ∀ k, (up (up E κ2 emp) κ e0) k = (up (up (up (up (up (up (up E κ a1) κ1 a2) κ2 a3) κ a4) κ2 emp) κ1 emp) κ e0) k ∨ (up (up E κ2 emp) κ e0) k = emp ∨ k = κ1 := by
  intro k
  by_cases k1 : k = κ
  · subst k1; exact .inl (by rw [up_same, up_same])
  · by_cases k2 : k = κ2
    · subst k2; exact .inr (.inl (by rw [up_ne k1, up_same]))
    · by_cases k3 : k = κ1
      · exact .inr (.inr k3)
      · exact .inl (by rw [up_ne k1, up_ne k2, up_ne k1, up_ne k3, up_ne k2, up_ne k1, up_ne k2, up_ne k3, up_ne k1])
theorem neOfB {a b : Nat} (h : Nat.beq a b = false) : a ≠ b := fun e => by subst e; simp at h
/-- Another slice of this kind behind one. -/
theorem Tr.dqJoin (κ κ2 κ3 κ4 : Nat) {i : Nat} {A2 : Option Addr} {c2 : Nat} {m2 : List (DE t)} {l2 l' : List α} (hn2 : Nat.beq κ2 κ = false) (hn3 : Nat.beq κ3 κ = false) (hn4 : Nat.beq κ4 κ = false) (hn23 : Nat.beq κ3 κ2 = false) (hn24 : Nat.beq κ4 κ2 = false) (hn34 : Nat.beq κ4 κ3 = false) (he3 : E κ3 = emp) (he4 : E κ4 = emp)
    (hw : Wn ops f ⟨some d, .call ⟨.builtin .append, #[p, q], #[T, T]⟩, ty, pos, af, g⟩) (hdn : Nat.blt d n = true)
    (hp : ev f p = some (.slice A ls.length c)) (hk : E κ = dq A ls.length c e T' L ms) (hm : DC ms ls) (hq : ev f q = some (.slice A2 l2.length c2)) (hk2 : E κ2 = dq A2 l2.length c2 e T' L m2) (hm2 : DC m2 l2)
    (hu : P.underlying T = some (.slice e)) (hs : szOf P e = some t.sz) (hz : (zeroOf P e).map List.length = some t.sz) (hsz : 0 < t.sz) (hby : (P.info? e).map (·.bytes) = some i) (hi : Nat.ble i 32768 = true) (hap : apd ls l2 = some l')
    (K : ∀ A' c' ms', DC ms' l' → SlF A' l'.length c' → Tr w n (uf f d (.slice A' l'.length c')) (up (up E κ2 emp) κ (dq A' l'.length c' e T' L ms')) (wpList P ops Q rest)) :
    Tr w n f E (wpList P ops Q (⟨some d, .call ⟨.builtin .append, #[p, q], #[T, T]⟩, ty, pos, af, g⟩ :: rest)) := by
  have b2 := neOfB hn2
  have b3 := neOfB hn3
  have b4 := neOfB hn4
  have b23 := neOfB hn23
  have b24 := neOfB hn24
  have b34 := neOfB hn34
  obtain ⟨ha1, ha2⟩ := apd_some hap
  subst ha2
  have hlen := hm.len
  have hlen2 := hm2.len
  intro a W h1 h2
  have h3 := h2.dqSplit (κ' := κ3) hk b3
  have h4 := h3.dqSplit (κ := κ2) (κ' := κ4) (A := A2) (c := c2) (T0 := e) (T' := T') (L := L) (ms := m2) (n0 := l2.length) (by rw [up_ne (fun e => b23 e.symm), up_ne b2, hk2]) b24
  refine Tr.appendS (P := P) (E := up (up (up (up E κ (ow A c e (flU L) ms)) κ3 (ins T' ti (ms.map (Proofs.YtneghcpnehiffaaDoor.ne L)))) κ2 (ow A2 c2 e (flU L) m2)) κ4 (ins T' ti (m2.map (Proofs.YtneghcpnehiffaaDoor.ne L)))) κ (t := flU L) (l := ms) (l2 := m2) (l' := ms ++ m2) hw hdn (by rw [← hlen]; exact hp) ?_ (by rw [← hlen2]; exact hq) (fun W' hW => ?_) hu hs hz hsz hby hi ?_ (fun A' c' hf => ?_) a W h1 h4
  · rw [up_ne (fun e => b4 e.symm), up_ne (fun e => b2 e.symm), up_ne (fun e => b3 e.symm), up_same]
  · have hE2 : (up (up (up (up E κ (ow A c e (flU L) ms)) κ3 (ins T' ti (ms.map (Proofs.YtneghcpnehiffaaDoor.ne L)))) κ2 (ow A2 c2 e (flU L) m2)) κ4 (ins T' ti (m2.map (Proofs.YtneghcpnehiffaaDoor.ne L)))) κ2 = ow A2 c2 e (flU L) m2 := by rw [up_ne (fun e => b24 e.symm), up_same]
    obtain ⟨css, hal, hown⟩ := hW.ow hE2
    have hsl := owns_sl hal hown
    refine ⟨hsl.form, css, hal.mono (fun _ _ hr => hr.off hW), ?_⟩
    obtain ⟨_, h⟩ := hown
    rcases h with ⟨e0, h0⟩ | ⟨g0, cap, cur, e0, _, hh, hn, _, hs0, ht⟩
    · have hl : m2 = [] := List.eq_nil_of_length_eq_zero h0
      subst hl
      cases hal
      intro j u hu0
      simp at hu0
    · simp only [Value.slice.injEq] at e0
      obtain ⟨e1, _, e3⟩ := e0
      subst e1
      intro j u hu0
      show W'.cell? ⟨g0, 0 + j, none⟩ = some u
      rw [cell_of_row W' g0 (0 + j) cur e (0, 0) hh, Nat.zero_add]
      rw [← ht, List.getElem?_take] at hu0
      split at hu0
      · simpa using hu0
      · cases hu0
  · unfold apd
    rw [if_pos (by omega)]
  · intro a2 W2 f1 f2
    have hl2 : (ms ++ m2).length = (ls ++ l2).length := by simp [hlen, hlen2]
    rw [hl2] at hf f1
    have f3 := f2.insJoin (κ := κ3) (κ' := κ4) (T' := T') (ti := ti) (m1 := ms.map (Proofs.YtneghcpnehiffaaDoor.ne L)) (m2 := m2.map (Proofs.YtneghcpnehiffaaDoor.ne L)) (by rw [up_ne b3, up_ne (fun e => b34 e.symm), up_ne b23, up_same]) (by rw [up_ne b4, up_same]) b34
    rw [← List.map_append] at f3
    have f4 := f3.dqMerge (κ := κ) (κ' := κ3) (A := A') (c := c') (T0 := e) (L := L) (ms := ms ++ m2) (n0 := (ls ++ l2).length) (by rw [up_ne (fun e => b3 e.symm), up_ne (fun e => b4 e.symm), up_same]) (by rw [up_same]) b3 (by simp [hlen, hlen2])
    refine K A' c' (ms ++ m2) ⟨by rw [List.map_append, hm.1, hm2.1], fun d0 hd0 => ?_⟩ hf a2 W2 f1 (f4.weaken (fun k => ?_))
    · rcases List.mem_append.1 hd0 with hd0 | hd0
      · exact hm.2 d0 hd0
      · exact hm2.2 d0 hd0
    · by_cases k1 : k = κ
      · subst k1; exact .inl (by rw [up_same, up_same])
      by_cases k2 : k = κ2
      · subst k2; exact .inr (by rw [up_ne k1, up_same])
      by_cases k3 : k = κ3
      · subst k3; exact .inr (by rw [up_ne k1, up_ne k2, he3])
      by_cases k4 : k = κ4
      · subst k4; exact .inr (by rw [up_ne k1, up_ne k2, he4])
      exact .inl (by rw [up_ne k1, up_ne k2, up_ne k1, up_ne k3, up_ne k3, up_ne k4, up_ne k1, up_ne k4, up_ne k2, up_ne k3, up_ne k1])
/-- An element more, whose inner slice is the call's own. -/
theorem Tr.dqPush (κ κ' κ3 κb : Nat) {i : Nat} {u : t.Ad} {x : α} {ls' : List α} {cs : List Value} {A1 : Option Addr} {c1 : Nat} {l1 : List β} (he3 : E κ3 = emp) (hn1 : Nat.beq κ' κ = false) (hn3 : Nat.beq κ3 κ = false) (hn13 : Nat.beq κ3 κ' = false) (hnb : Nat.beq κb κ = false) (hnb3 : Nat.beq κb κ3 = false)
    (hw : Wn ops f ⟨some d, .call ⟨.builtin .append, #[p, q], #[T, T]⟩, ty, pos, af, g⟩) (hdn : Nat.blt d n = true)
    (hp : ev f p = some (.slice A ls.length c)) (hk : E κ = dq A ls.length c e T' L ms) (hm : DC ms ls) (hq : ev f q = some (.slice (some ⟨b, 0, none⟩) 1 1)) (hb : E κb = bx b cs.toArray e)
    (hcs : t.enc u x = cs) (hok : L.okR w.O w.W u x) (hga : L.ga u = (A1, c1)) (hget : L.get x = l1) (hk' : E κ' = ow A1 c1 T' ti l1) (hf1 : SlF A1 l1.length c1)
    (hu : P.underlying T = some (.slice e)) (hs : szOf P e = some t.sz) (hz : (zeroOf P e).map List.length = some t.sz) (hsz : 0 < t.sz) (hby : (P.info? e).map (·.bytes) = some i) (hi : Nat.ble i 32768 = true) (hap : apd ls [x] = some ls')
    (K : ∀ A' c' ms', DC ms' ls' → SlF A' ls'.length c' → Tr w n (uf f d (.slice A' ls'.length c')) (up (up E κ' emp) κ (dq A' ls'.length c' e T' L ms')) (wpList P ops Q rest)) :
    Tr w n f E (wpList P ops Q (⟨some d, .call ⟨.builtin .append, #[p, q], #[T, T]⟩, ty, pos, af, g⟩ :: rest)) := by
  have b1 := neOfB hn1
  have b3 := neOfB hn3
  have b13 := neOfB hn13
  have bb := neOfB hnb
  have bb3 := neOfB hnb3
  obtain ⟨ha1, ha2⟩ := apd_some hap
  subst ha2
  subst hget
  have hlen := hm.len
  intro a W h1 h2
  have h3 := h2.dqSplit (κ' := κ3) hk b3
  refine Tr.append (P := P) (E := up (up E κ (ow A c e (flU L) ms)) κ3 (ins T' ti (ms.map (Proofs.YtneghcpnehiffaaDoor.ne L)))) κ (t := flU L) (l := ms) (l2 := [⟨u, x, true⟩]) (l' := ms ++ [⟨u, x, true⟩]) (b := b) (o := 0) (c2 := 1) hw hdn (by rw [← hlen]; exact hp) (by rw [up_ne (fun e => b3 e.symm), up_same]) hq (fun W' hW => ?_) hu hs hz hsz hby hi ?_ (fun A' c' hf => ?_) a W h1 h3
  · refine ⟨[cs], .cons ⟨(), hok, hcs.symm⟩ .nil, ?_⟩
    have := rdb (k := κb) (vs := cs) (T := e) hW (by rw [up_ne bb3, up_ne bb, hb]) 0
    simpa using this
  · unfold apd
    rw [if_pos (by simp only [List.length_cons, List.length_nil] at *; omega)]
  · intro a2 W2 f1 f2
    have hl2 : (ms ++ [(⟨u, x, true⟩ : DE t)]).length = (ls ++ [x]).length := by simp [hlen]
    rw [hl2] at hf f1
    have g1 := f2.insOne (κ := κ') (T' := T') (ti := ti) (by rw [up_ne b1, up_ne (fun e => b13 e.symm), up_ne b1, hk']) hf1
    have f3 := g1.insJoin (κ := κ3) (κ' := κ') (T' := T') (ti := ti) (m1 := ms.map (Proofs.YtneghcpnehiffaaDoor.ne L)) (m2 := [⟨A1, c1, L.get x, true⟩]) (by rw [up_ne b13, up_ne b3, up_same]) (by rw [up_same]) (fun e => b13 e.symm)
    have hmap : ms.map (Proofs.YtneghcpnehiffaaDoor.ne L) ++ [⟨A1, c1, L.get x, true⟩] = (ms ++ [(⟨u, x, true⟩ : DE t)]).map (Proofs.YtneghcpnehiffaaDoor.ne L) := by simp [Proofs.YtneghcpnehiffaaDoor.ne, hga]
    rw [hmap] at f3
    have f4 := f3.dqMerge (κ := κ) (κ' := κ3) (A := A') (c := c') (T0 := e) (L := L) (ms := ms ++ [⟨u, x, true⟩]) (n0 := (ls ++ [x]).length) (by rw [up_ne (fun e => b3 e.symm), up_ne (fun e => b1 e.symm), up_ne (fun e => b1 e.symm), up_same]) (by rw [up_same]) b3 (by simp [hlen])
    refine K A' c' (ms ++ [⟨u, x, true⟩]) ⟨by rw [List.map_append, hm.1]; rfl, fun d0 hd0 => ?_⟩ hf a2 W2 f1 (f4.weaken (fun k => ?_))
    · rcases List.mem_append.1 hd0 with hd0 | hd0
      · exact hm.2 d0 hd0
      · simp at hd0; subst hd0; rfl
    · by_cases k1 : k = κ
      · subst k1; exact .inl (by rw [up_same, up_same])
      by_cases k2 : k = κ'
      · subst k2; exact .inr (by rw [up_ne k1, up_same])
      by_cases k3 : k = κ3
      · subst k3; exact .inr (by rw [up_ne k1, up_ne k2, he3])
      exact .inl (by rw [up_ne k1, up_ne k2, up_ne k1, up_ne k3, up_ne k3, up_ne k2, up_ne k2, up_ne k1, up_ne k3, up_ne k1])
/-- One of the inner slices is taken out. -/
theorem HF.insTake {W : World} (h : HF w W E) {κ κ' j : Nat} {m1 : List (NE β)} {e0 : NE β} (hk : E κ = ins T' ti m1) (hne : κ' ≠ κ) (he0 : m1[j]? = some e0) (ho : e0.own = true) :
    HF w W (up (up E κ (ins T' ti (m1.set j { e0 with own := false }))) κ' (Proofs.YtneghcpnehiffaaDoor.ow e0.A e0.c T' ti e0.l)) ∧ SlF e0.A e0.l.length e0.c := by
  have hφ := h.phi κ
  rw [hk] at hφ
  obtain ⟨g3, g4⟩ := hφ
  have hjm : j < m1.length := (List.getElem?_eq_some_iff.1 he0).1
  have he0m := List.mem_of_getElem? he0
  have hset : m1.set j { e0 with own := false } = m1.take j ++ { e0 with own := false } :: m1.drop (j + 1) := List.set_eq_take_append_cons_drop.trans (if_pos hjm)
  have hms2 : m1 = m1.take j ++ e0 :: m1.drop (j + 1) := by
    have := List.take_append_drop j m1
    rw [List.drop_eq_getElem_cons hjm] at this
    have h4 : m1[j] = e0 := (List.getElem?_eq_some_iff.1 he0).2
    rw [h4] at this; exact this.symm
  have hmem : ∀ e ∈ m1.set j { e0 with own := false }, e = { e0 with own := false } ∨ e ∈ m1.take j ∨ e ∈ m1.drop (j + 1) := fun e he => by
    rw [hset] at he
    rcases List.mem_append.1 he with he | he
    · exact .inr (.inl he)
    · rcases List.mem_cons.1 he with rfl | he
      · exact .inl rfl
      · exact .inr (.inr he)
  have hmem2 : ∀ e, (e ∈ m1.take j ∨ e ∈ m1.drop (j + 1)) → e ∈ m1 := fun e he => he.elim List.mem_of_mem_take List.mem_of_mem_drop
  have hnb : ∀ x, ¬ ({ e0 with own := false } : NE β).blk x := fun x hx => by cases hx.1
  have g4' := g4
  rw [hms2] at g4'
  obtain ⟨p1, p2, p3⟩ := List.pairwise_append.1 g4'
  obtain ⟨p4, p5⟩ := List.pairwise_cons.1 p2
  refine ⟨h.split hne (ins_loc _ _ _) (ow_loc _ _ _ _ _) ⟨fun e' he' => ?_, ?_⟩ ((g3 e0 he0m).2 ho) (fun x hx => ?_) (fun x hx => ?_) (fun x hx hy => ?_), (g3 e0 he0m).1⟩
  · rcases hmem e' he' with rfl | he'
    · exact ⟨(g3 e0 he0m).1, fun h => by cases h⟩
    · exact g3 e' (hmem2 e' he')
  · rw [hset, List.pairwise_append, List.pairwise_cons]
    refine ⟨p1, ⟨fun e' he' x hx => absurd hx (hnb x), p5⟩, fun e1 he1 e2 he2 => ?_⟩
    rcases List.mem_cons.1 he2 with rfl | he2
    · exact fun x _ => hnb x
    · exact p3 e1 he1 e2 (List.mem_cons_of_mem _ he2)
  · rw [hk]
    obtain ⟨e', he', hx⟩ := hx
    rcases hmem e' he' with rfl | he'
    · exact absurd hx (hnb x)
    · exact ⟨e', hmem2 e' he', hx⟩
  · rw [hk]
    exact ⟨e0, he0m, ho, hx⟩
  · have hy : e0.blk x := ⟨ho, hy⟩
    obtain ⟨e', he', hx⟩ := hx
    rcases hmem e' he' with rfl | he'
    · exact hnb x hx
    · rcases he' with he' | he'
      · exact p3 e' he' e0 List.mem_cons_self x hx hy
      · exact p4 e' he' x hy hx
/-- Which element is held. -/
def DT (ms : List (DE t)) (ls : List α) (i : Nat) (u : t.Ad) (x : α) : Prop := DC ms ls ∧ ms[i]? = some ⟨u, x, true⟩
theorem DT.hi {i : Nat} {u : t.Ad} {x : α} (h : DT ms ls i u x) : i < ms.length := (List.getElem?_eq_some_iff.1 h.2).1
/-- An element is held by its cells, its inner slice is a part by itself. -/
theorem Tr.dqTake (κ κ2 κ3 : Nat) {i : Nat} {x : α} (hn2 : Nat.beq κ2 κ = false) (hn3 : Nat.beq κ3 κ = false) (hn23 : Nat.beq κ3 κ2 = false) (hx : ls[i]? = some x) (hk : E κ = dq A ls.length c e T' L ms) (hm : DC ms ls)
    (K : ∀ u, L.okR w.O w.W u x → SlF (L.ga u).1 (L.get x).length (L.ga u).2 → DT ms ls i u x →
      Tr w n f (up (up (up E κ (ow A c e (mix (flU L)) (mixL ms i (raw (flU L) (t.enc u x) (t.len u x) (List.all_eq_true.2 (t.one u x)))))) κ2 (ins T' ti ((ms.set i ⟨u, x, false⟩).map (Proofs.YtneghcpnehiffaaDoor.ne L)))) κ3 (ow (L.ga u).1 (L.ga u).2 T' ti (L.get x))) X) : Tr w n f E X := by
  have b2 := neOfB hn2
  have b3 := neOfB hn3
  have b23 := neOfB hn23
  intro a W h1 h2
  have h3 := h2.dqSplit (κ' := κ2) hk b2
  rw [← hm.1, List.getElem?_map] at hx
  obtain ⟨d0, hd0, rfl⟩ := Option.map_eq_some_iff.1 hx
  have hown := hm.2 d0 (List.mem_of_getElem? hd0)
  have hd1 : d0 = ⟨d0.u, d0.x, true⟩ := by rw [← hown]
  have he0 : (ms.map (Proofs.YtneghcpnehiffaaDoor.ne L))[i]? = some (Proofs.YtneghcpnehiffaaDoor.ne L d0) := by rw [List.getElem?_map, hd0]; rfl
  obtain ⟨h4, hf⟩ := h3.insTake (κ := κ2) (κ' := κ3) (j := i) (by rw [up_same]) b23 he0 hown
  have hset : (ms.map (Proofs.YtneghcpnehiffaaDoor.ne L)).set i { Proofs.YtneghcpnehiffaaDoor.ne L d0 with own := false } = (ms.set i ⟨d0.u, d0.x, false⟩).map (Proofs.YtneghcpnehiffaaDoor.ne L) := by rw [List.map_set]; rfl
  rw [hset] at h4
  refine Tr.mixOpen (t := flU L) (l := ms) (x := d0) (E := up (up (up (up E κ (ow A c e (flU L) ms)) κ2 (ins T' ti (ms.map (Proofs.YtneghcpnehiffaaDoor.ne L)))) κ2 (ins T' ti ((ms.set i ⟨d0.u, d0.x, false⟩).map (Proofs.YtneghcpnehiffaaDoor.ne L)))) κ3 (ow (L.ga d0.u).1 (L.ga d0.u).2 T' ti (L.get d0.x))) κ (by rw [up_ne (fun e => b3 e.symm), up_ne (fun e => b2 e.symm), up_ne (fun e => b2 e.symm), up_same]) hd0 (fun u0 hok => ?_) a W h1 h4
  intro a2 W2 f1 f2
  refine K d0.u hok hf ⟨hm, by rw [hd0]; exact congrArg some hd1⟩ a2 W2 f1 (f2.weaken (fun k => ?_))
  by_cases k1 : k = κ
  · subst k1; exact .inl (by rw [up_ne (fun e => b3 e.symm), up_ne (fun e => b2 e.symm), up_same, up_same]; rfl)
  by_cases k2 : k = κ2
  · subst k2; exact .inl (by rw [up_ne (fun e => b23 e.symm), up_same, up_ne k1, up_ne (fun e => b23 e.symm), up_same])
  by_cases k3 : k = κ3
  · subst k3; exact .inl (by rw [up_same, up_ne k1, up_same])
  exact .inl (by rw [up_ne k3, up_ne k2, up_ne k1, up_ne k1, up_ne k3, up_ne k2, up_ne k2, up_ne k1])
/-- The held element is tidy again, with its inner slice. -/
theorem Tr.dqPut (κ κ2 κ3 : Nat) {i : Nat} {u0 u : t.Ad} {x0 x' : α} {csR : Raw (flU L)} {A3 : Option Addr} {c3 : Nat} {l3 : List β} (hn2 : Nat.beq κ2 κ = false) (hn3 : Nat.beq κ3 κ = false) (hn23 : Nat.beq κ3 κ2 = false)
    (hk : E κ = ow A c e (mix (flU L)) (mixL ms i csR)) (hk2 : E κ2 = ins T' ti ((ms.set i ⟨u0, x0, false⟩).map (Proofs.YtneghcpnehiffaaDoor.ne L))) (hk3 : E κ3 = ow A3 c3 T' ti l3) (hd : DT ms ls i u0 x0)
    (hok : L.okR w.O w.W u x') (he : t.enc u x' = csR.1) (hga : L.ga u = (A3, c3)) (hget : L.get x' = l3) (hf : SlF A3 l3.length c3)
    (K : ∀ ms', DC ms' (ls.set i x') → Tr w n f (up (up (up E κ3 emp) κ2 emp) κ (dq A (ls.set i x').length c e T' L ms')) X) : Tr w n f E X := by
  have b2 := neOfB hn2
  have b3 := neOfB hn3
  have b23 := neOfB hn23
  have hi := hd.hi
  refine Tr.mixClose κ hk () ⟨u, x', true⟩ hok he ?_
  intro a W h1 h2
  have h3 := h2.insPut (κ := κ2) (κ' := κ3) (T' := T') (t := ti) (i := i) (A' := A3) (c' := c3) (l' := l3) (e0 := Proofs.YtneghcpnehiffaaDoor.ne L ⟨u0, x0, false⟩) (by rw [up_ne b2, hk2]) (by rw [up_ne b3, hk3]) b23 (by rw [List.getElem?_map, List.getElem?_set_self hi]; rfl) hf
  have hset : ((ms.set i ⟨u0, x0, false⟩).map (Proofs.YtneghcpnehiffaaDoor.ne L)).set i ⟨A3, c3, l3, true⟩ = (ms.set i ⟨u, x', true⟩).map (Proofs.YtneghcpnehiffaaDoor.ne L) := by
    rw [List.map_set, List.set_set, List.map_set]
    congr 1
    simp [Proofs.YtneghcpnehiffaaDoor.ne, hga, hget]
  rw [hset] at h3
  have h4 := h3.dqMerge (κ := κ) (κ' := κ2) (A := A) (c := c) (T0 := e) (L := L) (ms := ms.set i ⟨u, x', true⟩) (n0 := (ls.set i x').length) (by rw [up_ne (fun e => b2 e.symm), up_ne (fun e => b3 e.symm), up_same]) (by rw [up_same]) b2 (by simp [hd.1.len])
  refine K (ms.set i ⟨u, x', true⟩) ⟨by rw [List.map_set, hd.1.1], fun d0 hd0 => ?_⟩ a W h1 (h4.weaken (fun k => ?_))
  · obtain ⟨j, hj⟩ := List.getElem?_of_mem hd0
    by_cases hij : i = j
    · subst hij
      rw [List.getElem?_set_self hi] at hj
      rw [← Option.some.inj hj]
    · rw [List.getElem?_set_ne hij] at hj
      exact hd.1.2 d0 (List.mem_of_getElem? hj)
  · by_cases k1 : k = κ
    · subst k1; exact .inl (by rw [up_same, up_same])
    by_cases k2 : k = κ2
    · subst k2; exact .inr (by rw [up_ne k1, up_same])
    by_cases k3 : k = κ3
    · subst k3; exact .inr (by rw [up_ne k1, up_ne k2, up_same])
    exact .inl (by rw [up_ne k1, up_ne k2, up_ne k3, up_ne k1, up_ne k2, up_ne k2, up_ne k3, up_ne k1])
/-- All is written no more. -/
theorem Tr.dqFreeze (κ : Nat) (hk : E κ = dq A ls.length c T0 T' L ms) (hm : DC ms ls) (K : ∀ w', w.Le w' → Sl w'.O w'.W t A c ls → Tr w' n f (up E κ emp) X) : Tr w n f E X := by
  intro a W h1 h2
  refine K (h2.raise κ) (h2.raise_le κ) ?_ a W h1 (h2.raised κ)
  obtain ⟨hm1, hm2⟩ := hm
  have hφ := h2.phi κ
  rw [hk] at hφ
  obtain ⟨g1, ⟨css, g2, g2'⟩, ⟨g3, _⟩, _⟩ := hφ
  have hsl := owns_sl g2 g2'
  have hform := hsl.form
  have hl2 : ms.length = ls.length := by rw [← hm1]; simp
  rw [hl2] at hform
  refine ⟨hform, fun i x hx => ?_⟩
  rw [← hm1, List.getElem?_map] at hx
  obtain ⟨d0, hd0, rfl⟩ := Option.map_eq_some_iff.1 hx
  obtain ⟨s1, _, s2, s3⟩ := hsl.cells i d0 hd0
  have hem : Proofs.YtneghcpnehiffaaDoor.ne L d0 ∈ ms.map (Proofs.YtneghcpnehiffaaDoor.ne L) := List.mem_map_of_mem (List.mem_of_getElem? hd0)
  have hown := hm2 d0 (List.mem_of_getElem? hd0)
  obtain ⟨css', r1, r2⟩ := (g3 _ hem).2 hown
  have hin := owns_sl r1 r2
  have hsub : ∀ y, (w.O y ∨ (Value.slice A ms.length c).ownBlock = some y) → (h2.raise κ).O y := fun y hy => by
    rcases hy with hy | hy
    · exact .inl hy
    · exact .inr (by rw [hk]; exact .inl ((own_any _ _ _ _ _).trans hy))
  refine ⟨hsub _ s1, d0.u, L.ok _ _ d0.u d0.x (L.locR s2 hsub (fun _ _ => rfl)) (hin.mono fun y hy => ?_), s3⟩
  rcases hy with hy | hy
  · exact .inl hy
  · exact .inr (by rw [hk]; exact .inr ⟨_, hem, hown, hy⟩)
end
section
variable {P : Program} {w : Bs} {n : Nat} {f : Nat → Option Value} {E : Nat → Ent} {l : List Oper} {m : Nat} {t : Tn} {Q : Exit → Act → World → Prop} {fu : Nat} {listed : Array Bool}
variable {ty T : Nat} {pos : String} {af : Array Edge} {g : Option (Nat × Bool)} {p q : Operand} {v : Value}
/-- A store to a field of a held element, in a region that draws. -/
theorem St.storeMix {α : Type} (i κ : Nat) {A : Option Addr} {c e fo o j : Nat} {t' : Fl α} {ll : List α} {ds : Raw t'} (ds' : Raw t') {cs : List Value} (hY : ∀ b, (ow A c e (mix t') (mixL ll j ds)).S b → t.Y i b) (hi : l[i]? = some ⟨none, .store T p q, ty, pos, af, g⟩) (hw : Wn l.toArray f ⟨none, .store T p q, ty, pos, af, g⟩)
    (hp : ev f p = some (.pointer (some ⟨adB A, o, none⟩))) (hq : ev f q = some v) (hv : v.cells = cs.toArray) (ho : o = adO A + j * t'.sz + fo) (hk : E κ = ow A c e (mix t') (mixL ll j ds)) (hj : j < ll.length) (hs : szOf P T = some cs.length) (h1 : cs.all (·.oneCell') = true)
    (hup : ds'.1 = ds.1.take fo ++ cs ++ ds.1.drop (fo + cs.length)) (hfit : Nat.ble (fo + cs.length) t'.sz = true)
    (K : Dr P w n l m t Q fu (listed.setIfInBounds i true) f (up E κ (ow A c e (mix t') (mixL ll j ds')))) : St P w n l m t Q fu listed f E i :=
  St.eff i hi hw (fun a W k1 k2 K' hK => by
    subst ho
    have hA := (k2.sl hk).form.2.2 (by rw [mixL_len]; omega)
    obtain ⟨vs, hh, hle, hnew⟩ := set_el (t := mix t') (x' := .inr ds') κ k2 hk (mixL_at hj) (fun u _ => ⟨u, trivial, hup⟩) (Nat.le_of_ble_eq_true hfit)
    have e1 : (mixL ll j ds).set j (.inr ds') = mixL ll j ds' := by simp [mixL]
    rw [e1] at hnew
    unfold Oper.wp
    rw [run_store hs (k1.ev hp) (k1.ev hq) hv hh (Nat.ble_eq_true_of_le hle) h1]
    refine hK _ _ k1 hnew ⟨rfl, rfl, rfl, by simp [World.setRow], fun b hb hne => ?_, Nat.le_refl _⟩
    have hbx : ¬ adB A = b := fun e => hne (hY b (by
      show (Value.slice A (mixL ll j ds).length c).ownBlock = some b
      rw [hA, ← e]; rfl))
    simp only [World.setRow, Array.getElem?_modify]
    rw [if_neg hbx]) K
end
end Go.Proofs.YtneghcpnehiffaaDoor
