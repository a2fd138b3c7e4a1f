/- The rules of the small logic for memory: variables in boxes, fields, slices that are read, slices that the call owns. Over any program. Conditions: none beyond each theorem's own. -/
import Derived.Test.YtpkicpnbpldkpaaG1
namespace Go.Proofs.Ytpkicpnbpldkpaa
open Go.RowKit
def adB (A : Option Addr) : Nat := match A with | some a => a.block | none => 0
def adO (A : Option Addr) : Nat := match A with | some a => a.off | none => 0
/-- The form of a slice value. -/
def SlF (A : Option Addr) (n c : Nat) : Prop := n ≤ c ∧ c ≤ maxLen ∧ (0 < n → A = some ⟨adB A, adO A, none⟩)
theorem slf_nil : SlF none 0 0 := ⟨Nat.le_refl _, Nat.zero_le _, fun h => absurd h (by simp)⟩
/-- How a type's values lie in cells. -/
structure Fl (α : Type) where
  sz : Nat
  enc : α → List Value
  len : ∀ x, (enc x).length = sz
  one : ∀ x, ∀ u ∈ enc x, u.oneCell' = true
/-- The cells of W from b, o on. -/
def CellsAt (W : World) (b o : Nat) (cs : List Value) : Prop := ∀ (j : Nat) (u : Value), cs[j]? = some u → W.cell? ⟨b, o + j, none⟩ = some u
theorem CellsAt.drop {W : World} {b o : Nat} {cs : List Value} (h : CellsAt W b o cs) (k : Nat) : CellsAt W b (o + k) (cs.drop k) := fun j u hu => by
  rw [List.getElem?_drop] at hu
  rw [Nat.add_assoc]; exact h _ u hu
theorem CellsAt.take {W : World} {b o : Nat} {cs : List Value} (h : CellsAt W b o cs) (k : Nat) : CellsAt W b o (cs.take k) := fun j u hu => by
  rw [List.getElem?_take] at hu
  split at hu
  · exact h _ u hu
  · cases hu
/-- The slice value reads as the list, its cells in blocks of S. -/
structure Sl {α : Type} (S : Nat → Prop) (W : World) (t : Fl α) (A : Option Addr) (c : Nat) (l : List α) : Prop where
  form : SlF A l.length c
  cells : ∀ (i : Nat) (x : α), l[i]? = some x → S (adB A) ∧ CellsAt W (adB A) (adO A + i * t.sz) (t.enc x)
/-- Below a number. -/
def lo (B : Nat) : Nat → Prop := fun b => b < B
section
variable {α : Type} {S S' : Nat → Prop} {W W' : World} {t : Fl α} {A : Option Addr} {c B : Nat} {l : List α}
theorem Sl.nil (S : Nat → Prop) (W : World) (t : Fl α) : Sl S W t none 0 [] := ⟨slf_nil, fun i x h => by simp at h⟩
theorem Sl.loc (h : Sl S W t A c l) (hs : ∀ b, S b → W'.heap[b]? = W.heap[b]?) : Sl S W' t A c l :=
  ⟨h.form, fun i x hx => ⟨(h.cells i x hx).1, fun j u hu => (World.cell?_of_block (a := ⟨adB A, _, none⟩) (hs _ (h.cells i x hx).1)).trans ((h.cells i x hx).2 j u hu)⟩⟩
theorem Sl.mono (h : Sl S W t A c l) (hs : ∀ b, S b → S' b) : Sl S' W t A c l := ⟨h.form, fun i x hx => ⟨hs _ (h.cells i x hx).1, (h.cells i x hx).2⟩⟩
/-- What lies below B reads the same in every later world. -/
theorem Sl.ext (h : Sl (lo B) W t A c l) (hb : Below B W W') : Sl (lo B) W' t A c l := h.loc (fun b hs => hb.block b hs)
theorem Sl.up {w : World} {E : Nat → Ent} (h : Sl (lo w.heap.size) w t A c l) (hW : HF w W E) : Sl (lo W.heap.size) W t A c l :=
  (h.ext hW.below).mono (fun _ hb => Nat.lt_of_lt_of_le hb hW.below.size)
end
/-- Cells that can be read wherever the state holds. -/
def Rd (w : World) (E : Nat → Ent) (b o : Nat) (cs : List Value) : Prop := ∀ W, HF w W E → CellsAt W b o cs
section
variable {α : Type} {w : World} {E : Nat → Ent} {t : Fl α} {A : Option Addr} {c b o : Nat} {l : List α} {cs : List Value}
theorem Rd.arg (h : Sl (lo w.heap.size) w t A c l) {i : Nat} {x : α} (hx : l[i]? = some x) : Rd w E (adB A) (adO A + i * t.sz) (t.enc x) :=
  fun _ hW => ((h.ext hW.below).cells i x hx).2
theorem Rd.bx {k T : Nat} {vs : List Value} (hk : E k = Proofs.Ytpkicpnbpldkpaa.bx b vs.toArray T) (o : Nat) : Rd w E b o (vs.drop o) := fun W hW j u hu => by
  rw [cell_of_row W b (o + j) vs.toArray T (0, 0) (hW.bx hk)]
  rw [List.getElem?_drop] at hu
  simpa using hu
theorem Rd.drop (h : Rd w E b o cs) (k : Nat) : Rd w E b (o + k) (cs.drop k) := fun W hW => (h W hW).drop k
theorem Rd.take (h : Rd w E b o cs) (k : Nat) : Rd w E b o (cs.take k) := fun W hW => (h W hW).take k
end
/-- A slice of the call's own. -/
def ow {α : Type} (A : Option Addr) (c T : Nat) (t : Fl α) (l : List α) : Ent :=
  ⟨fun b => (Value.slice A l.length c).ownBlock = some b, fun W => W.ownsRow 0 T t.sz (.slice A l.length c) l.length (l.flatMap t.enc)⟩
theorem ow_loc {α : Type} (B : Nat) (A : Option Addr) (c T : Nat) (t : Fl α) (l : List α) : (ow A c T t l).loc B := fun W W' h hp => by
  obtain ⟨h1, h2⟩ := hp
  refine ⟨h1, ?_⟩
  rcases h2 with h2 | ⟨g, cap, cur, hv, hg, hh, r⟩
  · exact .inl h2
  · exact .inr ⟨g, cap, cur, hv, hg, (h g (.inr (by show (Value.slice A l.length c).ownBlock = some g; rw [hv]; rfl))).trans hh, r⟩
section
variable {α : Type} {w W : World} {E : Nat → Ent} {t : Fl α} {A : Option Addr} {c T : Nat} {l : List α}
theorem flat_len (t : Fl α) (l : List α) : (l.flatMap t.enc).length = l.length * t.sz := by
  induction l with
  | nil => simp
  | cons a l ih => rw [List.flatMap_cons, List.length_append, t.len, ih, List.length_cons, Nat.succ_mul, Nat.add_comm]
theorem flat_at (t : Fl α) : ∀ {l : List α} {i : Nat} {x : α} (_ : l[i]? = some x) {j : Nat} {u : Value} (_ : (t.enc x)[j]? = some u), (l.flatMap t.enc)[i * t.sz + j]? = some u
  | a :: l, 0, x, hx, j, u, hu => by
    simp at hx; subst hx
    rw [List.flatMap_cons, Nat.zero_mul, Nat.zero_add, List.getElem?_append_left (List.getElem?_eq_some_iff.1 hu).1]; exact hu
  | a :: l, i + 1, x, hx, j, u, hu => by
    have ih := flat_at t (l := l) (i := i) (x := x) (by simpa using hx) hu
    rw [List.flatMap_cons, List.getElem?_append_right (by rw [t.len, Nat.succ_mul]; omega), t.len]
    rw [show (i + 1) * t.sz + j - t.sz = i * t.sz + j from by rw [Nat.succ_mul]; omega]; exact ih
theorem owns_sl (h : W.ownsRow 0 T t.sz (.slice A l.length c) l.length (l.flatMap t.enc)) : Sl (lo W.heap.size) W t A c l := by
  obtain ⟨_, h2⟩ := h
  rcases h2 with ⟨e, h0⟩ | ⟨g, cap, cur, e, _, hh, hn, hc, hs, ht⟩
  · have hl : l = [] := List.eq_nil_of_length_eq_zero h0
    subst hl
    simp at e
    obtain ⟨rfl, rfl⟩ := e
    exact Sl.nil _ _ _
  · simp at e
    obtain ⟨rfl, rfl⟩ := e
    refine ⟨⟨hn, hc, fun _ => rfl⟩, fun i x hx => ⟨(Array.getElem?_eq_some_iff.1 hh).1, fun j u hu => ?_⟩⟩
    have hf := flat_at t hx hu
    rw [← ht, List.getElem?_take] at hf
    split at hf
    · show W.cell? ⟨g, 0 + i * t.sz + j, none⟩ = some u
      rw [cell_of_row W g _ cur T (0, 0) hh, Nat.zero_add, ← Array.getElem?_toList]; exact hf
    · cases hf
theorem HF.ow (h : HF w W E) {k : Nat} (hk : E k = Proofs.Ytpkicpnbpldkpaa.ow A c T t l) : W.ownsRow 0 T t.sz (.slice A l.length c) l.length (l.flatMap t.enc) := by
  have := h.phi k
  rw [hk] at this; exact this
theorem HF.sl (h : HF w W E) {k : Nat} (hk : E k = Proofs.Ytpkicpnbpldkpaa.ow A c T t l) : Sl (lo W.heap.size) W t A c l := owns_sl (h.ow hk)
theorem Rd.ow {k : Nat} (hk : E k = Proofs.Ytpkicpnbpldkpaa.ow A c T t l) {i : Nat} {x : α} (hx : l[i]? = some x) : Rd w E (adB A) (adO A + i * t.sz) (t.enc x) := fun _ hW => ((hW.sl hk).cells i x hx).2
end
/-- A type's size and kind, off the program's table. -/
def szOf (P : Program) (T : Nat) : Option Nat := (P.info? T).map (·.size)
def aggOf (P : Program) (T : Nat) : Option Bool := (P.underlying T).map fun d => match d with | .struct _ | .array _ _ => true | _ => false
def zeroOf (P : Program) (T : Nat) : Option (List Value) := ((P.info? T).bind (·.zero)).map (·.cells.toList)
def fieldOf (P : Program) (T i : Nat) : Option Nat := match P.underlying T with
  | some (.struct fs) => (fs[i]?).bind fun fd => match szOf P fd.type with | some (_ + 1) => some fd.offset | _ => none
  | _ => none
def elemOf? (P : Program) (T : Nat) : Option (Nat × Nat) := match P.underlying T with | some (.slice e) => (szOf P e).map fun n => (e, n) | _ => none
section
variable {P : Program} {ρ : Operand → Value} {W : World} {d : Option Tmp} {ty T T' : TypeId} {pos : String} {af : Array Edge} {g : Option (Nat × Bool)} {p q : Operand} {u v : Value} {i j : Int} {k : IntKind}
theorem run_sizeOf {n : Nat} (h : szOf P T = some n) : (sizeOf T).run P W = .ok n W := by
  unfold szOf at h
  cases hi : P.info? T with
  | none => rw [hi] at h; cases h
  | some x => rw [hi] at h; simp at h; subst h; simp [sizeOf, typeInfo, hi]
theorem run_isAgg {b : Bool} (h : aggOf P T = some b) : (isAgg T).run P W = .ok b W := by
  unfold aggOf at h
  cases hi : P.underlying T with
  | none => rw [hi] at h; cases h
  | some x => rw [hi] at h; simp at h; subst h; simp [isAgg, run_underlying hi]; cases x <;> rfl
theorem run_zero {cs : List Value} (h : zeroOf P T = some cs) : ∃ z, (zeroValue T).run P W = .ok z W ∧ z.cells = cs.toArray := by
  unfold zeroOf at h
  cases hi : P.info? T with
  | none => rw [hi] at h; cases h
  | some x =>
    cases hz : x.zero with
    | none => rw [hi] at h; simp [hz] at h
    | some z => rw [hi] at h; simp [hz] at h; subst h; exact ⟨z, by simp [zeroValue, typeInfo, hi, hz], by simp⟩
theorem run_load1 {b o : Nat} {cs : List Value} (ha : aggOf P T = some false) (hp : ρ p = .pointer (some ⟨b, o, none⟩)) (hc : CellsAt W b o cs) (hv : cs[0]? = some v) : (execOp ρ ⟨d, .load T p, ty, pos, af, g⟩).run P W = .ok (.value v) W := by
  have hcell : W.cell? ⟨b, o, none⟩ = some v := hc 0 v hv
  simp [execOp, hp, Instr.loadAt, Instr.sureAddr, loadVar, run_isAgg ha, hcell]
theorem run_loadN {b o n : Nat} {cs : List Value} (ha : aggOf P T = some true) (hs : szOf P T = some n) (hp : ρ p = .pointer (some ⟨b, o, none⟩)) (hc : CellsAt W b o cs) (hn : Nat.beq cs.length n = true) : (execOp ρ ⟨d, .load T p, ty, pos, af, g⟩).run P W = .ok (.value (.agg cs.toArray)) W := by
  have hn' := Nat.eq_of_beq_eq_true hn
  subst hn'
  have hl : (loadCells ⟨b, o, none⟩ cs.length).run P W = .ok cs.toArray W := run_loadCells_list W ⟨b, o, none⟩ cs (fun j u hu => by rw [Addr.add_lit]; exact hc j u hu)
  simp [execOp, hp, Instr.loadAt, Instr.sureAddr, loadVar, run_isAgg ha, run_sizeOf hs, hl]
theorem run_fieldAddr {b o m fo : Nat} (hf : fieldOf P T m = some fo) (hp : ρ p = .pointer (some ⟨b, o, none⟩)) : (execOp ρ ⟨d, .fieldAddr T p m, ty, pos, af, g⟩).run P W = .ok (.value (.pointer (some ⟨b, o + fo, none⟩))) W := by
  unfold fieldOf at hf
  split at hf
  · rename_i fs hu
    cases hfd : fs[m]? with
    | none => rw [hfd] at hf; cases hf
    | some fd =>
      rw [hfd] at hf
      simp only [Option.bind_some] at hf
      split at hf
      · rename_i n hn
        simp at hf; subst hf
        simp [execOp, hp, Instr.fieldAt, Instr.sureAddr, fieldPlace, run_underlying hu, hfd, run_sizeOf hn, Addr.add_lit]
      · cases hf
  · cases hf
theorem run_indexAddr {e sz n c : Nat} {A : Option Addr} (he : elemOf? P T = some (e, sz)) (hp : ρ p = .slice A n c) (hf : SlF A n c) (hq : ρ q = .int k i) (h0 : 0 ≤ i) (h1 : i.toNat < n) :
    (execOp ρ ⟨d, .indexAddr T p q, ty, pos, af, g⟩).run P W = .ok (.value (.pointer (some ⟨adB A, adO A + i.toNat * sz, none⟩))) W := by
  have hA := hf.2.2 (by omega)
  unfold elemOf? at he
  split at he
  · rename_i e' hu
    cases hs : szOf P e' with
    | none => rw [hs] at he; cases he
    | some n' =>
      rw [hs] at he; simp at he; obtain ⟨rfl, rfl⟩ := he
      have h2 : i < (n : Int) := by omega
      rw [hA] at hp
      simp [execOp, hp, hq, Instr.indexAt, asIntOf, run_underlying hu, run_sizeOf hs, h0, h2, Addr.add_lit]
  · cases he
theorem run_len {e n c : Nat} {A : Option Addr} (hu : P.underlying T = some (.slice e)) (hp : ρ p = .slice A n c) : (execOp ρ ⟨d, .call ⟨.builtin .len, #[p], #[T]⟩, ty, pos, af, g⟩).run P W = .ok (.value (.int .i64 n)) W := by
  simp [execOp, go_sem, hp, Builtin.len_, run_underlying hu]
theorem run_build {ps : Array (Nat × Operand)} {vs : List (Nat × Value)} {cs : Array Value} (hv : (ps.map fun (i, x) => (i, ρ x)).toList = vs) (hb : P.built T vs = some cs) : (execOp ρ ⟨d, .build T ps, ty, pos, af, g⟩).run P W = .ok (.value (.agg cs)) W := by
  rw [← hv] at hb
  have := Go.run_build (P := P) W T _ cs hb
  simp [execOp, this]
theorem run_alloc {cs : List Value} (hz : zeroOf P T = some cs) : (execOp ρ ⟨d, .alloc T, ty, pos, af, g⟩).run P W = .ok (.value (.pointer (some ⟨W.heap.size, 0, none⟩))) (W.alloc (.cells cs.toArray T)) := by
  obtain ⟨z, h1, h2⟩ := run_zero (W := W) hz
  simp [execOp, Instr.alloc, h1, newVar, newRow, h2]
theorem run_box {cs : Array Value} (hp : ρ p = v) (hc : v.cells = cs) : (execOp ρ ⟨d, .box T p, ty, pos, af, g⟩).run P W = .ok (.value (.pointer (some ⟨W.heap.size, 0, none⟩))) (W.alloc (.cells cs T)) := by
  simp [execOp, hp, Instr.box, newVar, newRow, hc]
theorem run_store {b o T2 : Nat} {vs cs : List Value} (hs : szOf P T = some cs.length) (hp : ρ p = .pointer (some ⟨b, o, none⟩)) (hq : ρ q = v) (hv : v.cells = cs.toArray) (hh : W.heap[b]? = some (.cells vs.toArray T2 (0, 0)))
    (hfit : Nat.ble (o + cs.length) vs.length = true) (h1 : cs.all (·.oneCell') = true) : (execOp ρ ⟨d, .store T p q, ty, pos, af, g⟩).run P W = .ok .skip (W.setRow b (vs.take o ++ cs ++ vs.drop (o + cs.length)).toArray) := by
  have hst := run_storeCells_at P b o T2 cs 0 vs.toArray W hh (by have := Nat.le_of_ble_eq_true hfit; simpa using this) (fun u hu => List.all_eq_true.1 h1 u hu)
  simp only [Nat.add_zero] at hst
  simp [execOp, hp, hq, Instr.storeAt, Instr.sureAddr, storeVar, hv, run_sizeOf hs, hst]
end
end Go.Proofs.Ytpkicpnbpldkpaa
