/- The operations that make a block, beside their twins; parts of slices. Conditions: none beyond each theorem's own. -/
import Derived.Test.YtfddmjoldoddlaaH7
namespace Go.Proofs.Ytfddmjoldoddlaa
open Go.RowKit
theorem fall_nil {p : Nat → Fd → Prop} : ∀ i x, ([] : List (Nat × Fd)).lookup i = some x → p i x := fun _ _ h => by cases h
theorem fall_cons {p : Nat → Fd → Prop} {i : Nat} {x : Fd} {L : List (Nat × Fd)} (h : p i x) (h2 : ∀ i x, L.lookup i = some x → p i x) : ∀ j y, ((i, x) :: L).lookup j = some y → p j y := fun j y hy => by
  rw [List.lookup_cons] at hy
  cases hj : (j == i) with
  | true => rw [hj] at hy; simp at hy hj; subst hy hj; exact h
  | false => rw [hj] at hy; exact h2 j y hy
section
variable {P : Program} {w : Bs} {l : List Oper} {Tw : List (Nat × Op)} {i d κ T ty len e : Nat} {dst : Option Nat} {pos : String} {af : Array Edge} {g : Option (Nat × Bool)}
theorem run_makeFunc_inv {ρ : Operand → Value} {W : World} {xs : Array Operand} {u : Value} (h : (execOp ρ ⟨dst, .makeFunc (.func 0) #[] xs, ty, pos, af, g⟩).run P W = .ok (.value u) W) : u = .func (.func 0) #[] (xs.map ρ) := by
  rw [run_makeFunc rfl] at h
  injection h with h1 _
  injection h1 with h1
  exact h1.symm
theorem fr_alloc {cs : List Value} (hl : l[i]? = some ⟨dst, .alloc T, ty, pos, af, g⟩) (ht : Tw.lookup i = some (.makeFunc (.func 0) #[] #[])) (hz : zeroOf P T = some cs) :
    FrRun P w l Tw i ⟨d, κ, .func (.func 0) #[] #[], fun b => .pointer (some ⟨b, 0, none⟩), fun b => bx b cs.toArray T⟩ := by
  intro o op ho hop
  rw [hl] at ho; obtain rfl := Option.some.inj ho
  rw [ht] at hop; obtain rfl := Option.some.inj hop
  exact ⟨fun ρ W => ⟨_, run_makeFunc rfl⟩, fun ρ W _ => ⟨_, run_alloc hz, (Below.refl _ _).alloc (Nat.le_refl _) _, fun E1 h => h.alloc κ cs.toArray T⟩⟩
theorem fr_box {x : Operand} {v : Value} {cs : List Value} (hl : l[i]? = some ⟨dst, .box T x, ty, pos, af, g⟩) (ht : Tw.lookup i = some (.makeFunc (.func 0) #[] #[x])) (hc : v.cells = cs.toArray) :
    FrRun P w l Tw i ⟨d, κ, .func (.func 0) #[] #[v], fun b => .pointer (some ⟨b, 0, none⟩), fun b => bx b cs.toArray T⟩ := by
  intro o op ho hop
  rw [hl] at ho; obtain rfl := Option.some.inj ho
  rw [ht] at hop; obtain rfl := Option.some.inj hop
  refine ⟨fun ρ W => ⟨_, run_makeFunc rfl⟩, fun ρ W h => ?_⟩
  have h1 := run_makeFunc_inv h
  have h2 : ρ x = v := by simpa using h1.symm
  exact ⟨_, run_box h2 hc, (Below.refl _ _).alloc (Nat.le_refl _) _, fun E1 h => h.alloc κ cs.toArray T⟩
theorem pairs_of : ∀ {ps : List (Nat × Operand)} {vs : List (Nat × Value)} {ρ : Operand → Value}, ps.map (·.1) = vs.map (·.1) → ps.map (fun p => ρ p.2) = vs.map (·.2) → ps.map (fun p => (p.1, ρ p.2)) = vs
  | [], [], _, _, _ => rfl
  | [], _ :: _, _, h, _ => by cases h
  | _ :: _, [], _, h, _ => by cases h
  | p :: ps, v :: vs, ρ, h, h2 => by
    simp only [List.map_cons, List.cons.injEq] at h h2
    rw [List.map_cons, pairs_of h.2 h2.2, h.1, h2.1]
theorem fr_lit {ps : List (Nat × Operand)} {vs : List (Nat × Value)} {cs : List Value} (hl : l[i]? = some ⟨dst, .buildSlice T len ps.toArray, ty, pos, af, g⟩) (ht : Tw.lookup i = some (.makeFunc (.func 0) #[] (ps.map (·.2)).toArray))
    (hk : ps.map (·.1) = vs.map (·.1)) (hb : sliceBuilt P T len vs = some (e, cs)) :
    FrRun P w l Tw i ⟨d, κ, .func (.func 0) #[] (vs.map (·.2)).toArray, fun b => .slice (some ⟨b, 0, none⟩) len len, fun b => bx b cs.toArray e⟩ := by
  intro o op ho hop
  rw [hl] at ho; obtain rfl := Option.some.inj ho
  rw [ht] at hop; obtain rfl := Option.some.inj hop
  refine ⟨fun ρ W => ⟨_, run_makeFunc rfl⟩, fun ρ W h => ?_⟩
  have h1 := run_makeFunc_inv h
  have h2 : ps.map (fun p => ρ p.2) = vs.map (·.2) := by
    have := congrArg (fun v => match v with | .func _ _ c => c.toList | _ => []) h1
    simp at this
    exact this.symm
  have h3 := pairs_of hk h2
  exact ⟨_, run_buildSlice (by simp; exact h3) hb, (Below.refl _ _).alloc (Nat.le_refl _) _, fun E1 h => h.alloc κ cs.toArray e⟩
end
/-- A part of a slice: its address. -/
def cutA (A : Option Addr) (lo sz c : Nat) : Option Addr := if c = lo then A else A.map (·.add (lo * sz))
/-- A part of a list; none: no such part. -/
def cut {α : Type} (l : List α) (lo hi : Int) : Option (List α) := if 0 ≤ lo ∧ lo ≤ hi ∧ hi ≤ (l.length : Int) then some ((l.take hi.toNat).drop lo.toNat) else none
theorem cut_some {α : Type} {l l' : List α} {lo hi : Int} (h : cut l lo hi = some l') : (0 ≤ lo ∧ lo ≤ hi ∧ hi ≤ (l.length : Int)) ∧ (l.take hi.toNat).drop lo.toNat = l' := by
  unfold cut at h
  split at h
  · exact ⟨by assumption, Option.some.inj h⟩
  · cases h
theorem cut_len {α : Type} {l l' : List α} {lo hi : Int} (h : cut l lo hi = some l') : l'.length = hi.toNat - lo.toNat := by
  obtain ⟨h1, rfl⟩ := cut_some h
  simp; omega
theorem cut_form {α : Type} {l l' : List α} {lo hi : Int} {A : Option Addr} {c sz : Nat} (hf : SlF A l.length c) (h : cut l lo hi = some l') :
    SlF (cutA A lo.toNat sz c) l'.length (c - lo.toNat) ∧ (0 < l'.length → adB (cutA A lo.toNat sz c) = adB A ∧ adO (cutA A lo.toNat sz c) = adO A + lo.toNat * sz) := by
  have hl := cut_len h
  obtain ⟨⟨h1, h2, h3⟩, _⟩ := cut_some h
  obtain ⟨f1, f2, f3⟩ := hf
  have key : 0 < l'.length → cutA A lo.toNat sz c = some ⟨adB A, adO A + lo.toNat * sz, none⟩ := fun hp => by
    have hA := f3 (by omega)
    unfold cutA
    rw [if_neg (by omega)]
    generalize adB A = b at *
    generalize adO A = o at *
    subst hA
    simp [Addr.add_lit]
  refine ⟨⟨by omega, by omega, fun hp => ?_⟩, fun hp => by rw [key hp]; exact ⟨rfl, rfl⟩⟩
  rw [key hp]; rfl
theorem Sl.cut {α : Type} {S : Nat → Prop} {W : World} {t : Fl α} {A : Option Addr} {c : Nat} {l l' : List α} {lo hi : Int} (h : Sl S W t A c l) (hc : Proofs.Ytfddmjoldoddlaa.cut l lo hi = some l') : Sl S W t (cutA A lo.toNat t.sz c) (c - lo.toNat) l' := by
  obtain ⟨g1, g2⟩ := cut_form (sz := t.sz) h.form hc
  obtain ⟨⟨h1, h2, h3⟩, hl⟩ := cut_some hc
  refine ⟨g1, fun i x hx => ?_⟩
  have hlt := (List.getElem?_eq_some_iff.1 hx).1
  obtain ⟨e1, e2⟩ := g2 (by omega)
  rw [← hl, List.getElem?_drop, List.getElem?_take] at hx
  split at hx
  · obtain ⟨s1, u, s2, s3⟩ := h.cells _ x hx
    rw [e1, e2]
    refine ⟨s1, u, s2, ?_⟩
    rw [show adO A + lo.toNat * t.sz + i * t.sz = adO A + (lo.toNat + i) * t.sz by rw [Nat.add_mul]; omega]
    exact s3
  · cases hx
section
variable {P : Program} {ρ : Operand → Value} {W : World} {d : Option Tmp} {ty T : TypeId} {pos : String} {af : Array Edge} {g : Option (Nat × Bool)} {p q r : Operand} {i j : Int} {α : Type} {l l' : List α} {e sz c : Nat} {A : Option Addr}
theorem run_bound {x : Int} {y : Nat} {code : BoundsCode} (h0 : 0 ≤ x) (h1 : x ≤ y) : (Instr.sliceBound (.int .i64 x) y code).run P W = .ok x.toNat W := by
  simp [Instr.sliceBound, asIntOf, h0, h1]
theorem run_cutLH (he : elemOf? P T = some (e, sz)) (hp : ρ p = .slice A l.length c) (hf : SlF A l.length c) (hq : ρ q = .int .i64 i) (hr : ρ r = .int .i64 j) (hc : cut l i j = some l') :
    (execOp ρ ⟨d, .slice T p (some q) (some r) none, ty, pos, af, g⟩).run P W = .ok (.value (.slice (cutA A i.toNat sz c) l'.length (c - i.toNat))) W := by
  have hl := cut_len hc
  obtain ⟨⟨h1, h2, h3⟩, _⟩ := cut_some hc
  have hfc := hf.1
  unfold elemOf? at he
  split at he
  · rename_i e' hu
    cases hs : szOf P e' with
    | none => rw [hs] at he; cases he
    | some n' =>
      rw [hs] at he; simp at he; obtain ⟨rfl, rfl⟩ := he
      have b1 := run_bound (P := P) (W := W) (x := j) (y := c) (code := .sliceAcap) (by omega) (by omega)
      have b2 := run_bound (P := P) (W := W) (x := i) (y := j.toNat) (code := .sliceB) h1 (by omega)
      simp [execOp, hp, hq, hr, Instr.sliceAt, Instr.slice, Instr.sliceBounds, run_underlying hu, b1, b2, run_sizeOf hs, hl, cutA]
  · cases he
theorem run_cutH (he : elemOf? P T = some (e, sz)) (hp : ρ p = .slice A l.length c) (hf : SlF A l.length c) (hr : ρ r = .int .i64 j) (hc : cut l 0 j = some l') :
    (execOp ρ ⟨d, .slice T p none (some r) none, ty, pos, af, g⟩).run P W = .ok (.value (.slice (cutA A 0 sz c) l'.length (c - 0))) W := by
  have hl := cut_len hc
  obtain ⟨⟨h1, h2, h3⟩, _⟩ := cut_some hc
  have hfc := hf.1
  unfold elemOf? at he
  split at he
  · rename_i e' hu
    cases hs : szOf P e' with
    | none => rw [hs] at he; cases he
    | some n' =>
      rw [hs] at he; simp at he; obtain ⟨rfl, rfl⟩ := he
      have b1 := run_bound (P := P) (W := W) (x := j) (y := c) (code := .sliceAcap) (by omega) (by omega)
      simp [execOp, hp, hr, Instr.sliceAt, Instr.slice, Instr.sliceBounds, run_underlying hu, b1, run_sizeOf hs, hl, cutA]
  · cases he
theorem run_cutL (he : elemOf? P T = some (e, sz)) (hp : ρ p = .slice A l.length c) (hf : SlF A l.length c) (hq : ρ q = .int .i64 i) (hc : cut l i l.length = some l') :
    (execOp ρ ⟨d, .slice T p (some q) none none, ty, pos, af, g⟩).run P W = .ok (.value (.slice (cutA A i.toNat sz c) l'.length (c - i.toNat))) W := by
  have hl := cut_len hc
  obtain ⟨⟨h1, h2, h3⟩, _⟩ := cut_some hc
  have hfc := hf.1
  unfold elemOf? at he
  split at he
  · rename_i e' hu
    cases hs : szOf P e' with
    | none => rw [hs] at he; cases he
    | some n' =>
      rw [hs] at he; simp at he; obtain ⟨rfl, rfl⟩ := he
      have b2 := run_bound (P := P) (W := W) (x := i) (y := l.length) (code := .sliceB) h1 (by omega)
      simp [execOp, hp, hq, Instr.sliceAt, Instr.slice, Instr.sliceBounds, run_underlying hu, b2, run_sizeOf hs, hl, cutA]
  · cases he
theorem run_dv {T' : TypeId} {k : Int} (hp : ρ p = .int .i64 i) (hq : ρ q = .int .i64 j) (h : dv i j = some k) : (execOp ρ ⟨d, .binOp .quo T p q T', ty, pos, af, g⟩).run P W = .ok (.value (.int .i64 k)) W := by
  obtain ⟨h0, rfl⟩ := dv_some h
  exact run_quo hp hq h0
theorem run_md {T' : TypeId} {k : Int} (hp : ρ p = .int .i64 i) (hq : ρ q = .int .i64 j) (h : md i j = some k) : (execOp ρ ⟨d, .binOp .rem T p q T', ty, pos, af, g⟩).run P W = .ok (.value (.int .i64 k)) W := by
  obtain ⟨h0, rfl⟩ := md_some h
  exact run_rem hp hq h0
theorem run_catS {T' : TypeId} {s t x : ByteArray} (hp : ρ p = .string s) (hq : ρ q = .string t) (h : catS s t = some x) : (execOp ρ ⟨d, .binOp .add T p q T', ty, pos, af, g⟩).run P W = .ok (.value (.string x)) W := by
  obtain ⟨h0, rfl⟩ := catS_some h
  exact run_addS hp hq h0
end
section
variable {P : Program} {w : Bs} {n : Nat} {f : Nat → Option Value} {E : Nat → Ent} {Q : Exit → Act → World → Prop} {ops : Array Oper} {rest : List Oper}
variable {d ty T : Nat} {pos : String} {af : Array Edge} {g : Option (Nat × Bool)} {p q : Operand}
/-- append of all of another slice. -/
theorem Tr.appendS {α : Type} (κ : Nat) {A A2 : Option Addr} {c e i c2 : Nat} {t : Fl α} {l l2 l' : List α} (hw : Wn ops f ⟨some d, .call ⟨.builtin .append, #[p, q], #[T, T]⟩, ty, pos, af, g⟩) (hdn : Nat.blt d n = true)
    (hp : ev f p = some (.slice A l.length c)) (hk : E κ = ow A c e t l) (hq : ev f q = some (.slice A2 l2.length c2)) (hr : ∀ W, HF w W E → SlF A2 l2.length c2 ∧ ∃ css, Al (rp t w.O w.W) css l2 ∧ CellsAt W (adB A2) (adO A2) css.flatten)
    (hu : P.underlying T = some (.slice e)) (hs : szOf P e = some t.sz) (hz : (zeroOf P e).map List.length = some t.sz) (hsz : 0 < t.sz) (hby : (P.info? e).map (·.bytes) = some i) (hi : Nat.ble i 32768 = true) (hap : apd l l2 = some l')
    (K : ∀ A' c', SlF A' l'.length c' → Tr w n (uf f d (.slice A' l'.length c')) (up E κ (ow A' c' e t l')) (wpList P ops Q rest)) :
    Tr w n f E (wpList P ops Q (⟨some d, .call ⟨.builtin .append, #[p, q], #[T, T]⟩, ty, pos, af, g⟩ :: rest)) := by
  intro a W h1 h2
  have hf := (hr W h2).1
  cases l2 with
  | nil =>
    obtain ⟨_, hl'⟩ := apd_some hap
    rw [List.append_nil] at hl'
    subst hl'
    have hle := (h2.sl hk).form.1
    have key : Tr w n (uf f d (.slice A l.length c)) E (wpList P ops Q rest) := fun a W k1 k2 => K A c (k2.sl hk).form a W k1
      (k2.mod κ (ow A c e t l) rfl rfl rfl (Nat.le_refl _) (Nat.le_refl _) (fun _ _ _ => rfl) (ow_loc _ _ _ _ _) (k2.ow hk) (fun b hb => by
        have hb' : (E κ).S b := by rw [hk]; exact hb
        exact ⟨.inl hb', (k2.bd κ b hb').2⟩))
    refine Tr.val (P := P) hw hdn (fun a W h1 _ => ?_) key a W h1 h2
    have hs' := run_sizeOf (W := W) hs
    cases A2 <;> cases A <;> simp [execOp, resolve, invoke, builtin, h1.ev hp, h1.ev hq, Builtin.append_, run_underlying hu, hs', Builtin.lenOf, hle, Builtin.firstCells, storeCells, loadCells, loadCellsFrom]
  | cons x l2 =>
    have hA := hf.2.2 (by simp)
    rw [hA] at hq
    exact Tr.append (P := P) κ hw hdn hp hk hq (fun W hW => (hr W hW).2) hu hs hz hsz hby hi hap K a W h1 h2
/-- What is appended: written no more, or of no slices within. -/
theorem apO {α : Type} {t : Fl α} {A2 : Option Addr} {c2 : Nat} {l2 : List α} (h : Sl w.O w.W t A2 c2 l2) : ∀ W, HF w W E → SlF A2 l2.length c2 ∧ ∃ css, Al (rp t w.O w.W) css l2 ∧ CellsAt W (adB A2) (adO A2) css.flatten := fun W hW => by
  refine ⟨h.form, ?_⟩
  obtain ⟨css, h1, h2⟩ := h.all
  cases l2 with
  | nil => cases h1; exact ⟨[], .nil, fun j u hu => by simp at hu⟩
  | cons x l2 => exact ⟨css, h1, h2.loc (hW.keep _ (.inl (h.cells 0 x rfl).1))⟩
theorem apT {α : Type} {t : Fl α} {A2 : Option Addr} {c2 : Nat} {l2 : List α} (ht : t.Tri) (h : ∀ W, HF w W E → Sl (lo W.heap.size) W t A2 c2 l2) : ∀ W, HF w W E → SlF A2 l2.length c2 ∧ ∃ css, Al (rp t w.O w.W) css l2 ∧ CellsAt W (adB A2) (adO A2) css.flatten := fun W hW => by
  obtain ⟨css, h1, h2⟩ := (h W hW).all
  exact ⟨(h W hW).form, css, h1.mono (fun _ _ ⟨u, _, h3⟩ => ⟨u, ht _ _ _ _, h3⟩), h2⟩
/-- A slice that can be read, in a later world. -/
theorem Sl.inB {α : Type} {t : Fl α} {A2 : Option Addr} {c2 : Nat} {l2 : List α} {W : World} (h : Sl w.R w.W t A2 c2 l2) (hW : HF w W E) : Sl (lo W.heap.size) W t A2 c2 l2 := h.go (fun _ hb => hW.rlt hb) hW.keep
end
end Go.Proofs.Ytfddmjoldoddlaa
