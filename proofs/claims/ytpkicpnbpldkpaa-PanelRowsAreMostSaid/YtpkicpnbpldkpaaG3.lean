/- The rules of the small logic that make or turn memory, calls, entering and leaving a function. Over any program. Conditions: none beyond each theorem's own. -/
import Derived.Test.YtpkicpnbpldkpaaG2
import Derived.Maps.AppendAt
namespace Go.Proofs.Ytpkicpnbpldkpaa
open Go.RowKit
def apd {α : Type} (l m : List α) : Option (List α) := if l.length + m.length ≤ 4294967296 then some (l ++ m) else none
theorem apd_some {α : Type} {l m x : List α} (h : apd l m = some x) : l.length + m.length ≤ 4294967296 ∧ l ++ m = x := by unfold apd at h; split at h; exact ⟨by assumption, Option.some.inj h⟩; cases h
section
variable {P : Program} {w : World} {n : Nat} {f : Nat → Option Value} {E : Nat → Ent} {X Y : Act → World → Prop} {Q : Exit → Act → World → Prop} {x y : Code} {ops : Array Oper} {rest : List Oper}
variable {d ty T T' : Nat} {pos : String} {af : Array Edge} {g : Option (Nat × Bool)} {p q : Operand} {u v : Value}
theorem Tr.alloc (κ : Nat) {cs : List Value} (hw : Wn ops f ⟨some d, .alloc T, ty, pos, af, g⟩) (hdn : Nat.blt d n = true) (hz : zeroOf P T = some cs)
    (K : ∀ b, Tr w n (uf f d (.pointer (some ⟨b, 0, none⟩))) (up E κ (bx b cs.toArray T)) (wpList P ops Q rest)) : Tr w n f E (wpList P ops Q (⟨some d, .alloc T, ty, pos, af, g⟩ :: rest)) :=
  Tr.valW hw hdn (fun _ W _ h2 => ⟨run_alloc hz, h2.alloc κ cs.toArray T⟩) (fun W _ => K W.heap.size)
theorem Tr.box (κ : Nat) {cs : List Value} (hw : Wn ops f ⟨some d, .box T p, ty, pos, af, g⟩) (hdn : Nat.blt d n = true) (hp : ev f p = some v) (hc : v.cells = cs.toArray)
    (K : ∀ b, Tr w n (uf f d (.pointer (some ⟨b, 0, none⟩))) (up E κ (bx b cs.toArray T)) (wpList P ops Q rest)) : Tr w n f E (wpList P ops Q (⟨some d, .box T p, ty, pos, af, g⟩ :: rest)) :=
  Tr.valW hw hdn (fun _ W h1 h2 => ⟨run_box (h1.ev hp) hc, h2.alloc κ cs.toArray T⟩) (fun W _ => K W.heap.size)
theorem Tr.store (κ : Nat) {b o T2 : Nat} {vs cs : List Value} (vs' : List Value) (hw : Wn ops f ⟨none, .store T p q, ty, pos, af, g⟩) (hp : ev f p = some (.pointer (some ⟨b, o, none⟩))) (hq : ev f q = some v) (hv : v.cells = cs.toArray)
    (hk : E κ = bx b vs.toArray T2) (hs : szOf P T = some cs.length) (hfit : Nat.ble (o + cs.length) vs.length = true) (h1 : cs.all (·.oneCell') = true) (hvs : vs.take o ++ cs ++ vs.drop (o + cs.length) = vs')
    (K : Tr w n f (up E κ (bx b vs'.toArray T2)) (wpList P ops Q rest)) : Tr w n f E (wpList P ops Q (⟨none, .store T p q, ty, pos, af, g⟩ :: rest)) :=
  Tr.eff hw (fun _ W k1 k2 => ⟨run_store hs (k1.ev hp) (k1.ev hq) hv (k2.bx hk) hfit h1, by rw [hvs]; exact k2.setRow hk vs'.toArray⟩) K
/-- A slice written out: a block of its own. -/
def sliceBuilt (P : Program) (T len : Nat) (parts : List (Nat × Value)) : Option (Nat × List Value) :=
  match P.underlying T with
  | some (.slice e) => match szOf P e with
    | some sz => if len * sz > 2 ^ 24 then none else
      if len * sz = 0 then (Instr.fill (fun i => some (i * sz, sz)) ((Array.range (len * sz)).map ((#[] : Array Value)[· % 0]!)) parts).map fun cs => (e, cs.toList)
      else match zeroOf P e with
        | some z => (Instr.fill (fun i => some (i * sz, sz)) ((Array.range (len * sz)).map (z.toArray[· % z.toArray.size]!)) parts).map fun cs => (e, cs.toList)
        | none => none
    | none => none
  | _ => none
theorem run_buildSlice {ρ : Operand → Value} {W : World} {d : Option Tmp} {len e : Nat} {ps : Array (Nat × Operand)} {vs : List (Nat × Value)} {cs : List Value} (hv : (ps.map fun (i, x) => (i, ρ x)).toList = vs) (hb : sliceBuilt P T len vs = some (e, cs)) :
    (execOp ρ ⟨d, .buildSlice T len ps, ty, pos, af, g⟩).run P W = .ok (.value (.slice (some ⟨W.heap.size, 0, none⟩) len len)) (W.alloc (.cells cs.toArray e)) := by
  subst hv
  unfold sliceBuilt at hb
  split at hb
  · rename_i e' hu
    cases hs : szOf P e' with
    | none => rw [hs] at hb; cases hb
    | some sz =>
      rw [hs] at hb
      simp only at hb
      split at hb
      · cases hb
      · rename_i hsz
        split at hb
        · rename_i h0
          obtain ⟨cs', hf, he⟩ := Option.map_eq_some_iff.1 hb
          simp at he; obtain ⟨rfl, rfl⟩ := he
          simp [execOp, Instr.buildSlice, run_underlying hu, run_sizeOf hs, h0, newRow]
          simp [h0] at hf
          simp [hf]
        · rename_i h0
          split at hb
          · rename_i z hz
            obtain ⟨z', hz1, hz2⟩ := run_zero (W := W) hz
            obtain ⟨cs', hf, he⟩ := Option.map_eq_some_iff.1 hb
            simp at he; obtain ⟨rfl, rfl⟩ := he
            simp [execOp, Instr.buildSlice, run_underlying hu, run_sizeOf hs, hsz, h0, newRow, hz1, hz2]
            simp at hf
            simp [hf]
          · cases hb
  · cases hb
/-- Operands read off the frame. -/
def evs (f : Nat → Option Value) : List (Nat × Operand) → List (Nat × Value) → Prop
  | [], [] => True
  | (i, x) :: l, (j, v) :: m => i = j ∧ ev f x = some v ∧ evs f l m
  | _, _ => False
theorem evs_eq : ∀ {l : List (Nat × Operand)} {m : List (Nat × Value)} (_ : evs f l m) (a : Act) (_ : FR n f a), (l.toArray.map fun (i, x) => (i, a.eval x)).toList = m
  | [], [], _, _, _ => by simp
  | (i, x) :: l, (j, v) :: m, h, a, hf => by
    obtain ⟨rfl, h2, h3⟩ := h
    have ih := evs_eq h3 a hf
    simp at ih
    simp [hf.ev h2, ih]
  | [], _ :: _, h, _, _ => h.elim
  | _ :: _, [], h, _, _ => h.elim
theorem evs_nil : evs f [] [] := trivial
theorem evs_cons {i : Nat} {x : Operand} {v : Value} {l : List (Nat × Operand)} {m : List (Nat × Value)} (h : ev f x = some v) (h2 : evs f l m) : evs f ((i, x) :: l) ((i, v) :: m) := ⟨rfl, h, h2⟩
theorem Tr.buildSlice (κ : Nat) {len e : Nat} {ps : List (Nat × Operand)} {vs : List (Nat × Value)} {cs : List Value} (hw : Wn ops f ⟨some d, .buildSlice T len ps.toArray, ty, pos, af, g⟩) (hdn : Nat.blt d n = true)
    (hv : evs f ps vs) (hb : sliceBuilt P T len vs = some (e, cs))
    (K : ∀ b, Tr w n (uf f d (.slice (some ⟨b, 0, none⟩) len len)) (up E κ (bx b cs.toArray e)) (wpList P ops Q rest)) : Tr w n f E (wpList P ops Q (⟨some d, .buildSlice T len ps.toArray, ty, pos, af, g⟩ :: rest)) :=
  Tr.valW hw hdn (fun a W h1 h2 => ⟨run_buildSlice (evs_eq hv a h1) hb, h2.alloc κ cs.toArray e⟩) (fun W _ => K W.heap.size)
/-- A block that was written out is a slice of the call's own. -/
theorem Tr.own {α : Type} (κ : Nat) {b : Nat} {vs : List Value} (t : Fl α) (l : List α) (hk : E κ = bx b vs.toArray T) (hl : l.flatMap t.enc = vs) (hsz : 0 < t.sz) (hm : l.length ≤ maxLen)
    (K : Tr w n f (up E κ (ow (some ⟨b, 0, none⟩) l.length T t l)) X) : Tr w n f E X := by
  intro a W h1 h2
  have hb := h2.bx hk
  refine K a W h1 (h2.mod κ _ rfl rfl rfl (Nat.le_refl _) (fun _ _ _ => rfl) (ow_loc _ _ _ _ _ _) ?_ (fun x hx => ?_))
  · refine ⟨flat_len t l, .inr ⟨b, l.length, vs.toArray, rfl, Nat.zero_le _, hb, Nat.le_refl _, hm, ?_, ?_⟩⟩
    · rw [← hl, List.size_toArray, flat_len]
    · rw [← flat_len t l, hl]; simp
  · have hx : some b = some x := hx
    simp at hx; subst hx
    rw [hk]
    exact ⟨.inl rfl, (Array.getElem?_eq_some_iff.1 hb).1⟩
theorem grow_owned {α : Type} {W W' : World} {κ : Nat} {A : Option Addr} {c e : Nat} {t : Fl α} {l m : List α} {v' : Value} (h2 : HF w W E) (hk : E κ = ow A c e t l) (hg : W.grownBy W' (Value.slice A l.length c).ownBlock)
    (ho : W'.ownsRow 0 e t.sz v' m.length (m.flatMap t.enc)) (hnew : ∀ b, v'.ownBlock = some b → (Value.slice A l.length c).ownBlock = some b ∨ W.heap.size ≤ b) : ∃ A' c', v' = .slice A' m.length c' ∧ SlF A' m.length c' ∧ HF w W' (up E κ (ow A' c' e t m)) := by
  have hform : ∃ A' c', v' = .slice A' m.length c' := by
    rcases ho.2 with ⟨rfl, h0⟩ | ⟨gg, cap, cur, rfl, _⟩
    · exact ⟨none, 0, by rw [h0]⟩
    · exact ⟨_, _, rfl⟩
  obtain ⟨A', c', rfl⟩ := hform
  refine ⟨A', c', rfl, (owns_sl ho).form, h2.mod κ _ hg.os hg.tape hg.output hg.size (fun b hb hs => hg.block b hb (fun e => hs ?_)) (ow_loc _ _ _ _ _ _) ho (fun b hb => ⟨?_, (World.ownsRow.lt ho b hb).2⟩)⟩
  · rw [hk]; exact e.symm
  · rw [hk]; exact hnew b hb
/-- append onto a slice of the call's own. -/
theorem Tr.append {α : Type} (κ : Nat) {A : Option Addr} {c e i b o c2 : Nat} {t : Fl α} {l l2 l' : List α} (hw : Wn ops f ⟨some d, .call ⟨.builtin .append, #[p, q], #[T, T]⟩, ty, pos, af, g⟩) (hdn : Nat.blt d n = true)
    (hp : ev f p = some (.slice A l.length c)) (hk : E κ = ow A c e t l) (hq : ev f q = some (.slice (some ⟨b, o, none⟩) l2.length c2)) (hr : Rd w E b o (l2.flatMap t.enc))
    (hu : P.underlying T = some (.slice e)) (hs : szOf P e = some t.sz) (hz : (zeroOf P e).map List.length = some t.sz) (hsz : 0 < t.sz) (hby : (P.info? e).map (·.bytes) = some i) (hi : Nat.ble i 32768 = true) (hap : apd l l2 = some l')
    (K : ∀ A' c', SlF A' l'.length c' → Tr w n (uf f d (.slice A' l'.length c')) (up E κ (ow A' c' e t l')) (wpList P ops Q rest)) :
    Tr w n f E (wpList P ops Q (⟨some d, .call ⟨.builtin .append, #[p, q], #[T, T]⟩, ty, pos, af, g⟩ :: rest)) :=
  Tr.op hw fun a W h1 h2 => by
    obtain ⟨hlen, hl'⟩ := apd_some hap
    subst hl'
    cases hin : P.info? e with
    | none => rw [hin] at hby; cases hby
    | some inf =>
      rw [hin] at hby; simp at hby; subst hby
      unfold zeroOf at hz
      unfold szOf at hs
      rw [hin] at hz hs
      simp only [Option.bind_some, Option.map_some, Option.some.injEq] at hz hs
      cases hze : inf.zero with
      | none => rw [hze] at hz; cases hz
      | some z =>
        rw [hze] at hz
        simp at hz
        have hown := h2.ow hk
        have hbytes : (l.length + l2.length) * inf.bytes ≤ 140737488355328 := Nat.le_trans (Nat.mul_le_mul hlen (Nat.le_of_ble_eq_true hi)) (by decide)
        have hsm : l.length + l2.length ≤ maxLen := by unfold maxLen; omega
        obtain ⟨v', W', hrun, ho, hg, _, hat⟩ := run_append_own_at (P := P) W 0 T ty e inf z t.sz inf.bytes hu hin hze hs rfl hz hsz _ _ _ hown ⟨b, o, none⟩ l2.length c2 (l2.flatMap t.enc) (flat_len t l2)
          (fun j u hj => by rw [Addr.add_lit]; exact hr W h2 j u hj) (fun u hu => by obtain ⟨x, _, hx⟩ := List.mem_flatMap.1 hu; exact t.one x u hx) hsm hbytes (Nat.zero_le _)
        rw [← List.flatMap_append, ← List.length_append] at ho
        obtain ⟨A', c', rfl, hf, h3⟩ := grow_owned h2 hk hg ho (fun b' hb' => by
          rcases hat with hat | hat
          · exact .inl (hat ▸ hb')
          · rw [hat] at hb'; simp at hb'; subst hb'; exact .inr (Nat.le_refl _))
        unfold Oper.wp execOp
        simp only [resolve, invoke, builtin, Sem.run_bind, Sem.run_pure, Result.andThen_ok, List.map_toArray, List.map_cons, List.map_nil, h1.ev hp, h1.ev hq, hrun, Oper.upon_value]
        exact K A' c' hf _ _ (h1.put (Nat.le_of_ble_eq_true hdn) _) h3
/-- append of nothing. -/
theorem Tr.appendNil {α : Type} (κ : Nat) {A : Option Addr} {c e : Nat} {t : Fl α} {l : List α} (hw : Wn ops f ⟨some d, .call ⟨.builtin .append, #[p, q], #[T, T]⟩, ty, pos, af, g⟩) (hdn : Nat.blt d n = true)
    (hp : ev f p = some (.slice A l.length c)) (hk : E κ = ow A c e t l) (hq : ev f q = some (.slice none 0 0)) (hu : P.underlying T = some (.slice e)) (hs : szOf P e = some t.sz)
    (K : Tr w n (uf f d (.slice A l.length c)) E (wpList P ops Q rest)) : Tr w n f E (wpList P ops Q (⟨some d, .call ⟨.builtin .append, #[p, q], #[T, T]⟩, ty, pos, af, g⟩ :: rest)) :=
  Tr.val hw hdn (fun a W h1 h2 => by
    have hs' := run_sizeOf (W := W) hs
    have hle := (h2.sl hk).form.1
    have hl0 : l.length = 0 → l = [] := List.eq_nil_of_length_eq_zero
    simp [execOp, resolve, invoke, builtin, Deferred.ofValue, h1.ev hp, h1.ev hq, Builtin.append_, run_underlying hu, hs', Builtin.lenOf, hle, Builtin.firstCells]
    cases A <;> simp [storeCells]) K
def evl (f : Nat → Option Value) : List Operand → List Value → Prop
  | [], [] => True
  | x :: l, v :: m => ev f x = some v ∧ evl f l m
  | _, _ => False
theorem evl_eq : ∀ {l : List Operand} {m : List Value} (_ : evl f l m) (a : Act) (_ : FR n f a), l.map a.eval = m
  | [], [], _, _, _ => rfl
  | x :: l, v :: m, h, a, hf => by
    obtain ⟨h2, h3⟩ := h
    rw [List.map_cons, hf.ev h2, evl_eq h3 a hf]
  | [], _ :: _, h, _, _ => h.elim
  | _ :: _, [], h, _, _ => h.elim
theorem evl_nil : evl f [] [] := trivial
theorem evl_cons {x : Operand} {v : Value} {l : List Operand} {m : List Value} (h : ev f x = some v) (h2 : evl f l m) : evl f (x :: l) (v :: m) := ⟨h, h2⟩
/-- A call: the callee's contract; it may leave a new part of memory. -/
theorem Tr.call {U : Type} {fn : Nat} {xs : List Operand} {vs : List Value} {ts : Array Nat} (κ : Nat) (V : U → Value) (Φ : U → Prop) (ent : U → Ent) (hw : Wn ops f ⟨some d, .call ⟨.value (.func fn), xs.toArray, ts⟩, ty, pos, af, g⟩) (hdn : Nat.blt d n = true)
    (hg : ∀ args W, (callFunc fn args).run P W = .ok (.enter fn args) W) (hx : evl f xs vs)
    (hc : ∀ W, HF w W E → Calls P fn vs.toArray W fun e W' => ∃ u, e = .returned (V u) ∧ Φ u ∧ Below W.heap.size W W' ∧ (∀ B, (ent u).loc B) ∧ (ent u).φ W' ∧ ∀ b, (ent u).S b → W.heap.size ≤ b ∧ b < W'.heap.size)
    (K : ∀ u, Φ u → Tr w n (uf f d (V u)) (up E κ (ent u)) (wpList P ops Q rest)) : Tr w n f E (wpList P ops Q (⟨some d, .call ⟨.value (.func fn), xs.toArray, ts⟩, ty, pos, af, g⟩ :: rest)) :=
  Tr.op hw fun a W h1 h2 => by
    have hrun : (execOp a.eval ⟨some d, .call ⟨.value (.func fn), xs.toArray, ts⟩, ty, pos, af, g⟩).run P W = .ok (.enter fn vs.toArray) W := by
      have := evl_eq hx a h1
      simp [execOp, resolve, invoke, Deferred.ofValue, Act.eval, hg, this]
    unfold Oper.wp
    rw [hrun]
    refine (hc W h2).mono fun e W' ⟨u, he, hu, hb, hloc, hp, hS⟩ => ?_
    subst he
    exact K u hu _ _ (h1.put (Nat.le_of_ble_eq_true hdn) _) (h2.add κ hb (ent u) (hloc _) hp hS)
/-- A call that leaves nothing but its value. -/
theorem Tr.call0 {fn : Nat} {xs : List Operand} {vs : List Value} {ts : Array Nat} {r : Value} (hw : Wn ops f ⟨some d, .call ⟨.value (.func fn), xs.toArray, ts⟩, ty, pos, af, g⟩) (hdn : Nat.blt d n = true)
    (hg : ∀ args W, (callFunc fn args).run P W = .ok (.enter fn args) W) (hx : evl f xs vs)
    (hc : ∀ W, HF w W E → Calls P fn vs.toArray W fun e W' => e = .returned r ∧ Below W.heap.size W W')
    (K : Tr w n (uf f d r) E (wpList P ops Q rest)) : Tr w n f E (wpList P ops Q (⟨some d, .call ⟨.value (.func fn), xs.toArray, ts⟩, ty, pos, af, g⟩ :: rest)) :=
  Tr.op hw fun a W h1 h2 => by
    have hrun : (execOp a.eval ⟨some d, .call ⟨.value (.func fn), xs.toArray, ts⟩, ty, pos, af, g⟩).run P W = .ok (.enter fn vs.toArray) W := by
      have := evl_eq hx a h1
      simp [execOp, resolve, invoke, Deferred.ofValue, Act.eval, hg, this]
    unfold Oper.wp
    rw [hrun]
    refine (hc W h2).mono fun e W' ⟨he, hb⟩ => ?_
    subst he
    exact K _ _ (h1.put (Nat.le_of_ble_eq_true hdn) _) (h2.later hb)
/-- The frame at the door. -/
def inF : List Value → Nat → Nat → Option Value
  | [], _ => f0
  | v :: l, i => uf (inF l (i + 1)) i v
theorem inF_at : ∀ (l : List Value) (i t : Nat) (v : Value), inF l i t = some v → i ≤ t ∧ l[t - i]? = some v
  | [], _, _, _, h => by cases h
  | u :: l, i, t, v, h => by
    unfold inF uf at h
    by_cases e : t = i
    · subst e; simp at h; subst h; simp
    · have : Nat.beq t i = false := by rw [Bool.eq_false_iff]; intro hh; exact e (Nat.eq_of_beq_eq_true hh)
      rw [this] at h
      have ih := inF_at l (i + 1) t v h
      refine ⟨by omega, ?_⟩
      rw [show t - i = (t - (i + 1)) + 1 by omega]
      simpa using ih.2
theorem Tr.enter {fn : Nat} {fu : Func} {c : Code} {vs : List Value} {R : Ending → World → Prop} (hf : P.funcs[fn]? = some fu) (hb : fu.body = some c) (hn : fu.ntmps = n) (hle : Nat.ble vs.length n = true)
    (h : Tr w n (inF vs 0) E0 (c.wp P (bodyPost P fu R))) : Calls P fn vs.toArray w R := by
  refine calls_of_wp hf hb (h _ _ ⟨?_, rfl, fun t v hv => ?_⟩ (HF.start w))
  · have := Nat.le_of_ble_eq_true hle
    simp [hn]; omega
  · obtain ⟨_, h2⟩ := inF_at _ _ _ _ hv
    have h2 : vs[t]? = some v := by simpa using h2
    have hlt := (List.getElem?_eq_some_iff.1 h2).1
    rw [Array.getElem?_append_left (by simpa using hlt)]
    simpa using h2
/-- What a function hands back. -/
theorem Tr.out1 {fu : Func} {R : Ending → World → Prop} {t : Nat} (hr : fu.results = #[.tmp t]) (hv : f t = some v) (h : ∀ W, HF w W E → R (.returned v) W) : Tr w n f E (bodyPost P fu R .ret) :=
  fun a W h1 h2 => ⟨h1.dfr, v, by rw [results_tmp hr]; simp [h1.get t v hv], h W h2⟩
theorem Tr.out2 {fu : Func} {R : Ending → World → Prop} {t s : Nat} (hr : fu.results = #[.tmp t, .tmp s]) (hv : f t = some v) (hu : f s = some u) (h : ∀ W, HF w W E → R (.returned (.tuple #[v, u])) W) : Tr w n f E (bodyPost P fu R .ret) :=
  fun a W h1 h2 => ⟨h1.dfr, _, by rw [results_tmp2 hr], by simpa [h1.get t v hv, h1.get s u hu] using h W h2⟩
/-- Results one by one: slots, and variables in boxes. -/
def resOf (P : Program) (f : Nat → Option Value) (E : Nat → Ent) : List ResultVar → List Value → List Nat → Prop
  | [], [], _ => True
  | .tmp t :: l, v :: m, ks => f t = some v ∧ resOf P f E l m ks
  | .cell t T :: l, .agg cs :: m, k :: ks => (∃ b T2, f t = some (.pointer (some ⟨b, 0, none⟩)) ∧ E k = bx b cs T2) ∧ aggOf P T = some true ∧ szOf P T = some cs.size ∧ resOf P f E l m ks
  | _, _, _ => False
def resAct (tmps : Array Value) : ResultVar → Sem Value
  | .tmp t => pure (tmps.getD t undef)
  | .cell a t => do loadVar t (← asAddr (tmps.getD a undef))
theorem results_act (fu : Func) (tmps : Array Value) : results fu tmps = (do let vs ← fu.results.mapM (resAct tmps); pure (if h : vs.size = 1 then vs[0] else .tuple vs)) := by
  unfold results
  congr 1
theorem resOf_run {w W : World} {E : Nat → Ent} {a : Act} (h1 : FR n f a) (h2 : HF w W E) : ∀ {l : List ResultVar} {m : List Value} {ks : List Nat} (_ : resOf P f E l m ks),
    (l.mapM (resAct a.tmps)).run P W = .ok m W
  | [], [], _, _ => by simp
  | .tmp t :: l, v :: m, ks, h => by
    obtain ⟨ht, hr⟩ := h
    have ih := resOf_run h1 h2 hr
    rw [List.mapM_cons, Sem.run_bind]
    have e : resAct a.tmps (.tmp t) = pure v := by simp [resAct, h1.get t v ht]
    simp only [e, Sem.run_pure, Result.andThen_ok, Sem.run_bind, ih]
  | .cell t T :: l, .agg cs :: m, k :: ks, h => by
    obtain ⟨⟨b, T2, ht, hk⟩, ha, hs, hr⟩ := h
    have ih := resOf_run h1 h2 hr
    have hl : (loadVar T ⟨b, 0, none⟩).run P W = .ok (.agg cs) W := by
      unfold aggOf at ha
      cases hu : P.underlying T with
      | none => rw [hu] at ha; cases ha
      | some dd => rw [hu] at ha; simp at ha; exact run_loadVar_row W b T2 T cs (0, 0) dd (h2.bx hk) hu (by cases dd <;> simp_all) hs
    rw [List.mapM_cons, Sem.run_bind]
    have e : resAct a.tmps (.cell t T) = loadVar T ⟨b, 0, none⟩ := by
      have e1 : a.tmps.getD t undef = .pointer (some ⟨b, 0, none⟩) := by simp [h1.get t _ ht]
      show (asAddr (a.tmps.getD t undef)).bind (fun x => loadVar T x) = _
      rw [e1]; rfl
    simp only [e, Sem.run_bind, Sem.run_pure, Result.andThen_ok, hl, ih]
  | [], _ :: _, _, h => h.elim
  | .tmp _ :: _, [], _, h => h.elim
theorem res_nil {ks : List Nat} : resOf P f E [] [] ks := trivial
theorem res_tmp {t : Nat} {l : List ResultVar} {m : List Value} {ks : List Nat} (h : f t = some v) (h2 : resOf P f E l m ks) : resOf P f E (.tmp t :: l) (v :: m) ks := ⟨h, h2⟩
theorem res_cell {t T T2 b k : Nat} {cs : Array Value} {l : List ResultVar} {m : List Value} {ks : List Nat} (h : f t = some (.pointer (some ⟨b, 0, none⟩))) (hk : E k = bx b cs T2) (ha : aggOf P T = some true) (hs : szOf P T = some cs.size) (h2 : resOf P f E l m ks) :
    resOf P f E (.cell t T :: l) (.agg cs :: m) (k :: ks) := ⟨⟨b, T2, h, hk⟩, ha, hs, h2⟩
theorem Tr.out {fu : Func} {R : Ending → World → Prop} {m : List Value} (ks : List Nat) (hr : resOf P f E fu.results.toList m ks) (h : ∀ W, HF w W E → R (.returned (match m with | [v] => v | _ => .tuple m.toArray)) W) : Tr w n f E (bodyPost P fu R .ret) :=
  fun a W h1 h2 => by
    have hm := resOf_run h1 h2 hr
    refine ⟨h1.dfr, _, ?_, h W h2⟩
    rw [results_act, Array.mapM_eq_mapM_toList]
    simp only [Sem.run_bind, Sem.run_map, hm, Result.andThen_ok]
    match m with
    | [] => rfl
    | [v] => rfl
    | v :: u :: m => simp
end
end Go.Proofs.Ytpkicpnbpldkpaa
