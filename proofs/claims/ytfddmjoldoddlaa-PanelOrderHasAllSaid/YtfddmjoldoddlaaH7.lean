/- A region that draws its order, some of whose operations make a new block: each is followed beside a twin that makes none. Conditions: none beyond each theorem's own. -/
import Derived.Test.YtfddmjoldoddlaaH6
namespace Go.Proofs.Ytfddmjoldoddlaa
open Go.RowKit
/-- An operation that makes a block: its slot, the part of memory, what its twin yields, what it yields at block b, the part at block b. -/
structure Fd where
  d : Nat
  κ : Nat
  u : Value
  V : Nat → Value
  e : Nat → Ent
section
variable {P : Program} {ops ops' : Array Oper} {C : World → Prop} {m n : Nat} {w : Bs} {E : Nat → Ent} {fr : Nat → Option Fd}
/-- The end is reached on some way, and what has been written stays. -/
theorem HeadAny.reach {L : Array Bool → Act → Prop} {S : Nat → Prop} (hne : ∃ W, C W) (hS : ∀ i o d, ops'[i]? = some o → o.dst = some d → S i → True) (D : Nat → Prop) :
    ∀ (f : Nat) (listed : Array Bool) (a : Act), (∀ i o, ops'[i]? = some o → listed.getD i true = false → ∀ d, o.dst = some d → ¬ D d) → HeadAny P ops' C m L f listed a →
      ∃ listed' a', L listed' a' ∧ ∀ t, D t → a'.tmps[t]? = a.tmps[t]?
  | 0, listed, a, _, h => ⟨listed, a, h, fun _ _ => rfl⟩
  | f + 1, listed, a, hD, h => by
    obtain ⟨i, hi⟩ := List.exists_mem_of_ne_nil _ h.1
    obtain ⟨hun, oi, hoi, _⟩ := mem_ready.1 hi
    obtain ⟨v, _, hK⟩ := yieldsIn_of_qOp hoi (h.2 i hi).2
    obtain ⟨l', a', hL, ht⟩ := HeadAny.reach hne hS D f _ _ (fun j o hj hl d hd => by
      by_cases e : i = j
      · subst e
        have : o = oi := Option.some.inj (hj.symm.trans hoi)
        subst this
        exact hD i o hoi hun d hd
      · rw [getD_set_ne true e] at hl; exact hD j o hj hl d hd) hK
    refine ⟨l', a', hL, fun t hDt => (ht t hDt).trans ?_⟩
    cases hd : oi.dst with
    | none => rfl
    | some d =>
      have hne : d ≠ t := fun e => by subst e; exact hD i oi hoi hun d hd hDt
      simp only [Act.put]
      rw [Array.getElem?_setIfInBounds_ne hne]
open Classical in
/-- Memory when some of the operations have made their blocks. -/
noncomputable def ES (E : Nat → Ent) (fr : Nat → Option Fd) (on : Nat → Prop) (bs : Nat → Nat) : Nat → Ent :=
  fun k => if h : ∃ i, on i ∧ ∃ x, fr i = some x ∧ x.κ = k then (match fr (Classical.choose h) with | some x => x.e (bs (Classical.choose h)) | none => emp) else E k
theorem ES_at {on : Nat → Prop} {bs : Nat → Nat} (hinj : ∀ i j x y, fr i = some x → fr j = some y → i ≠ j → x.κ ≠ y.κ ∧ x.d ≠ y.d) {i : Nat} {x : Fd} (hi : on i) (hx : fr i = some x) : ES E fr on bs x.κ = x.e (bs i) := by
  have h : ∃ i, on i ∧ ∃ y, fr i = some y ∧ y.κ = x.κ := ⟨i, hi, x, hx, rfl⟩
  unfold ES
  rw [dif_pos h]
  obtain ⟨_, y, hy, hk⟩ := Classical.choose_spec h
  have : Classical.choose h = i := Classical.byContradiction fun hne => (hinj _ _ _ _ hy hx hne).1 hk
  rw [this, hx]
theorem ES_off {on : Nat → Prop} {bs : Nat → Nat} {k : Nat} (h : ¬ ∃ i, on i ∧ ∃ x, fr i = some x ∧ x.κ = k) : ES E fr on bs k = E k := by
  unfold ES; rw [dif_neg h]
/-- The real run beside its twin's. -/
structure Twin (w : Bs) (E : Nat → Ent) (fr : Nat → Option Fd) (n : Nat) (listed : Array Bool) (a' a : Act) (W : World) : Prop where
  size : a.tmps.size = n
  size' : a'.tmps.size = n
  dfr : a'.defers = a.defers
  same : ∀ t, (∀ i x, fr i = some x → x.d ≠ t) → a'.tmps[t]? = a.tmps[t]?
  mem : ∃ bs : Nat → Nat, (∀ i x, fr i = some x → listed.getD i false = true → a.tmps[x.d]? = some (x.V (bs i))) ∧ HF w W (ES E fr (fun i => listed.getD i false = true) bs)
theorem eval_same {a a' : Act} {o : Oper} (hs : ∀ cs b, o.op ≠ .select cs b) (h : ∀ d, d ∈ o.looksAt ops → a'.tmps[d]? = a.tmps[d]?) : execOp a'.eval o = execOp a.eval o :=
  execOp_congr o hs fun x hx => by
    cases x with
    | tmp t =>
      have := h t (List.mem_append_left _ (List.mem_filterMap.2 ⟨.tmp t, by simpa using hx, rfl⟩))
      simp [Act.eval, this]
    | const v => rfl
    | global g => rfl
    | func f => rfl
/-- The list with some operations put in place of others. -/
def twin : List Oper → Nat → List (Nat × Op) → List Oper
  | [], _, _ => []
  | o :: l, i, T => ⟨o.dst, (match T.lookup i with | some op => op | none => o.op), o.type, o.pos, o.after, o.guard⟩ :: twin l (i + 1) T
theorem twin_at : ∀ (l : List Oper) (k : Nat) (T : List (Nat × Op)) (i : Nat), (twin l k T)[i]? = (l[i]?).map fun o => ⟨o.dst, (match T.lookup (k + i) with | some op => op | none => o.op), o.type, o.pos, o.after, o.guard⟩
  | [], k, T, i => by simp [twin]
  | o :: l, k, T, 0 => by simp [twin]
  | o :: l, k, T, i + 1 => by
    have := twin_at l (k + 1) T i
    simp only [twin, List.getElem?_cons_succ, this]
    rw [show k + 1 + i = k + (i + 1) by omega]
theorem twin_len : ∀ (l : List Oper) (k : Nat) (T : List (Nat × Op)), (twin l k T).length = l.length
  | [], _, _ => rfl
  | o :: l, k, T => by simp [twin, twin_len l (k + 1) T]
theorem twin_none {l : List Oper} {T : List (Nat × Op)} {i : Nat} (h : T.lookup i = none) : (twin l 0 T)[i]? = l[i]? := by
  rw [twin_at, Nat.zero_add, h]
  cases l[i]? <;> rfl
theorem twin_ready (md : Region.Mode) (l : List Oper) (T : List (Nat × Op)) (listed : Array Bool) : Region.ready md (twin l 0 T).toArray listed = Region.ready md l.toArray listed := by
  unfold Region.ready
  simp only [List.size_toArray, twin_len, List.getElem?_toArray, twin_at]
  congr 1
  funext i
  cases l[i]? <;> rfl
theorem twin_dst (l : List Oper) (T : List (Nat × Op)) (j : Nat) : (((twin l 0 T).toArray)[j]?).bind (·.dst) = ((l.toArray)[j]?).bind (·.dst) := by
  simp only [List.getElem?_toArray, twin_at]
  cases l[j]? <;> rfl
theorem twin_yielded (l : List Oper) (T : List (Nat × Op)) (tmps : Array Value) : yielded (twin l 0 T).toArray tmps = yielded l.toArray tmps := by
  funext j
  unfold yielded
  rw [twin_dst]
theorem wanted_same {l : List Oper} {a a' : Act} {o : Oper} (h : ∀ d, d ∈ o.looksAt l.toArray → a'.tmps[d]? = a.tmps[d]?) : Region.wanted o (yielded l.toArray a'.tmps) = Region.wanted o (yielded l.toArray a.tmps) := by
  unfold Region.wanted
  cases hg : o.guard with
  | none => rfl
  | some gw =>
    obtain ⟨g, want⟩ := gw
    have : yielded l.toArray a'.tmps g = yielded l.toArray a.tmps g := by
      unfold yielded
      cases ht : (l.toArray[g]?).bind (·.dst) with
      | none => rfl
      | some t =>
        have := h t (by simp only [Oper.looksAt, hg, ht]; simp)
        simp only [Option.bind_some, this]
    simp only [this]
/-- What is to be looked up once: the slots of the blocks are read by none of the head, and each is written once. -/
def frB (l : List Oper) (T : List (Nat × Op)) (m n : Nat) (D : List (Nat × Nat)) : Bool :=
  (List.range l.length).all (fun i => match (twin l 0 T)[i]? with
    | some o => D.all fun p => (!(decide (i < m)) || !(o.looksAt (twin l 0 T).toArray).contains p.2) && (o.dst != some p.2 || i == p.1)
    | none => true) &&
  D.all (fun p => decide (p.1 < m) && decide (p.2 < n) && (match l[p.1]? with | some o => o.guard.isNone && o.dst == some p.2 | none => false) && (T.lookup p.1).isSome) &&
  T.all (fun p => (D.lookup p.1).isSome)
section
variable {P : Program} {l : List Oper} {T : List (Nat × Op)} {m n : Nat} {w : Bs} {E : Nat → Ent} {Fs : List (Nat × Fd)} {f1 : Nat → Option Value}
/-- The run of the real operation, given the twin's. -/
def FrRun (P : Program) (w : Bs) (l : List Oper) (T : List (Nat × Op)) (i : Nat) (x : Fd) : Prop :=
  ∀ (o : Oper) (op : Op), l[i]? = some o → T.lookup i = some op →
    (∀ (ρ : Operand → Value) (W : World), ∃ u, (execOp ρ ⟨o.dst, op, o.type, o.pos, o.after, o.guard⟩).run P W = .ok (.value u) W) ∧
    ∀ (ρ : Operand → Value) (W : World), (execOp ρ ⟨o.dst, op, o.type, o.pos, o.after, o.guard⟩).run P W = .ok (.value x.u) W →
    ∃ W1, (execOp ρ o).run P W = .ok (.value (x.V W.heap.size)) W1 ∧ Below W.heap.size W W1 ∧ ∀ E1, HF w W E1 → HF w W1 (up E1 x.κ (x.e W.heap.size))
theorem lookup_mem {α : Type} : ∀ {L : List (Nat × α)} {i : Nat} {x : α}, L.lookup i = some x → (i, x) ∈ L
  | [], _, _, h => by cases h
  | (j, y) :: L, i, x, h => by
    rw [List.lookup_cons] at h
    cases hij : (i == j) with
    | true => rw [hij] at h; simp at h hij; subst h hij; simp
    | false => rw [hij] at h; exact List.mem_cons_of_mem _ (lookup_mem h)
theorem lookup_map {α β : Type} (g : α → β) : ∀ (L : List (Nat × α)) (i : Nat), (L.map fun p => (p.1, g p.2)).lookup i = (L.lookup i).map g
  | [], _ => rfl
  | (j, y) :: L, i => by
    simp only [List.map_cons, List.lookup_cons]
    cases (i == j) <;> simp [lookup_map g L i]
/-- What frB says. -/
theorem frB_spec (hB : frB l T m n (Fs.map fun p => (p.1, p.2.d)) = true) :
    (∀ i o, (twin l 0 T)[i]? = some o → ∀ j x, Fs.lookup j = some x → (i < m → x.d ∉ o.looksAt (twin l 0 T).toArray) ∧ (o.dst = some x.d → i = j)) ∧
    (∀ j x, Fs.lookup j = some x → j < m ∧ x.d < n ∧ (∃ o, l[j]? = some o ∧ o.guard = none ∧ o.dst = some x.d) ∧ ∃ op, T.lookup j = some op) ∧ (∀ j, Fs.lookup j = none → T.lookup j = none) := by
  simp only [frB, Bool.and_eq_true] at hB
  obtain ⟨⟨h1, h2⟩, h3⟩ := hB
  have hmem : ∀ {j x}, Fs.lookup j = some x → (j, x.d) ∈ Fs.map fun p => (p.1, p.2.d) := fun h => List.mem_map.2 ⟨_, lookup_mem h, rfl⟩
  refine ⟨fun i o ho j x hx => ?_, fun j x hx => ?_, fun j hj => ?_⟩
  · have hi : i < l.length := by
      have := (List.getElem?_eq_some_iff.1 ho).1
      rwa [twin_len] at this
    have h := List.all_eq_true.1 h1 i (List.mem_range.2 hi)
    rw [ho] at h
    have h := List.all_eq_true.1 h _ (hmem hx)
    simp only [Bool.and_eq_true, Bool.or_eq_true, Bool.not_eq_true', decide_eq_false_iff_not, List.contains_eq_mem, bne_iff_ne, beq_iff_eq] at h
    refine ⟨fun hm => ?_, fun hd => ?_⟩
    · rcases h.1 with h | h
      · exact absurd hm h
      · simpa using h
    · rcases h.2 with h | h
      · exact absurd hd h
      · exact h
  · have h := List.all_eq_true.1 h2 _ (hmem hx)
    simp only [Bool.and_eq_true, decide_eq_true_eq] at h
    obtain ⟨⟨⟨a1, a2⟩, a3⟩, a4⟩ := h
    refine ⟨a1, a2, ?_, Option.isSome_iff_exists.1 a4⟩
    split at a3
    · rename_i o ho
      simp only [Bool.and_eq_true, beq_iff_eq, Option.isNone_iff_eq_none] at a3
      exact ⟨o, ho, a3.1, a3.2⟩
    · cases a3
  · cases ht : T.lookup j with
    | none => rfl
    | some op =>
      have h := List.all_eq_true.1 h3 _ (lookup_mem ht)
      rw [lookup_map (fun x : Fd => x.d) Fs j, hj] at h
      cases h
theorem put_at {a : Act} {d t : Nat} {v : Value} (h : t ≠ d) : (a.put (some d) v).tmps[t]? = a.tmps[t]? := by
  simp only [Act.put]
  exact Array.getElem?_setIfInBounds_ne (fun e => h e.symm)
theorem put_get {a : Act} {d : Nat} {v : Value} (h : d < a.tmps.size) : (a.put (some d) v).tmps[d]? = some v := by simp [Act.put, h]
theorem put_size {a : Act} {d : Option Nat} {v : Value} : (a.put d v).tmps.size = a.tmps.size := by cases d <;> simp [Act.put]
theorem put_dfr {a : Act} {d : Option Nat} {v : Value} : (a.put d v).defers = a.defers := by cases d <;> rfl
/-- The value that the twin yields is the one of the frame at the end. -/
theorem HeadAny.value {C : World → Prop} {L : Array Bool → Act → Prop} {f : Nat} {listed : Array Bool} {a' : Act} {i d : Nat} {oi : Oper} {v u : Value} {ops' : Array Oper} (hC : ∃ W, C W) (hL : ∀ listed a, L listed a → FR n f1 a)
    (huniq : ∀ j o, ops'[j]? = some o → o.dst = some d → j = i) (hlt : d < a'.tmps.size) (hset : listed.getD i true = true) (hu : f1 d = some u) (h : HeadAny P ops' C m L f listed (a'.put (some d) v)) : v = u := by
  obtain ⟨l', a2, hL2, ht⟩ := HeadAny.reach (S := fun _ => True) hC (fun _ _ _ _ _ _ => trivial) (fun t => t = d) f listed _ (fun j o hj hl e he hde => by
    subst hde
    have := huniq j o hj he
    subst this
    rw [hset] at hl; cases hl) h
  have h1 := ht d rfl
  rw [put_get hlt] at h1
  have h2 := (hL _ _ hL2).get d u hu
  rw [h1] at h2
  exact Option.some.inj h2
theorem HeadAny.runF {L : Array Bool → Act → Prop} {Q : Exit → Act → World → Prop} {g : Nat} (hinj : ∀ i j x y, Fs.lookup i = some x → Fs.lookup j = some y → i ≠ j → x.κ ≠ y.κ ∧ x.d ≠ y.d)
    (hB : frB l T m n (Fs.map fun p => (p.1, p.2.d)) = true) (hrun : ∀ i x, Fs.lookup i = some x → FrRun P w l T i x) (hu : ∀ i x, Fs.lookup i = some x → f1 x.d = some x.u) (hLf : ∀ listed a, L listed a → FR n f1 a)
    (hemp : ∀ i x, Fs.lookup i = some x → E x.κ = emp) (hsel : Region.noSelect (twin l 0 T).toArray = true) (huniq : ∀ (i j : Nat) (o o2 : Oper) (d : Nat), (twin l 0 T)[i]? = some o → (twin l 0 T)[j]? = some o2 → o.dst = some d → o2.dst = some d → i = j)
    (hcov : ∀ i o d, (twin l 0 T)[i]? = some o → i < m → o.dst = some d → d < n ∧ ∃ v, f1 d = some v)
    (hL : ∀ listed a' a W, HeadInv .any (twin l 0 T).toArray m listed → Twin w E (Fs.lookup ·) n listed a' a W → L listed a' → wpAny P .any l.toArray Q g listed a W) :
    ∀ (f : Nat) (listed : Array Bool) (a' a : Act) (W : World), HeadInv .any (twin l 0 T).toArray m listed → listed.size = l.length → Twin w E (Fs.lookup ·) n listed a' a W → (∀ W2, HF w W2 E → HeadAny P (twin l 0 T).toArray (fun W' => Below W2.heap.size W2 W') m L f listed a') → wpAny P .any l.toArray Q (f + g) listed a W := by
  obtain ⟨b1, b2, b3⟩ := frB_spec hB
  have hE : ∀ {listed : Array Bool} {a' a : Act} {W : World}, Twin w E (Fs.lookup ·) n listed a' a W → HF w W E := fun {listed a' a W} ht => by
    obtain ⟨bs, _, hm⟩ := ht.mem
    refine hm.weaken fun k => ?_
    by_cases hk : ∃ i, (listed.getD i false = true) ∧ ∃ x, Fs.lookup i = some x ∧ x.κ = k
    · obtain ⟨i, _, x, hx, rfl⟩ := hk
      exact .inr (hemp i x hx)
    · exact .inl (ES_off hk).symm
  intro f
  induction f with
  | zero =>
    intro listed a' a W inv _ ht hall
    rw [Nat.zero_add]
    exact hL listed a' a W inv ht (hall W (hE ht))
  | succ f ih =>
    intro listed a' a W inv hls ht hall
    rw [Nat.add_right_comm]
    have h0 := hall W (hE ht)
    refine ⟨fun e => absurd e (by rw [← twin_ready .any l T]; exact h0.1), fun i hi => ?_⟩
    have hi' : i ∈ Region.ready .any (twin l 0 T).toArray listed := by rw [twin_ready]; exact hi
    obtain ⟨him, hq⟩ := h0.2 i hi'
    obtain ⟨hun, o', ho'a, _⟩ := mem_ready.1 hi'
    have ho' : (twin l 0 T)[i]? = some o' := by simpa using ho'a
    have hil : i < listed.size := by
      have := (List.getElem?_eq_some_iff.1 ho').1
      rw [twin_len] at this; omega
    have hset : (listed.setIfInBounds i true).getD i true = true := by simp [hil]
    obtain ⟨v, hy, hK⟩ := yieldsIn_of_qOp ho'a hq
    -- the value is the same from whatever world the twin is followed
    have hval : ∀ W2 v2, HF w W2 E → HeadAny P (twin l 0 T).toArray (fun W' => Below W2.heap.size W2 W') m L f (listed.setIfInBounds i true) (a'.put o'.dst v2) → ∀ d, o'.dst = some d → f1 d = some v2 := fun W2 v2 h2 hh d hd => by
      obtain ⟨hdn, u, hu1⟩ := hcov i o' d ho' him hd
      rw [hd] at hh
      have := HeadAny.value (i := i) (oi := o') ⟨W2, Below.refl _ _⟩ hLf (fun j o hj he => (huniq i j o' o d ho' (by simpa using hj) hd he).symm) (by rw [ht.size']; exact hdn) hset hu1 hh
      rw [this]; exact hu1
    have hall' : ∀ W2, HF w W2 E → HeadAny P (twin l 0 T).toArray (fun W' => Below W2.heap.size W2 W') m L f (listed.setIfInBounds i true) (a'.put o'.dst v) := fun W2 h2 => by
      obtain ⟨v2, _, hK2⟩ := yieldsIn_of_qOp ho'a ((hall W2 h2).2 i hi').2
      cases hd : o'.dst with
      | none => rw [hd] at hK2; exact hK2
      | some d =>
        have e1 := hval W v (hE ht) hK d hd
        have e2 := hval W2 v2 h2 hK2 d hd
        rw [e1] at e2
        rw [Option.some.inj e2, ← hd]; exact hK2
    have inv' := inv.set hi' him
    have hls' : (listed.setIfInBounds i true).size = l.length := by simp [hls]
    have hlook : ∀ d, d ∈ o'.looksAt (twin l 0 T).toArray → a'.tmps[d]? = a.tmps[d]? := fun d hd => ht.same d fun j x hx e => (b1 i o' ho' j x hx).1 him (e ▸ hd)
    cases hx : Fs.lookup i with
    | none =>
      have hTn := b3 i hx
      have ho : l[i]? = some o' := by rw [← twin_none hTn]; exact ho'
      have hlook2 : ∀ d, d ∈ o'.looksAt l.toArray → a'.tmps[d]? = a.tmps[d]? := fun d hd => hlook d (by
        have : o'.looksAt (twin l 0 T).toArray = o'.looksAt l.toArray := by
          unfold Oper.looksAt
          congr 1
          cases o'.guard with
          | none => rfl
          | some gw => simp only [twin_dst]
        rw [this]; exact hd)
      -- the state behind it
      have hnew : ∀ W', Below W.heap.size W W' → Twin w E (Fs.lookup ·) n (listed.setIfInBounds i true) (a'.put o'.dst v) (a.put o'.dst v) W' := fun W' hb => by
        refine ⟨by rw [put_size]; exact ht.size, by rw [put_size]; exact ht.size', by rw [put_dfr, put_dfr]; exact ht.dfr, fun t htD => ?_, ?_⟩
        · cases hd : o'.dst with
          | none => exact ht.same t htD
          | some d =>
            by_cases e : t = d
            · subst e
              obtain ⟨hdn, _⟩ := hcov i o' t ho' him hd
              rw [put_get (by rw [ht.size']; exact hdn), put_get (by rw [ht.size]; exact hdn)]
            · rw [put_at e, put_at e]; exact ht.same t htD
        · obtain ⟨bs, hb1, hb2⟩ := ht.mem
          have hon : (fun j => (listed.setIfInBounds i true).getD j false = true) = (fun j => (listed.getD j false = true) ∨ j = i) := by
            funext j
            apply propext
            by_cases e : i = j
            · subst e; simp [hil]
            · rw [getD_set_ne false e]
              exact ⟨.inl, fun h => h.resolve_right (fun h => e h.symm)⟩
          refine ⟨bs, fun j x hj hl => ?_, ?_⟩
          · have hji : i ≠ j := fun e => by subst e; rw [hx] at hj; cases hj
            rw [getD_set_ne false hji] at hl
            have := hb1 j x hj hl
            cases hd : o'.dst with
            | none => exact this
            | some d =>
              have : x.d ≠ d := fun e => hji ((b1 i o' ho' j x hj).2 (by rw [hd, e]))
              rw [put_at this]; assumption
          · refine (hb2.later hb).weaken fun k => .inl ?_
            by_cases hk : ∃ j, (listed.getD j false = true) ∧ ∃ x, Fs.lookup j = some x ∧ x.κ = k
            · obtain ⟨j, hj1, x, hj2, rfl⟩ := hk
              have hji : i ≠ j := fun e => by subst e; rw [hx] at hj2; cases hj2
              have e1 := ES_at (E := E) (bs := bs) (on := fun i_1 => (listed.setIfInBounds i true).getD i_1 false = true) hinj (i := j) (by rw [getD_set_ne false hji]; exact hj1) hj2
              have e2 := ES_at (E := E) (bs := bs) (on := fun i => listed.getD i false = true) hinj hj1 hj2
              exact e1.trans e2.symm
            · refine (ES_off fun ⟨j, hj1, x, hj2, hj3⟩ => hk ⟨j, ?_, x, hj2, hj3⟩).trans (ES_off hk).symm
              rwa [getD_set_ne false (fun e => by subst e; rw [hx] at hj2; cases hj2)] at hj1
      unfold wpOp
      simp only [show (l.toArray)[i]? = some o' by simpa using ho]
      have hw : Region.wanted o' (yielded l.toArray a.tmps) = Region.wanted o' (yielded (twin l 0 T).toArray a'.tmps) := by rw [twin_yielded]; exact (wanted_same hlook2).symm
      rcases hy with ⟨hw1, hqa⟩ | ⟨hw1, rfl⟩
      · rw [if_pos (hw.trans hw1)]
        left
        have hq1 := hqa W (Below.refl _ _)
        unfold Oper.quietAt at hq1
        rw [eval_same (ops := l.toArray) (fun cs b => Region.noSelect_spec hsel i o' cs b ho'a) hlook2] at hq1
        unfold Oper.wp
        generalize (execOp a.eval o').run P W = r at hq1
        cases r with
        | ok nx W' =>
          cases nx <;> simp only [Oper.quietUpon] at hq1 <;> simp only [Oper.upon]
          case value u' =>
            obtain ⟨e1, e2⟩ := hq1
            subst e1 e2
            exact ih _ _ _ _ inv' hls' (hnew _ (Below.refl _ _)) hall'
          case skip =>
            obtain ⟨e1, e2⟩ := hq1
            subst e1 e2
            exact ih _ _ _ _ inv' hls' (hnew _ (Below.refl _ _)) hall'
          case enter fn args =>
            obtain ⟨e1, hc⟩ := hq1
            subst e1
            exact hc.mono fun e W'' ⟨he, hb⟩ => by subst he; exact ih _ _ _ _ inv' hls' (hnew _ hb) hall'
        | halt h' W' => simp only [Oper.quietUpon] at hq1
      · rw [if_neg (by rw [hw, hw1]; simp)]
        exact ih _ _ _ _ inv' hls' (hnew _ (Below.refl _ _)) hall'
    | some x =>
      obtain ⟨_, hxn, ⟨o, ho, hog, hod⟩, op, hop⟩ := b2 i x hx
      have hoe : o' = ⟨o.dst, op, o.type, o.pos, o.after, o.guard⟩ := by
        rw [twin_at, ho, Nat.zero_add] at ho'
        simp only [Option.map_some, hop, Option.some.inj] at ho'
        exact (Option.some.inj ho').symm
      obtain ⟨hrv, hrr⟩ := hrun i x hx o op ho hop
      have hd : o'.dst = some x.d := by rw [hoe]; exact hod
      have hg' : o'.guard = none := by rw [hoe]; exact hog
      have hvu : v = x.u := by
        have e1 := hval W v (hE ht) hK x.d hd
        rw [hu i x hx] at e1
        exact (Option.some.inj e1).symm
      subst hvu
      have hsame := eval_same (ops := (twin l 0 T).toArray) (fun cs b => Region.noSelect_spec hsel i o' cs b ho'a) hlook
      have hrun2 : (execOp a.eval o').run P W = .ok (.value x.u) W := by
        rcases hy with ⟨_, hqa⟩ | ⟨hw1, _⟩
        · have hq1 := hqa W (Below.refl _ _)
          unfold Oper.quietAt at hq1
          rw [hsame] at hq1
          obtain ⟨u, hu2⟩ := hrv a.eval W
          rw [← hoe] at hu2
          rw [hu2] at hq1 ⊢
          simp only [Oper.quietUpon] at hq1
          rw [hq1.2]
        · simp [Region.wanted, hg'] at hw1
      obtain ⟨W1, hr1, hb1, hh1⟩ := hrr a.eval W (by rw [← hoe]; exact hrun2)
      unfold wpOp
      simp only [show (l.toArray)[i]? = some o by simpa using ho]
      rw [if_pos (by simp [Region.wanted, hog])]
      left
      unfold Oper.wp
      rw [hr1]
      simp only [Oper.upon]
      have hod' : o.dst = o'.dst := by rw [hd, hod]
      rw [hod]
      rw [hd] at hall'
      refine ih _ _ _ _ inv' hls' ?_ hall'
      obtain ⟨bs, hbs1, hbs2⟩ := ht.mem
      refine ⟨by rw [put_size]; exact ht.size, by rw [put_size]; exact ht.size', by rw [put_dfr, put_dfr]; exact ht.dfr, fun t htD => ?_, fun j => if j = i then W.heap.size else bs j, fun j y hj hl => ?_, ?_⟩
      · have hne : t ≠ x.d := fun e => htD i x hx e.symm
        rw [put_at hne, put_at hne]; exact ht.same t htD
      · by_cases e : j = i
        · subst e
          have : y = x := Option.some.inj (hj.symm.trans hx)
          subst this
          rw [put_get (by rw [ht.size]; exact hxn)]
          show _ = some (y.V (if j = j then W.heap.size else bs j))
          rw [if_pos rfl]
        · rw [getD_set_ne false (fun h => e h.symm)] at hl
          rw [put_at (hinj j i y x hj hx e).2]
          show _ = some (y.V (if j = i then W.heap.size else bs j))
          rw [if_neg e]
          exact hbs1 j y hj hl
      · refine (hh1 _ hbs2).weaken fun k => .inl ?_
        by_cases hkx : k = x.κ
        · subst hkx
          rw [up_same]
          have e1 := ES_at (E := E) (bs := fun j => if j = i then W.heap.size else bs j) (on := fun i_1 => (listed.setIfInBounds i true).getD i_1 false = true) hinj (i := i) (by simp [hil]) hx
          refine e1.trans ?_
          show x.e (if i = i then W.heap.size else bs i) = _
          rw [if_pos rfl]
        · rw [up_ne hkx]
          by_cases hk : ∃ j, (listed.getD j false = true) ∧ ∃ x, Fs.lookup j = some x ∧ x.κ = k
          · obtain ⟨j, hj1, y, hj2, rfl⟩ := hk
            have hji : j ≠ i := fun e => by subst e; rw [hx] at hj2; exact hkx (by rw [Option.some.inj hj2])
            have e1 := ES_at (E := E) (bs := fun j => if j = i then W.heap.size else bs j) (on := fun i_1 => (listed.setIfInBounds i true).getD i_1 false = true) hinj (i := j) (by rw [getD_set_ne false (fun h => hji h.symm)]; exact hj1) hj2
            have e2 := ES_at (E := E) (bs := bs) (on := fun i => listed.getD i false = true) hinj hj1 hj2
            refine e1.trans (Eq.trans ?_ e2.symm)
            show y.e (if j = i then W.heap.size else bs j) = _
            rw [if_neg hji]
          · refine (ES_off fun ⟨j, hj1, y, hj2, hj3⟩ => ?_).trans (ES_off hk).symm
            by_cases e : j = i
            · subst e; rw [hx] at hj2; exact hkx (by rw [Option.some.inj hj2, hj3])
            · rw [getD_set_ne false (fun h => e h.symm)] at hj1
              exact hk ⟨j, hj1, y, hj2, hj3⟩
/-- Each slot of the head is written once, and its value at the end is known. -/
def covB (l : List Oper) (m n : Nat) (fs : List (Nat × Value)) : Bool :=
  (List.range l.length).all (fun i => match l[i]? with
    | some o => match o.dst with
      | some d => (!(decide (i < m)) || (decide (d < n) && (LF fs d).isSome)) && (List.range l.length).all fun j => i == j || (match l[j]? with | some o2 => o2.dst != some d | none => true)
      | none => true
    | none => true)
theorem covB_spec {fs : List (Nat × Value)} (h : covB l m n fs = true) :
    (∀ (i j : Nat) (o o2 : Oper) (d : Nat), (twin l 0 T)[i]? = some o → (twin l 0 T)[j]? = some o2 → o.dst = some d → o2.dst = some d → i = j) ∧
    ∀ i o d, (twin l 0 T)[i]? = some o → i < m → o.dst = some d → d < n ∧ ∃ v, LF fs d = some v := by
  have key : ∀ (i : Nat) (o : Oper) (d : Nat), (twin l 0 T)[i]? = some o → o.dst = some d → ∃ o1, l[i]? = some o1 ∧ o1.dst = some d ∧ i < l.length := fun i o d ho hd => by
    rw [twin_at] at ho
    obtain ⟨o1, h1, h2⟩ := Option.map_eq_some_iff.1 ho
    exact ⟨o1, h1, by rw [← h2] at hd; exact hd, (List.getElem?_eq_some_iff.1 h1).1⟩
  refine ⟨fun i j o o2 d ho ho2 hd hd2 => ?_, fun i o d ho him hd => ?_⟩
  · obtain ⟨p, hp, hpd, hi⟩ := key i o d ho hd
    obtain ⟨q, hq, hqd, hj⟩ := key j o2 d ho2 hd2
    have h1 := List.all_eq_true.1 h i (List.mem_range.2 hi)
    simp only [hp, hpd, Bool.and_eq_true] at h1
    have h2 := List.all_eq_true.1 h1.2 j (List.mem_range.2 hj)
    simp only [hq, hqd, Bool.or_eq_true, beq_iff_eq, bne_self_eq_false, Bool.false_eq_true, or_false] at h2
    exact h2
  · obtain ⟨p, hp, hpd, hi⟩ := key i o d ho hd
    have h1 := List.all_eq_true.1 h i (List.mem_range.2 hi)
    simp only [hp, hpd, Bool.and_eq_true, Bool.or_eq_true, Bool.not_eq_true', decide_eq_false_iff_not, decide_eq_true_eq] at h1
    rcases h1.1 with h2 | h2
    · exact absurd him h2
    · exact ⟨h2.1, Option.isSome_iff_exists.1 h2.2⟩
/-- The slots at the end, the new blocks at bs. -/
def outF (fs : List (Nat × Value)) (Fs : List (Nat × Fd)) (bs : Nat → Nat) : Nat → Option Value :=
  Fs.foldr (fun p f => uf f p.2.d (p.2.V (bs p.1))) (LF fs)
def outE (E : Nat → Ent) (Fs : List (Nat × Fd)) (bs : Nat → Nat) : Nat → Ent :=
  Fs.foldr (fun p E => up E p.2.κ (p.2.e (bs p.1))) E
theorem lookup_self {α : Type} (p : Nat × α) (L : List (Nat × α)) : (p :: L).lookup p.1 = some p.2 := by
  obtain ⟨i, x⟩ := p
  simp [List.lookup]
theorem lookup_tail {p : Nat × Fd} {L : List (Nat × Fd)} {i : Nat} {x : Fd} (hn : ((p :: L).map (·.1)).Nodup) (h : L.lookup i = some x) : (p :: L).lookup i = some x := by
  rw [List.lookup_cons]
  have : (i == p.1) = false := by
    rw [beq_eq_false_iff_ne]
    rintro rfl
    simp only [List.map_cons, List.nodup_cons] at hn
    exact hn.1 (List.mem_map.2 ⟨_, lookup_mem h, rfl⟩)
  rw [this]; exact h
theorem outF_spec {fs : List (Nat × Value)} {a' a : Act} {bs : Nat → Nat} (ha' : FR n (LF fs) a') (hsz : a.tmps.size = n) (hdf : a'.defers = a.defers) : ∀ (L : List (Nat × Fd)) (_ : (L.map (·.1)).Nodup), (∀ i x, L.lookup i = some x → a.tmps[x.d]? = some (x.V (bs i))) →
    (∀ t, (∀ i x, L.lookup i = some x → x.d ≠ t) → LF fs t ≠ none → a'.tmps[t]? = a.tmps[t]?) → FR n (outF fs L bs) a
  | [], _, _, h2 => ⟨hsz, hdf ▸ ha'.dfr, fun t v hv => (h2 t (fun i x h => by cases h) (by rw [show LF fs t = some v from hv]; simp)) ▸ ha'.get t v hv⟩
  | p :: L, hn, h1, h2 => by
    refine ⟨hsz, hdf ▸ ha'.dfr, fun t v hv => ?_⟩
    unfold outF at hv
    simp only [List.foldr_cons, uf] at hv
    by_cases e : t = p.2.d
    · subst e
      simp at hv
      rw [← hv]
      exact h1 p.1 p.2 (lookup_self _ _)
    · have hbe : Nat.beq t p.2.d = false := by rw [Bool.eq_false_iff]; intro hh; exact e (Nat.eq_of_beq_eq_true hh)
      rw [hbe] at hv
      have hn' : (L.map (·.1)).Nodup := by simp only [List.map_cons, List.nodup_cons] at hn; exact hn.2
      by_cases hD : ∃ i x, L.lookup i = some x ∧ x.d = t
      · -- a slot of a later block
        have key : ∀ (M : List (Nat × Fd)), (∀ i x, M.lookup i = some x → a.tmps[x.d]? = some (x.V (bs i))) → (M.map (·.1)).Nodup → (∃ i x, M.lookup i = some x ∧ x.d = t) → ∀ v, outF fs M bs t = some v → a.tmps[t]? = some v := by
          intro M
          induction M with
          | nil => intro _ _ ⟨_, _, h, _⟩; cases h
          | cons q M ih =>
            intro g1 g2 g3 v hv
            unfold outF at hv
            simp only [List.foldr_cons, uf] at hv
            by_cases e2 : t = q.2.d
            · subst e2
              simp at hv
              rw [← hv]
              exact g1 q.1 q.2 (lookup_self _ _)
            · have hbe : Nat.beq t q.2.d = false := by rw [Bool.eq_false_iff]; intro hh; exact e2 (Nat.eq_of_beq_eq_true hh)
              rw [hbe] at hv
              have g2' : (M.map (·.1)).Nodup := by simp only [List.map_cons, List.nodup_cons] at g2; exact g2.2
              refine ih (fun i x h => g1 i x (lookup_tail g2 h)) g2' ?_ v hv
              obtain ⟨i, x, h, hd⟩ := g3
              rw [List.lookup_cons] at h
              cases hiq : (i == q.1) with
              | true => rw [hiq] at h; simp at h; subst h; exact absurd hd.symm e2
              | false => rw [hiq] at h; exact ⟨i, x, h, hd⟩
        exact key L (fun i x h => h1 i x (lookup_tail hn h)) hn' hD v hv
      · have hno : ∀ i x, (p :: L).lookup i = some x → x.d ≠ t := fun i x h hd => by
          rw [List.lookup_cons] at h
          cases hiq : (i == p.1) with
          | true => rw [hiq] at h; simp at h; subst h; exact e hd.symm
          | false => rw [hiq] at h; exact hD ⟨i, x, h, hd⟩
        have hLF : ∀ (M : List (Nat × Fd)), (∀ i x, M.lookup i = some x → x.d ≠ t) → (M.map (·.1)).Nodup → outF fs M bs t = some v → LF fs t = some v := by
          intro M
          induction M with
          | nil => intro _ _ h; exact h
          | cons q M ih =>
            intro g1 g2 h
            unfold outF at h
            simp only [List.foldr_cons, uf] at h
            have e2 : t ≠ q.2.d := fun e2 => g1 q.1 q.2 (lookup_self _ _) e2.symm
            have hbe : Nat.beq t q.2.d = false := by rw [Bool.eq_false_iff]; intro hh; exact e2 (Nat.eq_of_beq_eq_true hh)
            rw [hbe] at h
            exact ih (fun i x h => g1 i x (lookup_tail g2 h)) (by simp only [List.map_cons, List.nodup_cons] at g2; exact g2.2) h
        have hv' := hLF L (fun i x h => hno i x (lookup_tail hn h)) hn' hv
        rw [← h2 t hno (by rw [hv']; simp)]
        exact ha'.get t v hv'
theorem outE_spec {on : Nat → Prop} {bs : Nat → Nat} (hinj : ∀ i j x y, Fs.lookup i = some x → Fs.lookup j = some y → i ≠ j → x.κ ≠ y.κ ∧ x.d ≠ y.d) (hon : ∀ i x, Fs.lookup i = some x → on i) (hn : (Fs.map (·.1)).Nodup) :
    ES E (Fs.lookup ·) on bs = outE E Fs bs := by
  funext k
  have key : ∀ (M : List (Nat × Fd)), (∀ i x, M.lookup i = some x → Fs.lookup i = some x) → (M.map (·.1)).Nodup → (∀ i x, Fs.lookup i = some x → x.κ = k → M.lookup i = some x) → ES E (Fs.lookup ·) on bs k = outE E M bs k := by
    intro M
    induction M with
    | nil =>
      intro _ _ h
      exact ES_off fun ⟨i, _, x, hx, hk⟩ => by have := h i x hx hk; cases this
    | cons p M ih =>
      intro g1 g2 g3
      have hp : Fs.lookup p.1 = some p.2 := g1 p.1 p.2 (lookup_self _ _)
      unfold outE
      simp only [List.foldr_cons]
      by_cases e : k = p.2.κ
      · subst e
        rw [up_same]
        exact ES_at hinj (hon _ _ hp) hp
      · rw [up_ne e]
        refine ih (fun i x h => g1 i x (lookup_tail g2 h)) (by simp only [List.map_cons, List.nodup_cons] at g2; exact g2.2) (fun i x h hk => ?_)
        have h3 := g3 i x h hk
        rw [List.lookup_cons] at h3
        cases hip : (i == p.1) with
        | true => rw [hip] at h3; simp at h3; subst h3; exact absurd hk.symm e
        | false => rw [hip] at h3; exact h3
  exact key Fs (fun _ _ h => h) hn (fun _ _ h _ => h)
/-- THE RULE: a region that draws its order, m operations of whose head read, call quietly, or (those in Fs) make a block; then a tail whose operations wait for one another. -/
theorem Tr.drawF {f : Nat → Option Value} {id : Nat} {Q : Exit → Act → World → Prop} (m : Nat) (T : List (Nat × Op)) (Fs : List (Nat × Fd)) (fs : List (Nat × Value)) (hm : P.follows .mixedOrders = true) (hB : Region.lexTailB .any (twin l 0 T).toArray m = true)
    (hfr : frB l T m n (Fs.map fun p => (p.1, p.2.d)) = true) (hcov : covB l m n fs = true) (hn1 : decide (Fs.map (·.1)).Nodup = true) (hn2 : decide (Fs.map (·.2.κ)).Nodup = true) (hn3 : decide (Fs.map (·.2.d)).Nodup = true)
    (hrun : ∀ i x, Fs.lookup i = some x → FrRun P w l T i x) (hu : ∀ i x, Fs.lookup i = some x → LF fs x.d = some x.u) (hemp : ∀ i x, Fs.lookup i = some x → E x.κ = emp)
    (h : Tq P w n (twin l 0 T).toArray f E (fun a _ => FR n (LF fs) a) ((twin l 0 T).take m))
    (K : ∀ bs, Tr w n (outF fs Fs bs) (outE E Fs bs) (wpList P l.toArray Q (l.drop m))) : Tr w n f E ((Code.region id l.toArray true).wp P Q) := by
  intro a W0 h1 h2
  have hn1 := of_decide_eq_true hn1
  have hnd : ∀ {β : Type} (g : Fd → β) (L : List (Nat × Fd)), (L.map fun p => g p.2).Nodup → ∀ i j x y, L.lookup i = some x → L.lookup j = some y → i ≠ j → g x ≠ g y := by
    intro β g L
    induction L with
    | nil => intro _ i j x y hx; cases hx
    | cons p L ih =>
      intro hN i j x y hx hy hij
      simp only [List.map_cons, List.nodup_cons] at hN
      rw [List.lookup_cons] at hx hy
      cases hi : (i == p.1) with
      | true =>
        rw [hi] at hx; simp at hx hi; subst hx
        have hj : (j == p.1) = false := by rw [beq_eq_false_iff_ne]; exact fun e => hij (hi.trans e.symm)
        rw [hj] at hy
        exact fun e => hN.1 (List.mem_map.2 ⟨_, lookup_mem hy, e.symm⟩)
      | false =>
        rw [hi] at hx
        cases hj : (j == p.1) with
        | true => rw [hj] at hy; simp at hy; subst hy; exact fun e => hN.1 (List.mem_map.2 ⟨_, lookup_mem hx, e⟩)
        | false => rw [hj] at hy; exact ih hN.2 i j x y hx hy hij
  have hinj : ∀ i j x y, Fs.lookup i = some x → Fs.lookup j = some y → i ≠ j → x.κ ≠ y.κ ∧ x.d ≠ y.d := fun i j x y hx hy hij =>
    ⟨hnd (·.κ) Fs (of_decide_eq_true hn2) i j x y hx hy hij, hnd (·.d) Fs (of_decide_eq_true hn3) i j x y hx hy hij⟩
  obtain ⟨c1, c2⟩ := covB_spec (T := T) hcov
  simp only [Region.lexTailB, Bool.and_eq_true, decide_eq_true_eq] at hB
  obtain ⟨⟨⟨⟨hsel, hn⟩, hs⟩, hc⟩, hlex⟩ := hB
  have hlt : m < (twin l 0 T).length := by simpa using hn
  have htl : ((twin l 0 T).take m).length = m := by simp; omega
  have hlen : (twin l 0 T).length = l.length := twin_len _ _ _
  have hml : m < l.length := by omega
  have hdl : (l.drop m).length = l.length - m := by simp
  have inv0 : HeadInv .any (twin l 0 T).toArray m (Array.replicate (twin l 0 T).toArray.size false) :=
    ⟨by simp, fun j oj _ hl => (by rw [getD_replicate_false] at hl; cases hl), fun t _ ht => getD_in (by simpa using ht) (getD_replicate_false _ _)⟩
  have H : ∀ W2, HF w W2 E → HeadAny P (twin l 0 T).toArray (fun W' => Below W2.heap.size W2 W') m (fun listed' a' => Region.seqB .any (twin l 0 T).toArray (l.length - m) m listed' = true ∧ FR n (LF fs) a') m (Array.replicate (twin l 0 T).toArray.size false) a := fun W2 hW2 => by
    have := HeadAny.lex (P := P) (C := fun W' => Below W2.heap.size W2 W') (g := (twin l 0 T).toArray.size - m) (Lq := fun a' => FR n (LF fs) a') hsel hs hc hn ((twin l 0 T).take m) 0 _ a (fun j hj => by
      have hj' : j < m := by rw [htl] at hj; exact hj
      simp [hj']) (by simpa using htl) inv0 (by rw [htl]; exact hlex) (by
        have := h a W2 h1 hW2
        have key : ∀ (L : List Oper) (a : Act), wpQuiet P (twin l 0 T).toArray (fun W' => Below W2.heap.size W2 W') (fun a' => ∀ W', Below W2.heap.size W2 W' → FR n (LF fs) a') L a → wpQuiet P (twin l 0 T).toArray (fun W' => Below W2.heap.size W2 W') (fun a' => FR n (LF fs) a') L a := by
          intro L
          induction L with
          | nil => intro a h; exact h W2 (Below.refl _ _)
          | cons o L ih =>
            intro a h
            unfold wpQuiet at h ⊢
            split
            · rename_i hw; rw [if_pos hw] at h; exact Oper.quiet_mono (fun a => ih a) h
            · rename_i hw; rw [if_neg hw] at h; exact ih _ h
        exact key _ _ this)
    rw [htl] at this
    simpa [hlen] using this
  refine wp_region_any hm ?_
  have run := HeadAny.runF (P := P) (l := l) (T := T) (m := m) (n := n) (w := w) (E := E) (Fs := Fs) (f1 := LF fs) (Q := Q) (g := l.length - m)
    (L := fun listed' a' => Region.seqB .any (twin l 0 T).toArray (l.length - m) m listed' = true ∧ FR n (LF fs) a') hinj hfr hrun hu (fun _ _ h => h.2) hemp hsel c1 c2
    (fun listed a' a W inv ht hL => by
      obtain ⟨hseq, hFR⟩ := hL
      have hall : ∀ i x, Fs.lookup i = some x → listed.getD i false = true := fun i x hx => by
        cases hli : listed.getD i false with
        | true => rfl
        | false =>
          have him := ((frB_spec hfr).2.1 i x hx).1
          have hun : listed.getD i true = false := getD_in (by rw [inv.size]; simp; omega) hli
          have h3 := tail_waits hs hc hn inv _ i rfl him hun m (Nat.le_refl _)
          obtain ⟨g', hg'⟩ : ∃ g', l.length - m = g' + 1 := ⟨l.length - m - 1, by omega⟩
          rw [hg'] at hseq
          simp only [Region.seqB, Bool.and_eq_true, decide_eq_true_eq] at hseq
          rw [hseq.1] at h3
          simp at h3
      obtain ⟨bs, hb1, hb2⟩ := ht.mem
      rw [outE_spec hinj (fun i x hx => hall i x hx) hn1] at hb2
      have hF := outF_spec hFR ht.size ht.dfr Fs hn1 (fun i x hx => hb1 i x hx (hall i x hx)) (fun t htD _ => ht.same t htD)
      have := wpAny_of_seq (P := P) (md := .any) (Q' := Q) (l.drop m) m listed a W (ops := l.toArray) (fun j => by simp [List.getElem?_drop]) (by
        rw [hdl]
        have key : ∀ (g k : Nat) (listed : Array Bool), Region.seqB .any (twin l 0 T).toArray g k listed = Region.seqB .any l.toArray g k listed := by
          intro g
          induction g with
          | zero => intro k listed; simp only [Region.seqB, twin_ready]
          | succ g ih => intro k listed; simp only [Region.seqB, twin_ready, ih]
        rw [← key]; exact hseq) (K bs a W hF hb2)
      rwa [hdl] at this) m _ a a { W0 with drawn := W0.drawn + 1 } inv0 (by simp [hlen])
    ⟨h1.size, h1.size, rfl, fun _ _ => rfl, fun _ => 0, fun i x _ hl => (by rw [getD_replicate_false] at hl; cases hl), by
      refine (h2.later (W' := { W0 with drawn := W0.drawn + 1 }) ⟨rfl, rfl, rfl, Nat.le_refl _, fun _ _ => rfl, by simp⟩).weaken fun k => .inl ?_
      exact ES_off fun ⟨i, hi, _⟩ => by rw [getD_replicate_false] at hi; cases hi⟩ H
  rw [show m + (l.length - m) = l.toArray.size by simp; omega] at run
  simpa [hlen] using run
end
end
end Go.Proofs.Ytfddmjoldoddlaa
