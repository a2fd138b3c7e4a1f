/- The rules of the small logic that make or turn memory, calls, entering and leaving a function. Over any program. Conditions: none beyond each theorem's own. -/
import Derived.Test.YtfddmjoldoddlaaH2
import Derived.Maps.AppendAt
namespace Go.Proofs.Ytfddmjoldoddlaa
open Go.RowKit
def apd {α : Type} (l m : List α) : Option (List α) := if l.length + m.length ≤ 4294967296 then some (l ++ m) else none
theorem apd_some {α : Type} {l m x : List α} (h : apd l m = some x) : l.length + m.length ≤ 4294967296 ∧ l ++ m = x := by unfold apd at h; split at h; exact ⟨by assumption, Option.some.inj h⟩; cases h
section
variable {P : Program} {w : Bs} {n : Nat} {f : Nat → Option Value} {E : Nat → Ent} {X Y : Act → World → Prop} {Q : Exit → Act → World → Prop} {x y : Code} {ops : Array Oper} {rest : List Oper}
variable {d ty T T' : Nat} {pos : String} {af : Array Edge} {g : Option (Nat × Bool)} {p q : Operand} {u v : Value}
theorem Tr.alloc (κ : Nat) {cs : List Value} (hw : Wn ops f ⟨some d, .alloc T, ty, pos, af, g⟩) (hdn : Nat.blt d n = true) (hz : zeroOf P T = some cs)
    (K : ∀ b, Tr w n (uf f d (.pointer (some ⟨b, 0, none⟩))) (up E κ (bx b cs.toArray T)) (wpList P ops Q rest)) : Tr w n f E (wpList P ops Q (⟨some d, .alloc T, ty, pos, af, g⟩ :: rest)) :=
  Tr.valW hw hdn (fun _ W _ h2 => ⟨run_alloc hz, h2.alloc κ cs.toArray T⟩) (fun W _ => K W.heap.size)
theorem Tr.box (κ : Nat) {cs : List Value} (hw : Wn ops f ⟨some d, .box T p, ty, pos, af, g⟩) (hdn : Nat.blt d n = true) (hp : ev f p = some v) (hc : v.cells = cs.toArray)
    (K : ∀ b, Tr w n (uf f d (.pointer (some ⟨b, 0, none⟩))) (up E κ (bx b cs.toArray T)) (wpList P ops Q rest)) : Tr w n f E (wpList P ops Q (⟨some d, .box T p, ty, pos, af, g⟩ :: rest)) :=
  Tr.valW hw hdn (fun _ W h1 h2 => ⟨run_box (h1.ev hp) hc, h2.alloc κ cs.toArray T⟩) (fun W _ => K W.heap.size)
theorem Tr.store (κ : Nat) {b o T2 : Nat} {vs cs : List Value} (vs' : List Value) (hw : Wn ops f ⟨none, .store T p q, ty, pos, af, g⟩) (hp : ev f p = some (.pointer (some ⟨b, o, none⟩))) (hq : ev f q = some v) (hv : v.cells = cs.toArray)
    (hk : E κ = bx b vs.toArray T2) (hs : szOf P T = some cs.length) (hfit : Nat.ble (o + cs.length) vs.length = true) (h1 : cs.all (·.oneCell') = true) (hvs : vs.take o ++ cs ++ vs.drop (o + cs.length) = vs')
    (K : Tr w n f (up E κ (bx b vs'.toArray T2)) (wpList P ops Q rest)) : Tr w n f E (wpList P ops Q (⟨none, .store T p q, ty, pos, af, g⟩ :: rest)) :=
  Tr.eff hw (fun _ W k1 k2 => ⟨run_store hs (k1.ev hp) (k1.ev hq) hv (k2.bx hk) hfit h1, by rw [hvs]; exact k2.setRow hk vs'.toArray⟩) K
/-- A slice written out: a block of its own. -/
def sliceBuilt (P : Program) (T len : Nat) (parts : List (Nat × Value)) : Option (Nat × List Value) :=
  match P.underlying T with
  | some (.slice e) => match szOf P e with
    | some sz => if len * sz > 2 ^ 24 then none else
      if len * sz = 0 then (Instr.fill (fun i => some (i * sz, sz)) ((Array.range (len * sz)).map ((#[] : Array Value)[· % 0]!)) parts).map fun cs => (e, cs.toList)
      else match zeroOf P e with
        | some z => (Instr.fill (fun i => some (i * sz, sz)) ((Array.range (len * sz)).map (z.toArray[· % z.toArray.size]!)) parts).map fun cs => (e, cs.toList)
        | none => none
    | none => none
  | _ => none
theorem run_buildSlice {ρ : Operand → Value} {W : World} {d : Option Tmp} {len e : Nat} {ps : Array (Nat × Operand)} {vs : List (Nat × Value)} {cs : List Value} (hv : (ps.map fun (i, x) => (i, ρ x)).toList = vs) (hb : sliceBuilt P T len vs = some (e, cs)) :
    (execOp ρ ⟨d, .buildSlice T len ps, ty, pos, af, g⟩).run P W = .ok (.value (.slice (some ⟨W.heap.size, 0, none⟩) len len)) (W.alloc (.cells cs.toArray e)) := by
  subst hv
  unfold sliceBuilt at hb
  split at hb
  · rename_i e' hu
    cases hs : szOf P e' with
    | none => rw [hs] at hb; cases hb
    | some sz =>
      rw [hs] at hb
      simp only at hb
      split at hb
      · cases hb
      · rename_i hsz
        split at hb
        · rename_i h0
          obtain ⟨cs', hf, he⟩ := Option.map_eq_some_iff.1 hb
          simp at he; obtain ⟨rfl, rfl⟩ := he
          simp [execOp, Instr.buildSlice, run_underlying hu, run_sizeOf hs, h0, newRow]
          simp [h0] at hf
          simp [hf]
        · rename_i h0
          split at hb
          · rename_i z hz
            obtain ⟨z', hz1, hz2⟩ := run_zero (W := W) hz
            obtain ⟨cs', hf, he⟩ := Option.map_eq_some_iff.1 hb
            simp at he; obtain ⟨rfl, rfl⟩ := he
            simp [execOp, Instr.buildSlice, run_underlying hu, run_sizeOf hs, hsz, h0, newRow, hz1, hz2]
            simp at hf
            simp [hf]
          · cases hb
  · cases hb
/-- Operands read off the frame. -/
def evs (f : Nat → Option Value) : List (Nat × Operand) → List (Nat × Value) → Prop
  | [], [] => True
  | (i, x) :: l, (j, v) :: m => i = j ∧ ev f x = some v ∧ evs f l m
  | _, _ => False
theorem evs_eq : ∀ {l : List (Nat × Operand)} {m : List (Nat × Value)} (_ : evs f l m) (a : Act) (_ : FR n f a), (l.toArray.map fun (i, x) => (i, a.eval x)).toList = m
  | [], [], _, _, _ => by simp
  | (i, x) :: l, (j, v) :: m, h, a, hf => by
    obtain ⟨rfl, h2, h3⟩ := h
    have ih := evs_eq h3 a hf
    simp at ih
    simp [hf.ev h2, ih]
  | [], _ :: _, h, _, _ => h.elim
  | _ :: _, [], h, _, _ => h.elim
theorem evs_nil : evs f [] [] := trivial
theorem evs_cons {i : Nat} {x : Operand} {v : Value} {l : List (Nat × Operand)} {m : List (Nat × Value)} (h : ev f x = some v) (h2 : evs f l m) : evs f ((i, x) :: l) ((i, v) :: m) := ⟨rfl, h, h2⟩
theorem Tr.buildSlice (κ : Nat) {len e : Nat} {ps : List (Nat × Operand)} {vs : List (Nat × Value)} {cs : List Value} (hw : Wn ops f ⟨some d, .buildSlice T len ps.toArray, ty, pos, af, g⟩) (hdn : Nat.blt d n = true)
    (hv : evs f ps vs) (hb : sliceBuilt P T len vs = some (e, cs))
    (K : ∀ b, Tr w n (uf f d (.slice (some ⟨b, 0, none⟩) len len)) (up E κ (bx b cs.toArray e)) (wpList P ops Q rest)) : Tr w n f E (wpList P ops Q (⟨some d, .buildSlice T len ps.toArray, ty, pos, af, g⟩ :: rest)) :=
  Tr.valW hw hdn (fun a W h1 h2 => ⟨run_buildSlice (evs_eq hv a h1) hb, h2.alloc κ cs.toArray e⟩) (fun W _ => K W.heap.size)
/-- A block that was written out is a slice of the call's own. -/
theorem Tr.own {α : Type} (κ : Nat) {b : Nat} {vs : List Value} (t : Fl α) (l : List α) {css : List (List Value)} (hk : E κ = bx b vs.toArray T) (hal : Al (rp t w.O w.W) css l) (hl : css.flatten = vs) (hsz : 0 < t.sz) (hm : l.length ≤ maxLen)
    (K : Tr w n f (up E κ (ow (some ⟨b, 0, none⟩) l.length T t l)) X) : Tr w n f E X := by
  intro a W h1 h2
  have hb := h2.bx hk
  refine K a W h1 (h2.mod κ _ rfl rfl rfl (Nat.le_refl _) (Nat.le_refl _) (fun _ _ _ => rfl) (ow_loc _ _ _ _ _) ?_ (fun x hx => ?_))
  · refine ⟨css, hal.mono (fun _ _ hr => hr.inW h2), flat_len hal, .inr ⟨b, l.length, vs.toArray, rfl, Nat.zero_le _, hb, Nat.le_refl _, hm, ?_, ?_⟩⟩
    · rw [← hl, List.size_toArray, flat_len hal]
    · rw [← flat_len hal, hl]; simp
  · have hx : some b = some x := hx
    simp at hx; subst hx
    rw [hk]
    exact ⟨.inl rfl, (Array.getElem?_eq_some_iff.1 hb).1⟩
theorem Tr.nilOwn {α : Type} (κ T : Nat) (t : Fl α) (K : Tr w n f (up E κ (ow none 0 T t [])) X) : Tr w n f E X :=
  fun a W h1 h2 => K a W h1 (h2.mod κ _ rfl rfl rfl (Nat.le_refl _) (Nat.le_refl _) (fun _ _ _ => rfl) (ow_loc _ _ _ _ _) ⟨[], .nil, by simp, .inl ⟨rfl, rfl⟩⟩ (fun b hb => by cases hb))
/-- A slice of the call's own that is written no more. -/
theorem Tr.freeze {α : Type} (κ : Nat) {A : Option Addr} {c T : Nat} {t : Fl α} {l : List α} (hk : E κ = ow A c T t l) (K : ∀ w', w.Le w' → Sl w'.O w'.W t A c l → Tr w' n f (up E κ emp) X) : Tr w n f E X :=
  fun a W h1 h2 => K (h2.raise κ) (h2.raise_le κ) (h2.slRaise hk) a W h1 (h2.raised κ)
/-- A box that is written no more. -/
theorem Tr.freezeB (κ : Nat) {b T : Nat} {vs : List Value} (hk : E κ = bx b vs.toArray T) (K : ∀ w', w.Le w' → w'.O b → CellsAt w'.W b 0 vs → Tr w' n f (up E κ emp) X) : Tr w n f E X :=
  fun a W h1 h2 => K (h2.raise κ) (h2.raise_le κ) (.inr (by rw [hk]; rfl)) (rdb h2 hk 0) a W h1 (h2.raised κ)
theorem grow_owned {α : Type} {W W' : World} {κ : Nat} {A : Option Addr} {c e : Nat} {t : Fl α} {l m : List α} {v' : Value} {css : List (List Value)} (h2 : HF w W E) (hk : E κ = ow A c e t l) (hdr : W.drawn ≤ W'.drawn) (hg : W.grownBy W' (Value.slice A l.length c).ownBlock)
    (hal : Al (rp t w.O w.W) css m) (ho : W'.ownsRow 0 e t.sz v' m.length css.flatten) (hnew : ∀ b, v'.ownBlock = some b → (Value.slice A l.length c).ownBlock = some b ∨ W.heap.size ≤ b) : ∃ A' c', v' = .slice A' m.length c' ∧ SlF A' m.length c' ∧ HF w W' (up E κ (ow A' c' e t m)) := by
  have hform : ∃ A' c', v' = .slice A' m.length c' := by
    rcases ho.2 with ⟨rfl, h0⟩ | ⟨gg, cap, cur, rfl, _⟩
    · exact ⟨none, 0, by rw [h0]⟩
    · exact ⟨_, _, rfl⟩
  obtain ⟨A', c', rfl⟩ := hform
  have hO : ∀ b, w.O b → W'.heap[b]? = w.W.heap[b]? := fun b hb => (hg.block b (h2.rlt (.inl hb)) (fun e => (h2.bd κ b (by rw [hk]; exact e.symm)).1 (.inl hb))).trans (h2.keep b (.inl hb))
  have hal' : Al (rp t w.O W') css m := hal.mono (fun _ _ hr => hr.loc (fun _ hb => hb) hO)
  refine ⟨A', c', rfl, (owns_sl hal' ho).form, h2.mod κ _ hg.os hg.tape hg.output hg.size hdr (fun b hb hs => hg.block b hb (fun e => hs ?_)) (ow_loc _ _ _ _ _) ⟨css, hal', ho⟩ (fun b hb => ⟨?_, (World.ownsRow.lt ho b hb).2⟩)⟩
  · rw [hk]; exact e.symm
  · rw [hk]; exact hnew b hb
/-- append onto a slice of the call's own. -/
theorem Tr.append {α : Type} (κ : Nat) {A : Option Addr} {c e i b o c2 : Nat} {t : Fl α} {l l2 l' : List α} (hw : Wn ops f ⟨some d, .call ⟨.builtin .append, #[p, q], #[T, T]⟩, ty, pos, af, g⟩) (hdn : Nat.blt d n = true)
    (hp : ev f p = some (.slice A l.length c)) (hk : E κ = ow A c e t l) (hq : ev f q = some (.slice (some ⟨b, o, none⟩) l2.length c2)) (hr : ∀ W, HF w W E → ∃ css, Al (rp t w.O w.W) css l2 ∧ CellsAt W b o css.flatten)
    (hu : P.underlying T = some (.slice e)) (hs : szOf P e = some t.sz) (hz : (zeroOf P e).map List.length = some t.sz) (hsz : 0 < t.sz) (hby : (P.info? e).map (·.bytes) = some i) (hi : Nat.ble i 32768 = true) (hap : apd l l2 = some l')
    (K : ∀ A' c', SlF A' l'.length c' → Tr w n (uf f d (.slice A' l'.length c')) (up E κ (ow A' c' e t l')) (wpList P ops Q rest)) :
    Tr w n f E (wpList P ops Q (⟨some d, .call ⟨.builtin .append, #[p, q], #[T, T]⟩, ty, pos, af, g⟩ :: rest)) :=
  Tr.op hw fun a W h1 h2 => by
    obtain ⟨hlen, hl'⟩ := apd_some hap
    subst hl'
    cases hin : P.info? e with
    | none => rw [hin] at hby; cases hby
    | some inf =>
      rw [hin] at hby; simp at hby; subst hby
      unfold zeroOf at hz
      unfold szOf at hs
      rw [hin] at hz hs
      simp only [Option.bind_some, Option.map_some, Option.some.injEq] at hz hs
      cases hze : inf.zero with
      | none => rw [hze] at hz; cases hz
      | some z =>
        rw [hze] at hz
        simp at hz
        obtain ⟨css0, hal0, hown⟩ := h2.ow hk
        obtain ⟨css2, hal2, hc2⟩ := hr W h2
        have hbytes : (l.length + l2.length) * inf.bytes ≤ 140737488355328 := Nat.le_trans (Nat.mul_le_mul hlen (Nat.le_of_ble_eq_true hi)) (by decide)
        have hsm : l.length + l2.length ≤ maxLen := by unfold maxLen; omega
        obtain ⟨v', W', hrun, ho, hg, _, hat⟩ := run_append_own_at (P := P) W 0 T ty e inf z t.sz inf.bytes hu hin hze hs rfl hz hsz _ _ _ hown ⟨b, o, none⟩ l2.length c2 css2.flatten (flat_len hal2)
          (fun j u hj => by rw [Addr.add_lit]; exact hc2 j u hj) (fun u hu => by
            obtain ⟨i, cs, k, h1, h2, _⟩ := flat_inv hal2 (List.getElem?_of_mem hu).choose_spec
            have hlt : i < l2.length := by rw [← hal2.len]; exact (List.getElem?_eq_some_iff.1 h1).1
            obtain ⟨cs', h3, h4⟩ := hal2.at_ (List.getElem?_eq_getElem hlt)
            rw [h1] at h3; cases h3
            exact h4.one u (List.mem_of_getElem? h2)) hsm hbytes (Nat.zero_le _)
        rw [← List.flatten_append, ← List.length_append] at ho
        obtain ⟨A', c', rfl, hf, h3⟩ := grow_owned h2 hk (run_drawn _ _ _ _ hrun) hg ((hal0.mono (fun _ _ hr => hr.off h2)).append hal2) ho (fun b' hb' => by
          rcases hat with hat | hat
          · exact .inl (hat ▸ hb')
          · rw [hat] at hb'; simp at hb'; subst hb'; exact .inr (Nat.le_refl _))
        unfold Oper.wp execOp
        simp only [resolve, invoke, builtin, Sem.run_bind, Sem.run_pure, Result.andThen_ok, List.map_toArray, List.map_cons, List.map_nil, h1.ev hp, h1.ev hq, hrun, Oper.upon_value]
        exact K A' c' hf _ _ (h1.put (Nat.le_of_ble_eq_true hdn) _) h3
/-- append of nothing. -/
theorem Tr.appendNil {α : Type} (κ : Nat) {A : Option Addr} {c e : Nat} {t : Fl α} {l : List α} (hw : Wn ops f ⟨some d, .call ⟨.builtin .append, #[p, q], #[T, T]⟩, ty, pos, af, g⟩) (hdn : Nat.blt d n = true)
    (hp : ev f p = some (.slice A l.length c)) (hk : E κ = ow A c e t l) (hq : ev f q = some (.slice none 0 0)) (hu : P.underlying T = some (.slice e)) (hs : szOf P e = some t.sz)
    (K : Tr w n (uf f d (.slice A l.length c)) E (wpList P ops Q rest)) : Tr w n f E (wpList P ops Q (⟨some d, .call ⟨.builtin .append, #[p, q], #[T, T]⟩, ty, pos, af, g⟩ :: rest)) :=
  Tr.val hw hdn (fun a W h1 h2 => by
    have hs' := run_sizeOf (W := W) hs
    have hle := (h2.sl hk).form.1
    have hl0 : l.length = 0 → l = [] := List.eq_nil_of_length_eq_zero
    simp [execOp, resolve, invoke, builtin, Deferred.ofValue, h1.ev hp, h1.ev hq, Builtin.append_, run_underlying hu, hs', Builtin.lenOf, hle, Builtin.firstCells]
    cases A <;> simp [storeCells]) K
/-- A store to an element of a slice of the call's own. -/
theorem set_el {α : Type} {W : World} (κ : Nat) {A : Option Addr} {c e i fo : Nat} {t : Fl α} {l : List α} {x x' : α} {cs : List Value} (h : HF w W E) (hk : E κ = ow A c e t l) (hx : l[i]? = some x)
    (hup : ∀ u, t.ok w.O w.W u x → ∃ u', t.ok w.O w.W u' x' ∧ t.enc u' x' = (t.enc u x).take fo ++ cs ++ (t.enc u x).drop (fo + cs.length)) (hfit : fo + cs.length ≤ t.sz) :
    ∃ vs : List Value, W.heap[adB A]? = some (.cells vs.toArray e (0, 0)) ∧ adO A + i * t.sz + fo + cs.length ≤ vs.length ∧
      HF w (W.setRow (adB A) (vs.take (adO A + i * t.sz + fo) ++ cs ++ vs.drop (adO A + i * t.sz + fo + cs.length)).toArray) (up E κ (ow A c e t (l.set i x'))) := by
  obtain ⟨css, hal, hown⟩ := h.ow hk
  obtain ⟨cs0, hcs0, u, hu, rfl⟩ := hal.at_ hx
  obtain ⟨hlen, h2⟩ := hown
  rcases h2 with ⟨ev, h0⟩ | ⟨g, cap, cur, ev, hb0, hh, hn, hc, hs, ht⟩
  · have hl : l = [] := List.eq_nil_of_length_eq_zero h0
    subst hl; simp at hx
  · simp at ev
    obtain ⟨rfl, rfl⟩ := ev
    have hil : i < l.length := (List.getElem?_eq_some_iff.1 hx).1
    obtain ⟨u', hu', henc⟩ := hup u (t.loc hu (fun _ hb => hb) (fun b hb => (h.keep b (.inl hb)).symm))
    have hrp : rp t w.O W ((t.enc u x).take fo ++ cs ++ (t.enc u x).drop (fo + cs.length)) x' := ⟨u', t.loc hu' (fun _ hb => hb) (fun b hb => h.keep b (.inl hb)), henc.symm⟩
    have hbnd : i * t.sz + t.sz ≤ l.length * t.sz := by rw [← Nat.succ_mul]; exact Nat.mul_le_mul_right _ hil
    have hcur : l.length * t.sz ≤ cur.size := by rw [hs]; exact Nat.mul_le_mul_right _ hn
    refine ⟨cur.toList, by simpa [adB] using hh, by simp [adO]; omega, ?_⟩
    have hal' := hal.set (i := i) hrp
    have hgO : ¬ w.R g := (h.bd κ g (by rw [hk]; rfl)).1
    have hO : ∀ vs, ∀ b, w.O b → (W.setRow g vs).heap[b]? = W.heap[b]? := fun vs b hb => by
      have hne : ¬ g = b := fun e => hgO (.inl (e ▸ hb))
      simp only [World.setRow, Array.getElem?_modify]
      rw [if_neg hne]
    have hm := h.mod (W' := W.setRow g (cur.toList.take (i * t.sz + fo) ++ cs ++ cur.toList.drop (i * t.sz + fo + cs.length)).toArray) κ (Proofs.Ytfddmjoldoddlaa.ow (some ⟨g, 0, none⟩) c e t (l.set i x')) rfl rfl rfl (by simp [World.setRow]) (Nat.le_refl _) (fun b hb hs => by
        rw [hk] at hs
        have hne : ¬ g = b := fun e => hs (by rw [← e]; rfl)
        simp only [World.setRow, Array.getElem?_modify]
        rw [if_neg hne]) (ow_loc _ _ _ _ _) ?_ (fun b hb => ?_)
    · simp only [adB, adO, Nat.zero_add]; exact hm
    · refine ⟨_, hal'.mono (fun _ _ hr => hr.loc (fun _ hb => hb) (hO _)), ?_, .inr ⟨g, c, _, by simp, Nat.zero_le _, setRow_heap W g cur _ e _ hh, by simpa using hn, hc, ?_, ?_⟩⟩
      · rw [flat_len hal']
      · rw [List.size_toArray, List.length_append, List.length_append, List.length_take, List.length_drop, Array.length_toList]; omega
      · rw [flat_set hal hcs0 fo cs hfit, ← ht]
        simp only [List.length_set]
        have key : ∀ (vs cs : List Value) (o m : Nat), o + cs.length ≤ m → m ≤ vs.length → (vs.take o ++ cs ++ vs.drop (o + cs.length)).take m = (vs.take m).take o ++ cs ++ (vs.take m).drop (o + cs.length) := fun vs cs o m h1 h2 => by
          have hle : (vs.take o ++ cs).length = o + cs.length := by simp; omega
          rw [List.take_append, List.take_of_length_le (by omega), hle, List.take_take, Nat.min_eq_left (by omega : o ≤ m), List.drop_take]
        exact key _ _ _ _ (by omega) (by simpa using hcur)
    · have hb : (Value.slice (some ⟨g, 0, none⟩) (l.set i x').length c).ownBlock = some b := hb
      simp [Value.ownBlock] at hb
      subst hb
      exact ⟨.inl (by rw [hk]; rfl), by simp [World.setRow]; exact (Array.getElem?_eq_some_iff.1 hh).1⟩
/-- The list with another element at one place. -/
def sets {α : Type} (l : List α) (i : Int) (x : α) : Option (List α) := if 0 ≤ i ∧ i.toNat < l.length then some (l.set i.toNat x) else none
theorem sets_some {α : Type} {l l' : List α} {i : Int} {x : α} (h : sets l i x = some l') : l.set i.toNat x = l' := by unfold sets at h; split at h; exact Option.some.inj h; cases h
theorem sets_len {α : Type} {l l' : List α} {i : Int} {x : α} (h : sets l i x = some l') : l'.length = l.length := by rw [← sets_some h, List.length_set]
theorem Tr.storeEl {α : Type} (κ : Nat) {A : Option Addr} {c e fo o : Nat} {i : Int} {t : Fl α} {l l' : List α} {x : α} (x' : α) {cs : List Value} (hw : Wn ops f ⟨none, .store T p q, ty, pos, af, g⟩) (hp : ev f p = some (.pointer (some ⟨adB A, o, none⟩))) (hq : ev f q = some v) (hv : v.cells = cs.toArray)
    (ho : o = adO A + i.toNat * t.sz + fo) (hk : E κ = ow A c e t l) (hx : l[i.toNat]? = some x) (hs : szOf P T = some cs.length) (h1 : cs.all (·.oneCell') = true)
    (hup : ∀ u, t.ok w.O w.W u x → ∃ u', t.ok w.O w.W u' x' ∧ t.enc u' x' = (t.enc u x).take fo ++ cs ++ (t.enc u x).drop (fo + cs.length)) (hfit : Nat.ble (fo + cs.length) t.sz = true) (hset : sets l i x' = some l')
    (K : Tr w n f (up E κ (ow A c e t l')) (wpList P ops Q rest)) : Tr w n f E (wpList P ops Q (⟨none, .store T p q, ty, pos, af, g⟩ :: rest)) :=
  Tr.op hw fun a W k1 k2 => by
    subst ho
    obtain ⟨vs, hh, hle, hnew⟩ := set_el κ k2 hk hx hup (Nat.le_of_ble_eq_true hfit)
    rw [sets_some hset] at hnew
    unfold Oper.wp
    rw [run_store hs (k1.ev hp) (k1.ev hq) hv hh (Nat.ble_eq_true_of_le hle) h1]
    exact K _ _ k1 hnew
/-- A front part of a slice of the call's own. -/
theorem Tr.shrink {α : Type} (κ : Nat) {A : Option Addr} {c e : Nat} {t : Fl α} {l : List α} (m : Nat) (hm : m ≤ l.length) (hk : E κ = ow A c e t l) (K : Tr w n f (up E κ (ow A c e t (l.take m))) X) : Tr w n f E X := fun a W h1 h2 => by
  refine K a W h1 (h2.mod κ _ rfl rfl rfl (Nat.le_refl _) (Nat.le_refl _) (fun _ _ _ => rfl) (ow_loc _ _ _ _ _) ?_ (fun b hb => ?_))
  · obtain ⟨css, hal, hl, h0⟩ := h2.ow hk
    have hlen : (l.take m).length = m := by simp; omega
    refine ⟨css.take m, hal.take m, ?_, ?_⟩
    · rw [flat_len (hal.take m)]
    · rcases h0 with ⟨e1, e2⟩ | ⟨g, cap, cur, ev, hb0, hh, hn, hc, hs, ht⟩
      · simp at e1
        obtain ⟨rfl, hl0, rfl⟩ := e1
        left
        have : l = [] := List.eq_nil_of_length_eq_zero (by omega)
        subst this
        simp
      · simp at ev
        obtain ⟨rfl, rfl⟩ := ev
        refine .inr ⟨g, c, cur, rfl, hb0, hh, by omega, hc, hs, ?_⟩
        rw [hlen, flat_take hal, ← ht, List.take_take, Nat.min_eq_left (Nat.mul_le_mul_right _ hm)]
  · have hb' : (E κ).S b := by
      rw [hk]
      have hb : (Value.slice A (l.take m).length c).ownBlock = some b := hb
      show (Value.slice A l.length c).ownBlock = some b
      cases A with
      | none => simp [Value.ownBlock] at hb
      | some a => simpa [Value.ownBlock] using hb
    exact ⟨.inl hb', (h2.bd κ b hb').2⟩
def evl (f : Nat → Option Value) : List Operand → List Value → Prop
  | [], [] => True
  | x :: l, v :: m => ev f x = some v ∧ evl f l m
  | _, _ => False
theorem evl_eq : ∀ {l : List Operand} {m : List Value} (_ : evl f l m) (a : Act) (_ : FR n f a), l.map a.eval = m
  | [], [], _, _, _ => rfl
  | x :: l, v :: m, h, a, hf => by
    obtain ⟨h2, h3⟩ := h
    rw [List.map_cons, hf.ev h2, evl_eq h3 a hf]
  | [], _ :: _, h, _, _ => h.elim
  | _ :: _, [], h, _, _ => h.elim
theorem evl_nil : evl f [] [] := trivial
theorem evl_cons {x : Operand} {v : Value} {l : List Operand} {m : List Value} (h : ev f x = some v) (h2 : evl f l m) : evl f (x :: l) (v :: m) := ⟨h, h2⟩
/-- The base that a callee starts from: all that is there stays, but for P. -/
@[reducible] def HF.sub {W : World} (h : HF w W E) (P : Nat → Prop) : Bs := ⟨W, w.O, fun b => b < W.heap.size ∧ ¬ P b, fun b hb => by
  rcases hb with hb | hb
  · exact h.rlt (.inl hb)
  · exact hb.1⟩
@[reducible] def HF.all {W : World} (h : HF w W E) : Bs := h.sub (fun _ => False)
theorem HF.allR {W : World} (h : HF w W E) {b : Nat} (hb : b < W.heap.size) : h.all.R b := .inr ⟨hb, id⟩
theorem HF.allBelow {W W' : World} {E1 : Nat → Ent} (h : HF w W E) (h' : HF h.all W' E1) : Below W.heap.size W W' := ⟨h'.os, h'.tape, h'.output, h'.size, fun b hb => h'.keep b (h.allR hb), h'.drawn⟩
theorem Sl.call {α : Type} {W : World} {t : Fl α} {A : Option Addr} {c : Nat} {l : List α} (h : Sl w.R w.W t A c l) (hW : HF w W E) : Sl hW.all.R hW.all.W t A c l :=
  h.go (fun _ hb => hW.allR (hW.rlt hb)) hW.keep
theorem Sl.callO {α : Type} {W : World} {t : Fl α} {A : Option Addr} {c : Nat} {l : List α} (h : Sl w.O w.W t A c l) (hW : HF w W E) {P : Nat → Prop} : Sl (hW.sub P).O (hW.sub P).W t A c l :=
  h.go (fun _ hb => hb) (fun b hb => hW.keep b (.inl hb))
theorem HF.slCall {α : Type} {W : World} {t : Fl α} {A : Option Addr} {c e k : Nat} {l : List α} (hW : HF w W E) (hk : E k = Proofs.Ytfddmjoldoddlaa.ow A c e t l) : Sl hW.all.R hW.all.W t A c l := (hW.slB hk).mono (fun _ hb => hW.allR hb)
/-- The parts that are handed over. -/
def insS (ins : List Ent) : Nat → Prop := fun b => ∃ e ∈ ins, e.S b
def LEn (es : List Ent) : Nat → Ent := fun k => match es[k]? with | some e => e | none => emp
def Pk (E : Nat → Ent) : List Nat → List Ent → Prop
  | [], [] => True
  | k :: ks, e :: es => E k = e ∧ Pk E ks es
  | _, _ => False
theorem Pk.len {E : Nat → Ent} : ∀ {ks : List Nat} {es : List Ent}, Pk E ks es → ks.length = es.length
  | [], [], _ => rfl
  | _ :: _, _ :: _, h => by simp [Pk.len h.2]
  | [], _ :: _, h => h.elim
  | _ :: _, [], h => h.elim
theorem Pk.at_ {E : Nat → Ent} : ∀ {ks : List Nat} {es : List Ent}, Pk E ks es → ∀ {j k : Nat}, ks[j]? = some k → es[j]? = some (E k)
  | _ :: _, _ :: _, h, 0, k, hj => by simp at hj; subst hj; simp [h.1]
  | _ :: _, _ :: _, h, j + 1, k, hj => by simpa using Pk.at_ h.2 (by simpa using hj)
  | [], [], _, _, _, hj => by simp at hj
  | [], _ :: _, h, _, _, _ => h.elim
  | _ :: _, [], h, _, _, _ => h.elim
theorem LEn_at {es : List Ent} {k : Nat} {e : Ent} (h : es[k]? = some e) : LEn es k = e := by simp [LEn, h]
theorem LEn_out {es : List Ent} {k : Nat} (h : es[k]? = none) : LEn es k = emp := by simp [LEn, h]
/-- Parts under other names. -/
theorem HF.pick {W : World} (h : HF w W E) {ks : List Nat} {es : List Ent} (hn : ks.Nodup) (hp : Pk E ks es) : HF w W (LEn es) := by
  have key : ∀ j, (∃ k, ks[j]? = some k ∧ LEn es j = E k) ∨ LEn es j = emp := fun j => by
    cases hj : ks[j]? with
    | some k => exact .inl ⟨k, rfl, LEn_at (hp.at_ hj)⟩
    | none =>
      right
      have : ks.length ≤ j := List.getElem?_eq_none_iff.1 hj
      exact LEn_out (List.getElem?_eq_none (by rw [← hp.len]; exact this))
  refine ⟨h.os, h.tape, h.output, h.size, h.drawn, h.keep, fun j => ?_, fun j => ?_, fun j b => ?_, fun i j b hij => ?_⟩
  · rcases key j with ⟨k, _, e⟩ | e <;> rw [e]; exact h.phi k; trivial
  · rcases key j with ⟨k, _, e⟩ | e <;> rw [e]; exact h.loc k; exact emp_loc
  · rcases key j with ⟨k, _, e⟩ | e <;> rw [e]
    · exact h.bd k b
    · exact fun hh => hh.elim
  · rcases key i with ⟨k, hk, e⟩ | e <;> rcases key j with ⟨k', hk', e'⟩ | e' <;> rw [e, e']
    · refine h.disj k k' b (fun hkk => hij ?_)
      subst hkk
      obtain ⟨h1, h2⟩ := List.getElem?_eq_some_iff.1 hk
      obtain ⟨h3, h4⟩ := List.getElem?_eq_some_iff.1 hk'
      exact (List.getElem_inj hn).1 (h2.trans h4.symm)
    · exact fun _ hh => hh.elim
    · exact fun hh => hh.elim
    · exact fun hh => hh.elim
/-- Some parts are handed over, the others are lent. -/
theorem HF.lend {W : World} (h : HF w W E) {ks : List Nat} {ins : List Ent} (hn : ks.Nodup) (hp : Pk E ks ins) : HF (h.sub (insS ins)) W (LEn ins) := by
  have h' := h.pick hn hp
  refine ⟨rfl, rfl, rfl, Nat.le_refl _, Nat.le_refl _, fun _ _ => rfl, h'.phi, h'.loc, fun j b hb => ⟨fun hr => ?_, (h'.bd j b hb).2⟩, h'.disj⟩
  rcases hr with hr | hr
  · exact (h'.bd j b hb).1 (.inl hr)
  · refine hr.2 ?_
    unfold LEn at hb
    split at hb
    · rename_i e he
      exact ⟨e, List.mem_of_getElem? he, hb⟩
    · exact hb.elim
def upL (E : Nat → Ent) : List Nat → List Ent → Nat → Ent
  | k :: ks, e :: es => up (upL E ks es) k e
  | _, _ => E
theorem upL_cases : ∀ (ks : List Nat) (es : List Ent) (_ : es.length = ks.length) (k : Nat), (∃ j : Nat, ks[j]? = some k ∧ upL E ks es k = LEn es j ∧ j < es.length) ∨ ((∀ j : Nat, ks[j]? ≠ some k) ∧ upL E ks es k = E k)
  | [], [], _, k => .inr ⟨fun j h => by simp at h, rfl⟩
  | k0 :: ks, e :: es, hl, k => by
    unfold upL
    rcases up_cases (upL E ks es) k0 e k with ⟨h1, h2⟩ | ⟨h1, h2⟩
    · subst h1
      exact .inl ⟨0, rfl, by rw [h2]; rfl, by simp⟩
    · rw [h2]
      rcases upL_cases ks es (by simpa using hl) k with ⟨j, h3, h4, h5⟩ | ⟨h3, h4⟩
      · exact .inl ⟨j + 1, by simpa using h3, h4, by simpa using h5⟩
      · refine .inr ⟨fun j hj => ?_, h4⟩
        cases j with
        | zero => simp at hj; exact h1 hj.symm
        | succ j => exact h3 j (by simpa using hj)
  | [], _ :: _, hl, _ => by simp at hl
  | _ :: _, [], hl, _ => by simp at hl
/-- Behind a call: the base, and the parts that were handed back. -/
@[reducible] def HF.after {W : World} (h : HF w W E) {Pr : Nat → Prop} {w' : Bs} (hle : (h.sub Pr).Le w') : Bs := ⟨w'.W, w'.O, w.K, fun b hb => by
  rcases hb with hb | hb
  · exact w'.lt b (.inl hb)
  · exact Nat.lt_of_lt_of_le (h.rlt (.inr hb)) hle.size⟩
theorem insS_not {W : World} {ks : List Nat} {ins : List Ent} (h : HF w W E) (hp : Pk E ks ins) {b : Nat} (hb : insS ins b) : ∃ k j : Nat, ks[j]? = some k ∧ (E k).S b := by
  obtain ⟨e, he, hs⟩ := hb
  obtain ⟨j, hj, hje⟩ := List.getElem_of_mem he
  have hjk : j < ks.length := by rw [hp.len]; exact hj
  have := hp.at_ (List.getElem?_eq_getElem hjk)
  rw [List.getElem?_eq_getElem hj, Option.some.injEq] at this
  exact ⟨_, j, List.getElem?_eq_getElem hjk, by rw [← this, hje]; exact hs⟩
theorem HF.after_le {W : World} {ks : List Nat} {ins : List Ent} (h : HF w W E) (hp : Pk E ks ins) {w' : Bs} (hle : (h.sub (insS ins)).Le w') : w.Le (h.after hle) := by
  have hK : ∀ b, w.K b → (h.sub (insS ins)).K b := fun b hb => ⟨h.rlt (.inr hb), fun hi => by
    obtain ⟨k, _, _, hs⟩ := insS_not h hp hi
    exact (h.bd k b hs).1 (.inr hb)⟩
  refine ⟨hle.os.trans h.os, hle.tape.trans h.tape, hle.output.trans h.output, Nat.le_trans h.size hle.size, Nat.le_trans h.drawn hle.drawn, fun b hb => hle.sub b hb, fun b hb => ?_, rfl, fun b hb => ?_⟩
  · rcases hle.new b hb with h1 | h1
    · exact .inl h1
    · exact .inr (fun hk => h1 (hK b hk))
  · exact (hle.blk b (hb.imp id (hK b))).trans (h.keep b hb)
theorem HF.back {W W' : World} {ks : List Nat} {ins outs : List Ent} (h : HF w W E) (hn : ks.Nodup) (hp : Pk E ks ins) {w' : Bs} (hle : (h.sub (insS ins)).Le w') (h' : HF w' W' (LEn outs)) (hl : outs.length = ks.length) :
    HF (h.after hle) W' (upL E ks outs) := by
  have hK : ∀ b, w.K b → w'.K b := fun b hb => by
    rw [hle.lent]
    exact ⟨h.rlt (.inr hb), fun hi => by
      obtain ⟨k, _, _, hs⟩ := insS_not h hp hi
      exact (h.bd k b hs).1 (.inr hb)⟩
  -- what is not handed over is lent
  have hS : ∀ k b, (∀ j : Nat, ks[j]? ≠ some k) → (E k).S b → (h.sub (insS ins)).K b := fun k b hk hs => ⟨(h.bd k b hs).2, fun hi => by
    obtain ⟨k', j, hj, hs'⟩ := insS_not h hp hi
    exact h.disj k k' b (fun e => hk j (by rw [e]; exact hj)) hs hs'⟩
  have hsame : ∀ b, w.O b ∨ (h.sub (insS ins)).K b → W'.heap[b]? = W.heap[b]? := fun b hb => by
    have hr : w'.R b := hle.r b hb
    exact (h'.keep b hr).trans (hle.blk b hb)
  refine ⟨h'.os, h'.tape, h'.output, h'.size, h'.drawn, fun b hb => ?_, fun k => ?_, fun k => ?_, fun k b hs => ?_, fun i j b hij => ?_⟩
  · exact h'.keep b (hb.imp id (hK b))
  · rcases upL_cases (E := E) ks outs hl k with ⟨j, h1, h2, _⟩ | ⟨h1, h2⟩ <;> rw [h2]
    · exact h'.phi j
    · exact (h.loc k).up _ _ _ (fun b hb => hle.sub b hb) ((h.loc k).at_ _ W W' (fun b hb => by
        rcases hb with hb | hb
        · exact hsame b (.inl hb)
        · exact hsame b (.inr (hS k b h1 hb))) (h.phi k))
  · rcases upL_cases (E := E) ks outs hl k with ⟨j, h1, h2, _⟩ | ⟨h1, h2⟩ <;> rw [h2]
    · exact h'.loc j
    · exact h.loc k
  · rcases upL_cases (E := E) ks outs hl k with ⟨j, h1, h2, _⟩ | ⟨h1, h2⟩ <;> rw [h2] at hs
    · exact ⟨fun hr => (h'.bd j b hs).1 (hr.imp id (hK b)), (h'.bd j b hs).2⟩
    · have hk := hS k b h1 hs
      refine ⟨fun hr => ?_, Nat.lt_of_lt_of_le hk.1 (Nat.le_trans hle.size h'.size)⟩
      rcases hr with hr | hr
      · rcases hle.new b hr with h3 | h3
        · exact (h.bd k b hs).1 (.inl h3)
        · exact h3 hk
      · exact (h.bd k b hs).1 (.inr hr)
  · rcases upL_cases (E := E) ks outs hl i with ⟨i1, i2, i3, _⟩ | ⟨i2, i3⟩ <;> rcases upL_cases (E := E) ks outs hl j with ⟨j1, j2, j3, _⟩ | ⟨j2, j3⟩ <;> rw [i3, j3]
    · refine h'.disj i1 j1 b (fun e => hij ?_)
      subst e
      rw [i2] at j2
      exact Option.some.inj j2
    · intro hs hs'
      exact (h'.bd i1 b hs).1 (.inr (by rw [hle.lent]; exact hS j b j2 hs'))
    · intro hs hs'
      exact (h'.bd j1 b hs').1 (.inr (by rw [hle.lent]; exact hS i b i2 hs))
    · exact h.disj i j b hij
/-- No new blocks are written no more. -/
theorem HF.sameO {W : World} {w' : Bs} (hle : w.Le w') (hO : ∀ b, w'.O b → w.O b) (h : HF w' W E) : HF w W E :=
  ⟨h.os.trans hle.os, h.tape.trans hle.tape, h.output.trans hle.output, Nat.le_trans hle.size h.size, Nat.le_trans hle.drawn h.drawn, fun b hb => (h.keep b (hle.r b hb)).trans (hle.blk b hb),
   fun k => (h.loc k).up _ _ _ hO (h.phi k), h.loc, fun k b hs => ⟨fun hr => (h.bd k b hs).1 (hle.r b hr), (h.bd k b hs).2⟩, h.disj⟩
/-- A part that says nothing of other blocks. -/
def Ent.Any (e : Ent) : Prop := ∀ O O' W, e.φ O W → e.φ O' W
theorem bx_any (b : Nat) (vs : Array Value) (T : Nat) : (Proofs.Ytfddmjoldoddlaa.bx b vs T).Any := fun _ _ _ h => h
theorem emp_any : emp.Any := fun _ _ _ h => h
theorem ow_any {α : Type} (A : Option Addr) (c T : Nat) {t : Fl α} (l : List α) (ht : t.Tri) : (Proofs.Ytfddmjoldoddlaa.ow A c T t l).Any := fun O O' W h => by
  obtain ⟨css, h0, h1⟩ := h
  exact ⟨css, h0.mono (fun _ _ ⟨u, _, h2⟩ => ⟨u, ht _ _ _ _, h2⟩), h1⟩
def AnyL : List Ent → Prop
  | [] => True
  | e :: es => e.Any ∧ AnyL es
theorem AnyL.at_ : ∀ {es : List Ent}, AnyL es → ∀ k, (LEn es k).Any
  | [], _, _ => emp_any
  | _ :: _, h, 0 => h.1
  | _ :: es, h, k + 1 => AnyL.at_ (es := es) h.2 k
theorem HF.lowE {W : World} {w' : Bs} {es : List Ent} (hle : w.Le w') (h : HF w' W (LEn es)) (he : AnyL es) : HF w W (LEn es) :=
  ⟨h.os.trans hle.os, h.tape.trans hle.tape, h.output.trans hle.output, Nat.le_trans hle.size h.size, Nat.le_trans hle.drawn h.drawn, fun b hb => (h.keep b (hle.r b hb)).trans (hle.blk b hb),
   fun k => he.at_ k _ _ _ (h.phi k), h.loc, fun k b hs => ⟨fun hr => (h.bd k b hs).1 (hle.r b hr), (h.bd k b hs).2⟩, h.disj⟩
theorem run_callD {a : Act} {W : World} {fn : Nat} {xs : List Operand} {vs : List Value} {ts : Array Nat} {dd : Option Nat} (h1 : FR n f a) (hg : ∀ args W, (callFunc fn args).run P W = .ok (.enter fn args) W) (hx : evl f xs vs) :
    (execOp a.eval ⟨dd, .call ⟨.value (.func fn), xs.toArray, ts⟩, ty, pos, af, g⟩).run P W = .ok (.enter fn vs.toArray) W := by
  have := evl_eq hx a h1
  simp [execOp, resolve, invoke, Deferred.ofValue, Act.eval, hg, this]
/-- A call that leaves nothing but its value. -/
theorem Tr.call0 {fn : Nat} {xs : List Operand} {vs : List Value} {ts : Array Nat} {r : Value} (hw : Wn ops f ⟨some d, .call ⟨.value (.func fn), xs.toArray, ts⟩, ty, pos, af, g⟩) (hdn : Nat.blt d n = true)
    (hg : ∀ args W, (callFunc fn args).run P W = .ok (.enter fn args) W) (hx : evl f xs vs)
    (hc : ∀ W (hW : HF w W E), Calls P fn vs.toArray W fun e W' => e = .returned r ∧ HF hW.all W' E0)
    (K : Tr w n (uf f d r) E (wpList P ops Q rest)) : Tr w n f E (wpList P ops Q (⟨some d, .call ⟨.value (.func fn), xs.toArray, ts⟩, ty, pos, af, g⟩ :: rest)) :=
  Tr.op hw fun a W h1 h2 => by
    unfold Oper.wp
    rw [run_callD h1 hg hx]
    refine (hc W h2).mono fun e W' ⟨he, hb⟩ => ?_
    subst he
    exact K _ _ (h1.put (Nat.le_of_ble_eq_true hdn) _) (h2.later (h2.allBelow hb))
/-- A call that turns parts, or leaves new ones; the base stays. -/
theorem Tr.callM {U : Type} {fn : Nat} {xs : List Operand} {vs : List Value} {ts : Array Nat} (ks : List Nat) (ins : List Ent) (V : U → Value) (Φ : U → Prop) (outs : U → List Ent) (hn : decide ks.Nodup = true) (hp : Pk E ks ins) (hl : ∀ u, (outs u).length = ks.length)
    (hw : Wn ops f ⟨some d, .call ⟨.value (.func fn), xs.toArray, ts⟩, ty, pos, af, g⟩) (hdn : Nat.blt d n = true)
    (hg : ∀ args W, (callFunc fn args).run P W = .ok (.enter fn args) W) (hx : evl f xs vs)
    (hc : ∀ W (hW : HF w W E) (_ : Pk E ks ins), HF (hW.sub (insS ins)) W (LEn ins) → Calls P fn vs.toArray W fun e W' => ∃ u, e = .returned (V u) ∧ Φ u ∧ HF (hW.sub (insS ins)) W' (LEn (outs u)))
    (K : ∀ u, Φ u → Tr w n (uf f d (V u)) (upL E ks (outs u)) (wpList P ops Q rest)) : Tr w n f E (wpList P ops Q (⟨some d, .call ⟨.value (.func fn), xs.toArray, ts⟩, ty, pos, af, g⟩ :: rest)) :=
  Tr.op hw fun a W h1 h2 => by
    unfold Oper.wp
    rw [run_callD h1 hg hx]
    have hn' := of_decide_eq_true hn
    refine (hc W h2 hp (h2.lend hn' hp)).mono fun e W' ⟨u, he, hu, hb⟩ => ?_
    subst he
    exact K u hu _ _ (h1.put (Nat.le_of_ble_eq_true hdn) _) (HF.sameO (h2.after_le hp (.refl _)) (fun _ h => h) (h2.back hn' hp (.refl _) hb (hl u)))
/-- A call behind which more is written no more. -/
theorem Tr.callG {U : Type} {fn : Nat} {xs : List Operand} {vs : List Value} {ts : Array Nat} (ks : List Nat) (ins : List Ent) (V : U → Value) (Φ : (Nat → Prop) → World → U → Prop) (outs : U → List Ent) (hn : decide ks.Nodup = true) (hp : Pk E ks ins) (hl : ∀ u, (outs u).length = ks.length)
    (hw : Wn ops f ⟨some d, .call ⟨.value (.func fn), xs.toArray, ts⟩, ty, pos, af, g⟩) (hdn : Nat.blt d n = true)
    (hg : ∀ args W, (callFunc fn args).run P W = .ok (.enter fn args) W) (hx : evl f xs vs)
    (hc : ∀ W (hW : HF w W E) (_ : Pk E ks ins), HF (hW.sub (insS ins)) W (LEn ins) → Calls P fn vs.toArray W fun e W' => ∃ w' u, (hW.sub (insS ins)).Le w' ∧ e = .returned (V u) ∧ Φ w'.O w'.W u ∧ HF w' W' (LEn (outs u)))
    (K : ∀ w' u, w.Le w' → Φ w'.O w'.W u → Tr w' n (uf f d (V u)) (upL E ks (outs u)) (wpList P ops Q rest)) : Tr w n f E (wpList P ops Q (⟨some d, .call ⟨.value (.func fn), xs.toArray, ts⟩, ty, pos, af, g⟩ :: rest)) :=
  Tr.op hw fun a W h1 h2 => by
    unfold Oper.wp
    rw [run_callD h1 hg hx]
    have hn' := of_decide_eq_true hn
    refine (hc W h2 hp (h2.lend hn' hp)).mono fun e W' ⟨w', u, hle, he, hu, hb⟩ => ?_
    subst he
    exact K (h2.after hle) u (h2.after_le hp hle) hu _ _ (h1.put (Nat.le_of_ble_eq_true hdn) _) (h2.back hn' hp hle hb (hl u))
/-- The frame at the door. -/
def inF : List Value → Nat → Nat → Option Value
  | [], _ => f0
  | v :: l, i => uf (inF l (i + 1)) i v
theorem inF_at : ∀ (l : List Value) (i t : Nat) (v : Value), inF l i t = some v → i ≤ t ∧ l[t - i]? = some v
  | [], _, _, _, h => by cases h
  | u :: l, i, t, v, h => by
    unfold inF uf at h
    by_cases e : t = i
    · subst e; simp at h; subst h; simp
    · have : Nat.beq t i = false := by rw [Bool.eq_false_iff]; intro hh; exact e (Nat.eq_of_beq_eq_true hh)
      rw [this] at h
      have ih := inF_at l (i + 1) t v h
      refine ⟨by omega, ?_⟩
      rw [show t - i = (t - (i + 1)) + 1 by omega]
      simpa using ih.2
theorem Tr.enter {fn : Nat} {fu : Func} {c : Code} {vs : List Value} {R : Ending → World → Prop} (hf : P.funcs[fn]? = some fu) (hb : fu.body = some c) (hn : fu.ntmps = n) (hle : Nat.ble vs.length n = true) (hE : HF w w.W E)
    (h : Tr w n (inF vs 0) E (c.wp P (bodyPost P fu R))) : Calls P fn vs.toArray w.W R := by
  refine calls_of_wp hf hb (h _ _ ⟨?_, rfl, fun t v hv => ?_⟩ hE)
  · have := Nat.le_of_ble_eq_true hle
    simp [hn]; omega
  · obtain ⟨_, h2⟩ := inF_at _ _ _ _ hv
    have h2 : vs[t]? = some v := by simpa using h2
    have hlt := (List.getElem?_eq_some_iff.1 h2).1
    rw [Array.getElem?_append_left (by simpa using hlt)]
    simpa using h2
/-- What a function hands back. -/
theorem Tr.out1 {fu : Func} {R : Ending → World → Prop} {t : Nat} (hr : fu.results = #[.tmp t]) (hv : f t = some v) (h : ∀ W, HF w W E → R (.returned v) W) : Tr w n f E (bodyPost P fu R .ret) :=
  fun a W h1 h2 => ⟨h1.dfr, v, by rw [results_tmp hr]; simp [h1.get t v hv], h W h2⟩
theorem Tr.out2 {fu : Func} {R : Ending → World → Prop} {t s : Nat} (hr : fu.results = #[.tmp t, .tmp s]) (hv : f t = some v) (hu : f s = some u) (h : ∀ W, HF w W E → R (.returned (.tuple #[v, u])) W) : Tr w n f E (bodyPost P fu R .ret) :=
  fun a W h1 h2 => ⟨h1.dfr, _, by rw [results_tmp2 hr], by simpa [h1.get t v hv, h1.get s u hu] using h W h2⟩
/-- Results one by one: slots, and variables in boxes. -/
def resOf (P : Program) (f : Nat → Option Value) (E : Nat → Ent) : List ResultVar → List Value → List Nat → Prop
  | [], [], _ => True
  | .tmp t :: l, v :: m, ks => f t = some v ∧ resOf P f E l m ks
  | .cell t T :: l, .agg cs :: m, k :: ks => (∃ b T2, f t = some (.pointer (some ⟨b, 0, none⟩)) ∧ E k = bx b cs T2) ∧ aggOf P T = some true ∧ szOf P T = some cs.size ∧ resOf P f E l m ks
  | _, _, _ => False
def resAct (tmps : Array Value) : ResultVar → Sem Value
  | .tmp t => pure (tmps.getD t undef)
  | .cell a t => do loadVar t (← asAddr (tmps.getD a undef))
theorem results_act (fu : Func) (tmps : Array Value) : results fu tmps = (do let vs ← fu.results.mapM (resAct tmps); pure (if h : vs.size = 1 then vs[0] else .tuple vs)) := by
  unfold results
  congr 1
theorem resOf_run {w : Bs} {W : World} {E : Nat → Ent} {a : Act} (h1 : FR n f a) (h2 : HF w W E) : ∀ {l : List ResultVar} {m : List Value} {ks : List Nat} (_ : resOf P f E l m ks),
    (l.mapM (resAct a.tmps)).run P W = .ok m W
  | [], [], _, _ => by simp
  | .tmp t :: l, v :: m, ks, h => by
    obtain ⟨ht, hr⟩ := h
    have ih := resOf_run h1 h2 hr
    rw [List.mapM_cons, Sem.run_bind]
    have e : resAct a.tmps (.tmp t) = pure v := by simp [resAct, h1.get t v ht]
    simp only [e, Sem.run_pure, Result.andThen_ok, Sem.run_bind, ih]
  | .cell t T :: l, .agg cs :: m, k :: ks, h => by
    obtain ⟨⟨b, T2, ht, hk⟩, ha, hs, hr⟩ := h
    have ih := resOf_run h1 h2 hr
    have hl : (loadVar T ⟨b, 0, none⟩).run P W = .ok (.agg cs) W := by
      unfold aggOf at ha
      cases hu : P.underlying T with
      | none => rw [hu] at ha; cases ha
      | some dd => rw [hu] at ha; simp at ha; exact run_loadVar_row W b T2 T cs (0, 0) dd (h2.bx hk) hu (by cases dd <;> simp_all) hs
    rw [List.mapM_cons, Sem.run_bind]
    have e : resAct a.tmps (.cell t T) = loadVar T ⟨b, 0, none⟩ := by
      have e1 : a.tmps.getD t undef = .pointer (some ⟨b, 0, none⟩) := by simp [h1.get t _ ht]
      show (asAddr (a.tmps.getD t undef)).bind (fun x => loadVar T x) = _
      rw [e1]; rfl
    simp only [e, Sem.run_bind, Sem.run_pure, Result.andThen_ok, hl, ih]
  | [], _ :: _, _, h => h.elim
  | .tmp _ :: _, [], _, h => h.elim
theorem res_nil {ks : List Nat} : resOf P f E [] [] ks := trivial
theorem res_tmp {t : Nat} {l : List ResultVar} {m : List Value} {ks : List Nat} (h : f t = some v) (h2 : resOf P f E l m ks) : resOf P f E (.tmp t :: l) (v :: m) ks := ⟨h, h2⟩
theorem res_cell {t T T2 b k : Nat} {cs : Array Value} {l : List ResultVar} {m : List Value} {ks : List Nat} (h : f t = some (.pointer (some ⟨b, 0, none⟩))) (hk : E k = bx b cs T2) (ha : aggOf P T = some true) (hs : szOf P T = some cs.size) (h2 : resOf P f E l m ks) :
    resOf P f E (.cell t T :: l) (.agg cs :: m) (k :: ks) := ⟨⟨b, T2, h, hk⟩, ha, hs, h2⟩
theorem Tr.out {fu : Func} {R : Ending → World → Prop} {m : List Value} (ks : List Nat) (hr : resOf P f E fu.results.toList m ks) (h : ∀ W, HF w W E → R (.returned (match m with | [v] => v | _ => .tuple m.toArray)) W) : Tr w n f E (bodyPost P fu R .ret) :=
  fun a W h1 h2 => by
    have hm := resOf_run h1 h2 hr
    refine ⟨h1.dfr, _, ?_, h W h2⟩
    rw [results_act, Array.mapM_eq_mapM_toList]
    simp only [Sem.run_bind, Sem.run_map, hm, Result.andThen_ok]
    match m with
    | [] => rfl
    | [v] => rfl
    | v :: u :: m => simp
end
end Go.Proofs.Ytfddmjoldoddlaa
