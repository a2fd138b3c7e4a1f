/- Results that share memory with arguments: slices that read the same as long as the parts that they hang on do. Conditions: none beyond each theorem's own. -/
import Derived.Test.YtpkicpnbpldkpaaG10
namespace Go.Proofs.Ytpkicpnbpldkpaa
open Go.RowKit
/-- The blocks S are as in W0. -/
def fz (S : Nat → Prop) (W0 : World) : Ent := ⟨S, fun W => ∀ b, S b → W.heap[b]? = W0.heap[b]?⟩
theorem fz_loc (B : Nat) (S : Nat → Prop) (W0 : World) : (fz S W0).loc B := fun _ _ h hp b hb => (h b (.inr hb)).trans (hp b hb)
abbrev Dep := Nat × (Nat → Prop) × World
def AllD (E : Nat → Ent) : List Dep → Prop
  | [] => True
  | (k, S, W0) :: l => E k = fz S W0 ∧ AllD E l
theorem AllD.mem {E : Nat → Ent} : ∀ {l : List Dep} (_ : AllD E l) {d : Dep}, d ∈ l → E d.1 = fz d.2.1 d.2.2
  | (k, S, W0) :: l, h, d, hd => by
    rcases List.mem_cons.1 hd with rfl | hd
    · exact h.1
    · exact AllD.mem h.2 hd
/-- The blocks of the arguments, and of the parts. -/
def Dp (S0 : Nat → Prop) (ds : List Dep) : Nat → Prop := fun b => S0 b ∨ ∃ d ∈ ds, d.2.1 b
section
variable {α : Type} {S0 : Nat → Prop} {w W : World} {E : Nat → Ent} {ds ds' : List Dep} {t : Fl α} {A : Option Addr} {c : Nat} {l : List α}
theorem Dp.sub (h : ∀ d ∈ ds, d ∈ ds') : ∀ b, Dp S0 ds b → Dp S0 ds' b := fun _ hb => hb.imp id fun ⟨d, h1, h2⟩ => ⟨d, h d h1, h2⟩
/-- The slice reads so wherever the parts hold. -/
def Zs (S0 : Nat → Prop) (w : World) (ds : List Dep) (t : Fl α) (A : Option Addr) (c : Nat) (l : List α) : Prop := ∀ W E, HF w W E → AllD E ds → Sl (Dp S0 ds) W t A c l
theorem Dp.out (hS : ∀ b, S0 b → b < w.heap.size) (hW : HF w W E) (hd : AllD E ds) : ∀ b, Dp S0 ds b → S0 b ∨ (w.heap.size ≤ b ∧ b < W.heap.size) := fun b hb => by
  rcases hb with hb | ⟨d, h1, h2⟩
  · exact .inl hb
  · exact .inr (hW.bd d.1 b (by rw [hd.mem h1]; exact h2))
theorem Zs.lo (hS : ∀ b, S0 b → b < w.heap.size) (h : Zs S0 w ds t A c l) (hW : HF w W E) (hd : AllD E ds) : Sl (lo W.heap.size) W t A c l :=
  (h W E hW hd).mono fun b hb => by
    rcases Dp.out hS hW hd b hb with hb | hb
    · exact Nat.lt_of_lt_of_le (hS b hb) hW.below.size
    · exact hb.2
theorem Zs.out (hS : ∀ b, S0 b → b < w.heap.size) (h : Zs S0 w ds t A c l) (hW : HF w W E) (hd : AllD E ds) : Sl (fun b => S0 b ∨ (w.heap.size ≤ b ∧ b < W.heap.size)) W t A c l := (h W E hW hd).mono (Dp.out hS hW hd)
theorem Zs.pass (h : Zs S0 w ds t A c l) (hW : HF w W E) (hd : AllD E ds) (hs : ∀ d ∈ ds, d ∈ ds') : Sl (Dp S0 ds') W t A c l := (h W E hW hd).mono (Dp.sub hs)
theorem Zs.form (h : Zs S0 w ds t A c l) (hW : HF w W E) (hd : AllD E ds) : SlF A l.length c := (h W E hW hd).form
/-- An argument. -/
theorem Zs.arg (hS : ∀ b, S0 b → b < w.heap.size) (h : Sl S0 w t A c l) : Zs S0 w [] t A c l := fun W E hW _ =>
  (h.loc (fun b hb => hW.below.block b (hS b hb))).mono (fun _ hb => .inl hb)
/-- A slice of the call's own, as a result. -/
theorem HF.slOut (hW : HF w W E) {k T : Nat} (hk : E k = Proofs.Ytpkicpnbpldkpaa.ow A c T t l) : Sl (fun b => S0 b ∨ (w.heap.size ≤ b ∧ b < W.heap.size)) W t A c l := by
  have h := hW.sl hk
  refine ⟨h.form, fun i x hx => ⟨.inr (hW.bd k _ ?_), (h.cells i x hx).2⟩⟩
  rw [hk]
  show (Value.slice A l.length c).ownBlock = some (adB A)
  have h0 : 0 < l.length := by have := (List.getElem?_eq_some_iff.1 hx).1; omega
  rw [h.form.2.2 h0]; rfl
/-- A slice that a callee handed back. -/
theorem Zs.new {κ : Nat} {S : Nat → Prop} {W0 : World} (hS : ∀ b, S0 b → b < w.heap.size) (hu : Sl (fun b => Dp S0 ds b ∨ S b) W0 t A c l) (h0 : HF w W0 E) (hd : AllD E ((κ, S, W0) :: ds)) : Zs S0 w ((κ, S, W0) :: ds) t A c l := fun W E' hW hD =>
  (hu.loc (fun b hb => by
    rcases hb with (hb | ⟨d, h1, h2⟩) | hb
    · exact (hW.below.block b (hS b hb)).trans (h0.below.block b (hS b hb)).symm
    · have e1 := hW.phi d.1
      have e2 := h0.phi d.1
      rw [hD.mem (List.mem_cons_of_mem _ h1)] at e1
      rw [hd.mem (List.mem_cons_of_mem _ h1)] at e2
      exact (e1 b h2).trans (e2 b h2).symm
    · have e1 := hW.phi κ
      rw [hD.1] at e1
      exact e1 b hb)).mono (fun b hb => by
    rcases hb with (hb | ⟨d, h1, h2⟩) | hb
    · exact .inl hb
    · exact .inr ⟨d, List.mem_cons_of_mem _ h1, h2⟩
    · exact .inr ⟨_, List.mem_cons_self, hb⟩)
end
section
variable {P : Program} {w : World} {n : Nat} {f : Nat → Option Value} {E : Nat → Ent} {X : Act → World → Prop} {Q : Exit → Act → World → Prop} {ops : Array Oper} {rest : List Oper}
variable {d ty : Nat} {pos : String} {af : Array Edge} {g : Option (Nat × Bool)} {S0 : Nat → Prop}
/-- A slice of the call's own that is written no more. -/
theorem Tr.freeze {α : Type} (κ : Nat) {A : Option Addr} {c T : Nat} {t : Fl α} {l : List α} (hk : E κ = ow A c T t l) (K : ∀ S W0, Zs S0 w [(κ, S, W0)] t A c l → Tr w n f (up E κ (fz S W0)) X) : Tr w n f E X := by
  intro a W h1 h2
  have hS : ∀ b, (E κ).S b → b < W.heap.size := fun b hb => (h2.bd κ b hb).2
  refine K (E κ).S W (fun W' E' hW' hD => ?_) a W h1 (h2.mod κ _ rfl rfl rfl (Nat.le_refl _) (fun _ _ _ => rfl) (fz_loc _ _ _) (fun _ _ => rfl) (fun b hb => ⟨.inl hb, hS b hb⟩))
  have h := h2.sl hk
  have e1 := hW'.phi κ
  rw [hD.1] at e1
  have hreg : Sl (E κ).S W t A c l := ⟨h.form, fun i x hx => ⟨by
    rw [hk]
    show (Value.slice A l.length c).ownBlock = some (adB A)
    have h0 : 0 < l.length := by have := (List.getElem?_eq_some_iff.1 hx).1; omega
    rw [h.form.2.2 h0]; rfl, (h.cells i x hx).2⟩⟩
  exact (hreg.loc e1).mono (fun b hb => .inr ⟨_, List.mem_cons_self, hb⟩)
/-- A call that hands back slices that may share memory with its arguments. -/
theorem Tr.callZ {U : Type} {fn : Nat} {xs : List Operand} {vs : List Value} {ts : Array Nat} (κ : Nat) (V : U → Value) (Φ : U → (Nat → Prop) → World → Prop) (Sc : Nat → Prop) (hw : Wn ops f ⟨some d, .call ⟨.value (.func fn), xs.toArray, ts⟩, ty, pos, af, g⟩) (hdn : Nat.blt d n = true)
    (hg : ∀ args W, (callFunc fn args).run P W = .ok (.enter fn args) W) (hx : evl f xs vs)
    (hc : ∀ W, HF w W E → Calls P fn vs.toArray W fun e W' => ∃ u, e = .returned (V u) ∧ Φ u (fun b => Sc b ∨ (W.heap.size ≤ b ∧ b < W'.heap.size)) W' ∧ Below W.heap.size W W')
    (K : ∀ u S W0, Φ u (fun b => Sc b ∨ S b) W0 → HF w W0 (up E κ (fz S W0)) → Tr w n (uf f d (V u)) (up E κ (fz S W0)) (wpList P ops Q rest)) : Tr w n f E (wpList P ops Q (⟨some d, .call ⟨.value (.func fn), xs.toArray, ts⟩, ty, pos, af, g⟩ :: rest)) :=
  Tr.op hw fun a W h1 h2 => by
    have hrun : (execOp a.eval ⟨some d, .call ⟨.value (.func fn), xs.toArray, ts⟩, ty, pos, af, g⟩).run P W = .ok (.enter fn vs.toArray) W := by
      have := evl_eq hx a h1
      simp [execOp, resolve, invoke, Deferred.ofValue, Act.eval, hg, this]
    unfold Oper.wp
    rw [hrun]
    refine (hc W h2).mono fun e W' ⟨u, he, hu, hb⟩ => ?_
    subst he
    have h3 : HF w W' (up E κ (fz (fun b => W.heap.size ≤ b ∧ b < W'.heap.size) W')) := h2.add κ hb _ (fz_loc _ _ _) (fun _ _ => rfl) (fun _ hb => hb)
    exact K u _ W' hu h3 _ _ (h1.put (Nat.le_of_ble_eq_true hdn) _) h3
theorem St.callZ {l : List Oper} {m : Nat} {t : Tn} {fu : Nat} {listed : Array Bool} {U : Type} {fn : Nat} {xs : List Operand} {vs : List Value} {ts : Array Nat} (i κ : Nat) (V : U → Value) (Φ : U → (Nat → Prop) → World → Prop) (Sc : Nat → Prop) (hi : l[i]? = some ⟨some d, .call ⟨.value (.func fn), xs.toArray, ts⟩, ty, pos, af, g⟩) (hw : Wn l.toArray f ⟨some d, .call ⟨.value (.func fn), xs.toArray, ts⟩, ty, pos, af, g⟩) (hdn : Nat.blt d n = true)
    (hg : ∀ args W, (callFunc fn args).run P W = .ok (.enter fn args) W) (hx : evl f xs vs)
    (hc : ∀ W, HF w W E → Calls P fn vs.toArray W fun e W' => ∃ u, e = .returned (V u) ∧ Φ u (fun b => Sc b ∨ (W.heap.size ≤ b ∧ b < W'.heap.size)) W' ∧ Below W.heap.size W W')
    (K : ∀ u S W0, Φ u (fun b => Sc b ∨ S b) W0 → HF w W0 (up E κ (fz S W0)) → Dr P w n l m t Q fu (listed.setIfInBounds i true) (uf f d (V u)) (up E κ (fz S W0))) : St P w n l m t Q fu listed f E i :=
  St.effU (U := U × (Nat → Prop) × World) i hi hw (fun q => Φ q.1 (fun b => Sc b ∨ q.2.1 b) q.2.2 ∧ HF w q.2.2 (up E κ (fz q.2.1 q.2.2))) (fun a W h1 h2 _ K' hK => by
    have hrun : (execOp a.eval ⟨some d, .call ⟨.value (.func fn), xs.toArray, ts⟩, ty, pos, af, g⟩).run P W = .ok (.enter fn vs.toArray) W := by
      have := evl_eq hx a h1
      simp [execOp, resolve, invoke, Deferred.ofValue, Act.eval, hg, this]
    unfold Oper.wp
    rw [hrun]
    refine (hc W h2).mono fun e W' ⟨u, he, hu, hb⟩ => ?_
    subst he
    have h3 : HF w W' (up E κ (fz (fun b => W.heap.size ≤ b ∧ b < W'.heap.size) W')) := h2.add κ hb _ (fz_loc _ _ _) (fun _ _ => rfl) (fun _ hb => hb)
    exact hK (u, _, W') _ _ ⟨hu, h3⟩ (h1.put (Nat.le_of_ble_eq_true hdn) _) h3 (Keep.of_below hb)) (fun q hq => K q.1 q.2.1 q.2.2 hq.1 hq.2)
end
end Go.Proofs.Ytpkicpnbpldkpaa
