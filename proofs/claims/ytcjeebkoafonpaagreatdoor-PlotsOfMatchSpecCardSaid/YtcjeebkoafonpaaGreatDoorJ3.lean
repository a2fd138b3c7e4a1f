/- Rules of the walks, or plain laws about the plain functions. Conditions: none beyond each theorem's own. -/
import Derived.Test.YtcjeebkoafonpaaGreatDoorJ2
import Derived.Shelf.SlSortCmp.Whole1
namespace Go.Proofs.YtcjeebkoafonpaaGreatDoor
open Go.RowKit Go.Sort Go.Proofs Go.Shelf
theorem FM {β : Type} [Inhabited β] (enc : β → Value) (W : World) (g : Nat) (d : Array β) : putRow enc W g 0 d = putRow id W g 0 (d.map enc) := by
 unfold putRow
 congr 1
 funext cur
 unfold putCells
 apply Array.ext (by simp)
 intro i h1 h2
 simp only [Array.getElem_mapIdx, Nat.zero_le, true_and, Nat.zero_add, Array.size_map, Nat.sub_zero, id_eq]
 by_cases hi : i < d.size
 ·rw [if_pos hi, if_pos hi, getElem!_pos d i hi, getElem!_pos (d.map enc) i (by simpa using hi)]; simp
 ·rw [if_neg hi, if_neg hi]
section
variable {P : Program} {ρ : Ren} {w : Bs} {t : Fl Int} {A : Option Addr} {c T : Nat} {l r : List Int} {cmp : Int → Int → Option Int} {fid : Nat} {cap : List Value}
end
open Go.RowKit Go.Sort Go.Proofs Go.Shelf
section
variable {β : Type}
def Apart (c : β → β → Option Int) (l : List β) : Prop := ∀ x ∈ l, ∀ y ∈ l, FX c x y = false → FX c y x = false → x = y
open Classical in
noncomputable def DU (l : List β) (c : β → β → Option Int) : Option (List β) := if tT c l ∧ Apart c l then DW l c else none
theorem FB {l r : List β} {c : β → β → Option Int} (h : DU l c = some r) : tT c l ∧ Apart c l ∧ r.Perm l ∧ r.Pairwise (fun x y => FX c y x = false) := by
 unfold DU at h
 split at h
 ·rename_i h1
  obtain ⟨_, h2, h3⟩ := BK h
  exact ⟨h1.1, h1.2, h2, h3⟩
 ·cases h
theorem O6 {l : List β} {c : β → β → Option Int} (h : tT c l) (h' : Apart c l) : ∃ r, DU l c = some r := by
 unfold DU
 rw [if_pos ⟨h, h'⟩]
 exact K4 h
theorem Apart.one {l a b : List β} {c : β → β → Option Int} (h : Apart c l) (ha : a.Perm l) (hb : b.Perm l) (h1 : a.Pairwise fun x y => FX c y x = false) (h2 : b.Pairwise fun x y => FX c y x = false) : a = b :=
 (ha.trans hb.symm).eq_of_pairwise (fun x y hx hy g1 g2 => h x (ha.mem_iff.1 hx) y (hb.mem_iff.1 hy) g2 g1) h1 h2
end
section
variable {P : Program} {ρ : Ren} {β : Type} {w : Bs} {t : Fl (List β)} {t' : Fl β} {A : Option Addr} {c T : Nat} {l r : List (List β)} {cmp : List β → List β → Option Int} {fid : Nat} {cap : List Value}
abbrev Pr (β : Type) := (Option Addr × Nat) × List β
def BD (p : Pr β) : Value := .slice p.1.1 p.2.length p.1.2
theorem Jm {O : Nat → Prop} {W : World} (hel : ∀ u x, t.ok O W u x → ∃ p : Pr β, p.2 = x ∧ t.enc u x = [BD p] ∧ Sl O W t' p.1.1 p.1.2 x) : ∀ {css : List (List Value)} {l : List (List β)}, Al (rp t O W) css l → ∃ ps : List (Pr β), ps.map (·.2) = l ∧ css = ps.map (fun p => [BD p]) ∧ ∀ p ∈ ps, Sl O W t' p.1.1 p.1.2 p.2
 | _, _, .nil => ⟨[], rfl, rfl, fun _ h => (nomatch h)⟩
 | _, _, .cons ⟨u, h1, h2⟩ h => by
  obtain ⟨ps, q1, q2, q3⟩ := Jm hel h
  obtain ⟨p, p1, p2, p3⟩ := hel u _ h1
  refine ⟨p :: ps, by rw [List.map_cons, q1, p1], by rw [List.map_cons, ← q2, h2, p2], fun p' hp' => ?_⟩
  rcases List.mem_cons.1 hp' with rfl | hp'
  ·rw [p1]; exact p3
  ·exact q3 p' hp'
theorem GA {ps : List (Pr β)} (hp : ps.map (·.2) = l) (h : tT cmp l) : tT (fun p q : Pr β => cmp p.2 q.2) ps := by
 have hm : ∀ p ∈ ps, p.2 ∈ l := fun p hp' => by rw [← hp]; exact List.mem_map_of_mem (f := fun p : Pr β => p.2) hp'
 exact ⟨by have := h.len; rw [← hp, List.length_map] at this; exact this, fun x hx y hy => h.tot _ (hm x hx) _ (hm y hy), fun x hx => h.irr _ (hm x hx),
  fun x hx y hy z hz => h.tr _ (hm x hx) _ (hm y hy) _ (hm z hz), fun x hx y hy z hz => h.ntr _ (hm x hx) _ (hm y hy) _ (hm z hz)⟩
theorem DX (L : SlLaysF.n6 P ρ) (h1 : t.sz = 1) (hel : ∀ O W u x, t.ok O W u x → ∃ p : Pr β, p.2 = x ∧ t.enc u x = [BD p] ∧ Sl O W t' p.1.1 p.1.2 x) (hmk : ∀ O W (p : Pr β), Sl O W t' p.1.1 p.1.2 p.2 → rp t O W [BD p] p.2)
  (hg : ∀ args w, (callFunc fid args).run P w = .ok (.enter fid args) w)
  (hf : ∀ (w' : Bs), w.Ext w' → ∀ (z0 : List β) (A0 : Option Addr) (c0 : Nat), Sl w'.R w'.W t' A0 c0 z0 → ∀ (z1 : List β) (A1 : Option Addr) (c1 : Nat), Sl w'.R w'.W t' A1 c1 z1 → ∀ y, cmp z0 z1 = some y →
   Calls P fid (([.slice A0 z0.length c0, .slice A1 z1.length c1] : List Value) ++ cap).toArray w'.W fun e W'' => e = .returned (.int .i64 y) ∧ HF w' W'' E0)
  (H : DU l cmp = some r) (hE : HF w w.W (kw [ow A c T t l])) :
  Calls P (ρ.f 6) [.slice A l.length c, .func (.func fid) #[] cap.toArray].toArray w.W fun e W' => ∃ u : Unit, e = .returned (.tuple #[]) ∧ (r.length = l.length) ∧ HF w W' (kw [ow A c T t r]) := by
 obtain ⟨hok, hap, hperm, hsort⟩ := FB H
 have hrl : r.length = l.length := hperm.length_eq
 have L0 : SlLaysF0.n6 P ρ := { L with }
 obtain ⟨css, hal, hlen, hown⟩ := hE.ow (k := 0) rfl
 rcases hown with ⟨ev, h0⟩ | ⟨g, cap', cur, ev, hb0, hh, hn, hc, hs, htk⟩
 ·have hl : l = [] := List.eq_nil_of_length_eq_zero h0
  subst hl
  have hr : r = [] := List.eq_nil_of_length_eq_zero hrl
  subst hr
  refine (AnyF.slices_SortFunc_none L0 A c (.func (.func fid) #[] cap.toArray) w.W).mono fun e' W' ⟨h1, h2⟩ => ?_
  subst h2
  exact ⟨(), h1, rfl, hE⟩
 ·simp at ev
  obtain ⟨rfl, rfl⟩ := ev
  obtain ⟨ps, p1, p2, p3⟩ := Jm (hel _ _) hal
  have hlp : ps.length = l.length := by rw [← p1, List.length_map]
  have hokp := GA p1 hok
  by_cases hx : ∃ x, x ∈ ps
  ·letI : Inhabited {x // x ∈ ps} := ⟨⟨Classical.choose hx, Classical.choose_spec hx⟩⟩
   have hsz : ps.attach.toArray.size = l.length := by simp [hlp]
   have hflat : ∀ (d : Array {x // x ∈ ps}), (d.map fun x => BD x.1).toList = (d.toList.map (·.1)).map BD := fun d => by simp
   have Sg : ∀ qs : List (Pr β), (qs.map fun p => [BD p]).flatten = qs.map BD := fun qs => by
    induction qs with
    | nil => rfl
    | cons q qs ih => rw [List.map_cons, List.flatten_cons, ih]; rfl
   have hgw : g < w.W.heap.size := (Array.getElem?_eq_some_iff.1 hh).1
   have htk' : cur.toList.take l.length = ps.map BD := by rw [p2, Sg, h1, Nat.mul_one] at htk; exact htk
   have hcur : l.length ≤ cur.size := by rw [hs, h1, Nat.mul_one]; exact hn
   have hH : Holds (fun x : {x // x ∈ ps} => BD x.1) w.W g 0 ps.attach.toArray := by
    intro j hj
    have hj' : j < l.length := by simpa [hlp] using hj
    refine ⟨?_, by simp [World.frozen?, hh]⟩
    have e1 : (cur.toList.take l.length)[j]? = (ps.map BD)[j]? := by rw [htk']
    rw [List.getElem?_take_of_lt hj'] at e1
    simp only [World.cell?, hh, Nat.zero_add]
    simp only [Option.isSome_none, Bool.false_eq_true, if_false]
    rw [← Array.getElem?_toList, e1, getElem!_pos ps.attach.toArray j hj]
    have hjp : j < ps.length := by omega
    simp [hjp]
   have hgR : ¬ w.R g := (hE.bd 0 g rfl).1
   have hcmp : CmpLays1 P fid cap.toArray (fun x : {x // x ∈ ps} => BD x.1) (M9 (fun p q : Pr β => cmp p.2 q.2) ps) g 0 ps.attach.toArray.size w.W := by
    intro m os dk hdk x y
    obtain ⟨k, hk⟩ := hokp.tot x.1 x.2 y.1 y.2
    have hsw : sortWorld (fun x : {x // x ∈ ps} => BD x.1) w.W g 0 m dk os = grow (putRow id (Sort.ahead w.W m) g 0 (dk.map fun x => BD x.1)) os := by
     unfold sortWorld; rw [FM]
    rw [hsw]
    have hS : w.W.heap.size ≤ (grow (putRow id (Sort.ahead w.W m) g 0 (dk.map fun x => BD x.1)) os).heap.size := vG _
    have hext : w.Ext ⟨grow (putRow id (Sort.ahead w.W m) g 0 (dk.map fun x => BD x.1)) os, w.O, fun b => b < (grow (putRow id (Sort.ahead w.W m) g 0 (dk.map fun x => BD x.1)) os).heap.size, fun b hb => by
      rcases hb with hb | hb
      ·exact Nat.lt_of_lt_of_le (w.lt b (.inl hb)) hS
      ·exact hb⟩ := ⟨fun _ h => h, fun b hb => .inr (Nat.lt_of_lt_of_le (w.lt b hb) hS), fun b hb => vR _ (w.lt b hb) (fun e => hgR (e ▸ hb))⟩
    have s0 := (Sl.rl (w := w) (p3 x.1 x.2)).ext hext
    have s1 := (Sl.rl (w := w) (p3 y.1 y.2)).ext hext
    have := hf _ hext x.1.2 x.1.1.1 x.1.1.2 s0 y.1.2 y.1.1.1 y.1.1.2 s1 k hk
    have hargs : (([.slice x.1.1.1 x.1.2.length x.1.1.2, .slice y.1.1.1 y.1.2.length y.1.1.2] : List Value) ++ cap).toArray = #[BD x.1, BD y.1] ++ cap.toArray := by simp [BD]
    rw [hargs] at this
    refine this.mono fun e' W'' ⟨h1, h2⟩ => ⟨by rw [h1]; simp [M9, hk], ?_⟩
    exact below_grow ⟨h2.os, h2.tape, h2.output, h2.size, fun b hb => h2.keep b (.inr hb), h2.drawn⟩
   have main := Any.slices_SortFunc_eq L (fun x : {x // x ∈ ps} => BD x.1) (fun x => rfl) (M9 (fun p q : Pr β => cmp p.2 q.2) ps) hokp.swo fid cap.toArray g 0 c ps.attach.toArray w.W hg hcmp hH hgw (by rw [hsz]; exact hok.len)
   rw [hsz] at main
   refine main.mono fun e' W' ⟨h1', n, os, h2⟩ => ⟨(), h1', hrl, ?_⟩
   have hD : tH (fun p q : Pr β => cmp p.2 q.2) ps ⟨⟨Classical.choose hx, Classical.choose_spec hx⟩⟩ = pdq (ltOf (M9 (fun p q : Pr β => cmp p.2 q.2) ps)) ps.attach.toArray 0 l.length (Lib.bitLen l.length) true true := by unfold tH; rw [hsz]
   rw [← hD] at h2
   obtain ⟨hDp, hDo, hDs⟩ := BL (fun p q : Pr β => cmp p.2 q.2) ps ⟨⟨Classical.choose hx, Classical.choose_spec hx⟩⟩ hokp
   generalize tH (fun p q : Pr β => cmp p.2 q.2) ps ⟨⟨Classical.choose hx, Classical.choose_spec hx⟩⟩ = D at h2 hDp hDo hDs
   have hW : W' = grow (putRow id (Sort.ahead w.W n) g 0 (D.map fun x => BD x.1)) os := by rw [h2]; unfold sortWorld; rw [FM]
   have hfs : (D.map fun x => BD x.1).size = l.length := by rw [Array.size_map, hDs, hsz]
   have hDV : (D.map fun x => BD x.1).toList = (D.toList.map (·.1)).map BD := hflat D
   generalize hR : D.toList.map (·.1) = R at hDp hDo hDV
   have hRr : R.map (·.2) = r := by
    refine hap.one ?_ hperm ?_ hsort
    ·rw [← p1]; exact hDp.map _
    ·rw [List.pairwise_map]; exact hDo
   have hRs : ∀ p ∈ R, Sl w.O w.W t' p.1.1 p.1.2 p.2 := fun p hp => p3 p (hDp.mem_iff.1 hp)
   have hRl : R.length = l.length := by rw [hDp.length_eq, hlp]
   clear h2 hDs main hcmp hDo
   generalize (D.map fun x => BD x.1) = DV at hW hfs hDV
   subst hW
   have hOk : ∀ b, w.O b → (grow (putRow id (Sort.ahead w.W n) g 0 DV) os).heap[b]? = w.W.heap[b]? := fun b hb => vR _ (w.lt b (.inl hb)) (fun e => hgR (.inl (e ▸ hb)))
   have hal2 : ∀ qs : List (Pr β), (∀ p ∈ qs, Sl w.O w.W t' p.1.1 p.1.2 p.2) → Al (rp t w.O (grow (putRow id (Sort.ahead w.W n) g 0 DV) os)) (qs.map fun p => [BD p]) (qs.map (·.2)) := fun qs => by
    induction qs with
    | nil => intro _; exact .nil
    | cons q qs ih => intro hq; exact .cons (hmk _ _ _ ((hq q (by simp)).loc hOk)) (ih fun p hp => hq p (by simp [hp]))
   refine (hE.mod (E := kw [ow (some ⟨g, 0, none⟩) c T t l]) (W' := grow (putRow id (Sort.ahead w.W n) g 0 DV) os) 0 (ow (some ⟨g, 0, none⟩) c T t r) rfl rfl rfl (vG _) (Nat.le_add_right _ _) (fun b hb hs => vR _ hb (fun e => hs (by rw [e]; rfl))) (pW _ _ _ _ _) ?_ (fun b hb => ?_)).weaken (fun k => ?_)
   ·have hal3 := hal2 R hRs
    rw [hRr] at hal3
    refine ⟨R.map fun p => [BD p], hal3, by rw [qU hal3], .inr ⟨g, c, _, by rw [hrl], Nat.zero_le _, FO _ hh, by rw [hrl]; exact hn, hc, by simp [putCells, hs], ?_⟩⟩
    have := FN cur DV (by rw [hfs]; exact hcur)
    rw [hrl, h1, Nat.mul_one, Sg, ← hfs, this, hDV]
   ·have hb : (Value.slice (some ⟨g, 0, none⟩) r.length c).ownBlock = some b := hb
    simp [Value.ownBlock] at hb
    subst hb
    exact ⟨.inl rfl, Nat.lt_of_lt_of_le hgw (vG _)⟩
   ·cases k with
    | zero => exact .inl rfl
    | succ k => exact .inr rfl
  ·have hps : ps = [] := List.eq_nil_iff_forall_not_mem.2 fun x hm => hx ⟨x, hm⟩
   have hl : l = [] := by rw [← p1, hps]; rfl
   subst hl
   have hr : r = [] := List.eq_nil_of_length_eq_zero hrl
   subst hr
   refine (AnyF.slices_SortFunc_none L0 _ c (.func (.func fid) #[] cap.toArray) w.W).mono fun e' W' ⟨h1, h2⟩ => ?_
   subst h2
   exact ⟨(), h1, rfl, hE⟩
end
open Go.RowKit
section
variable {P : Program} {w : Bs} {n : Nat} {f : Nat → Option Value} {E : Nat → kH} {l : List Oper} {m : Nat} {t : Tn} {Q : Exit → Act → World → Prop} {fu : Nat} {listed : Array Bool}
theorem si {U : Type} {op : Op} {d ty : Nat} {pos : String} {af : Array Edge} {g : Option (Nat × Bool)} (i : Nat) (Φ : U → Prop) (V : U → Value) (hC : Hg l m = true) (hi : l[i]? = some ⟨some d, op, ty, pos, af, g⟩) (hw : Wn l.toArray f ⟨some d, op, ty, pos, af, g⟩) (hdn : Nat.blt d n = true)
  (hB : qB l m i listed (t.ys.map (·.1) ++ t.zs) = true)
  (hr : ∀ a W, FR n f a → HF w W E → ∃ u, Φ u ∧ ∀ W', Below W.heap.size W W' → (execOp a.eval ⟨some d, op, ty, pos, af, g⟩).run P W' = .ok (.value (V u)) W')
  (K : ∀ u, Φ u → Dr P w n l m t Q fu (listed.setIfInBounds i true) (uf f d (V u)) E) : Dr P w n l m t Q (fu + 1) listed f E := by
 intro inv a W h1 h2 hs0
 obtain ⟨u, hu, hrun⟩ := hr a W h1 h2
 simp only [Hg, Bool.and_eq_true, Bool.or_eq_true, decide_eq_true_eq] at hC
 obtain ⟨hsel, hT⟩ := hC
 have hs : m = l.toArray.size ∨ Region.sinkB .any l.toArray m = true ∧ Region.chainB .any l.toArray m = true := hT.imp (fun h => by simpa using h) (fun h => ⟨h.1.2, h.2⟩)
 simp only [qB, Bool.and_eq_true, decide_eq_true_eq] at hB
 obtain ⟨⟨⟨him, hrd⟩, hfr⟩, hks⟩ := hB
 have hrd : i ∈ Region.ready .any l.toArray listed := by simpa using hrd
 have hi' : (l.toArray)[i]? = some ⟨some d, op, ty, pos, af, g⟩ := by simpa using hi
 have hyl : ∀ W', rT (fun _ => False) W W' → YieldsIn P l.toArray (fun W'' => Below W'.heap.size W' W'') ⟨some d, op, ty, pos, af, g⟩ (V u) a := fun W' hk => .inl ⟨hw n a h1, fun W'' hb => by
  unfold Oper.quietAt
  rw [hrun W'' (Co (hk.below fun _ h => h) hb)]
  exact ⟨rfl, rfl⟩⟩
 refine sQ.first (oi := ⟨some d, op, ty, pos, af, g⟩) (v := V u) (Z := fun _ => False) hi' hsel hs him (fun _ _ _ hL => seqB_ready hL.1) fu listed a W inv hrd hyl (fun j oj hj hji hun hno => ⟨Region.free_spec hi' hfr j oj hj hji hun hno, fun b hb => ?_⟩) ?_
 ·have hmem : j ∈ t.ys.map (·.1) ++ t.zs := by
   rcases hb with ⟨p, hp, rfl, _⟩ | ⟨hjz, _⟩
   ·exact List.mem_append_left _ (List.mem_map.2 ⟨_, hp, rfl⟩)
   ·exact List.mem_append_right _ hjz
  have := List.all_eq_true.1 hks j hmem
  have hj' : l[j]? = some oj := by simpa using hj
  rw [hj'] at this
  simp only [Bool.or_eq_true, beq_iff_eq, hji, false_or, hun, Bool.false_eq_true] at this
  obtain ⟨e, he, hb2⟩ := Array.any_eq_true'.1 this
  simp only [Bool.and_eq_true, beq_iff_eq] at hb2
  exact hno e he hb2.1 hb2.2
 ·exact K u hu (inv.set hrd him) _ W (h1.put (Nat.le_of_ble_eq_true hdn) (V u)) h2 hs0
end
open Go.RowKit
section
variable {P : Program} {w : Bs} {n : Nat} {ops : Array Oper} {f : Nat → Option Value} {E : Nat → kH} {Q : Exit → Act → World → Prop} {X : Act → World → Prop} {rest : List Oper} {d ty : Nat} {pos : String} {af : Array Edge} {p q : Operand} {u v z : Value} {op : Op} {g : Option (Nat × Bool)}
theorem zt.r : ∀ {l : List (Nat × Value)}, l.map (fun p => f p.1) = l.map (fun p => some p.2) → zt f l
 | [], _ => trivial
 | _ :: _, h => ⟨(List.cons.inj h).1, zt.r (List.cons.inj h).2⟩
theorem yE.r : ∀ {l : List (Nat × kH)}, l.map (fun p => E p.1) = l.map (fun p => p.2) → yE E l
 | [], _ => trivial
 | _ :: _, h => ⟨(List.cons.inj h).1, yE.r (List.cons.inj h).2⟩
theorem Ox (hw : Wn ops f ⟨some d, op, ty, pos, af, g⟩) (hdn : Nat.blt d n = true) (hr : ∀ {ρ : Operand → Value} {W : World}, ρ p = u → (execOp ρ ⟨some d, op, ty, pos, af, g⟩).run P W = .ok (.value v) W) (hp : ev f p = some u) (k : Tr w n (uf f d v) E (wpList P ops Q rest)) : Tr w n f E (wpList P ops Q (⟨some d, op, ty, pos, af, g⟩ :: rest)) :=
 Tr.val hw hdn (fun _ _ h1 _ => hr (h1.ev hp)) k
theorem Md (hw : Wn ops f ⟨some d, op, ty, pos, af, g⟩) (hdn : Nat.blt d n = true) (hr : ∀ {ρ : Operand → Value} {W : World}, ρ p = u → ρ q = z → (execOp ρ ⟨some d, op, ty, pos, af, g⟩).run P W = .ok (.value v) W) (hp : ev f p = some u) (hq : ev f q = some z) (k : Tr w n (uf f d v) E (wpList P ops Q rest)) : Tr w n f E (wpList P ops Q (⟨some d, op, ty, pos, af, g⟩ :: rest)) :=
 Tr.val hw hdn (fun _ _ h1 _ => hr (h1.ev hp) (h1.ev hq)) k
theorem OB (hw : Wn ops f ⟨some d, op, ty, pos, af, g⟩) (hdn : Nat.blt d n = true) (hr : ∀ {ρ : Operand → Value} {W : World}, ρ p = u → (execOp ρ ⟨some d, op, ty, pos, af, g⟩).run P W = .ok (.value v) W) (hp : ev f p = some u) (k : Tq P w n ops (uf f d v) E X rest) : Tq P w n ops f E X (⟨some d, op, ty, pos, af, g⟩ :: rest) :=
 Tq.val hw hdn (fun _ _ h1 _ => hr (h1.ev hp)) k
theorem OA (hw : Wn ops f ⟨some d, op, ty, pos, af, g⟩) (hdn : Nat.blt d n = true) (hr : ∀ {ρ : Operand → Value} {W : World}, ρ p = u → ρ q = z → (execOp ρ ⟨some d, op, ty, pos, af, g⟩).run P W = .ok (.value v) W) (hp : ev f p = some u) (hq : ev f q = some z) (k : Tq P w n ops (uf f d v) E X rest) : Tq P w n ops f E X (⟨some d, op, ty, pos, af, g⟩ :: rest) :=
 Tq.val hw hdn (fun _ _ h1 _ => hr (h1.ev hp) (h1.ev hq)) k
theorem av (hp : ev f p = some v) (k : Tr w n (uf f d v) E (wpList P ops Q rest)) (hdn : Nat.blt d n = true := by exact rfl) : Tr w n f E (wpList P ops Q (⟨some d, .move p, ty, pos, af, none⟩ :: rest)) := SA hdn hp k
theorem Tr.k (hp : ev f p = some v) (k : Tr w n (uf f d v) E (wpList P ops Q rest)) (hdn : Nat.blt d n = true := by exact rfl) : Tr w n f E (wpList P ops Q (⟨some d, .assign p, ty, pos, af, none⟩ :: rest)) := Rv hdn hp k
theorem bU (hp : ev f p = some v) (k : Tq P w n ops (uf f d v) E X rest) (hdn : Nat.blt d n = true := by exact rfl) : Tq P w n ops f E X (⟨some d, .move p, ty, pos, af, none⟩ :: rest) := SB hdn hp k
theorem aU (hr : ∀ {ρ : Operand → Value} {W : World}, ρ p = u → (execOp ρ ⟨some d, op, ty, pos, af, none⟩).run P W = .ok (.value v) W) (hp : ev f p = some u) (k : Tr w n (uf f d v) E (wpList P ops Q rest)) (hdn : Nat.blt d n = true := by exact rfl) : Tr w n f E (wpList P ops Q (⟨some d, op, ty, pos, af, none⟩ :: rest)) := Ox (wn rfl) hdn hr hp k
theorem az (hr : ∀ {ρ : Operand → Value} {W : World}, ρ p = u → ρ q = z → (execOp ρ ⟨some d, op, ty, pos, af, none⟩).run P W = .ok (.value v) W) (hp : ev f p = some u) (hq : ev f q = some z) (k : Tr w n (uf f d v) E (wpList P ops Q rest)) (hdn : Nat.blt d n = true := by exact rfl) : Tr w n f E (wpList P ops Q (⟨some d, op, ty, pos, af, none⟩ :: rest)) := Md (wn rfl) hdn hr hp hq k
theorem gH (hr : ∀ {ρ : Operand → Value} {W : World}, ρ p = u → (execOp ρ ⟨some d, op, ty, pos, af, none⟩).run P W = .ok (.value v) W) (hp : ev f p = some u) (k : Tq P w n ops (uf f d v) E X rest) (hdn : Nat.blt d n = true := by exact rfl) : Tq P w n ops f E X (⟨some d, op, ty, pos, af, none⟩ :: rest) := OB (wn rfl) hdn hr hp k
theorem eP (hr : ∀ {ρ : Operand → Value} {W : World}, ρ p = u → ρ q = z → (execOp ρ ⟨some d, op, ty, pos, af, none⟩).run P W = .ok (.value v) W) (hp : ev f p = some u) (hq : ev f q = some z) (k : Tq P w n ops (uf f d v) E X rest) (hdn : Nat.blt d n = true := by exact rfl) : Tq P w n ops f E X (⟨some d, op, ty, pos, af, none⟩ :: rest) := OA (wn rfl) hdn hr hp hq k
theorem cz {j t : Nat} {b : Bool} (hr : ∀ {ρ : Operand → Value} {W : World}, ρ p = u → (execOp ρ ⟨some d, op, ty, pos, af, g⟩).run P W = .ok (.value v) W) (hp : ev f p = some u) (k : Tr w n (uf f d v) E (wpList P ops Q rest)) (h : g = some (j, b) := by exact rfl) (hj : (ops[j]?).bind (·.dst) = some t := by exact rfl) (ht : f t = some (.bool b) := by exact rfl) (hdn : Nat.blt d n = true := by exact rfl) : Tr w n f E (wpList P ops Q (⟨some d, op, ty, pos, af, g⟩ :: rest)) := Ox (wg h hj ht) hdn hr hp k
theorem iZ {j t : Nat} {b : Bool} (hr : ∀ {ρ : Operand → Value} {W : World}, ρ p = u → ρ q = z → (execOp ρ ⟨some d, op, ty, pos, af, g⟩).run P W = .ok (.value v) W) (hp : ev f p = some u) (hq : ev f q = some z) (k : Tr w n (uf f d v) E (wpList P ops Q rest)) (h : g = some (j, b) := by exact rfl) (hj : (ops[j]?).bind (·.dst) = some t := by exact rfl) (ht : f t = some (.bool b) := by exact rfl) (hdn : Nat.blt d n = true := by exact rfl) : Tr w n f E (wpList P ops Q (⟨some d, op, ty, pos, af, g⟩ :: rest)) := Md (wg h hj ht) hdn hr hp hq k
theorem gN {j t : Nat} {b : Bool} (hr : ∀ {ρ : Operand → Value} {W : World}, ρ p = u → (execOp ρ ⟨some d, op, ty, pos, af, g⟩).run P W = .ok (.value v) W) (hp : ev f p = some u) (k : Tq P w n ops (uf f d v) E X rest) (h : g = some (j, b) := by exact rfl) (hj : (ops[j]?).bind (·.dst) = some t := by exact rfl) (ht : f t = some (.bool b) := by exact rfl) (hdn : Nat.blt d n = true := by exact rfl) : Tq P w n ops f E X (⟨some d, op, ty, pos, af, g⟩ :: rest) := OB (wg h hj ht) hdn hr hp k
theorem ou {j t : Nat} {b : Bool} (hr : ∀ {ρ : Operand → Value} {W : World}, ρ p = u → ρ q = z → (execOp ρ ⟨some d, op, ty, pos, af, g⟩).run P W = .ok (.value v) W) (hp : ev f p = some u) (hq : ev f q = some z) (k : Tq P w n ops (uf f d v) E X rest) (h : g = some (j, b) := by exact rfl) (hj : (ops[j]?).bind (·.dst) = some t := by exact rfl) (ht : f t = some (.bool b) := by exact rfl) (hdn : Nat.blt d n = true := by exact rfl) : Tq P w n ops f E X (⟨some d, op, ty, pos, af, g⟩ :: rest) := OA (wg h hj ht) hdn hr hp hq k
theorem Tr.x {j t : Nat} {b : Bool} (hr : ∀ a W, FR n f a → HF w W E → (execOp a.eval ⟨some d, op, ty, pos, af, g⟩).run P W = .ok (.value v) W) (k : Tr w n (uf f d v) E (wpList P ops Q rest)) (h : g = some (j, b) := by exact rfl) (hj : (ops[j]?).bind (·.dst) = some t := by exact rfl) (ht : f t = some (.bool b) := by exact rfl) (hdn : Nat.blt d n = true := by exact rfl) : Tr w n f E (wpList P ops Q (⟨some d, op, ty, pos, af, g⟩ :: rest)) := Tr.val (wg h hj ht) hdn hr k
theorem Tq.x {j t : Nat} {b : Bool} (hr : ∀ a W, FR n f a → HF w W E → (execOp a.eval ⟨some d, op, ty, pos, af, g⟩).run P W = .ok (.value v) W) (k : Tq P w n ops (uf f d v) E X rest) (h : g = some (j, b) := by exact rfl) (hj : (ops[j]?).bind (·.dst) = some t := by exact rfl) (ht : f t = some (.bool b) := by exact rfl) (hdn : Nat.blt d n = true := by exact rfl) : Tq P w n ops f E X (⟨some d, op, ty, pos, af, g⟩ :: rest) := Tq.val (wg h hj ht) hdn hr k
theorem dM {fu : Func} {w0 : Bs} (le : w0.Le w) (hr : Aa P f E fu.results.toList [v] [] := by exact eU rfl dR) : Tr w n f E (bodyPost P fu (fun e W' => e = .returned v ∧ HF w0 W' E0) .ret) := Tr.out [] hr (fun _ hW => ⟨rfl, hW.low le⟩)
theorem Uu (hdn : Nat.blt d n = true) (hr : ∀ {ρ : Operand → Value} {W : World}, ρ p = u → (execOp ρ ⟨some d, op, ty, pos, af, none⟩).run P W = .ok (.value v) W) (hp : ev f p = some u) (k : Tr w n (uf f d v) E (wpList P ops Q rest)) : Tr w n f E (wpList P ops Q (⟨some d, op, ty, pos, af, none⟩ :: rest)) := Ox (wn rfl) hdn hr hp k
theorem Ut (hdn : Nat.blt d n = true) (hr : ∀ {ρ : Operand → Value} {W : World}, ρ p = u → ρ q = z → (execOp ρ ⟨some d, op, ty, pos, af, none⟩).run P W = .ok (.value v) W) (hp : ev f p = some u) (hq : ev f q = some z) (k : Tr w n (uf f d v) E (wpList P ops Q rest)) : Tr w n f E (wpList P ops Q (⟨some d, op, ty, pos, af, none⟩ :: rest)) := Md (wn rfl) hdn hr hp hq k
theorem Uw (hdn : Nat.blt d n = true) (hr : ∀ {ρ : Operand → Value} {W : World}, ρ p = u → (execOp ρ ⟨some d, op, ty, pos, af, none⟩).run P W = .ok (.value v) W) (hp : ev f p = some u) (k : Tq P w n ops (uf f d v) E X rest) : Tq P w n ops f E X (⟨some d, op, ty, pos, af, none⟩ :: rest) := OB (wn rfl) hdn hr hp k
theorem Uv (hdn : Nat.blt d n = true) (hr : ∀ {ρ : Operand → Value} {W : World}, ρ p = u → ρ q = z → (execOp ρ ⟨some d, op, ty, pos, af, none⟩).run P W = .ok (.value v) W) (hp : ev f p = some u) (hq : ev f q = some z) (k : Tq P w n ops (uf f d v) E X rest) : Tq P w n ops f E X (⟨some d, op, ty, pos, af, none⟩ :: rest) := OA (wn rfl) hdn hr hp hq k
theorem aS {o : Oper} {j t : Nat} {b b' : Bool} (hd : o.dst = some d) (k : Tr w n (uf f d undef) E (wpList P ops Q rest)) (h : o.guard = some (j, b) := by rfl) (hj : (ops[j]?).bind (·.dst) = some t := by rfl) (ht : f t = some (.bool b') := by rfl) (hne : (b' == b) = false := by rfl) (hdn : d < n := by decide) : Tr w n f E (wpList P ops Q (o :: rest)) := P6 h hj ht hne hd hdn k
theorem bq {o : Oper} {j t : Nat} {b b' : Bool} (hd : o.dst = some d) (k : Tq P w n ops (uf f d undef) E X rest) (h : o.guard = some (j, b) := by rfl) (hj : (ops[j]?).bind (·.dst) = some t := by rfl) (ht : f t = some (.bool b') := by rfl) (hne : (b' == b) = false := by rfl) (hdn : d < n := by decide) : Tq P w n ops f E X (o :: rest) := P7 h hj ht hne hd hdn k
theorem lK {o : Oper} {j t : Nat} {b : Bool} (hd : o.dst = some d) (k : Tr w n (uf f d undef) E (wpList P ops Q rest)) (h : o.guard = some (j, b) := by rfl) (hj : (ops[j]?).bind (·.dst) = some t := by rfl) (ht : f t = some undef := by rfl) (hdn : d < n := by decide) : Tr w n f E (wpList P ops Q (o :: rest)) := Oz h hj ht hd hdn k
theorem lL {o : Oper} {j t : Nat} {b : Bool} (hd : o.dst = some d) (k : Tq P w n ops (uf f d undef) E X rest) (h : o.guard = some (j, b) := by rfl) (hj : (ops[j]?).bind (·.dst) = some t := by rfl) (ht : f t = some undef := by rfl) (hdn : d < n := by decide) : Tq P w n ops f E X (o :: rest) := OC h hj ht hd hdn k
end
end Go.Proofs.YtcjeebkoafonpaaGreatDoor
