/- slices.SortFunc over the library's proved contract: what it computes as a plain function of lists, and its contract. Over any program. Conditions: none beyond each theorem's own. -/
import Derived.Test.YtfddmjoldoddlaaH13
import Derived.Shelf.SlSortCmp.NoneTotal
import Derived.Deep.Draws
namespace Go.Proofs.Ytfddmjoldoddlaa
open Go.RowKit Go.Sort Go.Proofs Go.Shelf
theorem below_grow {w W : World} (h : Proofs.Ytfddmjoldoddlaa.Below w.heap.size w W) : ∃ q os, W = Go.Sort.grow (w.drewN q) os := by
  refine ⟨W.drawn - w.drawn, W.heap.extract w.heap.size W.heap.size, ?_⟩
  have hh : W.heap = w.heap ++ W.heap.extract w.heap.size W.heap.size := by
    apply Array.ext_getElem?
    intro i
    by_cases hi : i < w.heap.size
    · rw [Array.getElem?_append_left hi, h.block i hi]
    · rw [Array.getElem?_append_right (by omega)]
      by_cases hW : i < W.heap.size
      · rw [Array.getElem?_extract]; simp; rw [if_pos (by omega)]; congr 1; omega
      · have := h.size
        rw [Array.getElem?_eq_none (by omega), Array.getElem?_eq_none (by simp; omega)]
  have hd := h.drawn
  cases W with
  | mk heap tape drawn os output =>
    have e1 := h.os; have e2 := h.tape; have e3 := h.output
    simp only at e1 e2 e3 hd hh
    subst e1 e2 e3
    simp only [Go.Sort.grow, World.drewN, World.mk.injEq, true_and, and_true]
    exact ⟨hh, by omega⟩
section
variable {α : Type}
/-- 'less', by a comparison that may have no answer. -/
def ltC (c : α → α → Option Int) (x y : α) : Bool := decide ((c x y).getD 0 < 0)
/-- A comparison that answers at all elements of a list, and orders them. -/
structure SortOk (c : α → α → Option Int) (l : List α) : Prop where
  len : l.length < 4611686018427387904
  tot : ∀ x ∈ l, ∀ y ∈ l, ∃ k, c x y = some k
  irr : ∀ x ∈ l, ltC c x x = false
  tr : ∀ x ∈ l, ∀ y ∈ l, ∀ z ∈ l, ltC c x y = true → ltC c y z = true → ltC c x z = true
  ntr : ∀ x ∈ l, ∀ y ∈ l, ∀ z ∈ l, ltC c x y = false → ltC c y z = false → ltC c x z = false
def cfS (c : α → α → Option Int) (l : List α) (x y : {x // x ∈ l}) : Int := (c x.1 y.1).getD 0
theorem SortOk.swo {c : α → α → Option Int} {l : List α} (h : SortOk c l) : SWO (ltOf (cfS c l)) :=
  ⟨fun x => h.irr x.1 x.2, fun x y z => h.tr x.1 x.2 y.1 y.2 z.1 z.2, fun x y z => h.ntr x.1 x.2 y.1 y.2 z.1 z.2⟩
/-- What the library's sort leaves of a list that is not empty. -/
def srtA (c : α → α → Option Int) (l : List α) (i : Inhabited {x // x ∈ l}) : Array {x // x ∈ l} := pdq (ltOf (cfS c l)) l.attach.toArray 0 l.attach.toArray.size (Lib.bitLen l.attach.toArray.size) true true
open Classical in
/-- slices.SortFunc; none: the comparison does not order the elements. -/
noncomputable def srtF (l : List α) (c : α → α → Option Int) : Option (List α) :=
  if SortOk c l then some (if h : ∃ x, x ∈ l then ((srtA c l ⟨⟨Classical.choose h, Classical.choose_spec h⟩⟩).toList.map (·.1)) else []) else none
theorem srtA_perm (c : α → α → Option Int) (l : List α) (i : Inhabited {x // x ∈ l}) (h : SortOk c l) : ((srtA c l i).toList.map (·.1)).Perm l ∧ ((srtA c l i).toList.map (·.1)).Pairwise (fun x y => ltC c y x = false) ∧ (srtA c l i).size = l.attach.toArray.size := by
  have hp := pdq_sorts (ltOf (cfS c l)) h.swo l.attach.toArray 0 l.attach.toArray.size (Lib.bitLen l.attach.toArray.size) true true (Nat.zero_le _) (Nat.le_refl _) (Or.inl rfl)
  obtain ⟨⟨h1, _, h3⟩, h4⟩ := hp
  have hsz : (srtA c l i).size = l.attach.toArray.size := h1
  refine ⟨?_, ?_, hsz⟩
  · have e1 : ((srtA c l i).extract 0 l.attach.toArray.size) = srtA c l i := by rw [← hsz]; simp
    have e2 : (l.attach.toArray.extract 0 l.attach.toArray.size) = l.attach.toArray := Array.extract_size
    have h3' : ((srtA c l i).extract 0 l.attach.toArray.size).toList.Perm (l.attach.toArray.extract 0 l.attach.toArray.size).toList := h3
    rw [e1, e2] at h3'
    have := h3'.map (·.1)
    simpa using this
  · rw [List.pairwise_map, List.pairwise_iff_getElem]
    intro a b ha hb hab
    have ha' : a < (srtA c l i).size := by simpa using ha
    have hb' : b < (srtA c l i).size := by simpa using hb
    have := h4 a b (Nat.zero_le _) hab (by rw [← hsz]; exact hb')
    have g1 : (srtA c l i)[b]! = (srtA c l i)[b]'hb' := getElem!_pos (srtA c l i) b hb'
    have g2 : (srtA c l i)[a]! = (srtA c l i)[a]'ha' := getElem!_pos (srtA c l i) a ha'
    have this : ltOf (cfS c l) (srtA c l i)[b]! (srtA c l i)[a]! = false := this
    rw [g1, g2] at this
    have this : decide ((c (srtA c l i)[b].val (srtA c l i)[a].val).getD 0 < 0) = false := this
    simpa [ltC] using this
theorem srtF_ok {l : List α} {c : α → α → Option Int} (h : SortOk c l) : ∃ m, srtF l c = some m := by
  unfold srtF
  rw [if_pos h]
  exact ⟨_, rfl⟩
theorem srtF_some {l m : List α} {c : α → α → Option Int} (h : srtF l c = some m) : SortOk c l ∧ m.Perm l ∧ m.Pairwise (fun x y => ltC c y x = false) := by
  unfold srtF at h
  split at h
  · rename_i hs
    refine ⟨hs, ?_⟩
    have := Option.some.inj h
    subst this
    split
    · rename_i hx
      obtain ⟨a, b, _⟩ := srtA_perm c l ⟨⟨Classical.choose hx, Classical.choose_spec hx⟩⟩ hs
      exact ⟨a, b⟩
    · rename_i hx
      have : l = [] := List.eq_nil_iff_forall_not_mem.2 fun x hm => hx ⟨x, hm⟩
      subst this
      exact ⟨.refl _, .nil⟩
  · cases h
end
theorem putK_heap {w : World} {g n : Nat} {os : Array Obj} {cur : Array Value} {e : TypeId} {fr : Nat × Nat} (d : Array Value) (hb : w.heap[g]? = some (.cells cur e fr)) :
    (grow (putRow id (Sort.ahead w n) g 0 d) os).heap[g]? = some (.cells (putCells id 0 d cur) e fr) := by
  have hg : g < w.heap.size := (Array.getElem?_eq_some_iff.1 hb).1
  rw [heap_grow_old _ _ (by simpa using hg)]
  simp [putRow, mapBlock, Sort.ahead, Array.getElem?_modify, hb, onCells]
theorem putK_other {w : World} {g n k : Nat} {os : Array Obj} (d : Array Value) (hk : k < w.heap.size) (hne : k ≠ g) : (grow (putRow id (Sort.ahead w n) g 0 d) os).heap[k]? = w.heap[k]? := by
  rw [heap_grow_old _ _ (by simpa using hk)]
  have : g ≠ k := fun e => hne e.symm
  simp [putRow, mapBlock, Sort.ahead, Array.getElem?_modify, this]
theorem putK_size {w : World} {g n : Nat} {os : Array Obj} (d : Array Value) : w.heap.size ≤ (grow (putRow id (Sort.ahead w n) g 0 d) os).heap.size := by simp
theorem putK_take (cur : Array Value) (d : Array Value) (h : d.size ≤ cur.size) : (putCells id 0 d cur).toList.take d.size = d.toList := by
  apply List.ext_getElem?
  intro j
  by_cases hj : j < d.size
  · rw [List.getElem?_take_of_lt hj, Array.getElem?_toList, Array.getElem?_toList]
    simp [putCells, hj, show j < cur.size by omega]
  · rw [List.getElem?_take_eq_none (by omega), List.getElem?_eq_none (by simp; omega)]
theorem flatK_list {α : Type} [Inhabited α] (enc : α → List Value) (k : Nat) (hk : ∀ x, (enc x).length = k) (d : Array α) : (flatK enc k d).toList = (d.toList.map enc).flatten := by
  have hlen : ∀ (l : List α), ((l.map enc).flatten).length = l.length * k := fun l => by
    induction l with
    | nil => simp
    | cons a l ih => simp [List.flatten_cons, hk, ih, Nat.succ_mul, Nat.add_comm]
  have hat : ∀ (l : List α) (i j : Nat) (hi : i < l.length) (hj : j < k), ((l.map enc).flatten)[i * k + j]? = (enc l[i])[j]? := fun l => by
    induction l with
    | nil => intro i j hi; simp at hi
    | cons a l ih =>
      intro i j hi hj
      cases i with
      | zero => rw [List.map_cons, List.flatten_cons, Nat.zero_mul, Nat.zero_add, List.getElem?_append_left (by rw [hk]; exact hj)]; rfl
      | succ i =>
        rw [List.map_cons, List.flatten_cons, List.getElem?_append_right (by rw [hk, Nat.succ_mul]; omega), hk]
        rw [show (i + 1) * k + j - k = i * k + j by rw [Nat.succ_mul]; omega, ih i j (by simpa using hi) hj]
        rfl
  apply List.ext_getElem?
  intro t
  by_cases ht : t < d.size * k
  · have hk0 : 0 < k := by
      rcases Nat.eq_zero_or_pos k with h | h
      · subst h; simp at ht
      · exact h
    have hi : t / k < d.size := Nat.div_lt_of_lt_mul (by rw [Nat.mul_comm]; exact ht)
    have hj : t % k < k := Nat.mod_lt _ hk0
    have e := hat d.toList (t / k) (t % k) (by simpa using hi) hj
    rw [Nat.div_add_mod' t k] at e
    rw [e, Array.getElem?_toList, Array.getElem?_eq_getElem (by simpa using ht)]
    have g := get_flatK enc k d t ht
    rw [getElem!_pos _ _ (by simpa using ht)] at g
    rw [g, getElem!_pos d _ hi, getElem!_pos _ _ (by rw [hk]; exact hj), List.getElem?_eq_getElem (by rw [hk]; exact hj)]
    simp
  · rw [List.getElem?_eq_none (by simpa using ht), List.getElem?_eq_none (by rw [hlen]; simpa using ht)]
section
variable {P : Program} {ρ : Ren} {α : Type} {w : Bs} {t : Fl α} {e : α → List Value} {A : Option Addr} {c T : Nat} {l r : List α} {cmp : α → α → Option Int} {fid : Nat} {cap : List Value}
theorem al_map (he : ∀ u x, t.enc u x = e x) {O : Nat → Prop} {W : World} {css : List (List Value)} {l : List α} (h : Al (rp t O W) css l) : css = l.map e := by
  induction h with
  | nil => rfl
  | cons h1 _ ih => obtain ⟨u, _, rfl⟩ := h1; rw [ih, he]; rfl
/-- THE CONTRACT of slices.SortFunc at elements of several cells. -/
theorem sortFunc_rule (L : SlLaysF0.n6 P ρ) (aE : ∀ w, (isAgg (ρ.t 24)).run P w = .ok true w) (zE : ∀ w, (Go.sizeOf (ρ.t 24)).run P w = .ok t.sz w) (he : ∀ u x, t.enc u x = e x) (ht : t.Tri) (u0 : t.Ad)
    (hg : ∀ args w, (callFunc fid args).run P w = .ok (.enter fid args) w)
    (hf : ∀ (w' : Bs), w.Ext w' → ∀ (z0 z1 : α), ∀ y, cmp z0 z1 = some y → Calls P fid (([.agg (e z0).toArray, .agg (e z1).toArray] : List Value) ++ cap).toArray w'.W fun e W'' => e = .returned (.int .i64 y) ∧ HF w' W'' E0)
    (H : srtF l cmp = some r) (hE : HF w w.W (LEn [ow A c T t l])) :
    Calls P (ρ.f 6) [.slice A l.length c, .func (.func fid) #[] cap.toArray].toArray w.W fun e W' => ∃ u : Unit, e = .returned (.tuple #[]) ∧ (r.length = l.length) ∧ HF w W' (LEn [ow A c T t r]) := by
  have hke : ∀ x, (e x).length = t.sz := fun x => by rw [← he u0 x]; exact t.len u0 x
  have h1e : ∀ x, ∀ v ∈ e x, v.oneCell' = true := fun x v hv => t.one u0 x v (by rw [he]; exact hv)
  obtain ⟨hok, hperm, _⟩ := srtF_some H
  have hrl : r.length = l.length := hperm.length_eq
  have hrp : ∀ (W : World) (m : List α), Al (rp t w.O W) (m.map e) m := fun W m => Al.of_map (fun x => ⟨u0, ht _ _ _ _, (he u0 x).symm⟩) m
  obtain ⟨css, hal, hlen, hown⟩ := hE.ow (k := 0) rfl
  rcases hown with ⟨ev, h0⟩ | ⟨g, cap', cur, ev, hb0, hh, hn, hc, hs, htk⟩
  · have hl : l = [] := List.eq_nil_of_length_eq_zero h0
    subst hl
    have hr : r = [] := List.eq_nil_of_length_eq_zero hrl
    subst hr
    refine (AnyF.slices_SortFunc_none L A c (.func (.func fid) #[] cap.toArray) w.W).mono fun e' W' ⟨h1, h2⟩ => ?_
    subst h2
    exact ⟨(), h1, rfl, hE⟩
  · simp at ev
    obtain ⟨rfl, rfl⟩ := ev
    by_cases hx : ∃ x, x ∈ l
    · have i : Inhabited {x // x ∈ l} := ⟨⟨Classical.choose hx, Classical.choose_spec hx⟩⟩
      have hr : r = (srtA cmp l ⟨⟨Classical.choose hx, Classical.choose_spec hx⟩⟩).toList.map (·.1) := by
        unfold srtF at H
        rw [if_pos hok, dif_pos hx] at H
        exact (Option.some.inj H).symm
      letI : Inhabited {x // x ∈ l} := ⟨⟨Classical.choose hx, Classical.choose_spec hx⟩⟩
      have hcss := al_map he hal
      have hsz : l.attach.toArray.size = l.length := by simp
      have hflat : ∀ (d : Array {x // x ∈ l}), (flatK (fun x => e x.1) t.sz d).toList = ((d.toList.map (·.1)).map e).flatten := fun d => by
        rw [flatK_list (fun x : {x // x ∈ l} => e x.1) t.sz (fun x => hke x.1)]; simp [List.map_map, Function.comp_def]
      have hgw : g < w.W.heap.size := (Array.getElem?_eq_some_iff.1 hh).1
      have hcur : l.length * t.sz ≤ cur.size := by rw [hs]; exact Nat.mul_le_mul_right _ hn
      have hH : HoldsK (fun x : {x // x ∈ l} => e x.1) t.sz w.W g 0 l.attach.toArray := by
        intro j hj
        have hj' : j < l.length * t.sz := by simpa using hj
        refine ⟨?_, by simp [World.frozen?, hh]⟩
        have e1 : (cur.toList.take (l.length * t.sz))[j]? = (flatK (fun x : {x // x ∈ l} => e x.1) t.sz l.attach.toArray).toList[j]? := by
          rw [htk, hflat, hcss]; simp
        rw [List.getElem?_take_of_lt hj'] at e1
        simp only [World.cell?, hh, Nat.zero_add]
        simp only [Option.isSome_none, Bool.false_eq_true, if_false]
        rw [← Array.getElem?_toList, e1, Array.getElem?_toList, Array.getElem?_eq_getElem (by simpa using hj), getElem!_pos _ _ (by simpa using hj)]
        rfl
      have hgR : ¬ w.R g := (hE.bd 0 g rfl).1
      have hcmp : CmpLays P fid cap.toArray (fun x : {x // x ∈ l} => e x.1) t.sz (cfS cmp l) g 0 l.attach.toArray.size w.W := by
        intro m os dk hdk x y
        obtain ⟨k, hk⟩ := hok.tot x.1 x.2 y.1 y.2
        have hS : w.W.heap.size ≤ (sortWorldK (fun x : {x // x ∈ l} => e x.1) t.sz w.W g 0 m dk os).heap.size := putK_size _
        have hext : w.Ext ⟨sortWorldK (fun x : {x // x ∈ l} => e x.1) t.sz w.W g 0 m dk os, w.O, fun b => b < (sortWorldK (fun x : {x // x ∈ l} => e x.1) t.sz w.W g 0 m dk os).heap.size, fun b hb => by
            rcases hb with hb | hb
            · exact Nat.lt_of_lt_of_le (w.lt b (.inl hb)) hS
            · exact hb⟩ := ⟨fun _ h => h, fun b hb => .inr (Nat.lt_of_lt_of_le (w.lt b hb) hS), fun b hb => putK_other _ (w.lt b hb) (fun e => hgR (e ▸ hb))⟩
        have := hf _ hext x.1 y.1 k hk
        have hargs : (([.agg (e x.1).toArray, .agg (e y.1).toArray] : List Value) ++ cap).toArray = #[.agg (e x.1).toArray, .agg (e y.1).toArray] ++ cap.toArray := by simp
        rw [hargs] at this
        refine this.mono fun e' W'' ⟨h1, h2⟩ => ⟨by rw [h1]; simp [cfS, hk], ?_⟩
        exact below_grow ⟨h2.os, h2.tape, h2.output, h2.size, fun b hb => h2.keep b (.inr hb), h2.drawn⟩
      have main := AnyQ.slices_SortFunc_eq L t.sz aE zE (fun x : {x // x ∈ l} => e x.1) (fun x => hke x.1) (fun x => h1e x.1) (cfS cmp l) hok.swo fid cap.toArray g 0 c l.attach.toArray w.W hg hcmp hH hgw (by rw [hsz]; exact hok.len)
      rw [hsz] at main
      refine main.mono fun e' W' ⟨h1, n, os, h2⟩ => ⟨(), h1, hrl, ?_⟩
      have hD : srtA cmp l ⟨⟨Classical.choose hx, Classical.choose_spec hx⟩⟩ = pdq (ltOf (cfS cmp l)) l.attach.toArray 0 l.length (Lib.bitLen l.length) true true := by unfold srtA; rw [hsz]
      rw [← hD] at h2
      obtain ⟨_, _, hDs⟩ := srtA_perm cmp l ⟨⟨Classical.choose hx, Classical.choose_spec hx⟩⟩ hok
      generalize srtA cmp l ⟨⟨Classical.choose hx, Classical.choose_spec hx⟩⟩ = D at h2 hr hDs
      have hW : W' = grow (putRow id (Sort.ahead w.W n) g 0 (flatK (fun x : {x // x ∈ l} => e x.1) t.sz D)) os := h2
      have hfs : (flatK (fun x : {x // x ∈ l} => e x.1) t.sz D).size = l.length * t.sz := by rw [size_flatK, hDs, hsz]
      subst hW
      refine (hE.mod (E := LEn [ow (some ⟨g, 0, none⟩) c T t l]) (W' := grow (putRow id (Sort.ahead w.W n) g 0 (flatK (fun x : {x // x ∈ l} => e x.1) t.sz D)) os) 0 (ow (some ⟨g, 0, none⟩) c T t r) rfl rfl rfl (putK_size _) (Nat.le_add_right _ _) (fun b hb hs => putK_other _ hb (fun e => hs (by rw [e]; rfl))) (ow_loc _ _ _ _ _) ?_ (fun b hb => ?_)).weaken (fun k => ?_)
      · refine ⟨r.map e, hrp _ r, by rw [flat_len (hrp w.W r)], .inr ⟨g, c, _, by rw [hrl], Nat.zero_le _, putK_heap _ hh, by rw [hrl]; exact hn, hc, by simp [putCells, hs], ?_⟩⟩
        rw [hrl, ← hfs, putK_take _ _ (by rw [hfs]; exact hcur), hflat, ← hr]
      · have hb : (Value.slice (some ⟨g, 0, none⟩) r.length c).ownBlock = some b := hb
        simp [Value.ownBlock] at hb
        subst hb
        exact ⟨.inl rfl, Nat.lt_of_lt_of_le hgw (putK_size _)⟩
      · cases k with
        | zero => exact .inl rfl
        | succ k => exact .inr rfl
    · have hl : l = [] := List.eq_nil_iff_forall_not_mem.2 fun x hm => hx ⟨x, hm⟩
      subst hl
      have hr : r = [] := List.eq_nil_of_length_eq_zero hrl
      subst hr
      refine (AnyF.slices_SortFunc_none L _ c (.func (.func fid) #[] cap.toArray) w.W).mono fun e' W' ⟨h1, h2⟩ => ?_
      subst h2
      exact ⟨(), h1, rfl, hE⟩
end
end Go.Proofs.Ytfddmjoldoddlaa
