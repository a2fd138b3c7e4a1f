/- slices.SortFunc at integers over the library's proved contract. Over any program. Conditions: none beyond each theorem's own. -/
import Derived.Test.YtfddmjoldoddlaaH15
import Derived.Shelf.SlSortCmp.Whole1
namespace Go.Proofs.Ytfddmjoldoddlaa
open Go.RowKit Go.Sort Go.Proofs Go.Shelf
theorem putRow_id {β : Type} [Inhabited β] (enc : β → Value) (W : World) (g : Nat) (d : Array β) : putRow enc W g 0 d = putRow id W g 0 (d.map enc) := by
  unfold putRow
  congr 1
  funext cur
  unfold putCells
  apply Array.ext (by simp)
  intro i h1 h2
  simp only [Array.getElem_mapIdx, Nat.zero_le, true_and, Nat.zero_add, Array.size_map, Nat.sub_zero, id_eq]
  by_cases hi : i < d.size
  · rw [if_pos hi, if_pos hi, getElem!_pos d i hi, getElem!_pos (d.map enc) i (by simpa using hi)]; simp
  · rw [if_neg hi, if_neg hi]
section
variable {P : Program} {ρ : Ren} {w : Bs} {t : Fl Int} {A : Option Addr} {c T : Nat} {l r : List Int} {cmp : Int → Int → Option Int} {fid : Nat} {cap : List Value}
/-- THE CONTRACT of slices.SortFunc at integers. -/
theorem sortFuncI_rule (L : SlLaysF.n6 P ρ) (h1 : t.sz = 1) (he : ∀ u x, t.enc u x = [Value.int .i64 x]) (ht : t.Tri) (u0 : t.Ad)
    (hg : ∀ args w, (callFunc fid args).run P w = .ok (.enter fid args) w)
    (hf : ∀ (w' : Bs), w.Ext w' → ∀ (z0 z1 : Int), ∀ y, cmp z0 z1 = some y → Calls P fid (([.int .i64 z0, .int .i64 z1] : List Value) ++ cap).toArray w'.W fun e W'' => e = .returned (.int .i64 y) ∧ HF w' W'' E0)
    (H : srtF l cmp = some r) (hE : HF w w.W (LEn [ow A c T t l])) :
    Calls P (ρ.f 6) [.slice A l.length c, .func (.func fid) #[] cap.toArray].toArray w.W fun e W' => ∃ u : Unit, e = .returned (.tuple #[]) ∧ (r.length = l.length) ∧ HF w W' (LEn [ow A c T t r]) := by
  obtain ⟨hok, hperm, _⟩ := srtF_some H
  have hrl : r.length = l.length := hperm.length_eq
  have L0 : SlLaysF0.n6 P ρ := { L with }
  have hrp : ∀ (W : World) (m : List Int), Al (rp t w.O W) (m.map fun x => [Value.int .i64 x]) m := fun W m => Al.of_map (fun x => ⟨u0, ht _ _ _ _, (he u0 x).symm⟩) m
  obtain ⟨css, hal, hlen, hown⟩ := hE.ow (k := 0) rfl
  rcases hown with ⟨ev, h0⟩ | ⟨g, cap', cur, ev, hb0, hh, hn, hc, hs, htk⟩
  · have hl : l = [] := List.eq_nil_of_length_eq_zero h0
    subst hl
    have hr : r = [] := List.eq_nil_of_length_eq_zero hrl
    subst hr
    refine (AnyF.slices_SortFunc_none L0 A c (.func (.func fid) #[] cap.toArray) w.W).mono fun e' W' ⟨h1, h2⟩ => ?_
    subst h2
    exact ⟨(), h1, rfl, hE⟩
  · simp at ev
    obtain ⟨rfl, rfl⟩ := ev
    by_cases hx : ∃ x, x ∈ l
    · have i : Inhabited {x // x ∈ l} := ⟨⟨Classical.choose hx, Classical.choose_spec hx⟩⟩
      have hr : r = (srtA cmp l ⟨⟨Classical.choose hx, Classical.choose_spec hx⟩⟩).toList.map (·.1) := by
        unfold srtF at H
        rw [if_pos hok, dif_pos hx] at H
        exact (Option.some.inj H).symm
      letI : Inhabited {x // x ∈ l} := ⟨⟨Classical.choose hx, Classical.choose_spec hx⟩⟩
      have hcss := al_map he hal
      have hsz : l.attach.toArray.size = l.length := by simp
      have hflat : ∀ (d : Array {x // x ∈ l}), (d.map fun x => Value.int .i64 x.1).toList = (d.toList.map (·.1)).map (Value.int .i64) := fun d => by simp
      have hgw : g < w.W.heap.size := (Array.getElem?_eq_some_iff.1 hh).1
      have htk' : cur.toList.take l.length = l.map (Value.int .i64) := by rw [hcss, flatI, h1, Nat.mul_one] at htk; exact htk
      have hcur : l.length ≤ cur.size := by rw [hs, h1, Nat.mul_one]; exact hn
      have hH : Holds (fun x : {x // x ∈ l} => Value.int .i64 x.1) w.W g 0 l.attach.toArray := by
        intro j hj
        have hj' : j < l.length := by simpa using hj
        refine ⟨?_, by simp [World.frozen?, hh]⟩
        have e1 : (cur.toList.take l.length)[j]? = (l.map (Value.int .i64))[j]? := by rw [htk']
        rw [List.getElem?_take_of_lt hj'] at e1
        simp only [World.cell?, hh, Nat.zero_add]
        simp only [Option.isSome_none, Bool.false_eq_true, if_false]
        rw [← Array.getElem?_toList, e1, getElem!_pos l.attach.toArray j hj]
        simp [hj']
      have hgR : ¬ w.R g := (hE.bd 0 g rfl).1
      have hcmp : CmpLays1 P fid cap.toArray (fun x : {x // x ∈ l} => Value.int .i64 x.1) (cfS cmp l) g 0 l.attach.toArray.size w.W := by
        intro m os dk hdk x y
        obtain ⟨k, hk⟩ := hok.tot x.1 x.2 y.1 y.2
        have hsw : sortWorld (fun x : {x // x ∈ l} => Value.int .i64 x.1) w.W g 0 m dk os = grow (putRow id (Sort.ahead w.W m) g 0 (dk.map fun x => Value.int .i64 x.1)) os := by
          unfold sortWorld; rw [putRow_id]
        rw [hsw]
        have hS : w.W.heap.size ≤ (grow (putRow id (Sort.ahead w.W m) g 0 (dk.map fun x => Value.int .i64 x.1)) os).heap.size := putK_size _
        have hext : w.Ext ⟨grow (putRow id (Sort.ahead w.W m) g 0 (dk.map fun x => Value.int .i64 x.1)) os, w.O, fun b => b < (grow (putRow id (Sort.ahead w.W m) g 0 (dk.map fun x => Value.int .i64 x.1)) os).heap.size, fun b hb => by
            rcases hb with hb | hb
            · exact Nat.lt_of_lt_of_le (w.lt b (.inl hb)) hS
            · exact hb⟩ := ⟨fun _ h => h, fun b hb => .inr (Nat.lt_of_lt_of_le (w.lt b hb) hS), fun b hb => putK_other _ (w.lt b hb) (fun e => hgR (e ▸ hb))⟩
        have := hf _ hext x.1 y.1 k hk
        have hargs : (([.int .i64 x.1, .int .i64 y.1] : List Value) ++ cap).toArray = #[.int .i64 x.1, .int .i64 y.1] ++ cap.toArray := by simp
        rw [hargs] at this
        refine this.mono fun e' W'' ⟨h1, h2⟩ => ⟨by rw [h1]; simp [cfS, hk], ?_⟩
        exact below_grow ⟨h2.os, h2.tape, h2.output, h2.size, fun b hb => h2.keep b (.inr hb), h2.drawn⟩
      have main := Any.slices_SortFunc_eq L (fun x : {x // x ∈ l} => Value.int .i64 x.1) (fun x => rfl) (cfS cmp l) hok.swo fid cap.toArray g 0 c l.attach.toArray w.W hg hcmp hH hgw (by rw [hsz]; exact hok.len)
      rw [hsz] at main
      refine main.mono fun e' W' ⟨h1', n, os, h2⟩ => ⟨(), h1', hrl, ?_⟩
      have hD : srtA cmp l ⟨⟨Classical.choose hx, Classical.choose_spec hx⟩⟩ = pdq (ltOf (cfS cmp l)) l.attach.toArray 0 l.length (Lib.bitLen l.length) true true := by unfold srtA; rw [hsz]
      rw [← hD] at h2
      obtain ⟨_, _, hDs⟩ := srtA_perm cmp l ⟨⟨Classical.choose hx, Classical.choose_spec hx⟩⟩ hok
      generalize srtA cmp l ⟨⟨Classical.choose hx, Classical.choose_spec hx⟩⟩ = D at h2 hr hDs
      have hW : W' = grow (putRow id (Sort.ahead w.W n) g 0 (D.map fun x => Value.int .i64 x.1)) os := by rw [h2]; unfold sortWorld; rw [putRow_id]
      have hfs : (D.map fun x => Value.int .i64 x.1).size = l.length := by rw [Array.size_map, hDs, hsz]
      have hDV : (D.map fun x => Value.int .i64 x.1).toList = r.map (Value.int .i64) := by rw [hflat, ← hr]
      clear h2 hr hDs main hcmp
      generalize (D.map fun x => Value.int .i64 x.1) = DV at hW hfs hDV
      subst hW
      refine (hE.mod (E := LEn [ow (some ⟨g, 0, none⟩) c T t l]) (W' := grow (putRow id (Sort.ahead w.W n) g 0 DV) os) 0 (ow (some ⟨g, 0, none⟩) c T t r) rfl rfl rfl (putK_size _) (Nat.le_add_right _ _) (fun b hb hs => putK_other _ hb (fun e => hs (by rw [e]; rfl))) (ow_loc _ _ _ _ _) ?_ (fun b hb => ?_)).weaken (fun k => ?_)
      · refine ⟨r.map fun x => [Value.int .i64 x], hrp _ r, by rw [flat_len (hrp w.W r)], .inr ⟨g, c, _, by rw [hrl], Nat.zero_le _, putK_heap _ hh, by rw [hrl]; exact hn, hc, by simp [putCells, hs], ?_⟩⟩
        have := putK_take cur DV (by rw [hfs]; exact hcur)
        rw [hrl, h1, Nat.mul_one, flatI, ← hfs, this, hDV]
      · have hb : (Value.slice (some ⟨g, 0, none⟩) r.length c).ownBlock = some b := hb
        simp [Value.ownBlock] at hb
        subst hb
        exact ⟨.inl rfl, Nat.lt_of_lt_of_le hgw (putK_size _)⟩
      · cases k with
        | zero => exact .inl rfl
        | succ k => exact .inr rfl
    · have hl : l = [] := List.eq_nil_iff_forall_not_mem.2 fun x hm => hx ⟨x, hm⟩
      subst hl
      have hr : r = [] := List.eq_nil_of_length_eq_zero hrl
      subst hr
      refine (AnyF.slices_SortFunc_none L0 _ c (.func (.func fid) #[] cap.toArray) w.W).mono fun e' W' ⟨h1, h2⟩ => ?_
      subst h2
      exact ⟨(), h1, rfl, hE⟩
end
end Go.Proofs.Ytfddmjoldoddlaa
