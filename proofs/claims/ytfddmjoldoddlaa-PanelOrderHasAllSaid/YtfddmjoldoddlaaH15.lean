/- slices.Sort and slices.Compact at integers over the library's proved contracts: what they compute as plain functions of lists, and their contracts. Over any program. Conditions: none beyond each theorem's own. -/
import Derived.Test.YtfddmjoldoddlaaH14
import Derived.Shelf.Sort.Plain
import Derived.Shelf.Slices.In.SortNone
import Derived.Shelf.Slices.CompactI
namespace Go.Proofs.Ytfddmjoldoddlaa
open Go.RowKit Go.Sort Go.Proofs Go.Shelf
/-- slices.Sort at integers. -/
def srtI (l : List Int) : Option (List Int) := if l.length < 4611686018427387904 then some (l.mergeSort fun x y => decide (x ≤ y)) else none
/-- slices.Compact at integers. -/
def cpI (l : List Int) : Option (List Int) := some (Lib.compact l)
theorem cpI_len (l : List Int) : (Lib.compact l).length ≤ l.length := by
  unfold Lib.compact Lib.compactUpTo
  rw [List.length_map]
  exact Nat.le_trans (List.length_filter_le _ _) (by simp)
section
variable {P : Program} {ρ : Ren} {w : Bs} {A : Option Addr} {c T : Nat}
/-- A slice of the call's own whose cells are written anew. -/
theorem hf_put {α : Type} {t : Fl α} {l r : List α} {g : Nat} {W' : World} {cur cur' : Array Value} {css : List (List Value)} (hE : HF w w.W (LEn [ow (some ⟨g, 0, none⟩) c T t l])) (hh : w.W.heap[g]? = some (.cells cur T (0, 0)))
    (hn : l.length ≤ c) (hc : c ≤ maxLen) (hs : cur.size = c * t.sz) (hrl : r.length ≤ l.length) (hh' : W'.heap[g]? = some (.cells cur' T (0, 0))) (hs' : cur'.size = cur.size)
    (ho : W'.os = w.W.os) (htp : W'.tape = w.W.tape) (hou : W'.output = w.W.output) (hd : w.W.drawn ≤ W'.drawn) (hsz : w.W.heap.size ≤ W'.heap.size) (hother : ∀ b, b < w.W.heap.size → b ≠ g → W'.heap[b]? = w.W.heap[b]?)
    (hal : Al (rp t w.O W') css r) (htk : cur'.toList.take (r.length * t.sz) = css.flatten) : HF w W' (LEn [ow (some ⟨g, 0, none⟩) c T t r]) := by
  have hgw : g < w.W.heap.size := (Array.getElem?_eq_some_iff.1 hh).1
  refine (hE.mod (E := LEn [ow (some ⟨g, 0, none⟩) c T t l]) (W' := W') 0 (ow (some ⟨g, 0, none⟩) c T t r) ho htp hou hsz hd (fun b hb hs => hother b hb (fun e => hs (by rw [e]; rfl))) (ow_loc _ _ _ _ _) ?_ (fun b hb => ?_)).weaken (fun k => ?_)
  · exact ⟨css, hal, by rw [flat_len hal], .inr ⟨g, c, cur', rfl, Nat.zero_le _, hh', Nat.le_trans hrl hn, hc, by rw [hs', hs], htk⟩⟩
  · have hb : (Value.slice (some ⟨g, 0, none⟩) r.length c).ownBlock = some b := hb
    simp [Value.ownBlock] at hb
    subst hb
    exact ⟨.inl rfl, Nat.lt_of_lt_of_le hgw hsz⟩
  · cases k with
    | zero => exact .inl rfl
    | succ k => exact .inr rfl
theorem putI_heap {w : World} {g n : Nat} {os : Array Obj} {cur : Array Value} {e : TypeId} {fr : Nat × Nat} (d : Array Int) (hb : w.heap[g]? = some (.cells cur e fr)) :
    (grow (putRow (Value.int .i64) (Sort.ahead w n) g 0 d) os).heap[g]? = some (.cells (putCells (Value.int .i64) 0 d cur) e fr) := by
  have hg : g < w.heap.size := (Array.getElem?_eq_some_iff.1 hb).1
  rw [heap_grow_old _ _ (by simpa using hg)]
  simp [putRow, mapBlock, Sort.ahead, Array.getElem?_modify, hb, onCells]
theorem putI_other {w : World} {g n k : Nat} {os : Array Obj} (d : Array Int) (hk : k < w.heap.size) (hne : k ≠ g) : (grow (putRow (Value.int .i64) (Sort.ahead w n) g 0 d) os).heap[k]? = w.heap[k]? := by
  rw [heap_grow_old _ _ (by simpa using hk)]
  have : g ≠ k := fun e => hne e.symm
  simp [putRow, mapBlock, Sort.ahead, Array.getElem?_modify, this]
theorem putI_heap0 {w : World} {g n : Nat} {cur : Array Value} {e : TypeId} {fr : Nat × Nat} (d : Array Int) (hb : w.heap[g]? = some (.cells cur e fr)) :
    (putRow (Value.int .i64) (Sort.ahead w n) g 0 d).heap[g]? = some (.cells (putCells (Value.int .i64) 0 d cur) e fr) := by
  simp [putRow, mapBlock, Sort.ahead, Array.getElem?_modify, hb, onCells]
theorem putI_other0 {w : World} {g n k : Nat} (d : Array Int) (hne : k ≠ g) : (putRow (Value.int .i64) (Sort.ahead w n) g 0 d).heap[k]? = w.heap[k]? := by
  have : g ≠ k := fun e => hne e.symm
  simp [putRow, mapBlock, Sort.ahead, Array.getElem?_modify, this]
theorem putI_take (cur : Array Value) (ts : List Int) (k : Nat) (hk : k ≤ ts.length) (h : ts.length ≤ cur.size) : (putCells (Value.int .i64) 0 ts.toArray cur).toList.take k = (ts.take k).map (Value.int .i64) := by
  apply List.ext_getElem?
  intro j
  by_cases hj : j < k
  · rw [List.getElem?_take_of_lt hj, Array.getElem?_toList, List.getElem?_map, List.getElem?_take_of_lt hj]
    simp [putCells, show j < ts.length by omega, show j < cur.size by omega]
  · rw [List.getElem?_take_eq_none (by omega), List.getElem?_eq_none (by simp; omega)]
theorem holdsI {w : World} {g : Nat} {cur : Array Value} {e : TypeId} {ss : List Int} (hb : w.heap[g]? = some (.cells cur e (0, 0))) (ht : cur.toList.take ss.length = ss.map (Value.int .i64)) : Holds (Value.int .i64) w g 0 ss.toArray := by
  intro j hj
  have hj' : j < ss.length := by simpa using hj
  refine ⟨?_, by simp [World.frozen?, hb]⟩
  have h1 : (cur.toList.take ss.length)[j]? = (ss.map (Value.int .i64))[j]? := by rw [ht]
  rw [List.getElem?_take_of_lt hj'] at h1
  simp only [World.cell?, hb, Nat.zero_add]
  simp only [Option.isSome_none, Bool.false_eq_true, if_false]
  rw [← Array.getElem?_toList, h1]
  simp [hj']
variable {t : Fl Int} {l r : List Int}
theorem flatI (l : List Int) : (l.map fun x => [Value.int .i64 x]).flatten = l.map (Value.int .i64) := by
  induction l with
  | nil => rfl
  | cons a l ih => simp [List.flatten_cons, ih]
/-- THE CONTRACT of slices.Sort at integers. -/
theorem sortI_rule (L : Lays.n189 P ρ) (h1 : t.sz = 1) (he : ∀ u x, t.enc u x = [Value.int .i64 x]) (ht : t.Tri) (u0 : t.Ad) (H : srtI l = some r) (hE : HF w w.W (LEn [ow A c T t l])) :
    Calls P (ρ.f 189) [.slice A l.length c].toArray w.W fun e W' => ∃ u : Unit, e = .returned (.tuple #[]) ∧ (r.length = l.length) ∧ HF w W' (LEn [ow A c T t r]) := by
  unfold srtI at H
  split at H
  · rename_i hlt
    have hr := Option.some.inj H
    have hrl : r.length = l.length := by rw [← hr, List.length_mergeSort]
    obtain ⟨css, hal, hlen, hown⟩ := hE.ow (k := 0) rfl
    rcases hown with ⟨ev, h0⟩ | ⟨g, cap', cur, ev, hb0, hh, hn, hc, hs, htk⟩
    · have hl : l = [] := List.eq_nil_of_length_eq_zero h0
      subst hl
      have hr0 : r = [] := List.eq_nil_of_length_eq_zero hrl
      subst hr0
      refine (Any.slices_Sort_int_none L A c w.W).mono fun e' W' ⟨h1, h2⟩ => ?_
      subst h2
      exact ⟨(), h1, rfl, hE⟩
    · simp at ev
      obtain ⟨rfl, rfl⟩ := ev
      have hcss := al_map he hal
      have htk' : cur.toList.take l.length = l.map (Value.int .i64) := by rw [hcss, flatI, h1, Nat.mul_one] at htk; exact htk
      have hgw : g < w.W.heap.size := (Array.getElem?_eq_some_iff.1 hh).1
      refine (Any.slices_Sort_int L g 0 c l w.W (holdsI hh htk') hgw hlt).mono fun e' W' ⟨g1, n, os, g2⟩ => ⟨(), g1, hrl, ?_⟩
      rw [hr] at g2
      subst g2
      have hcs : r.length ≤ cur.size := by rw [hs, hrl, h1]; omega
      refine hf_put hE (css := r.map fun x => [Value.int .i64 x]) hh hn hc hs (Nat.le_of_eq hrl) (putI_heap _ hh) (by simp [putCells]) rfl rfl rfl (Nat.le_add_right _ _) (by simp) (fun b hb hne => putI_other _ hb hne) (Al.of_map (fun x => ⟨u0, ht _ _ _ _, (he u0 x).symm⟩) r) ?_
      rw [flatI, h1, Nat.mul_one, putI_take _ _ _ (Nat.le_refl _) hcs, List.take_length]
  · cases H
/-- THE CONTRACT of slices.Compact at integers. -/
theorem compactI_rule (L : Lays2.n20 P ρ) (h1 : t.sz = 1) (he : ∀ u x, t.enc u x = [Value.int .i64 x]) (ht : t.Tri) (u0 : t.Ad) (H : cpI l = some r) (hE : HF w w.W (LEn [ow A c T t l])) :
    Calls P (ρ.f 20) [.slice A l.length c].toArray w.W fun e W' => ∃ u : (Option Addr × Nat), e = .returned (.slice u.1 r.length u.2) ∧ (SlF u.1 r.length u.2) ∧ HF w W' (LEn [ow u.1 u.2 T t r]) := by
  have hr := Option.some.inj H
  obtain ⟨css, hal, hlen, hown⟩ := hE.ow (k := 0) rfl
  rcases hown with ⟨h0, ev⟩ | ⟨g, cap', cur, ev, hb0, hh, hn, hc, hs, htk⟩
  · have hl : l = [] := List.eq_nil_of_length_eq_zero ev
    subst hl
    have hr0 : r = [] := by rw [← hr]; rfl
    subst hr0
    refine (Any.slices_Compact_int_empty L A c w.W).mono fun e' W' ⟨g1, g2⟩ => ?_
    subst g2
    have : A = none ∧ c = 0 := by simpa using h0
    obtain ⟨rfl, rfl⟩ := this
    exact ⟨(none, 0), g1, slf_nil, hE⟩
  · simp at ev
    obtain ⟨rfl, rfl⟩ := ev
    have hcss := al_map he hal
    have htk' : cur.toList.take l.length = l.map (Value.int .i64) := by rw [hcss, flatI, h1, Nat.mul_one] at htk; exact htk
    have hrl : r.length ≤ l.length := by rw [← hr]; exact cpI_len l
    refine (Any.slices_Compact_int L g 0 c l w.W (holdsI hh htk') (Nat.le_trans hn hc) hn).mono fun e' W' ⟨g1, n, g2⟩ => ⟨(some ⟨g, 0, none⟩, c), by rw [g1, hr], ⟨Nat.le_trans hrl hn, hc, fun _ => rfl⟩, ?_⟩
    rw [hr] at g2
    subst g2
    have hfl : (r ++ List.replicate (l.length - r.length) (0 : Int)).length = l.length := by simp; omega
    refine hf_put hE (css := r.map fun x => [Value.int .i64 x]) hh hn hc hs hrl (putI_heap0 _ hh) (by simp [putCells]) rfl rfl rfl (Nat.le_add_right _ _) (by simp [putRow, mapBlock, Sort.ahead]) (fun b hb hne => putI_other0 _ hne) (Al.of_map (fun x => ⟨u0, ht _ _ _ _, (he u0 x).symm⟩) r) ?_
    rw [flatI, h1, Nat.mul_one, putI_take _ _ _ (by omega) (by rw [hfl, hs, h1]; omega), List.take_left]
end
end Go.Proofs.Ytfddmjoldoddlaa
