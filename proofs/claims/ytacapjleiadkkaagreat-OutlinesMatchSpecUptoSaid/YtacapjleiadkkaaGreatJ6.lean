/- From data to words: how the arguments of a law are opened into lists. From data to words, where what is read is of bounded bulk. -/
import Derived.Test.YtacapjleiadkkaaGreatRows
import Derived.Test.YtacapjleiadkkaaGreatJ2
import Derived.ProofKit
import Derived.Deep.Slices
import Derived.JoinedCond
namespace Go.Proofs.YtacapjleiadkkaaGreat
open Go.ChangeShapes Go.WideShapes Go.ChangeAt Go.RowKit Go.Deep
def I64 (n : Int) : Prop := -9223372036854775808 ≤ n ∧ n ≤ 9223372036854775807
theorem zfw {n : Int} (h : (Lit.int .i64 n).wf = true) : I64 n := by
  simp [Lit.wf, IntKind.min, IntKind.max, IntKind.signed, IntKind.bits] at h
  exact ⟨by omega, by omega⟩
section
variable {H : Type} {enc : TypeId × Value → H} {w : World} {base : Nat} {spare : Nat → Bool} {held : Bool}
theorem zS9 {α : Type} {P : Program} {t e fuel : Nat} (f : Fl α) {Wf : α → Prop} {v : Value} {x : DataW H × List MemPlace} (ht : P.underlying t = some (.slice e)) (hC : P.cellsOf e = f.sz) (hsz : 0 < f.sz)
    (dec : ∀ (n : Nat), n < fuel → ∀ (cs : List Value) (y : DataW H × List MemPlace), DataW.trod enc P w base spare held n e cs = some y → ∃ (u : f.Ad) (a : α), f.ok (lo w.heap.size) w u a ∧ cs = f.enc u a ∧ Wf a)
    (h : DataW.trod enc P w base spare held fuel t [v] = some x) : ∃ (A : Option Addr) (c : Nat) (l : List α), v = .slice A l.length c ∧ Sl (lo w.heap.size) w f A c l ∧ ∀ a ∈ l, Wf a := by
  rcases DataW.trod_slice ht h with ⟨hcs, _⟩ | ⟨a, len, cap, elems, rest, n, hfn, hcs, _, _, hl, hm, hlen0, hel, _, _⟩
  · simp at hcs; subst hcs
    exact ⟨none, 0, [], rfl, Sl.nil _ _ _, fun a ha => by simp at ha⟩
  · simp at hcs; subst hcs
    have hi : ∀ i, i < len → ∃ cs' y, w.cells? base (a.add (i * P.cellsOf e)) (P.cellsOf e) = some cs' ∧ DataW.trod enc P w base spare held n e cs' = some y := by
      intro i hil
      have h1 := hel i hil
      rw [List.getElem?_eq_getElem (by omega)] at h1
      obtain ⟨cs', h2, h3⟩ := Option.bind_eq_some_iff.1 h1
      exact ⟨cs', _, h2, h3⟩
    have hex : ∀ i, i < len → ∃ b : α, Wf b ∧ ∃ u, f.ok (lo w.heap.size) w u b ∧ ∀ (j : Nat) (v : Value), (f.enc u b)[j]? = some v → w.cell? (a.add (i * f.sz + j)) = some v := by
      intro i hil
      obtain ⟨cs', y, hc, hd⟩ := hi i hil
      obtain ⟨u, b, hok, hb, hw⟩ := dec _ (by omega) _ _ hd
      obtain ⟨_, hlen, hat⟩ := World.cells?_some hc
      rw [hC] at hat hlen
      refine ⟨b, hw, u, hok, fun j v hu => ?_⟩
      have hj : j < f.sz := by rw [← hlen, hb]; exact (List.getElem?_eq_some_iff.1 hu).1
      have := hat j hj
      rw [hb, hu, Go.Deep.add_add] at this
      exact this
    have hspot : 0 < len → ∃ b off, a = ⟨b, off, none⟩ ∧ b < w.heap.size := by
      intro hp
      obtain ⟨cs', y, hc, hd⟩ := hi 0 hp
      obtain ⟨_, hlen, hat⟩ := World.cells?_some hc
      have h0 := hat 0 (by omega)
      have hex0 : ∃ u, cs'[0]? = some u := ⟨_, List.getElem?_eq_getElem (by omega)⟩
      obtain ⟨u, hu⟩ := hex0
      rw [hu, Nat.zero_mul] at h0
      have ha : (a.add 0).add 0 = a := by simp [Addr.add]
      rw [ha] at h0
      have hlt := World.block_lt_of_cell? w a h0
      obtain ⟨b, off, sp⟩ := a
      cases sp with
      | none => exact ⟨b, off, rfl, hlt⟩
      | some s =>
        exfalso
        unfold World.cell? at h0
        split at h0 <;> simp at h0
    have hlen : ((List.range len).attach.map (fun i => Classical.choose (hex i.1 (List.mem_range.1 i.2)))).length = len := by simp
    refine ⟨some a, cap, (List.range len).attach.map (fun i => Classical.choose (hex i.1 (List.mem_range.1 i.2))), by rw [hlen], ⟨⟨by omega, hm, fun hp => ?_⟩, fun i x hx => ?_⟩, ?_⟩
    · obtain ⟨b, off, rfl, hlt⟩ := hspot (by omega)
      rfl
    · have hil : i < len := by rw [← hlen]; exact (List.getElem?_eq_some_iff.1 hx).1
      obtain ⟨b, off, rfl, hlt⟩ := hspot (by omega)
      have hxe : x = Classical.choose (hex i hil) := by
        have := (List.getElem?_eq_some_iff.1 hx).2
        rw [← this]; simp
      subst hxe
      obtain ⟨_, u, hok, hcells⟩ := Classical.choose_spec (hex i hil)
      refine ⟨hlt, u, hok, fun j v hu => ?_⟩
      have := hcells j v hu
      rw [Addr.add_lit, ← Nat.add_assoc] at this
      exact this
    · intro x hx
      obtain ⟨i, _, rfl⟩ := List.mem_map.1 hx
      exact (Classical.choose_spec (hex i.1 (List.mem_range.1 i.2))).1
theorem zNp {α : Type} {P : Program} {t e fuel : Nat} (f : Fl α) {Wf : α → Prop} {v : Value} {x : DataW H × List MemPlace} (ht : P.underlying t = some (.slice e)) (hC : P.cellsOf e = f.sz) (hsz : 0 < f.sz)
    (dec : ∀ (n : Nat) (cs : List Value) (y : DataW H × List MemPlace), DataW.trod enc P w base spare held n e cs = some y → ∃ (u : f.Ad) (a : α), f.ok (lo w.heap.size) w u a ∧ cs = f.enc u a ∧ Wf a)
    (h : DataW.trod enc P w base spare held fuel t [v] = some x) : ∃ (A : Option Addr) (c : Nat) (l : List α), v = .slice A l.length c ∧ Sl (lo w.heap.size) w f A c l ∧ ∀ a ∈ l, Wf a :=
  zS9 f ht hC hsz (fun n _ => dec n) h
theorem zpV {α : Type} {P : Program} {e : Nat} (f : Fl α) {g : α → List Value} {Wf : α → Prop} (he : ∀ u x, f.enc u x = g x) (ht : f.Tri) (u : f.Ad)
    (dec : ∀ (n : Nat) (cs : List Value) (y : DataW H × List MemPlace), DataW.trod enc P w base spare held n e cs = some y → ∃ a : α, cs = g a ∧ Wf a) :
    ∀ (n : Nat) (cs : List Value) (y : DataW H × List MemPlace), DataW.trod enc P w base spare held n e cs = some y → ∃ (u : f.Ad) (a : α), f.ok (lo w.heap.size) w u a ∧ cs = f.enc u a ∧ Wf a := fun n cs y h => by
  obtain ⟨a, h1, h2⟩ := dec n cs y h
  exact ⟨u, a, ht _ _ _ _, by rw [h1, he], h2⟩
end
def zMj (W : World) : Bs := ⟨W, lo W.heap.size, fun _ => False, fun b hb => by
  rcases hb with hb | hb
  · exact hb
  · exact hb.elim⟩
theorem Sl.zev {α : Type} {W : World} {t : Fl α} {A : Option Addr} {c : Nat} {l : List α} (h : Sl (lo W.heap.size) W t A c l) : Sl (zMj W).R (zMj W).W t A c l := h.mono (fun _ hb => .inl hb)
theorem zPh {W W' : World} {E : Nat → Ent} (h : HF (zMj W) W' E) : Below W.heap.size W W' := ⟨h.os, h.tape, h.output, h.size, fun b hb => h.keep b (.inl hb), h.drawn⟩
theorem zrD : ownKnob Tryz.prog.godebug = none := by kernel_rfl
theorem zTW : laidOutB Tryz.prog = true := by kernel_rfl
open Go.ChangeShapes Go.WideShapes Go.ChangeAt Go.RowKit Go.Deep
theorem zUY {H : Type} (d : DataW H) : 1 ≤ Rows.uptoBulk d := by
  cases d with
  | lit v => cases v <;> simp [Rows.uptoBulk]
  | _ => simp [Rows.uptoBulk]
theorem zUX {H : Type} {α : Type} (sz : α → Nat) : ∀ (l : List α) (m : List (DataW H)), l.length = m.length → (∀ (i : Nat) (x : α) (y : DataW H), l[i]? = some x → m[i]? = some y → sz x ≤ Rows.uptoBulk y) → (l.map sz).sum ≤ Rows.uptoBulkAll m
  | [], _, _, _ => by simp
  | x :: l, [], h, _ => by simp at h
  | x :: l, y :: m, h, hi => by
    have h1 := hi 0 x y rfl rfl
    have h2 := zUX sz l m (by simpa using h) (fun i a b ha hb => hi (i + 1) a b (by simpa using ha) (by simpa using hb))
    rw [List.map_cons, List.sum_cons, Rows.uptoBulkAll]
    omega
section
variable {H : Type} {enc : TypeId × Value → H} {w : World} {base : Nat} {spare : Nat → Bool} {held : Bool}
theorem zLx {α : Type} {P : Program} {t e fuel : Nat} (f : Fl α) {Wf : α → Prop} (sz : α → Nat) {v : Value} {x : DataW H × List MemPlace} (ht : P.underlying t = some (.slice e)) (hC : P.cellsOf e = f.sz) (hsz : 0 < f.sz)
    (dec : ∀ (n : Nat) (cs : List Value) (y : DataW H × List MemPlace), DataW.trod enc P w base spare held n e cs = some y → ∃ (u : f.Ad) (a : α), f.ok (lo w.heap.size) w u a ∧ cs = f.enc u a ∧ Wf a ∧ sz a ≤ Rows.uptoBulk y.1)
    (h : DataW.trod enc P w base spare held fuel t [v] = some x) : ∃ (A : Option Addr) (c : Nat) (l : List α), v = .slice A l.length c ∧ Sl (lo w.heap.size) w f A c l ∧ (∀ a ∈ l, Wf a) ∧ (l.map sz).sum + 1 ≤ Rows.uptoBulk x.1 := by
  rcases DataW.trod_slice ht h with ⟨hcs, hxe⟩ | ⟨a, len, cap, elems, rest, n, hfn, hcs, hxe, _, hl, hm, hlen0, hel, _, _⟩
  · simp at hcs; subst hcs
    exact ⟨none, 0, [], rfl, Sl.nil _ _ _, (fun a ha => by simp at ha), by have := zUY x.1; simpa using this⟩
  · simp at hcs; subst hcs
    have hi : ∀ i, (hil : i < len) → ∃ cs', w.cells? base (a.add (i * P.cellsOf e)) (P.cellsOf e) = some cs' ∧ DataW.trod enc P w base spare held n e cs' = some (elems[i]'(by omega)) := by
      intro i hil
      have h1 := hel i hil
      rw [List.getElem?_eq_getElem (by omega)] at h1
      obtain ⟨cs', h2, h3⟩ := Option.bind_eq_some_iff.1 h1
      exact ⟨cs', h2, h3⟩
    have hex : ∀ i, (hil : i < len) → ∃ b : α, (Wf b ∧ sz b ≤ Rows.uptoBulk (elems[i]'(by omega)).1) ∧ ∃ u, f.ok (lo w.heap.size) w u b ∧ ∀ (j : Nat) (v : Value), (f.enc u b)[j]? = some v → w.cell? (a.add (i * f.sz + j)) = some v := by
      intro i hil
      obtain ⟨cs', hc, hd⟩ := hi i hil
      obtain ⟨u, b, hok, hb, hw⟩ := dec _ _ _ hd
      obtain ⟨_, hlen, hat⟩ := World.cells?_some hc
      rw [hC] at hat hlen
      refine ⟨b, hw, u, hok, fun j v hu => ?_⟩
      have hj : j < f.sz := by rw [← hlen, hb]; exact (List.getElem?_eq_some_iff.1 hu).1
      have := hat j hj
      rw [hb, hu, Go.Deep.add_add] at this
      exact this
    have hspot : 0 < len → ∃ b off, a = ⟨b, off, none⟩ ∧ b < w.heap.size := by
      intro hp
      obtain ⟨cs', hc, hd⟩ := hi 0 hp
      obtain ⟨u0, b0, _, hb0, _⟩ := dec _ _ _ hd
      obtain ⟨_, hlen, hat⟩ := World.cells?_some hc
      have h0 := hat 0 (by omega)
      have hex0 : ∃ u, cs'[0]? = some u := ⟨_, List.getElem?_eq_getElem (by omega)⟩
      obtain ⟨u, hu⟩ := hex0
      rw [hu, Nat.zero_mul] at h0
      have ha : (a.add 0).add 0 = a := by simp [Addr.add]
      rw [ha] at h0
      have hlt := World.block_lt_of_cell? w a h0
      obtain ⟨b, off, sp⟩ := a
      cases sp with
      | none => exact ⟨b, off, rfl, hlt⟩
      | some s =>
        exfalso
        unfold World.cell? at h0
        split at h0 <;> simp at h0
    have hlen : ((List.range len).attach.map (fun i => Classical.choose (hex i.1 (List.mem_range.1 i.2)))).length = len := by simp
    have hat : ∀ i x, ((List.range len).attach.map (fun i => Classical.choose (hex i.1 (List.mem_range.1 i.2))))[i]? = some x → ∃ hil : i < len, x = Classical.choose (hex i hil) := fun i x hx => by
      have hil : i < len := by rw [← hlen]; exact (List.getElem?_eq_some_iff.1 hx).1
      refine ⟨hil, ?_⟩
      have := (List.getElem?_eq_some_iff.1 hx).2
      rw [← this]; simp
    refine ⟨some a, cap, (List.range len).attach.map (fun i => Classical.choose (hex i.1 (List.mem_range.1 i.2))), by rw [hlen], ⟨⟨by omega, hm, fun hp => ?_⟩, fun i x hx => ?_⟩, ?_, ?_⟩
    · obtain ⟨b, off, rfl, hlt⟩ := hspot (by omega)
      rfl
    · obtain ⟨hil, hxe⟩ := hat i x hx
      obtain ⟨b, off, rfl, hlt⟩ := hspot (by omega)
      subst hxe
      obtain ⟨_, u, hok, hcells⟩ := Classical.choose_spec (hex i hil)
      refine ⟨hlt, u, hok, fun j v hu => ?_⟩
      have := hcells j v hu
      rw [Addr.add_lit, ← Nat.add_assoc] at this
      exact this
    · intro x hx
      obtain ⟨i, _, rfl⟩ := List.mem_map.1 hx
      exact (Classical.choose_spec (hex i.1 (List.mem_range.1 i.2))).1.1
    · have hb := zUX sz ((List.range len).attach.map (fun i => Classical.choose (hex i.1 (List.mem_range.1 i.2)))) (elems.map (·.1)) (by rw [hlen, List.length_map, hlen0]) (fun i x y hx hy => by
        obtain ⟨hil, hxx⟩ := hat i x hx
        subst hxx
        rw [List.getElem?_map, List.getElem?_eq_getElem (by omega)] at hy
        have := Option.some.inj hy
        subst this
        exact (Classical.choose_spec (hex i hil)).1.2)
      rw [hxe]
      show _ + 1 ≤ Rows.uptoBulk (.slice (elems.map (·.1)) (rest.map (·.1)))
      rw [Rows.uptoBulk]
      omega
theorem zpU {α : Type} {P : Program} {e : Nat} (f : Fl α) {g : α → List Value} {Wf : α → Prop} (he : ∀ u x, f.enc u x = g x) (ht : f.Tri) (u : f.Ad)
    (dec : ∀ (n : Nat) (cs : List Value) (y : DataW H × List MemPlace), DataW.trod enc P w base spare held n e cs = some y → ∃ a : α, cs = g a ∧ Wf a) :
    ∀ (n : Nat) (cs : List Value) (y : DataW H × List MemPlace), DataW.trod enc P w base spare held n e cs = some y → ∃ (u : f.Ad) (a : α), f.ok (lo w.heap.size) w u a ∧ cs = f.enc u a ∧ Wf a ∧ 1 ≤ Rows.uptoBulk y.1 := fun n cs y h => by
  obtain ⟨a, h1, h2⟩ := dec n cs y h
  exact ⟨u, a, ht _ _ _ _, by rw [h1, he], h2, zUY _⟩
end
theorem zS5 {α : Type} : ∀ l : List α, (l.map fun _ => 1).sum = l.length
  | [] => rfl
  | _ :: l => by rw [List.map_cons, List.sum_cons, zS5 l, List.length_cons]; omega
theorem zS4 {α : Type} : ∀ l : List (List α), (l.map fun r => r.length + 1).sum = l.length + l.flatten.length
  | [] => rfl
  | r :: l => by rw [List.map_cons, List.sum_cons, zS4 l, List.flatten_cons, List.length_append, List.length_cons]; omega
end Go.Proofs.YtacapjleiadkkaaGreat
