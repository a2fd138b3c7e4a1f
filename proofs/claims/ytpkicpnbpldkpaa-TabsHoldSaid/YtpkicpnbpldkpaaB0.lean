/- Words for memory, over any program: a slice that reads as a list of rows, an owned slice, and what is kept from world to world. Conditions: none beyond each theorem's own. -/
import Derived.WalkKit
import Derived.WalkSpells
import Derived.WalkLawsBesides
import Derived.Deep.QuietTactic
import Derived.BigQuiet
namespace Go.Proofs.Ytpkicpnbpldkpaa
open Go.RowKit

theorem hid {p : Prop} (h : p) : Hid p := h
theorem bcell {W w1 : World} (hb : Below W.heap.size W w1) : (∀ b o, b < W.heap.size → w1.cell? ⟨b, o, none⟩ = W.cell? ⟨b, o, none⟩) ∧ (∀ b o, b < W.heap.size → w1.frozen? ⟨b, o, none⟩ = W.frozen? ⟨b, o, none⟩) :=
  ⟨fun b o h => hb.cell (p := ⟨b, o, none⟩) h, fun b o h => hb.frozen (p := ⟨b, o, none⟩) h⟩

/-- Two steps, the second from a later world on. -/
theorem bthen {W w1 w2 : World} (h : Below W.heap.size W w1) (h' : Below w1.heap.size w1 w2) : Below W.heap.size W w2 := h.trans (h'.mono h.size)

/-- The slice value v reads, in w, as the rows enc x, x in l, of sz cells each. -/
def Sl {α : Type} (w : World) (sz : Nat) (enc : α → List Value) (v : Value) (l : List α) : Prop :=
  ∃ A c, v = .slice A l.length c ∧ l.length ≤ c ∧ c ≤ maxLen ∧ (0 < l.length → ∃ b off, A = some ⟨b, off, none⟩ ∧ b < w.heap.size ∧
    ∀ (i : Nat) (x : α), l[i]? = some x → ∀ (j : Nat) (u : Value), (enc x)[j]? = some u → w.cell? ⟨b, off + i * sz + j, none⟩ = some u)

/-- The slice value v is a row of the call's own (blocks from base on) that holds the rows enc x. -/
def Own {α : Type} (w : World) (base : Nat) (T sz : Nat) (enc : α → List Value) (v : Value) (l : List α) : Prop := w.ownsRow base T sz v l.length (l.flatMap enc)

section
variable {α : Type} {w w' : World} {sz : Nat} {enc : α → List Value} {v : Value} {l : List α} {base T : Nat}
theorem Sl.ext (h : Sl w sz enc v l) (hb : Below w.heap.size w w') : Sl w' sz enc v l := by
  obtain ⟨A, c, rfl, h1, h2, h3⟩ := h
  refine ⟨A, c, rfl, h1, h2, fun hl => ?_⟩
  obtain ⟨b, off, rfl, hlt, hc⟩ := h3 hl
  refine ⟨b, off, rfl, Nat.lt_of_lt_of_le hlt hb.size, fun i x hx j u hu => ?_⟩
  rw [hb.cell (p := ⟨b, off + i * sz + j, none⟩) hlt]
  exact hc i x hx j u hu
theorem Sl.nil (w : World) (sz : Nat) (enc : α → List Value) : Sl w sz enc (.slice none 0 0) [] :=
  ⟨none, 0, rfl, Nat.le_refl _, Nat.zero_le _, fun h => absurd h (by simp)⟩
theorem flat_len (hz : ∀ x ∈ l, (enc x).length = sz) : (l.flatMap enc).length = l.length * sz := by
  induction l with
  | nil => simp
  | cons a l ih =>
    rw [List.flatMap_cons, List.length_append, hz a (by simp), ih (fun x hx => hz x (by simp [hx])), List.length_cons, Nat.succ_mul, Nat.add_comm]
theorem flat_at : ∀ {l : List α} (_ : ∀ x ∈ l, (enc x).length = sz) {i : Nat} {x : α} (_ : l[i]? = some x) {j : Nat} {u : Value} (_ : (enc x)[j]? = some u), (l.flatMap enc)[i * sz + j]? = some u
  | a :: l, hz, 0, x, hx, j, u, hu => by
    simp at hx; subst hx
    rw [List.flatMap_cons, Nat.zero_mul, Nat.zero_add, List.getElem?_append_left (List.getElem?_eq_some_iff.1 hu).1]; exact hu
  | a :: l, hz, i + 1, x, hx, j, u, hu => by
    have ih := flat_at (l := l) (fun x hx => hz x (by simp [hx])) (i := i) (x := x) (by simpa using hx) hu
    rw [List.flatMap_cons, List.getElem?_append_right (by rw [hz a (by simp), Nat.succ_mul]; omega), hz a (by simp)]
    rw [show (i + 1) * sz + j - sz = i * sz + j from by rw [Nat.succ_mul]; omega]; exact ih
theorem Own.sl (h : Own w base T sz enc v l) (hz : ∀ x ∈ l, (enc x).length = sz) : Sl w sz enc v l := by
  obtain ⟨hl, h2⟩ := h
  rcases h2 with ⟨rfl, h0⟩ | ⟨g, cap, cur, rfl, hb, hh, hn, hc, hs, ht⟩
  · have : l = [] := List.eq_nil_of_length_eq_zero h0
    subst this; exact Sl.nil _ _ _
  · refine ⟨some ⟨g, 0, none⟩, cap, rfl, hn, hc, fun hp => ⟨g, 0, rfl, (Array.getElem?_eq_some_iff.1 hh).1, fun i x hx j u hu => ?_⟩⟩
    have hf := flat_at hz hx hu
    rw [← ht, List.getElem?_take] at hf
    split at hf
    · rw [cell_of_row w g _ cur T (0, 0) hh, Nat.zero_add, ← Array.getElem?_toList]; exact hf
    · cases hf
theorem Own.ext (h : Own w base T sz enc v l) (hb : Below w.heap.size w w') : Own w' base T sz enc v l := by
  refine ⟨h.1, ?_⟩
  rcases h.2 with h0 | ⟨g, cap, cur, hv, hg, hh, r⟩
  · exact .inl h0
  · exact .inr ⟨g, cap, cur, hv, hg, (hb.block g (Array.getElem?_eq_some_iff.1 hh).1).trans hh, r⟩
theorem Own.base_le {base' : Nat} (h : Own w base T sz enc v l) (hb : base' ≤ base) : Own w base' T sz enc v l := by
  refine ⟨h.1, ?_⟩
  rcases h.2 with h0 | ⟨g, cap, cur, hv, hg, r⟩
  · exact .inl h0
  · exact .inr ⟨g, cap, cur, hv, Nat.le_trans hb hg, r⟩
theorem Own.nil (w : World) (base T sz : Nat) (enc : α → List Value) : Own w base T sz enc (.slice none 0 0) [] := World.ownsRow_nil w base T sz
theorem Own.kept {row : Option Nat} (h : Own w base T sz enc v l) (hg : w.grownBy w' row) (hne : v.ownBlock = none ∨ v.ownBlock ≠ row) : Own w' base T sz enc v l := World.ownsRow.kept h hg hne
theorem Own.lt (h : Own w base T sz enc v l) : ∀ k, v.ownBlock = some k → base ≤ k ∧ k < w.heap.size := World.ownsRow.lt h
theorem Own.form (h : Own w base T sz enc v l) : ∃ A c, v = .slice A l.length c := by
  rcases h.2 with ⟨rfl, h0⟩ | ⟨g, cap, cur, rfl, _⟩
  · exact ⟨none, 0, by rw [h0]⟩
  · exact ⟨_, _, rfl⟩
/-- What an append onto an owned row leaves, in the words of this file. -/
theorem Own.snoc {l2 : List α} {n m : Nat} {news : List Value} (hn : n = l.length) (hm : m = l2.length) (hnews : news = l2.flatMap enc)
    (h : w'.ownsRow base T sz v (n + m) (l.flatMap enc ++ news)) : Own w' base T sz enc v (l ++ l2) := by
  subst hn hm hnews
  unfold Own
  rw [List.length_append, List.flatMap_append]; exact h
end

/-- A block that lies below n lies below, and is none of, the next ones. -/
theorem lts {b n : Nat} (h : b < n) : b < n ∧ b < n + 1 ∧ b < n + 1 + 1 ∧ b < n + 1 + 1 + 1 ∧ b < n + 1 + 1 + 1 + 1 ∧ b < n + 1 + 1 + 1 + 1 + 1 ∧ b ≠ n ∧ b ≠ n + 1 ∧ b ≠ n + 1 + 1 ∧ b ≠ n + 1 + 1 + 1 ∧ b ≠ n + 1 + 1 + 1 + 1 := by omega
open Classical in
/-- w, or a later world x in which all that lay in w lies unturned: a name for every such world. -/
noncomputable def lat (w x : World) : World := if Below w.heap.size w x then x else w
theorem lat_below (w x : World) : Below w.heap.size w (lat w x) := by
  unfold lat; split
  · assumption
  · exact Below.refl _ _
theorem lat_of_below {w x : World} (h : Below w.heap.size w x) : x = lat w x := by unfold lat; rw [if_pos h]
@[go_sem] theorem lat_cell (w x : World) (b o : Nat) (h : b < w.heap.size) : (lat w x).cell? ⟨b, o, none⟩ = w.cell? ⟨b, o, none⟩ := (lat_below w x).cell (p := ⟨b, o, none⟩) h
@[go_sem] theorem lat_frozen (w x : World) (b o : Nat) (h : b < w.heap.size) : (lat w x).frozen? ⟨b, o, none⟩ = w.frozen? ⟨b, o, none⟩ := (lat_below w x).frozen (p := ⟨b, o, none⟩) h
theorem below_drawn (w : World) (n : Nat) : Below w.heap.size w { w with drawn := n } := ⟨rfl, rfl, rfl, Nat.le_refl _, fun _ _ => rfl⟩
/-- A region that draws its order, whose operations read and whose callees leave alone what is there: one walk in the order of the text; behind it a later world. -/
theorem wp_region_lat {P : Program} {id : Nat} {Q : Exit → Act → World → Prop} {a : Act} {w : World} {l : List Oper} (hm : P.follows .mixedOrders = true) (hB : Region.lexB .any l.toArray = true)
    (h : wpQuiet P l.toArray (fun w' => ∃ x, w' = lat w x) (fun a' => ∀ w', Below w.heap.size w w' → Q .normal a' w') l a) : (Code.region id l.toArray true).wp P Q a w := by
  have e : (fun a' => ∀ w', Below w.heap.size w w' → Q .normal a' w') = (fun a' => ∀ w', (∃ x, w' = lat w x) → Q .normal a' w') := by
    funext a'
    exact propext ⟨fun h w' ⟨x, hx⟩ => h w' (hx ▸ lat_below w x), fun h w' hb => h w' ⟨w', lat_of_below hb⟩⟩
  rw [e] at h
  exact wp_region_quiet (C := fun w' => ∃ x, w' = lat w x) hm hB ⟨_, lat_of_below (below_drawn w _)⟩ (by simpa using h)
/-- A callee's contract, met in a later world. -/
theorem lat_of {P : Program} {f : FuncId} {args : Array Value} {w x : World} {v : Value} (h : Calls P f args (lat w x) fun e w' => e = .returned v ∧ Below (lat w x).heap.size (lat w x) w') :
    Calls P f args (lat w x) fun e w'' => e = .returned v ∧ ∃ y, w'' = lat w y :=
  h.mono fun _ _ ⟨he, hb⟩ => ⟨he, _, lat_of_below (bthen (lat_below w x) hb)⟩
theorem lat_of_same {P : Program} {f : FuncId} {args : Array Value} {w x : World} {v : Value} (h : Calls P f args (lat w x) fun e w' => e = .returned v ∧ lat w x = w') :
    Calls P f args (lat w x) fun e w'' => e = .returned v ∧ ∃ y, w'' = lat w y :=
  h.mono fun _ _ ⟨he, hb⟩ => ⟨he, x, hb.symm⟩

theorem heap_new (w : World) (o : Obj) (i : Nat) (h : i = w.heap.size) : (w.alloc o).heap[i]? = some o := h ▸ heap_alloc_new w o
theorem heap_old {w : World} {o x : Obj} {i : Nat} (h : w.heap[i]? = some x) : (w.alloc o).heap[i]? = some x := (Below.heap_alloc w o i (Array.getElem?_eq_some_iff.1 h).1).trans h
section
variable {w : World} {g T : Nat} {z0 z1 z2 z3 v0 v1 v2 v3 : Value}
theorem set2 (h : w.heap[g]? = some (.cells #[z0, z1] T (0, 0))) : ((w.setCell ⟨g, 0, none⟩ v0).setCell ⟨g, 1, none⟩ v1).heap[g]? = some (.cells #[v0, v1] T (0, 0)) :=
  heap_setCell_same _ g 1 _ T v1 (heap_setCell_same w g 0 _ T v0 h)
theorem set3 (h : w.heap[g]? = some (.cells #[z0, z1, z2] T (0, 0))) : (((w.setCell ⟨g, 0, none⟩ v0).setCell ⟨g, 1, none⟩ v1).setCell ⟨g, 2, none⟩ v2).heap[g]? = some (.cells #[v0, v1, v2] T (0, 0)) :=
  heap_setCell_same _ g 2 _ T v2 (heap_setCell_same _ g 1 _ T v1 (heap_setCell_same w g 0 _ T v0 h))
theorem set4 (h : w.heap[g]? = some (.cells #[z0, z1, z2, z3] T (0, 0))) : ((((w.setCell ⟨g, 0, none⟩ v0).setCell ⟨g, 1, none⟩ v1).setCell ⟨g, 2, none⟩ v2).setCell ⟨g, 3, none⟩ v3).heap[g]? = some (.cells #[v0, v1, v2, v3] T (0, 0)) :=
  heap_setCell_same _ g 3 _ T v3 (heap_setCell_same _ g 2 _ T v2 (heap_setCell_same _ g 1 _ T v1 (heap_setCell_same w g 0 _ T v0 h)))
end
/-- The cells of a block that was just laid, as an append's law asks for them. -/
theorem new_cells (w : World) (cs : List Value) (T : Nat) : ∀ (j : Nat) (u : Value), cs[j]? = some u → (w.alloc (.cells cs.toArray T)).cell? ((⟨w.heap.size, 0, none⟩ : Addr).add j) = some u := by
  intro j u hu
  rw [Addr.add_lit, Nat.zero_add, cell_of_row _ _ j cs.toArray T (0, 0) (heap_alloc_new w _)]
  simpa using hu
theorem grown_below {α : Type} {w w5 : World} {B base T sz : Nat} {enc : α → List Value} {v : Value} {l : List α} {o : Obj} (h : Own w base T sz enc v l) (hg : (w.alloc o).grownBy w5 v.ownBlock) (hB : B ≤ base) (hs : B ≤ w.heap.size) : Below B w w5 :=
  ((Below.refl B w).alloc hs o).grown hg (by simp; omega) (fun k hk => by have := (h.lt k hk).1; omega)
theorem grown_below' {α : Type} {w w5 : World} {B base T sz : Nat} {enc : α → List Value} {v : Value} {l : List α} (h : Own w base T sz enc v l) (hg : w.grownBy w5 v.ownBlock) (hB : B ≤ base) (hs : B ≤ w.heap.size) : Below B w w5 :=
  (Below.refl B w).grown hg hs (fun k hk => by have := (h.lt k hk).1; omega)
theorem get_mem {α : Type} {l : List α} {i : Nat} {x : α} (h : l[i]? = some x) : x ∈ l := List.mem_of_getElem? h
theorem get_of_lt {α : Type} {l : List α} {k : Nat} (h : k < l.length) : ∃ x, l[k]? = some x := ⟨_, List.getElem?_eq_getElem h⟩
theorem drop_at {α : Type} {l : List α} {k : Nat} {x : α} (h : l[k]? = some x) : l.drop k = x :: l.drop (k + 1) := by
  obtain ⟨hk, hx⟩ := List.getElem?_eq_some_iff.1 h
  rw [List.drop_eq_getElem_cons hk, hx]
theorem take_at {α : Type} {l : List α} {k : Nat} {x : α} (h : l[k]? = some x) : l.take (k + 1) = l.take k ++ [x] := by
  obtain ⟨hk, hx⟩ := List.getElem?_eq_some_iff.1 h
  rw [List.take_succ_eq_append_getElem hk, hx]
theorem drop_all {α : Type} {l : List α} {k : Nat} (h : ¬ k < l.length) : l.drop k = [] := List.drop_of_length_le (by omega)
theorem take_all {α : Type} {l : List α} {k : Nat} (h : ¬ k < l.length) : l.take k = l := List.take_of_length_le (by omega)

section
variable {α : Type} {w wr : World} {enc : α → List Value} {b off k sz : Nat} {l : List α} {x : α} {v0 v1 v2 v3 v4 v5 : Value}
theorem cells1 (hb : Below w.heap.size w wr) (hlt : b < w.heap.size) (hc : ∀ (i : Nat) (x : α), l[i]? = some x → ∀ (j : Nat) (u : Value), (enc x)[j]? = some u → w.cell? ⟨b, off + i * 1 + j, none⟩ = some u)
    (hx : l[k]? = some x) (he : enc x = [v0]) : wr.cell? ⟨b, off + k, none⟩ = some v0 := by
  have h := (hc k x hx)
  rw [he] at h
  have := (hb.cell (p := ⟨_, _, _⟩) hlt).trans (h 0 v0 rfl)
  simpa using this
theorem cells2 (hb : Below w.heap.size w wr) (hlt : b < w.heap.size) (hc : ∀ (i : Nat) (x : α), l[i]? = some x → ∀ (j : Nat) (u : Value), (enc x)[j]? = some u → w.cell? ⟨b, off + i * 2 + j, none⟩ = some u)
    (hx : l[k]? = some x) (he : enc x = [v0, v1]) : wr.cell? ⟨b, off + k * 2, none⟩ = some v0 ∧ wr.cell? ⟨b, off + k * 2 + 1, none⟩ = some v1 := by
  have h := (hc k x hx)
  rw [he] at h
  exact ⟨(hb.cell (p := ⟨_, _, _⟩) hlt).trans (h 0 v0 rfl), (hb.cell (p := ⟨_, _, _⟩) hlt).trans (h 1 v1 rfl)⟩
theorem cells3 (hb : Below w.heap.size w wr) (hlt : b < w.heap.size) (hc : ∀ (i : Nat) (x : α), l[i]? = some x → ∀ (j : Nat) (u : Value), (enc x)[j]? = some u → w.cell? ⟨b, off + i * 3 + j, none⟩ = some u)
    (hx : l[k]? = some x) (he : enc x = [v0, v1, v2]) : wr.cell? ⟨b, off + k * 3, none⟩ = some v0 ∧ wr.cell? ⟨b, off + k * 3 + 1, none⟩ = some v1 ∧ wr.cell? ⟨b, off + k * 3 + 2, none⟩ = some v2 := by
  have h := (hc k x hx)
  rw [he] at h
  exact ⟨(hb.cell (p := ⟨_, _, _⟩) hlt).trans (h 0 v0 rfl), (hb.cell (p := ⟨_, _, _⟩) hlt).trans (h 1 v1 rfl), (hb.cell (p := ⟨_, _, _⟩) hlt).trans (h 2 v2 rfl)⟩
theorem cells4 (hb : Below w.heap.size w wr) (hlt : b < w.heap.size) (hc : ∀ (i : Nat) (x : α), l[i]? = some x → ∀ (j : Nat) (u : Value), (enc x)[j]? = some u → w.cell? ⟨b, off + i * 4 + j, none⟩ = some u)
    (hx : l[k]? = some x) (he : enc x = [v0, v1, v2, v3]) : wr.cell? ⟨b, off + k * 4, none⟩ = some v0 ∧ wr.cell? ⟨b, off + k * 4 + 1, none⟩ = some v1 ∧ wr.cell? ⟨b, off + k * 4 + 2, none⟩ = some v2 ∧ wr.cell? ⟨b, off + k * 4 + 3, none⟩ = some v3 := by
  have h := (hc k x hx)
  rw [he] at h
  exact ⟨(hb.cell (p := ⟨_, _, _⟩) hlt).trans (h 0 v0 rfl), (hb.cell (p := ⟨_, _, _⟩) hlt).trans (h 1 v1 rfl), (hb.cell (p := ⟨_, _, _⟩) hlt).trans (h 2 v2 rfl), (hb.cell (p := ⟨_, _, _⟩) hlt).trans (h 3 v3 rfl)⟩
end

/-- A predicate handed over as a function value: in every world that grew out of w it says p of an element, and leaves what is there alone. -/
def PredOk {α : Type} (P : Program) (g : Nat) (lb : Array Value) (enc : α → List Value) (p : α → Bool) (w : World) (l : List α) : Prop :=
  (∀ args w, (callFunc g args).run P w = .ok (.enter g args) w) ∧
  ∀ x ∈ l, ∀ w', Below w.heap.size w w' → Calls P g (#[.agg (enc x).toArray] ++ lb) w' fun e w'' => e = .returned (.bool (p x)) ∧ Below w'.heap.size w' w''
theorem PredOk.ext {α : Type} {P : Program} {g : Nat} {lb : Array Value} {enc : α → List Value} {p : α → Bool} {w w1 : World} {l : List α} (h : PredOk P g lb enc p w l) (hb : Below w.heap.size w w1) : PredOk P g lb enc p w1 l :=
  ⟨h.1, fun x hx w' hw => h.2 x hx w' (bthen hb hw)⟩
theorem enters {P : Program} {f : FuncId} {fn : Func} {c : Code} (hf : P.funcs[f]? = some fn) (hname : (fn.name == "runtime.NumGoroutine") = false) (hb : fn.body = some c) (args : Array Value) (w : World) : (callFunc f args).run P w = .ok (.enter f args) w := by
  have hn : ¬ fn.name = "runtime.NumGoroutine" := by simpa using hname
  simp [callFunc, hf, hb, hn]

theorem ret_int {k : IntKind} {a b : Int} (h : a = b) : Ending.returned (.int k a) = .returned (.int k b) := by rw [h]
theorem ret_bool {a b : Bool} (h : a = b) : Ending.returned (.bool a) = .returned (.bool b) := by rw [h]
theorem ret_any {a b : Value} (h : a = b) : Ending.returned a = .returned b := by rw [h]
/-- The first place at which p holds, from i on; -1: none. -/
def idxOf {α : Type} (p : α → Bool) : List α → Nat → Int
  | [], _ => -1
  | x :: l, i => if p x then i else idxOf p l (i + 1)
theorem idxOf_step {α : Type} (p : α → Bool) {l : List α} {k : Nat} {x : α} (h : l[k]? = some x) : idxOf p (l.drop k) k = if p x then (k : Int) else idxOf p (l.drop (k + 1)) (k + 1) := by
  rw [drop_at h]; rfl
theorem idxOf_any {α : Type} (p : α → Bool) : ∀ (l : List α) (i : Nat), decide (0 ≤ idxOf p l i) = l.any p
  | [], _ => by simp [idxOf]
  | x :: l, i => by
    unfold idxOf
    cases h : p x
    · simp [h, idxOf_any p l (i + 1)]
    · simp [h]
theorem idxOf_lo {α : Type} (p : α → Bool) : ∀ (l : List α) (i : Nat), -1 ≤ idxOf p l i ∧ idxOf p l i < i + l.length ∧ (idxOf p l i = -1 ∨ (i : Int) ≤ idxOf p l i)
  | [], i => by simp [idxOf]; omega
  | x :: l, i => by
    have ih := idxOf_lo p l (i + 1)
    unfold idxOf
    simp only [List.length_cons]
    split <;> omega
theorem idxOf_hit {α : Type} (p : α → Bool) : ∀ (l : List α) (i : Nat), 0 ≤ idxOf p l i → ∃ x, l[(idxOf p l i - i).toNat]? = some x ∧ p x = true
  | [], i, h => by simp [idxOf] at h
  | x :: l, i, h => by
    have hlo := idxOf_lo p l (i + 1)
    unfold idxOf at h ⊢
    cases hp : p x
    · rw [hp] at h
      simp only [Bool.false_eq_true, if_false] at h ⊢
      obtain ⟨y, hy, hpy⟩ := idxOf_hit p l (i + 1) h
      refine ⟨y, ?_, hpy⟩
      rw [show (idxOf p l (i + 1) - (i : Int)).toNat = (idxOf p l (i + 1) - ((i + 1 : Nat) : Int)).toNat + 1 from by omega]
      simpa using hy
    · refine ⟨x, ?_, hp⟩
      simp
end Go.Proofs.Ytpkicpnbpldkpaa
