/- The rules of the small logic for memory: variables in boxes, fields, slices that are read, slices that the call owns. Over any program. Conditions: none beyond each theorem's own. -/
import Derived.Test.YtfddmjoldoddlaaH1
namespace Go.Proofs.Ytfddmjoldoddlaa
open Go.RowKit
def adB (A : Option Addr) : Nat := match A with | some a => a.block | none => 0
def adO (A : Option Addr) : Nat := match A with | some a => a.off | none => 0
/-- The form of a slice value. -/
def SlF (A : Option Addr) (n c : Nat) : Prop := n ≤ c ∧ c ≤ maxLen ∧ (0 < n → A = some ⟨adB A, adO A, none⟩)
theorem slf_nil : SlF none 0 0 := ⟨Nat.le_refl _, Nat.zero_le _, fun h => absurd h (by simp)⟩
/-- How a type's values lie in cells, at addresses of slices within them (Ad); what must hold of these. -/
structure Fl (α : Type) where
  Ad : Type
  sz : Nat
  enc : Ad → α → List Value
  ok : (Nat → Prop) → World → Ad → α → Prop
  len : ∀ u x, (enc u x).length = sz
  one : ∀ u x, ∀ v ∈ enc u x, v.oneCell' = true
  loc : ∀ {S S' : Nat → Prop} {W W' : World} {u : Ad} {x : α}, ok S W u x → (∀ b, S b → S' b) → (∀ b, S b → W'.heap[b]? = W.heap[b]?) → ok S' W' u x
/-- No slices within. -/
def Fl.flat {α : Type} (sz : Nat) (enc : α → List Value) (len : ∀ x, (enc x).length = sz) (one : ∀ x, ∀ v ∈ enc x, v.oneCell' = true) : Fl α :=
  ⟨Unit, sz, fun _ x => enc x, fun _ _ _ _ => True, fun _ x => len x, fun _ x => one x, fun _ _ _ => trivial⟩
/-- Nothing must hold of the addresses. -/
def Fl.Tri {α : Type} (t : Fl α) : Prop := ∀ S W u x, t.ok S W u x
/-- Two lists, element by element. -/
inductive Al {α β : Type} (R : α → β → Prop) : List α → List β → Prop
  | nil : Al R [] []
  | cons {a : α} {b : β} {l : List α} {m : List β} : R a b → Al R l m → Al R (a :: l) (b :: m)
section
variable {α β : Type} {R R' : α → β → Prop}
theorem Al.mono {l : List α} {m : List β} (h : Al R l m) (hr : ∀ a b, R a b → R' a b) : Al R' l m := by
  induction h with
  | nil => exact .nil
  | cons h1 _ ih => exact .cons (hr _ _ h1) ih
theorem Al.append {l l' : List α} {m m' : List β} (h : Al R l m) (h' : Al R l' m') : Al R (l ++ l') (m ++ m') := by
  induction h with
  | nil => exact h'
  | cons h1 _ ih => exact .cons h1 ih
theorem Al.len {l : List α} {m : List β} (h : Al R l m) : l.length = m.length := by
  induction h with
  | nil => rfl
  | cons _ _ ih => simp [ih]
theorem Al.at_ {l : List α} {m : List β} (h : Al R l m) : ∀ {i : Nat} {y : β}, m[i]? = some y → ∃ x, l[i]? = some x ∧ R x y := by
  induction h with
  | nil => intro i y h; simp at h
  | cons h1 _ ih =>
    intro i y h
    cases i with
    | zero => simp at h; subst h; exact ⟨_, rfl, h1⟩
    | succ i => simpa using ih (by simpa using h)
theorem Al.set {l : List α} {m : List β} (h : Al R l m) : ∀ {i : Nat} {x : α} {y : β}, R x y → Al R (l.set i x) (m.set i y) := by
  induction h with
  | nil => intro i x y _; exact .nil
  | cons h1 h2 ih =>
    intro i x y hr
    cases i with
    | zero => exact .cons hr h2
    | succ i => exact .cons h1 (ih hr)
theorem Al.take {l : List α} {m : List β} (h : Al R l m) : ∀ (n : Nat), Al R (l.take n) (m.take n) := by
  induction h with
  | nil => intro n; simp; exact .nil
  | cons h1 _ ih =>
    intro n
    cases n with
    | zero => exact .nil
    | succ n => exact .cons h1 (ih n)
theorem Al.drop {l : List α} {m : List β} (h : Al R l m) : ∀ (n : Nat), Al R (l.drop n) (m.drop n) := by
  induction h with
  | nil => intro n; simp; exact .nil
  | cons h1 h2 ih =>
    intro n
    cases n with
    | zero => exact .cons h1 h2
    | succ n => exact ih n
theorem Al.of_map {g : β → α} (hg : ∀ y, R (g y) y) : ∀ (m : List β), Al R (m.map g) m
  | [] => .nil
  | y :: m => .cons (hg y) (Al.of_map hg m)
end
/-- Cells that tell x, the slices within read through O. -/
def rp {α : Type} (t : Fl α) (O : Nat → Prop) (W : World) (cs : List Value) (x : α) : Prop := ∃ u, t.ok O W u x ∧ cs = t.enc u x
section
variable {α : Type} {t : Fl α} {O O' : Nat → Prop} {W W' : World}
theorem rp.len {cs : List Value} {x : α} (h : rp t O W cs x) : cs.length = t.sz := by obtain ⟨u, _, rfl⟩ := h; exact t.len u x
theorem rp.one {cs : List Value} {x : α} (h : rp t O W cs x) : ∀ v ∈ cs, v.oneCell' = true := by obtain ⟨u, _, rfl⟩ := h; exact t.one u x
theorem rp.loc {cs : List Value} {x : α} (h : rp t O W cs x) (hs : ∀ b, O b → O' b) (hb : ∀ b, O b → W'.heap[b]? = W.heap[b]?) : rp t O' W' cs x := by
  obtain ⟨u, h1, h2⟩ := h; exact ⟨u, t.loc h1 hs hb, h2⟩
theorem flat_len {css : List (List Value)} {l : List α} (h : Al (rp t O W) css l) : css.flatten.length = l.length * t.sz := by
  induction h with
  | nil => simp
  | cons h1 _ ih => rw [List.flatten_cons, List.length_append, h1.len, ih, List.length_cons, Nat.succ_mul, Nat.add_comm]
theorem flat_at {css : List (List Value)} {l : List α} (h : Al (rp t O W) css l) : ∀ {i : Nat} {cs : List Value}, css[i]? = some cs → ∀ {j : Nat} {u : Value}, cs[j]? = some u → css.flatten[i * t.sz + j]? = some u := by
  induction h with
  | nil => intro i cs h; simp at h
  | cons h1 _ ih =>
    intro i cs hi j u hu
    cases i with
    | zero =>
      simp at hi; subst hi
      rw [List.flatten_cons, Nat.zero_mul, Nat.zero_add, List.getElem?_append_left (List.getElem?_eq_some_iff.1 hu).1]; exact hu
    | succ i =>
      have ih := ih (by simpa using hi) hu
      rw [List.flatten_cons, List.getElem?_append_right (by rw [h1.len, Nat.succ_mul]; omega), h1.len]
      rw [show (i + 1) * t.sz + j - t.sz = i * t.sz + j from by rw [Nat.succ_mul]; omega]; exact ih
theorem flat_inv {css : List (List Value)} {l : List α} (h : Al (rp t O W) css l) : ∀ {j : Nat} {u : Value}, css.flatten[j]? = some u → ∃ (i : Nat) (cs : List Value) (k : Nat), css[i]? = some cs ∧ cs[k]? = some u ∧ j = i * t.sz + k := by
  induction h with
  | nil => intro j u h; simp at h
  | @cons a b l m h1 _ ih =>
    intro j u h
    rw [List.flatten_cons] at h
    by_cases hj : j < t.sz
    · rw [List.getElem?_append_left (by rw [h1.len]; exact hj)] at h
      exact ⟨0, a, j, rfl, h, by omega⟩
    · rw [List.getElem?_append_right (by rw [h1.len]; omega), h1.len] at h
      obtain ⟨i, x, k, h1, h2, h3⟩ := ih h
      exact ⟨i + 1, x, k, by simpa using h1, h2, by rw [Nat.succ_mul]; omega⟩
theorem flat_set {css : List (List Value)} {l : List α} (h : Al (rp t O W) css l) : ∀ {i : Nat} {cs : List Value} (_ : css[i]? = some cs) (fo : Nat) (vs : List Value) (_ : fo + vs.length ≤ t.sz),
    (css.set i (cs.take fo ++ vs ++ cs.drop (fo + vs.length))).flatten = css.flatten.take (i * t.sz + fo) ++ vs ++ css.flatten.drop (i * t.sz + fo + vs.length) := by
  induction h with
  | nil => intro i cs h; simp at h
  | @cons a b l m h1 _ ih =>
    intro i cs hi fo vs hfo
    have hl := h1.len
    cases i with
    | zero =>
      simp at hi; subst hi
      rw [List.set_cons_zero, List.flatten_cons, List.flatten_cons, Nat.zero_mul, Nat.zero_add, List.take_append_of_le_length (by omega), List.drop_append_of_le_length (by omega)]
      simp [List.append_assoc]
    | succ i =>
      rw [List.set_cons_succ, List.flatten_cons, List.flatten_cons, ih (by simpa using hi) fo vs hfo]
      rw [show (i + 1) * t.sz + fo = a.length + (i * t.sz + fo) by rw [Nat.succ_mul, hl]; omega, Nat.add_assoc a.length, List.take_length_add_append, List.drop_length_add_append]
      simp [List.append_assoc]
theorem flat_take {css : List (List Value)} {l : List α} (h : Al (rp t O W) css l) : ∀ (n : Nat), (css.take n).flatten = css.flatten.take (n * t.sz) := by
  induction h with
  | nil => intro n; simp
  | @cons a b l m h1 _ ih =>
    intro n
    cases n with
    | zero => simp
    | succ n =>
      rw [List.take_succ_cons, List.flatten_cons, List.flatten_cons, ih n, show (n + 1) * t.sz = a.length + n * t.sz by rw [Nat.succ_mul, h1.len]; omega, List.take_length_add_append]
end
/-- The cells of W from b, o on. -/
def CellsAt (W : World) (b o : Nat) (cs : List Value) : Prop := ∀ (j : Nat) (u : Value), cs[j]? = some u → W.cell? ⟨b, o + j, none⟩ = some u
theorem CellsAt.drop {W : World} {b o : Nat} {cs : List Value} (h : CellsAt W b o cs) (k : Nat) : CellsAt W b (o + k) (cs.drop k) := fun j u hu => by
  rw [List.getElem?_drop] at hu
  rw [Nat.add_assoc]; exact h _ u hu
theorem CellsAt.take {W : World} {b o : Nat} {cs : List Value} (h : CellsAt W b o cs) (k : Nat) : CellsAt W b o (cs.take k) := fun j u hu => by
  rw [List.getElem?_take] at hu
  split at hu
  · exact h _ u hu
  · cases hu
theorem CellsAt.loc {W W' : World} {b o : Nat} {cs : List Value} (h : CellsAt W b o cs) (hb : W'.heap[b]? = W.heap[b]?) : CellsAt W' b o cs := fun j u hu => (World.cell?_of_block (a := ⟨b, _, none⟩) hb).trans (h j u hu)
/-- The slice value reads as the list, its cells, and those within, in blocks of S. -/
structure Sl {α : Type} (S : Nat → Prop) (W : World) (t : Fl α) (A : Option Addr) (c : Nat) (l : List α) : Prop where
  form : SlF A l.length c
  cells : ∀ (i : Nat) (x : α), l[i]? = some x → S (adB A) ∧ ∃ u, t.ok S W u x ∧ CellsAt W (adB A) (adO A + i * t.sz) (t.enc u x)
/-- Below a number. -/
def lo (B : Nat) : Nat → Prop := fun b => b < B
section
variable {α : Type} {S S' : Nat → Prop} {W W' : World} {t : Fl α} {A : Option Addr} {c B : Nat} {l : List α}
theorem Sl.nil (S : Nat → Prop) (W : World) (t : Fl α) : Sl S W t none 0 [] := ⟨slf_nil, fun i x h => by simp at h⟩
theorem Sl.go (h : Sl S W t A c l) (hS : ∀ b, S b → S' b) (hs : ∀ b, S b → W'.heap[b]? = W.heap[b]?) : Sl S' W' t A c l :=
  ⟨h.form, fun i x hx => by
    obtain ⟨h1, u, h2, h3⟩ := h.cells i x hx
    exact ⟨hS _ h1, u, t.loc h2 hS hs, h3.loc (hs _ h1)⟩⟩
theorem Sl.loc (h : Sl S W t A c l) (hs : ∀ b, S b → W'.heap[b]? = W.heap[b]?) : Sl S W' t A c l := h.go (fun _ hb => hb) hs
theorem Sl.mono (h : Sl S W t A c l) (hs : ∀ b, S b → S' b) : Sl S' W t A c l := h.go hs (fun _ _ => rfl)
theorem Sl.atF {e : α → List Value} (he : ∀ u x, t.enc u x = e x) (h : Sl S W t A c l) {i : Nat} {x : α} (hx : l[i]? = some x) : S (adB A) ∧ CellsAt W (adB A) (adO A + i * t.sz) (e x) := by
  obtain ⟨h1, u, _, h3⟩ := h.cells i x hx
  exact ⟨h1, he u x ▸ h3⟩
/-- All cells. -/
theorem Sl.all (h : Sl S W t A c l) : ∃ css, Al (rp t S W) css l ∧ CellsAt W (adB A) (adO A) css.flatten := by
  have key : ∀ (m : List α) (o : Nat), (∀ (i : Nat) (x : α), m[i]? = some x → ∃ u, t.ok S W u x ∧ CellsAt W (adB A) (o + i * t.sz) (t.enc u x)) → ∃ css, Al (rp t S W) css m ∧ CellsAt W (adB A) o css.flatten := by
    intro m
    induction m with
    | nil => intro o _; exact ⟨[], .nil, fun j u hu => by simp at hu⟩
    | cons y m ih =>
      intro o hm
      obtain ⟨u, h1, h2⟩ := hm 0 y rfl
      obtain ⟨css, h3, h4⟩ := ih (o + t.sz) (fun i x hx => by
        have := hm (i + 1) x (by simpa using hx)
        rwa [show o + (i + 1) * t.sz = o + t.sz + i * t.sz by rw [Nat.succ_mul]; omega] at this)
      refine ⟨t.enc u y :: css, .cons ⟨u, h1, rfl⟩ h3, fun j v hv => ?_⟩
      rw [List.flatten_cons] at hv
      by_cases hj : j < t.sz
      · rw [List.getElem?_append_left (by rw [t.len]; exact hj)] at hv
        have := h2 j v hv
        simpa using this
      · rw [List.getElem?_append_right (by rw [t.len]; omega), t.len] at hv
        have := h4 _ v hv
        rwa [show o + t.sz + (j - t.sz) = o + j by omega] at this
  exact key l (adO A) (fun i x hx => (h.cells i x hx).2)
end
section
variable {α : Type} {w w' : Bs} {W : World} {E : Nat → Ent} {t : Fl α} {A : Option Addr} {c b o : Nat} {l : List α} {cs : List Value}
/-- What is written no more reads the same from a later base. -/
theorem Sl.le (h : Sl w.O w.W t A c l) (hle : w.Le w') : Sl w'.O w'.W t A c l := h.go hle.sub (fun b hb => hle.blk b (.inl hb))
theorem Sl.leR (h : Sl w.R w.W t A c l) (hle : w.Le w') : Sl w'.R w'.W t A c l := h.go hle.r (fun b hb => hle.blk b hb)
theorem Sl.rl (h : Sl w.O w.W t A c l) : Sl w.R w.W t A c l := h.mono (fun _ hb => .inl hb)
theorem Sl.inW (h : Sl w.R w.W t A c l) (hW : HF w W E) : Sl w.R W t A c l := h.loc hW.keep
theorem rp.le {x : α} (h : rp t w.O w.W cs x) (hle : w.Le w') : rp t w'.O w'.W cs x := h.loc hle.sub (fun b hb => hle.blk b (.inl hb))
theorem rp.inW {x : α} (h : rp t w.O w.W cs x) (hW : HF w W E) : rp t w.O W cs x := h.loc (fun _ hb => hb) (fun b hb => hW.keep b (.inl hb))
theorem rp.off {x : α} (h : rp t w.O W cs x) (hW : HF w W E) : rp t w.O w.W cs x := h.loc (fun _ hb => hb) (fun b hb => (hW.keep b (.inl hb)).symm)
/-- Cells that can be read wherever the state holds. -/
theorem rdR (hb : w.R b) (hc : CellsAt w.W b o cs) (hW : HF w W E) : CellsAt W b o cs := hc.loc (hW.keep b hb)
theorem rdF {e : α → List Value} (he : ∀ u x, t.enc u x = e x) (h : Sl w.R w.W t A c l) {i : Nat} {x : α} (hx : l[i]? = some x) (hW : HF w W E) : CellsAt W (adB A) (adO A + i * t.sz) (e x) :=
  rdR (h.atF he hx).1 (h.atF he hx).2 hW
theorem rdb {k T : Nat} {vs : List Value} (hW : HF w W E) (hk : E k = bx b vs.toArray T) (o : Nat) : CellsAt W b o (vs.drop o) := fun j u hu => by
  rw [cell_of_row W b (o + j) vs.toArray T (0, 0) (hW.bx hk)]
  rw [List.getElem?_drop] at hu
  simpa using hu
end
/-- A slice of the call's own. -/
def ow {α : Type} (A : Option Addr) (c T : Nat) (t : Fl α) (l : List α) : Ent :=
  ⟨fun b => (Value.slice A l.length c).ownBlock = some b, fun O W => ∃ css, Al (rp t O W) css l ∧ W.ownsRow 0 T t.sz (.slice A l.length c) l.length css.flatten⟩
theorem ow_loc {α : Type} (A : Option Addr) (c T : Nat) (t : Fl α) (l : List α) : (ow A c T t l).loc := ⟨fun O W W' h hp => by
  obtain ⟨css, h0, h1, h2⟩ := hp
  refine ⟨css, h0.mono (fun _ _ hr => hr.loc (fun _ hb => hb) (fun b hb => h b (.inl hb))), h1, ?_⟩
  rcases h2 with h2 | ⟨g, cap, cur, hv, hg, hh, r⟩
  · exact .inl h2
  · exact .inr ⟨g, cap, cur, hv, hg, (h g (.inr (by show (Value.slice A l.length c).ownBlock = some g; rw [hv]; rfl))).trans hh, r⟩,
  fun O O' W h hp => by
    obtain ⟨css, h0, h1⟩ := hp
    exact ⟨css, h0.mono (fun _ _ hr => hr.loc h (fun _ _ => rfl)), h1⟩⟩
section
variable {α : Type} {w : Bs} {W : World} {E : Nat → Ent} {t : Fl α} {A : Option Addr} {c T : Nat} {l : List α}
theorem owns_sl {O : Nat → Prop} {css : List (List Value)} (h0 : Al (rp t O W) css l) (h : W.ownsRow 0 T t.sz (.slice A l.length c) l.length css.flatten) : Sl (fun b => O b ∨ (Value.slice A l.length c).ownBlock = some b) W t A c l := by
  obtain ⟨_, h2⟩ := h
  rcases h2 with ⟨e, h0⟩ | ⟨g, cap, cur, e, _, hh, hn, hc, hs, ht⟩
  · have hl : l = [] := List.eq_nil_of_length_eq_zero h0
    subst hl
    simp at e
    obtain ⟨rfl, rfl⟩ := e
    exact Sl.nil _ _ _
  · simp at e
    obtain ⟨rfl, rfl⟩ := e
    refine ⟨⟨hn, hc, fun _ => rfl⟩, fun i x hx => ⟨.inr rfl, ?_⟩⟩
    obtain ⟨cs, hcs, u, hu, rfl⟩ := h0.at_ hx
    refine ⟨u, t.loc hu (fun _ hb => .inl hb) (fun _ _ => rfl), fun j v hv => ?_⟩
    have hf := flat_at h0 hcs hv
    rw [← ht, List.getElem?_take] at hf
    split at hf
    · show W.cell? ⟨g, 0 + i * t.sz + j, none⟩ = some v
      rw [cell_of_row W g _ cur T (0, 0) hh, Nat.zero_add, ← Array.getElem?_toList]; exact hf
    · cases hf
theorem HF.ow (h : HF w W E) {k : Nat} (hk : E k = Proofs.Ytfddmjoldoddlaa.ow A c T t l) : ∃ css, Al (rp t w.O W) css l ∧ W.ownsRow 0 T t.sz (.slice A l.length c) l.length css.flatten := by
  have := h.phi k
  rw [hk] at this; exact this
theorem HF.sl (h : HF w W E) {k : Nat} (hk : E k = Proofs.Ytfddmjoldoddlaa.ow A c T t l) : Sl (fun b => w.O b ∨ (E k).S b) W t A c l := by
  obtain ⟨css, h0, h1⟩ := h.ow hk
  rw [hk]
  exact owns_sl h0 h1
theorem HF.slB (h : HF w W E) {k : Nat} (hk : E k = Proofs.Ytfddmjoldoddlaa.ow A c T t l) : Sl (lo W.heap.size) W t A c l := (h.sl hk).mono (fun b hb => by
  rcases hb with hb | hb
  · exact h.rlt (.inl hb)
  · exact (h.bd k b hb).2)
theorem HF.atN (h : HF w W E) {k : Nat} (hk : E k = Proofs.Ytfddmjoldoddlaa.ow A c T t l) {i : Nat} {x : α} (hx : l[i]? = some x) : ∃ u, t.ok w.O w.W u x ∧ CellsAt W (adB A) (adO A + i * t.sz) (t.enc u x) := by
  obtain ⟨css, h0, h1⟩ := h.ow hk
  obtain ⟨cs, hcs, u, hu, rfl⟩ := h0.at_ hx
  have hu' : t.ok w.O w.W u x := t.loc hu (fun _ hb => hb) (fun b hb => (h.keep b (.inl hb)).symm)
  refine ⟨u, hu', fun j v hv => ?_⟩
  obtain ⟨_, h2⟩ := h1
  rcases h2 with ⟨e, h0⟩ | ⟨g, cap, cur, e, _, hh, hn, hc, hs, ht⟩
  · have hl : l = [] := List.eq_nil_of_length_eq_zero h0
    subst hl; simp at hx
  · simp at e
    obtain ⟨rfl, rfl⟩ := e
    have hf := flat_at h0 hcs hv
    rw [← ht, List.getElem?_take] at hf
    split at hf
    · show W.cell? ⟨g, 0 + i * t.sz + j, none⟩ = some v
      rw [cell_of_row W g _ cur T (0, 0) hh, Nat.zero_add, ← Array.getElem?_toList]; exact hf
    · cases hf
theorem rdo {e : α → List Value} (he : ∀ u x, t.enc u x = e x) {k : Nat} (hW : HF w W E) (hk : E k = Proofs.Ytfddmjoldoddlaa.ow A c T t l) {i : Nat} {x : α} (hx : l[i]? = some x) : CellsAt W (adB A) (adO A + i * t.sz) (e x) := by
  obtain ⟨u, _, h⟩ := hW.atN hk hx
  exact he u x ▸ h
/-- A slice of the call's own, its part written no more. -/
theorem HF.slRaise (h : HF w W E) {k : Nat} (hk : E k = Proofs.Ytfddmjoldoddlaa.ow A c T t l) : Sl (h.raise k).O (h.raise k).W t A c l := h.sl hk
end
/-- A type's size and kind, off the program's table. -/
def szOf (P : Program) (T : Nat) : Option Nat := (P.info? T).map (·.size)
def aggOf (P : Program) (T : Nat) : Option Bool := (P.underlying T).map fun d => match d with | .struct _ | .array _ _ => true | _ => false
def zeroOf (P : Program) (T : Nat) : Option (List Value) := ((P.info? T).bind (·.zero)).map (·.cells.toList)
def fieldOf (P : Program) (T i : Nat) : Option Nat := match P.underlying T with
  | some (.struct fs) => (fs[i]?).bind fun fd => match szOf P fd.type with | some (_ + 1) => some fd.offset | _ => none
  | _ => none
def elemOf? (P : Program) (T : Nat) : Option (Nat × Nat) := match P.underlying T with | some (.slice e) => (szOf P e).map fun n => (e, n) | _ => none
section
variable {P : Program} {ρ : Operand → Value} {W : World} {d : Option Tmp} {ty T T' : TypeId} {pos : String} {af : Array Edge} {g : Option (Nat × Bool)} {p q : Operand} {u v : Value} {i j : Int} {k : IntKind}
theorem run_sizeOf {n : Nat} (h : szOf P T = some n) : (sizeOf T).run P W = .ok n W := by
  unfold szOf at h
  cases hi : P.info? T with
  | none => rw [hi] at h; cases h
  | some x => rw [hi] at h; simp at h; subst h; simp [sizeOf, typeInfo, hi]
theorem run_isAgg {b : Bool} (h : aggOf P T = some b) : (isAgg T).run P W = .ok b W := by
  unfold aggOf at h
  cases hi : P.underlying T with
  | none => rw [hi] at h; cases h
  | some x => rw [hi] at h; simp at h; subst h; simp [isAgg, run_underlying hi]; cases x <;> rfl
theorem run_zero {cs : List Value} (h : zeroOf P T = some cs) : ∃ z, (zeroValue T).run P W = .ok z W ∧ z.cells = cs.toArray := by
  unfold zeroOf at h
  cases hi : P.info? T with
  | none => rw [hi] at h; cases h
  | some x =>
    cases hz : x.zero with
    | none => rw [hi] at h; simp [hz] at h
    | some z => rw [hi] at h; simp [hz] at h; subst h; exact ⟨z, by simp [zeroValue, typeInfo, hi, hz], by simp⟩
theorem run_load1 {b o : Nat} {cs : List Value} (ha : aggOf P T = some false) (hp : ρ p = .pointer (some ⟨b, o, none⟩)) (hc : CellsAt W b o cs) (hv : cs[0]? = some v) : (execOp ρ ⟨d, .load T p, ty, pos, af, g⟩).run P W = .ok (.value v) W := by
  have hcell : W.cell? ⟨b, o, none⟩ = some v := hc 0 v hv
  simp [execOp, hp, Instr.loadAt, Instr.sureAddr, loadVar, run_isAgg ha, hcell]
theorem run_loadN {b o n : Nat} {cs : List Value} (ha : aggOf P T = some true) (hs : szOf P T = some n) (hp : ρ p = .pointer (some ⟨b, o, none⟩)) (hc : CellsAt W b o cs) (hn : Nat.beq cs.length n = true) : (execOp ρ ⟨d, .load T p, ty, pos, af, g⟩).run P W = .ok (.value (.agg cs.toArray)) W := by
  have hn' := Nat.eq_of_beq_eq_true hn
  subst hn'
  have hl : (loadCells ⟨b, o, none⟩ cs.length).run P W = .ok cs.toArray W := run_loadCells_list W ⟨b, o, none⟩ cs (fun j u hu => by rw [Addr.add_lit]; exact hc j u hu)
  simp [execOp, hp, Instr.loadAt, Instr.sureAddr, loadVar, run_isAgg ha, run_sizeOf hs, hl]
theorem run_fieldAddr {b o m fo : Nat} (hf : fieldOf P T m = some fo) (hp : ρ p = .pointer (some ⟨b, o, none⟩)) : (execOp ρ ⟨d, .fieldAddr T p m, ty, pos, af, g⟩).run P W = .ok (.value (.pointer (some ⟨b, o + fo, none⟩))) W := by
  unfold fieldOf at hf
  split at hf
  · rename_i fs hu
    cases hfd : fs[m]? with
    | none => rw [hfd] at hf; cases hf
    | some fd =>
      rw [hfd] at hf
      simp only [Option.bind_some] at hf
      split at hf
      · rename_i n hn
        simp at hf; subst hf
        simp [execOp, hp, Instr.fieldAt, Instr.sureAddr, fieldPlace, run_underlying hu, hfd, run_sizeOf hn, Addr.add_lit]
      · cases hf
  · cases hf
theorem run_indexAddr {e sz n c : Nat} {A : Option Addr} (he : elemOf? P T = some (e, sz)) (hp : ρ p = .slice A n c) (hf : SlF A n c) (hq : ρ q = .int k i) (h0 : 0 ≤ i) (h1 : i.toNat < n) :
    (execOp ρ ⟨d, .indexAddr T p q, ty, pos, af, g⟩).run P W = .ok (.value (.pointer (some ⟨adB A, adO A + i.toNat * sz, none⟩))) W := by
  have hA := hf.2.2 (by omega)
  unfold elemOf? at he
  split at he
  · rename_i e' hu
    cases hs : szOf P e' with
    | none => rw [hs] at he; cases he
    | some n' =>
      rw [hs] at he; simp at he; obtain ⟨rfl, rfl⟩ := he
      have h2 : i < (n : Int) := by omega
      rw [hA] at hp
      simp [execOp, hp, hq, Instr.indexAt, asIntOf, run_underlying hu, run_sizeOf hs, h0, h2, Addr.add_lit]
  · cases he
theorem run_len {e n c : Nat} {A : Option Addr} (hu : P.underlying T = some (.slice e)) (hp : ρ p = .slice A n c) : (execOp ρ ⟨d, .call ⟨.builtin .len, #[p], #[T]⟩, ty, pos, af, g⟩).run P W = .ok (.value (.int .i64 n)) W := by
  simp [execOp, go_sem, hp, Builtin.len_, run_underlying hu]
theorem run_build {ps : Array (Nat × Operand)} {vs : List (Nat × Value)} {cs : Array Value} (hv : (ps.map fun (i, x) => (i, ρ x)).toList = vs) (hb : P.built T vs = some cs) : (execOp ρ ⟨d, .build T ps, ty, pos, af, g⟩).run P W = .ok (.value (.agg cs)) W := by
  rw [← hv] at hb
  have := Go.run_build (P := P) W T _ cs hb
  simp [execOp, this]
theorem run_alloc {cs : List Value} (hz : zeroOf P T = some cs) : (execOp ρ ⟨d, .alloc T, ty, pos, af, g⟩).run P W = .ok (.value (.pointer (some ⟨W.heap.size, 0, none⟩))) (W.alloc (.cells cs.toArray T)) := by
  obtain ⟨z, h1, h2⟩ := run_zero (W := W) hz
  simp [execOp, Instr.alloc, h1, newVar, newRow, h2]
theorem run_box {cs : Array Value} (hp : ρ p = v) (hc : v.cells = cs) : (execOp ρ ⟨d, .box T p, ty, pos, af, g⟩).run P W = .ok (.value (.pointer (some ⟨W.heap.size, 0, none⟩))) (W.alloc (.cells cs T)) := by
  simp [execOp, hp, Instr.box, newVar, newRow, hc]
theorem run_store {b o T2 : Nat} {vs cs : List Value} (hs : szOf P T = some cs.length) (hp : ρ p = .pointer (some ⟨b, o, none⟩)) (hq : ρ q = v) (hv : v.cells = cs.toArray) (hh : W.heap[b]? = some (.cells vs.toArray T2 (0, 0)))
    (hfit : Nat.ble (o + cs.length) vs.length = true) (h1 : cs.all (·.oneCell') = true) : (execOp ρ ⟨d, .store T p q, ty, pos, af, g⟩).run P W = .ok .skip (W.setRow b (vs.take o ++ cs ++ vs.drop (o + cs.length)).toArray) := by
  have hst := run_storeCells_at P b o T2 cs 0 vs.toArray W hh (by have := Nat.le_of_ble_eq_true hfit; simpa using this) (fun u hu => List.all_eq_true.1 h1 u hu)
  simp only [Nat.add_zero] at hst
  simp [execOp, hp, hq, Instr.storeAt, Instr.sureAddr, storeVar, hv, run_sizeOf hs, hst]
end
end Go.Proofs.Ytfddmjoldoddlaa
