/- Maps of the call's own, from integers to slices of the call's own. Over any program. Conditions: none beyond each theorem's own. -/
import Derived.Test.YtfddmjoldoddlaaH22
import Derived.Maps.Keyed
import Derived.Carry
namespace Go.Proofs.Ytfddmjoldoddlaa
open Go.RowKit Go.Proofs
open Go.ChangeMaps Go.MapKept
open Go.Maps (Keyed int_keyed keyOf_int_mk)
section words
variable {α : Type}
/-- What a map has at a key; nothing: the empty list. -/
def mget : List (Int × List α) → Int → List α
  | [], _ => []
  | p :: m, k => if p.1 = k then p.2 else mget m k
/-- A map with a list at a key. -/
def mput : List (Int × List α) → Int → List α → List (Int × List α)
  | [], k, v => [(k, v)]
  | p :: m, k, v => if p.1 = k then (k, v) :: m else p :: mput m k v
/-- A map in which the list at a key, if it is there, is another one. -/
def mset : List (Int × List α) → Int → List α → List (Int × List α)
  | [], _, _ => []
  | p :: m, k, v => if p.1 = k then (k, v) :: m else p :: mset m k v
def inR (k : Int) : Bool := decide (-9223372036854775808 ≤ k) && decide (k ≤ 9223372036854775807)
def mgetO (m : List (Int × List α)) (k : Int) : Option (List α) := if inR k = true then some (mget m k) else none
def mputO (m : List (Int × List α)) (k : Int) (l : List α) : Option (List (Int × List α)) := if inR k = true ∧ 0 < l.length then some (mput m k l) else none
/-- An entry: its key, where its slice lies, what this holds, and whether it is the map's own. -/
structure ME (α : Type) where
  k : Int
  A : Option Addr
  c : Nat
  l : List α
  own : Bool
def ME.hd (e : ME α) : Value := .slice e.A e.l.length e.c
def ME.blk (e : ME α) (x : Nat) : Prop := e.own = true ∧ (Value.slice e.A e.l.length e.c).ownBlock = some x
def mdat (ms : List (ME α)) : List (Int × List α) := ms.map fun e => (e.k, e.l)
def mhd : List (ME α) → Int → Value
  | [], _ => .slice none 0 0
  | e :: ms, k => if e.k = k then e.hd else mhd ms k
def mtake : List (ME α) → Int → List (ME α)
  | [], _ => []
  | e :: ms, k => if e.k = k then { e with own := false } :: ms else e :: mtake ms k
def meput : List (ME α) → Int → Option Addr → Nat → List α → List (ME α)
  | [], k, A, c, l => [⟨k, A, c, l, true⟩]
  | e :: ms, k, A, c, l => if e.k = k then ⟨k, A, c, l, true⟩ :: ms else e :: meput ms k A c l
def meset : List (ME α) → Int → List α → List (ME α)
  | [], _, _ => []
  | e :: ms, k, l => if e.k = k then { e with l := l, own := true } :: ms else e :: meset ms k l
theorem mdat_take (k : Int) : ∀ ms : List (ME α), mdat (mtake ms k) = mdat ms
  | [] => rfl
  | e :: ms => by
    unfold mtake
    split
    · rfl
    · show (e.k, e.l) :: mdat (mtake ms k) = (e.k, e.l) :: mdat ms
      rw [mdat_take k ms]
theorem mhd_take (k k' : Int) : ∀ ms : List (ME α), mhd (mtake ms k) k' = mhd ms k'
  | [] => rfl
  | e :: ms => by
    unfold mtake
    split
    · rfl
    · simp only [mhd]; rw [mhd_take k k' ms]
theorem mdat_put (k : Int) (A : Option Addr) (c : Nat) (l : List α) : ∀ ms : List (ME α), mdat (meput ms k A c l) = mput (mdat ms) k l
  | [] => rfl
  | e :: ms => by
    unfold meput
    show _ = mput ((e.k, e.l) :: mdat ms) k l
    unfold mput
    by_cases h : e.k = k
    · rw [if_pos h, if_pos h]; rfl
    · rw [if_neg h, if_neg h]
      show (e.k, e.l) :: mdat (meput ms k A c l) = _
      rw [mdat_put k A c l ms]
theorem mdat_set (k : Int) (l : List α) : ∀ ms : List (ME α), mdat (meset ms k l) = mset (mdat ms) k l
  | [] => rfl
  | e :: ms => by
    unfold meset
    show _ = mset ((e.k, e.l) :: mdat ms) k l
    unfold mset
    by_cases h : e.k = k
    · rw [if_pos h, if_pos h, ← h]; rfl
    · rw [if_neg h, if_neg h]
      show (e.k, e.l) :: mdat (meset ms k l) = _
      rw [mdat_set k l ms]
theorem mset_get : ∀ (m : List (Int × List α)) (k : Int), mset m k (mget m k) = m
  | [], _ => rfl
  | p :: m, k => by
    unfold mset mget
    by_cases h : p.1 = k
    · rw [if_pos h, if_pos h, ← h]
    · rw [if_neg h, if_neg h, mset_get m k]
/-- Either no entry has the key, or one has, at its place. -/
theorem me_at (k : Int) : ∀ ms : List (ME α), ((∀ e ∈ ms, e.k ≠ k) ∧ mget (mdat ms) k = [] ∧ mhd ms k = .slice none 0 0 ∧ mtake ms k = ms ∧ (∀ A c l, meput ms k A c l = ms ++ [⟨k, A, c, l, true⟩]) ∧ (∀ l, meset ms k l = ms)) ∨
    ∃ a e z, ms = a ++ e :: z ∧ e.k = k ∧ (∀ e' ∈ a, e'.k ≠ k) ∧ mget (mdat ms) k = e.l ∧ mhd ms k = e.hd ∧ mtake ms k = a ++ { e with own := false } :: z ∧ (∀ A c l, meput ms k A c l = a ++ ⟨k, A, c, l, true⟩ :: z) ∧ (∀ l, meset ms k l = a ++ { e with l := l, own := true } :: z)
  | [] => .inl ⟨fun _ h => (nomatch h), rfl, rfl, rfl, fun _ _ _ => rfl, fun _ => rfl⟩
  | e :: ms => by
    by_cases h : e.k = k
    · exact .inr ⟨[], e, ms, rfl, h, fun _ h => (nomatch h), by simp [mdat, mget, h], by simp [mhd, h], by simp [mtake, h], fun _ _ _ => by simp [meput, h], fun _ => by simp [meset, h]⟩
    · rcases me_at k ms with ⟨h1, h2, h3, h4, h5, h6⟩ | ⟨a, e0, z, h1, h2, h3, h4, h5, h6, h7, h8⟩
      · refine .inl ⟨fun e' he' => ?_, ?_, by simp [mhd, h, h3], by simp [mtake, h, h4], fun A c l => by simp [meput, h, h5], fun l => by simp [meset, h, h6]⟩
        · rcases List.mem_cons.1 he' with rfl | he'
          · exact h
          · exact h1 e' he'
        · show mget ((e.k, e.l) :: mdat ms) k = []
          unfold mget; rw [if_neg h, h2]
      · refine .inr ⟨e :: a, e0, z, by rw [h1]; rfl, h2, fun e' he' => ?_, ?_, by simp [mhd, h, h5], by simp [mtake, h, h6], fun A c l => by simp [meput, h, h7], fun l => by simp [meset, h, h8]⟩
        · rcases List.mem_cons.1 he' with rfl | he'
          · exact h
          · exact h3 e' he'
        · show mget ((e.k, e.l) :: mdat ms) k = e0.l
          unfold mget; rw [if_neg h, h4]
end words
section
variable {P : Program} {w : Bs} {n : Nat} {f : Nat → Option Value} {E : Nat → Ent} {X : Act → World → Prop} {Q : Exit → Act → World → Prop} {ops : Array Oper} {rest : List Oper}
variable {d ty T MT KT VT : Nat} {pos : String} {af : Array Edge} {g : Option (Nat × Bool)} {p q x : Operand} {α : Type} {t : Fl α} {b : Nat} {ms : List (ME α)}
/-- A block is a map with these entries. -/
def mblk (W : World) (b : Nat) (kv : List (Value × Value)) : Prop := ∃ es clock, W.heap[b]? = some (.map es clock) ∧ es.toList.map (fun x => (x.key, x.val)) = kv
/-- A map of the call's own. -/
def mo (b T : Nat) (t : Fl α) (ms : List (ME α)) : Ent :=
  ⟨fun x => x = b ∨ ∃ e ∈ ms, e.blk x, fun O W => mblk W b (ms.map fun e => (Value.int .i64 e.k, e.hd)) ∧
    (∀ e ∈ ms, 0 < e.l.length ∧ inR e.k = true ∧ (∃ a, e.A = some a) ∧ SlF e.A e.l.length e.c ∧ (e.own = true → (ow e.A e.c T t e.l).φ O W)) ∧ (ms.Pairwise fun e e' => e.k ≠ e'.k ∧ ∀ x, e.blk x → ¬ e'.blk x) ∧ ∀ e ∈ ms, ¬ e.blk b⟩
theorem mblk_loc {W W' : World} {b : Nat} {kv : List (Value × Value)} (h : W'.heap[b]? = W.heap[b]?) (hp : mblk W b kv) : mblk W' b kv := by
  obtain ⟨es, clock, h1, h2⟩ := hp
  exact ⟨es, clock, h.trans h1, h2⟩
theorem mo_loc (b T : Nat) (t : Fl α) (ms : List (ME α)) : (mo b T t ms).loc := ⟨fun O W W' h hp => by
    obtain ⟨h1, h2, h3, h4⟩ := hp
    refine ⟨mblk_loc (h b (.inr (.inl rfl))) h1, fun e he => ⟨(h2 e he).1, (h2 e he).2.1, (h2 e he).2.2.1, (h2 e he).2.2.2.1, fun ho => (ow_loc e.A e.c T t e.l).at_ O W W' (fun x hx => h x ?_) ((h2 e he).2.2.2.2 ho)⟩, h3, h4⟩
    rcases hx with hx | hx
    · exact .inl hx
    · exact .inr (.inr ⟨e, he, ho, hx⟩),
  fun O O' W h hp => by
    obtain ⟨h1, h2, h3, h4⟩ := hp
    exact ⟨h1, fun e he => ⟨(h2 e he).1, (h2 e he).2.1, (h2 e he).2.2.1, (h2 e he).2.2.2.1, fun ho => (ow_loc e.A e.c T t e.l).up O O' W h ((h2 e he).2.2.2.2 ho)⟩, h3, h4⟩⟩
theorem HF.split {W : World} (h : HF w W E) {κ κ' : Nat} {e1 e2 : Ent} (hne : κ' ≠ κ) (l1 : e1.loc) (l2 : e2.loc) (p1 : e1.φ w.O W) (p2 : e2.φ w.O W) (s1 : ∀ b, e1.S b → (E κ).S b) (s2 : ∀ b, e2.S b → (E κ).S b) (hd : ∀ b, e1.S b → ¬ e2.S b) :
    HF w W (up (up E κ e1) κ' e2) where
  os := h.os
  tape := h.tape
  output := h.output
  size := h.size
  drawn := h.drawn
  keep := h.keep
  phi j := by
    rcases up_cases (up E κ e1) κ' e2 j with ⟨_, h2⟩ | ⟨_, h2⟩ <;> rw [h2]
    · exact p2
    · rcases up_cases E κ e1 j with ⟨_, h2⟩ | ⟨_, h2⟩ <;> rw [h2]
      · exact p1
      · exact h.phi j
  loc j := by
    rcases up_cases (up E κ e1) κ' e2 j with ⟨_, h2⟩ | ⟨_, h2⟩ <;> rw [h2]
    · exact l2
    · rcases up_cases E κ e1 j with ⟨_, h2⟩ | ⟨_, h2⟩ <;> rw [h2]
      · exact l1
      · exact h.loc j
  bd j x := by
    rcases up_cases (up E κ e1) κ' e2 j with ⟨_, h2⟩ | ⟨_, h2⟩ <;> rw [h2]
    · exact fun hx => h.bd κ x (s2 x hx)
    · rcases up_cases E κ e1 j with ⟨_, h2⟩ | ⟨_, h2⟩ <;> rw [h2]
      · exact fun hx => h.bd κ x (s1 x hx)
      · exact h.bd j x
  disj j j' x hjj := by
    rcases up_cases (up E κ e1) κ' e2 j with ⟨a1, a2⟩ | ⟨a1, a2⟩ <;> rw [a2]
    · rcases up_cases (up E κ e1) κ' e2 j' with ⟨b1, b2⟩ | ⟨b1, b2⟩ <;> rw [b2]
      · exact absurd (a1.trans b1.symm) hjj
      · rcases up_cases E κ e1 j' with ⟨c1, c2⟩ | ⟨c1, c2⟩ <;> rw [c2]
        · exact fun hx hy => hd x hy hx
        · exact fun hx => h.disj κ j' x (fun e => c1 e.symm) (s2 x hx)
    · rcases up_cases (up E κ e1) κ' e2 j' with ⟨b1, b2⟩ | ⟨b1, b2⟩ <;> rw [b2]
      · rcases up_cases E κ e1 j with ⟨c1, c2⟩ | ⟨c1, c2⟩ <;> rw [c2]
        · exact fun hx => hd x hx
        · exact fun hx hy => h.disj j κ x c1 hx (s2 x hy)
      · rcases up_cases E κ e1 j with ⟨c1, c2⟩ | ⟨c1, c2⟩ <;> rw [c2]
        · rcases up_cases E κ e1 j' with ⟨d1, d2⟩ | ⟨d1, d2⟩ <;> rw [d2]
          · exact absurd (c1.trans d1.symm) hjj
          · exact fun hx => h.disj κ j' x (fun e => d1 e.symm) (s1 x hx)
        · rcases up_cases E κ e1 j' with ⟨d1, d2⟩ | ⟨d1, d2⟩ <;> rw [d2]
          · exact fun hx hy => h.disj j κ x c1 hx (s1 x hy)
          · exact h.disj j j' x hjj
theorem HF.merge {W W' : World} (h : HF w W E) {κ κ' : Nat} (e : Ent) (hne : κ' ≠ κ) (hos : W'.os = W.os) (htp : W'.tape = W.tape) (hou : W'.output = W.output) (hsz : W.heap.size ≤ W'.heap.size) (hdr : W.drawn ≤ W'.drawn)
    (hbl : ∀ x, x < W.heap.size → ¬ (E κ).S x → W'.heap[x]? = W.heap[x]?) (he : e.loc) (hp : e.φ w.O W') (hS : ∀ x, e.S x → (E κ).S x ∨ (E κ').S x) : HF w W' (up (up E κ' emp) κ e) where
  os := hos.trans h.os
  tape := htp.trans h.tape
  output := hou.trans h.output
  size := Nat.le_trans h.size hsz
  drawn := Nat.le_trans h.drawn hdr
  keep x hx := (hbl x (h.rlt hx) (fun hs => (h.bd κ x hs).1 hx)).trans (h.keep x hx)
  phi j := by
    rcases up_cases (up E κ' emp) κ e j with ⟨_, h2⟩ | ⟨h1, h2⟩ <;> rw [h2]
    · exact hp
    · rcases up_cases E κ' emp j with ⟨_, h3⟩ | ⟨h4, h3⟩ <;> rw [h3]
      · trivial
      · refine (h.loc j).at_ _ W W' (fun x hx => ?_) (h.phi j)
        rcases hx with hx | hx
        · exact hbl x (h.rlt (.inl hx)) (fun hs => (h.bd κ x hs).1 (.inl hx))
        · exact hbl x (h.bd j x hx).2 (fun hs => h.disj j κ x h1 hx hs)
  loc j := by
    rcases up_cases (up E κ' emp) κ e j with ⟨_, h2⟩ | ⟨_, h2⟩ <;> rw [h2]
    · exact he
    · rcases up_cases E κ' emp j with ⟨_, h2⟩ | ⟨_, h2⟩ <;> rw [h2]
      · exact emp_loc
      · exact h.loc j
  bd j x := by
    rcases up_cases (up E κ' emp) κ e j with ⟨_, h2⟩ | ⟨_, h2⟩ <;> rw [h2]
    · intro hx
      rcases hS x hx with hx | hx
      · exact ⟨(h.bd κ x hx).1, Nat.lt_of_lt_of_le (h.bd κ x hx).2 hsz⟩
      · exact ⟨(h.bd κ' x hx).1, Nat.lt_of_lt_of_le (h.bd κ' x hx).2 hsz⟩
    · rcases up_cases E κ' emp j with ⟨_, h2⟩ | ⟨_, h2⟩ <;> rw [h2]
      · exact fun hx => hx.elim
      · exact fun hx => ⟨(h.bd j x hx).1, Nat.lt_of_lt_of_le (h.bd j x hx).2 hsz⟩
  disj j j' x hjj := by
    rcases up_cases (up E κ' emp) κ e j with ⟨a1, a2⟩ | ⟨a1, a2⟩ <;> rw [a2]
    · rcases up_cases (up E κ' emp) κ e j' with ⟨b1, b2⟩ | ⟨b1, b2⟩ <;> rw [b2]
      · exact absurd (a1.trans b1.symm) hjj
      · rcases up_cases E κ' emp j' with ⟨c1, c2⟩ | ⟨c1, c2⟩ <;> rw [c2]
        · exact fun _ hy => hy
        · intro hx
          rcases hS x hx with hx | hx
          · exact h.disj κ j' x (fun e => b1 e.symm) hx
          · exact h.disj κ' j' x (fun e => c1 e.symm) hx
    · rcases up_cases (up E κ' emp) κ e j' with ⟨b1, b2⟩ | ⟨b1, b2⟩ <;> rw [b2]
      · rcases up_cases E κ' emp j with ⟨c1, c2⟩ | ⟨c1, c2⟩ <;> rw [c2]
        · exact fun hx => hx.elim
        · intro hx hy
          rcases hS x hy with hy | hy
          · exact h.disj j κ x a1 hx hy
          · exact h.disj j κ' x c1 hx hy
      · rcases up_cases E κ' emp j with ⟨c1, c2⟩ | ⟨c1, c2⟩ <;> rw [c2]
        · exact fun hx => hx.elim
        · rcases up_cases E κ' emp j' with ⟨d1, d2⟩ | ⟨d1, d2⟩ <;> rw [d2]
          · exact fun _ hy => hy
          · exact h.disj j j' x hjj
end
end Go.Proofs.Ytfddmjoldoddlaa
