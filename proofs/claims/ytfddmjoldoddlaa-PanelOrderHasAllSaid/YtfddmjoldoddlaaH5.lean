/- A region that draws its order: a head that reads and calls quietly, in the order of the text, and then a tail whose operations wait for one another. Conditions: none beyond each theorem's own. -/
import Derived.Test.YtfddmjoldoddlaaH4
namespace Go.Proofs.Ytfddmjoldoddlaa
open Go.RowKit
section
variable {P : Program} {ops : Array Oper} {C : World → Prop} {n : Nat}
/-- f operations of the head come up in whatever order, each quiet in C; then L. -/
def HeadAny (P : Program) (ops : Array Oper) (C : World → Prop) (n : Nat) (L : Array Bool → Act → Prop) : Nat → Array Bool → Act → Prop
  | 0, listed, a => L listed a
  | f + 1, listed, a => Region.ready .any ops listed ≠ [] ∧ ∀ i ∈ Region.ready .any ops listed, i < n ∧ qOp P ops C i (HeadAny P ops C n L f (listed.setIfInBounds i true)) a
theorem HeadAny.run {g : Nat} {L : Array Bool → Act → Prop} {Q : Exit → Act → World → Prop} (hL : ∀ listed a w, C w → L listed a → wpAny P .any ops Q g listed a w) :
    ∀ (f : Nat) (listed : Array Bool) (a : Act) (w : World), C w → HeadAny P ops C n L f listed a → wpAny P .any ops Q (f + g) listed a w
  | 0, listed, a, w, hw, h => by rw [Nat.zero_add]; exact hL listed a w hw h
  | f + 1, listed, a, w, hw, h => by
    rw [Nat.add_right_comm]
    exact ⟨fun e => absurd e h.1, fun i hi => wpOp_of_qOp hw (fun a' w' hw' hh => HeadAny.run hL f _ a' w' hw' hh) (h.2 i hi).2⟩
/-- An operation that may come up, and is apart from all that do not wait for it, may come up first. -/
theorem HeadAny.first {i : Nat} {oi : Oper} {v : Value} {L : Array Bool → Act → Prop} (hi : ops[i]? = some oi) (hsel : Region.noSelect ops = true) (hs : Region.sinkB .any ops n = true) (hc : Region.chainB .any ops n = true)
    (hn : n < ops.size) (hin : i < n) (hdone : ∀ listed a, L listed a → ∀ j ∈ Region.ready .any ops listed, n ≤ j) :
    ∀ (f : Nat) (listed : Array Bool) (a : Act), HeadInv .any ops n listed → i ∈ Region.ready .any ops listed → YieldsIn P ops C oi v a →
      (∀ j oj, ops[j]? = some oj → j ≠ i → listed.getD j true = false → (∀ e ∈ oj.after, Region.binds .any e = true → e.on ≠ i) → oi.apart ops oj = true) →
      HeadAny P ops C n L f (listed.setIfInBounds i true) (a.put oi.dst v) → HeadAny P ops C n L (f + 1) listed a := by
  have nosel := Region.noSelect_spec hsel
  intro f
  induction f with
  | zero =>
    intro listed a inv hr hy _ H
    refine ⟨fun e => (by rw [e] at hr; cases hr), fun j hj => ?_⟩
    have hjn : j < n := Nat.lt_of_not_le fun h => tail_waits hs hc hn inv _ i rfl hin (mem_ready.1 hr).1 j h hj
    by_cases e : j = i
    · subst e; exact ⟨hjn, hy.qOp hi H⟩
    · exact absurd (hdone _ _ H j (ready_mono hj e)) (by omega)
  | succ f ih =>
    intro listed a inv hr hy hfree H
    refine ⟨fun e => (by rw [e] at hr; cases hr), fun j hj => ?_⟩
    have hjn : j < n := Nat.lt_of_not_le fun h => tail_waits hs hc hn inv _ i rfl hin (mem_ready.1 hr).1 j h hj
    by_cases e : j = i
    · subst e; exact ⟨hjn, hy.qOp hi H⟩
    obtain ⟨hun, oj, hoj, hall⟩ := mem_ready.1 hj
    have hnw : ∀ x ∈ oj.after, Region.binds .any x = true → x.on ≠ i := fun x hx hb he => by
      have h1 := hall x hx hb
      rw [he, getD_both (mem_ready.1 hr).1] at h1
      cases h1
    have hq := qOp_put hoj (hfree j oj hoj e hun hnw) (fun cs b => nosel i oi cs b hi) (fun cs b => nosel j oj cs b hoj) hy (H.2 j (ready_mono hj e)).2
    refine ⟨hjn, qOp_mono (fun a' h => ih (listed.setIfInBounds j true) a' (inv.set hj hjn) (ready_mono hr (Ne.symm e)) h.1 (fun k ok hk hki hkun hno => ?_) ?_) hq⟩
    · refine hfree k ok hk hki ?_ hno
      by_cases ejk : j = k
      · subst ejk; exact hun
      · rw [getD_set_ne true ejk] at hkun; exact hkun
    · rw [Array.setIfInBounds_comm _ _ e]; exact h.2
theorem HeadAny.lex {g : Nat} {Lq : Act → Prop} (hsel : Region.noSelect ops = true) (hs : Region.sinkB .any ops n = true) (hc : Region.chainB .any ops n = true) (hn : n < ops.size) :
    ∀ (l : List Oper) (k : Nat) (listed : Array Bool) (a : Act), (∀ j, j < l.length → l[j]? = ops[k + j]?) → k + l.length = n → HeadInv .any ops n listed → Region.lexHead .any ops g l.length k listed = true →
      wpQuiet P ops C Lq l a → HeadAny P ops C n (fun listed' a' => Region.seqB .any ops g n listed' = true ∧ Lq a') l.length listed a
  | [], k, listed, a, _, hk, _, hB, h => by
    have : k = n := by simpa using hk
    subst this
    exact ⟨by simpa [Region.lexHead] using hB, h⟩
  | o :: l, k, listed, a, hl, hk, inv, hB, h => by
    have h0 : ops[k]? = some o := by simpa using (hl 0 (by simp)).symm
    simp only [List.length_cons, Region.lexHead, Bool.and_eq_true] at hB hk
    have hr : k ∈ Region.ready .any ops listed := by simpa using hB.1.1
    obtain ⟨v, hy, hK⟩ := yieldsIn_of_qOp (K := wpQuiet P ops C Lq l) h0 (show qOp P ops C k (wpQuiet P ops C Lq l) a by unfold qOp; simp only [h0]; exact h)
    exact HeadAny.first h0 hsel hs hc hn (by omega) (fun _ _ hL => seqB_ready hL.1) l.length listed a inv hr hy (Region.free_spec h0 hB.1.2)
      (HeadAny.lex hsel hs hc hn l (k + 1) _ _ (fun j hj => by have := hl (j + 1) (by simp; omega); simpa [Nat.add_assoc, Nat.add_comm 1 j] using this) (by omega) (inv.set hr (by omega)) hB.2 hK)
end

theorem Tr.drawTail {P : Program} {w : Bs} {n : Nat} {f : Nat → Option Value} {E : Nat → Ent} {id : Nat} {Q : Exit → Act → World → Prop} {l : List Oper} (m : Nat) (hm : P.follows .mixedOrders = true) (hB : Region.lexTailB .any l.toArray m = true)
    (h : Tq P w n l.toArray f E (wpList P l.toArray Q (l.drop m)) (l.take m)) : Tr w n f E ((Code.region id l.toArray true).wp P Q) := by
  intro a W0 h1 h2
  simp only [Region.lexTailB, Bool.and_eq_true, decide_eq_true_eq] at hB
  obtain ⟨⟨⟨⟨hsel, hn⟩, hs⟩, hc⟩, hlex⟩ := hB
  have hn' : m < l.length := by simpa using hn
  have htl : (l.take m).length = m := by simp; omega
  have hdl : (l.drop m).length = l.toArray.size - m := by simp
  have inv0 : HeadInv .any l.toArray m (Array.replicate l.toArray.size false) :=
    ⟨by simp, fun j oj _ hl => (by rw [getD_replicate_false] at hl; cases hl), fun t _ ht => getD_in (by simpa using ht) (getD_replicate_false _ _)⟩
  have H := HeadAny.lex (C := fun W' => Below W0.heap.size W0 W') (g := l.toArray.size - m) hsel hs hc hn (l.take m) 0 _ a (fun j hj => by
    have hj' : j < m := by rw [htl] at hj; exact hj
    simp [hj']) (by simpa using htl) inv0 (by rw [htl]; exact hlex) (h a W0 h1 h2)
  refine wp_region_any hm ?_
  have := HeadAny.run (Q := Q) (g := l.toArray.size - m) (fun listed a' w' hw' hL => by
    have := wpAny_of_seq (md := .any) (Q' := Q) (l.drop m) m listed a' w' (fun j => by simp [List.getElem?_drop]) (by rw [hdl]; exact hL.1) (hL.2 _ hw')
    rwa [hdl] at this) _ _ _ { W0 with drawn := W0.drawn + 1 } ⟨rfl, rfl, rfl, Nat.le_refl _, fun _ _ => rfl, by simp⟩ H
  rw [htl, show m + (l.toArray.size - m) = l.toArray.size by omega] at this
  exact this
theorem lit_form (b : Nat) {n : Nat} (h : Nat.ble n 1000000 = true) : SlF (some ⟨b, 0, none⟩) n n := ⟨Nat.le_refl _, by have := Nat.le_of_ble_eq_true h; unfold maxLen; omega, fun _ => rfl⟩
theorem lit_max {α : Type} {l : List α} (h : Nat.ble l.length 1000000 = true) : l.length ≤ maxLen := by have := Nat.le_of_ble_eq_true h; unfold maxLen; omega
end Go.Proofs.Ytfddmjoldoddlaa
