/- clear of the end of a slice of the call's own. Over any program. Conditions: none beyond each theorem's own. -/
import Derived.Test.YtfdglihcpfpefaaGreatH13
namespace Go.Proofs.YtfdglihcpfpefaaGreat
open Go.RowKit
theorem flat_rep (zc : List Value) : ∀ (n i : Nat), i < n * zc.length → ((List.replicate n zc).flatten)[i]? = zc[i % zc.length]?
  | 0, i, h => by simp at h
  | n + 1, i, h => by
    rw [List.replicate_succ, List.flatten_cons]
    by_cases hi : i < zc.length
    · rw [List.getElem?_append_left hi, Nat.mod_eq_of_lt hi]
    · rw [List.getElem?_append_right (by omega), flat_rep zc n (i - zc.length) (by rw [Nat.succ_mul] at h; omega), ← Nat.mod_eq_sub_mod (by omega)]
theorem flat_rep_len (zc : List Value) (n : Nat) : ((List.replicate n zc).flatten).length = n * zc.length := by
  induction n with
  | zero => simp
  | succ n ih => rw [List.replicate_succ, List.flatten_cons, List.length_append, ih, Nat.succ_mul, Nat.add_comm]
theorem zeroCells_list (zc : List Value) (n : Nat) : (Builtin.zeroCells zc.toArray n).toList = (List.replicate n zc).flatten := by
  apply List.ext_getElem?
  intro i
  by_cases h : i < n * zc.length
  · have hz : 0 < zc.length := by
      rcases Nat.eq_zero_or_pos zc.length with e | e
      · rw [e] at h; simp at h
      · exact e
    rw [flat_rep zc n i h]
    unfold Builtin.zeroCells
    have hm : i % zc.length < zc.length := Nat.mod_lt _ hz
    simp [h, hm]
  · rw [List.getElem?_eq_none (by unfold Builtin.zeroCells; simp; omega), List.getElem?_eq_none (by rw [flat_rep_len]; omega)]
theorem Al.rep {α β : Type} {R : α → β → Prop} {a : α} {b : β} (h : R a b) : ∀ n : Nat, Al R (List.replicate n a) (List.replicate n b)
  | 0 => .nil
  | n + 1 => .cons h (Al.rep h n)
/-- The list with zero values from a place on. -/
def clr {α : Type} (l : List α) (lo : Int) (m : Nat) (z : α) : List α := l.take lo.toNat ++ List.replicate m z
theorem clr_len {α : Type} {l l' : List α} {lo : Int} (z : α) (h : cut l lo l.length = some l') : (clr l lo l'.length z).length = l.length := by
  have := cut_len h
  obtain ⟨⟨h1, h2, _⟩, _⟩ := cut_some h
  unfold clr
  rw [List.length_append, List.length_take, List.length_replicate]
  omega
section
variable {P : Program} {w : Bs} {n : Nat} {f : Nat → Option Value} {E : Nat → Ent} {Q : Exit → Act → World → Prop} {ops : Array Oper} {rest : List Oper}
variable {ty T : Nat} {pos : String} {af : Array Edge} {g : Option (Nat × Bool)} {p : Operand}
/-- clear(s[lo:]) -/
theorem Tr.clearCut {α : Type} (κ : Nat) {A : Option Addr} {c e m : Nat} {lo : Int} {t : Fl α} {l l' : List α} (z : α) {zc : List Value} (hw : Wn ops f ⟨none, .call ⟨.builtin .clear, #[p], #[T]⟩, ty, pos, af, g⟩) (hp : ev f p = some (.slice (cutA A lo.toNat t.sz c) l'.length (c - lo.toNat)))
    (hcut : Proofs.YtfdglihcpfpefaaGreat.cut l lo l.length = some l') (hk : E κ = ow A c e t l) (hu : P.underlying T = some (.slice e)) (hz : zeroOf P e = some zc) (hzr : ∃ u, t.ok w.O w.W u z ∧ t.enc u z = zc) (h1 : zc.all (·.oneCell') = true) (hm : l'.length = m)
    (K : Tr w n f (up E κ (ow A c e t (clr l lo m z))) (wpList P ops Q rest)) :
    Tr w n f E (wpList P ops Q (⟨none, .call ⟨.builtin .clear, #[p], #[T]⟩, ty, pos, af, g⟩ :: rest)) :=
  Tr.op hw fun a W k1 k2 => by
    subst hm
    unfold clr at K
    have hl := cut_len hcut
    obtain ⟨⟨c1, c2, _⟩, _⟩ := cut_some hcut
    obtain ⟨zu, hzok, hzenc⟩ := hzr
    have hzl : zc.length = t.sz := by rw [← hzenc]; exact t.len zu z
    have hlo : lo.toNat ≤ l.length := by omega
    have hll : l'.length = l.length - lo.toNat := by omega
    obtain ⟨css, hal, hlen, hown⟩ := k2.ow hk
    unfold Oper.wp
    by_cases h0 : l'.length = 0
    · have hrun : (execOp a.eval ⟨none, .call ⟨.builtin .clear, #[p], #[T]⟩, ty, pos, af, g⟩).run P W = .ok (.value (.tuple #[])) W := by
        have hpe := k1.ev hp
        rw [h0] at hpe
        cases hA : cutA A lo.toNat t.sz c <;> rw [hA] at hpe <;> simp [execOp, resolve, invoke, builtin, hpe, Builtin.clear_, run_underlying hu]
      rw [hrun]
      have hE0 : l.take lo.toNat ++ List.replicate l'.length z = l := by rw [h0, List.take_of_length_le (by omega)]; simp
      rw [hE0] at K
      simp only [Oper.upon]
      exact K _ W (by simpa [Act.put] using k1) (k2.weaken fun k => by
        rcases up_cases E κ (ow A c e t l) k with ⟨h1, h2⟩ | ⟨_, h2⟩ <;> rw [h2]
        · subst h1; exact .inl hk.symm
        · exact .inl rfl)
    rcases hown with ⟨ev, hz0⟩ | ⟨gg, cap', cur, ev, hb0, hh, hn, hc, hs, htk⟩
    · omega
    · simp at ev
      obtain ⟨rfl, rfl⟩ := ev
      have hgw : gg < W.heap.size := (Array.getElem?_eq_some_iff.1 hh).1
      have hAd : cutA (some ⟨gg, 0, none⟩) lo.toNat t.sz c = some ⟨gg, lo.toNat * t.sz, none⟩ := by
        unfold cutA
        rw [if_neg (by omega)]
        simp [Addr.add_lit]
      have hpe := k1.ev hp
      rw [hAd] at hpe
      have hzv : ∃ zv, (zeroValue e).run P W = .ok zv W ∧ zv.cells = zc.toArray := run_zero hz
      obtain ⟨zv, hz1, hz2⟩ := hzv
      have hcur : l.length * t.sz ≤ cur.size := by rw [hs]; exact Nat.mul_le_mul_right _ hn
      have hct : cur.toList.length = cur.size := Array.length_toList
      have hfl : ((List.replicate l'.length zc).flatten).length = l'.length * t.sz := by rw [flat_rep_len, hzl]
      have hsum : lo.toNat * t.sz + l'.length * t.sz = l.length * t.sz := by rw [← Nat.add_mul]; congr 1; omega
      have hst := run_storeCells_at P gg (lo.toNat * t.sz) e (List.replicate l'.length zc).flatten 0 cur W hh (by rw [hfl]; omega) (fun v hv => by
        obtain ⟨x, hx, hv⟩ := List.mem_flatten.1 hv
        rw [List.eq_of_mem_replicate hx] at hv
        exact List.all_eq_true.1 h1 v hv)
      rw [← zeroCells_list, Nat.add_zero, ← hz2] at hst
      have hrun : (execOp a.eval ⟨none, .call ⟨.builtin .clear, #[p], #[T]⟩, ty, pos, af, g⟩).run P W = .ok (.value (.tuple #[])) (W.setRow gg (cur.toList.take (lo.toNat * t.sz) ++ (Builtin.zeroCells zv.cells l'.length).toList ++ cur.toList.drop (lo.toNat * t.sz + (Builtin.zeroCells zv.cells l'.length).toList.length)).toArray) := by
        obtain ⟨m', hm'⟩ : ∃ m', l'.length = m' + 1 := ⟨l'.length - 1, by omega⟩
        rw [hm'] at hpe hst ⊢
        simp [execOp, resolve, invoke, builtin, hpe, Builtin.clear_, run_underlying hu, hz1, hst]
      rw [hrun]
      simp only [Oper.upon]
      rw [hz2, zeroCells_list, hfl]
      refine K _ _ (by simpa [Act.put] using k1) ?_
      have hgO : ¬ w.R gg := (k2.bd κ gg (by rw [hk]; rfl)).1
      have hne : ∀ vs, ∀ b, b ≠ gg → (W.setRow gg vs).heap[b]? = W.heap[b]? := fun vs b hb => by
        simp only [World.setRow, Array.getElem?_modify]
        rw [if_neg (fun e => hb e.symm)]
      refine k2.mod κ (Proofs.YtfdglihcpfpefaaGreat.ow (some ⟨gg, 0, none⟩) c e t (l.take lo.toNat ++ List.replicate l'.length z)) rfl rfl rfl (by simp [World.setRow]) (Nat.le_refl _) (fun b hb hsb => hne _ b (fun e => hsb (by rw [hk, e]; rfl))) (ow_loc _ _ _ _ _) ?_ (fun b hb => ?_)
      · have hrz : rp t w.O W zc z := ⟨zu, t.loc hzok (fun _ hb => hb) (fun b hb => k2.keep b (.inl hb)), hzenc.symm⟩
        have hal' := (hal.take lo.toNat).append (Al.rep hrz l'.length)
        have hlen' : (l.take lo.toNat ++ List.replicate l'.length z).length = l.length := by simp; omega
        refine ⟨css.take lo.toNat ++ List.replicate l'.length zc, hal'.mono (fun _ _ hr => hr.loc (fun _ hb => hb) (fun b hb => hne _ b (fun e => hgO (.inl (e ▸ hb))))), by rw [flat_len hal'], .inr ⟨gg, c, _, by rw [hlen'], Nat.zero_le _, setRow_heap W gg cur _ e _ hh, by rw [hlen']; exact hn, hc, ?_, ?_⟩⟩
        · rw [List.size_toArray, List.length_append, List.length_append, List.length_take, List.length_drop, Array.length_toList, hfl]; omega
        · rw [hlen', List.flatten_append, flat_take hal, ← htk, List.take_take, Nat.min_eq_left (by omega)]
          show List.take (l.length * t.sz) (cur.toList.take (lo.toNat * t.sz) ++ (List.replicate l'.length zc).flatten ++ cur.toList.drop (lo.toNat * t.sz + l'.length * t.sz)) = _
          rw [List.take_append_of_le_length (by rw [List.length_append, List.length_take, hct, hfl]; omega), List.take_of_length_le (by rw [List.length_append, List.length_take, hct, hfl]; omega)]
      · have hb : (Value.slice (some ⟨gg, 0, none⟩) (l.take lo.toNat ++ List.replicate l'.length z).length c).ownBlock = some b := hb
        simp [Value.ownBlock] at hb
        subst hb
        exact ⟨.inl (by rw [hk]; rfl), by simp [World.setRow]; exact hgw⟩
end
end Go.Proofs.YtfdglihcpfpefaaGreat
