/- From data to words: how the arguments of the laws are opened. -/
import Derived.Test.YtpkicpnbpldkpaaRows
import Derived.Test.YtpkicpnbpldkpaaD0
import Derived.ProofKit
import Derived.Deep.Slices
namespace Go.Proofs.Ytpkicpnbpldkpaa
open Go.ChangeShapes Go.WideShapes Go.ChangeAt Go.RowKit Go.Deep
section
variable {H : Type} {enc : TypeId × Value → H} {w : World} {base : Nat} {spare : Nat → Bool} {held : Bool}
/-- A slice whose elements all have one form reads as a list of that form. -/
theorem sl_of_trod {α : Type} {P : Program} {t e sz fuel : Nat} {f : α → List Value} {Wf : α → Prop} {v : Value} {x : DataW H × List MemPlace} (ht : P.underlying t = some (.slice e)) (hC : P.cellsOf e = sz) (hsz : 0 < sz)
    (dec : ∀ (n : Nat) (cs : List Value) (y : DataW H × List MemPlace), DataW.trod enc P w base spare held n e cs = some y → ∃ a : α, cs = f a ∧ Wf a)
    (h : DataW.trod enc P w base spare held fuel t [v] = some x) : ∃ l : List α, Sl w sz f v l ∧ ∀ a ∈ l, Wf a := by
  rcases open_slice ht h with ⟨hcs, _⟩ | ⟨a, len, cap, m, n, D, Pl, hcs, _, hl, hm, hmm, _, hi⟩
  · simp at hcs; subst hcs
    exact ⟨[], Sl.nil _ _ _, fun a ha => by simp at ha⟩
  · simp at hcs; subst hcs
    have hlm : len ≤ m := by rw [hmm]; split <;> omega
    have hex : ∀ i, i < len → ∃ b : α, Wf b ∧ ∀ (j : Nat) (u : Value), (f b)[j]? = some u → w.cell? (a.add (i * sz + j)) = some u := by
      intro i hil
      obtain ⟨cs', hc, hd⟩ := hi i (by omega)
      obtain ⟨b, hb, hw⟩ := dec _ _ _ hd
      obtain ⟨_, hlen, hat⟩ := World.cells?_some hc
      rw [hC] at hat hlen
      refine ⟨b, hw, fun j u hu => ?_⟩
      have hj : j < sz := by rw [← hlen, hb]; exact (List.getElem?_eq_some_iff.1 hu).1
      have := hat j hj
      rw [hb, hu, Go.Deep.add_add] at this
      exact this
    have hspot : 0 < len → ∃ b off, a = ⟨b, off, none⟩ ∧ b < w.heap.size := by
      intro hp
      obtain ⟨cs', hc, hd⟩ := hi 0 (by omega)
      obtain ⟨_, hlen, hat⟩ := World.cells?_some hc
      have h0 := hat 0 (by omega)
      have hex0 : ∃ u, cs'[0]? = some u := ⟨_, List.getElem?_eq_getElem (by omega)⟩
      obtain ⟨u, hu⟩ := hex0
      rw [hu, Nat.zero_mul] at h0
      have ha : (a.add 0).add 0 = a := by simp [Addr.add]
      rw [ha] at h0
      have hlt := World.block_lt_of_cell? w a h0
      obtain ⟨b, off, sp⟩ := a
      cases sp with
      | none => exact ⟨b, off, rfl, hlt⟩
      | some s =>
        exfalso
        unfold World.cell? at h0
        split at h0 <;> simp at h0
    refine ⟨(List.range len).attach.map (fun i => Classical.choose (hex i.1 (List.mem_range.1 i.2))), ?_, ?_⟩
    · have hlen : ((List.range len).attach.map (fun i => Classical.choose (hex i.1 (List.mem_range.1 i.2)))).length = len := by simp
      refine ⟨some a, cap, by rw [hlen], by omega, hm, fun hp => ?_⟩
      obtain ⟨b, off, rfl, hlt⟩ := hspot (by omega)
      refine ⟨b, off, rfl, hlt, fun i x hx j u hu => ?_⟩
      have hil : i < len := by rw [← hlen]; exact (List.getElem?_eq_some_iff.1 hx).1
      have hxe : x = Classical.choose (hex i hil) := by
        have := (List.getElem?_eq_some_iff.1 hx).2
        rw [← this]; simp
      subst hxe
      have := (Classical.choose_spec (hex i hil)).2 j u hu
      rw [Addr.add_lit, ← Nat.add_assoc] at this
      exact this
    · intro x hx
      obtain ⟨i, _, rfl⟩ := List.mem_map.1 hx
      exact (Classical.choose_spec (hex i.1 (List.mem_range.1 i.2))).1
set_option maxRecDepth 100000
theorem nc3 : Try.prog.cellsOf 3 = 1 := by kernel_rfl
theorem nc9 : Try.prog.cellsOf 9 = 1 := by kernel_rfl
theorem cellsPt : Try.prog.cellsOf 32 = 2 := by kernel_rfl
theorem cellsBKind : Try.prog.cellsOf 82 = 3 := by kernel_rfl
theorem cellsSlot : Try.prog.cellsOf 34 = 4 := by kernel_rfl
theorem cellsPanel : Try.prog.cellsOf 26 = 7 := by kernel_rfl
theorem cellsSl1 : Try.prog.cellsOf 22 = 1 := by kernel_rfl
theorem cellsSl2 : Try.prog.cellsOf 23 = 1 := by kernel_rfl
theorem cellsSl3 : Try.prog.cellsOf 24 = 1 := by kernel_rfl
def I64 (n : Int) : Prop := -9223372036854775808 ≤ n ∧ n ≤ 9223372036854775807
theorem i64_wf {n : Int} (h : (Lit.int .i64 n).wf = true) : I64 n := by
  simp [Lit.wf, IntKind.min, IntKind.max, IntKind.signed, IntKind.bits] at h
  exact ⟨by omega, by omega⟩
theorem dec_int {n : Nat} {cs : List Value} {y : DataW H × List MemPlace} (h : DataW.trod enc Try.prog w base spare held n 3 cs = some y) : ∃ k : Int, cs = [.int .i64 k] ∧ I64 k := by
  obtain ⟨k, h1, _, h2⟩ := DataW.trod_int Try.underlying3 h
  exact ⟨k, h1, i64_wf h2⟩
theorem dec_str {n : Nat} {cs : List Value} {y : DataW H × List MemPlace} (h : DataW.trod enc Try.prog w base spare held n 9 cs = some y) : ∃ s : ByteArray, cs = [.string s] ∧ s.size ≤ maxLen := by
  obtain ⟨k, h1, _, h2⟩ := DataW.trod_string Try.underlying9 h
  exact ⟨k, h1, h2⟩
def Pt.Wf (p : Pt) : Prop := I64 p.X ∧ I64 p.Y
theorem dec_Pt (n : Nat) (cs : List Value) (y : DataW H × List MemPlace) (h : DataW.trod enc Try.prog w base spare held n 32 cs = some y) : ∃ p : Pt, cs = p.enc ∧ p.Wf := by
  obtain ⟨xs, m, _, _, hl, hx, hf⟩ := DataW.trod_struct Try.underlying32 h
  rw [cellsPt] at hl
  match cs, hl, xs, hx with
  | [a, b], _, [x0, x1], _ =>
    have h0 : DataW.trod enc Try.prog w base spare held m 3 (([a, b].drop 0).take (Try.prog.cellsOf 3)) = some x0 := hf 0 _ rfl
    have h1 : DataW.trod enc Try.prog w base spare held m 3 (([a, b].drop 1).take (Try.prog.cellsOf 3)) = some x1 := hf 1 _ rfl
    rw [nc3] at h0
    rw [nc3] at h1
    obtain ⟨k0, e0, w0⟩ := dec_int h0
    obtain ⟨k1, e1, w1⟩ := dec_int h1
    simp at e0 e1
    subst e0 e1
    exact ⟨⟨k0, k1⟩, rfl, w0, w1⟩
def BKind.Wf (k : BKind) : Prop := k.Name.size ≤ maxLen ∧ I64 k.W ∧ I64 k.H
theorem dec_BKind (n : Nat) (cs : List Value) (y : DataW H × List MemPlace) (h : DataW.trod enc Try.prog w base spare held n 82 cs = some y) : ∃ p : BKind, cs = p.enc ∧ p.Wf := by
  obtain ⟨xs, m, _, _, hl, hx, hf⟩ := DataW.trod_struct Try.underlying82 h
  rw [cellsBKind] at hl
  match cs, hl, xs, hx with
  | [a, b, c], _, [x0, x1, x2], _ =>
    have h0 : DataW.trod enc Try.prog w base spare held m 9 (([a, b, c].drop 0).take (Try.prog.cellsOf 9)) = some x0 := hf 0 _ rfl
    have h1 : DataW.trod enc Try.prog w base spare held m 3 (([a, b, c].drop 1).take (Try.prog.cellsOf 3)) = some x1 := hf 1 _ rfl
    have h2 : DataW.trod enc Try.prog w base spare held m 3 (([a, b, c].drop 2).take (Try.prog.cellsOf 3)) = some x2 := hf 2 _ rfl
    rw [nc9] at h0
    rw [nc3] at h1
    rw [nc3] at h2
    obtain ⟨k0, e0, w0⟩ := dec_str h0
    obtain ⟨k1, e1, w1⟩ := dec_int h1
    obtain ⟨k2, e2, w2⟩ := dec_int h2
    simp at e0 e1 e2
    subst e0 e1 e2
    exact ⟨⟨k0, k1, k2⟩, rfl, w0, w1, w2⟩
def Slot.Wf (s : Slot) : Prop := s.Board.size ≤ maxLen ∧ I64 s.Q ∧ s.At.Wf
theorem dec_Slot (n : Nat) (cs : List Value) (y : DataW H × List MemPlace) (h : DataW.trod enc Try.prog w base spare held n 34 cs = some y) : ∃ p : Slot, cs = p.enc ∧ p.Wf := by
  obtain ⟨xs, m, _, _, hl, hx, hf⟩ := DataW.trod_struct Try.underlying34 h
  rw [cellsSlot] at hl
  match cs, hl, xs, hx with
  | [a, b, c, d], _, [x0, x1, x2], _ =>
    have h0 : DataW.trod enc Try.prog w base spare held m 9 (([a, b, c, d].drop 0).take (Try.prog.cellsOf 9)) = some x0 := hf 0 _ rfl
    have h1 : DataW.trod enc Try.prog w base spare held m 3 (([a, b, c, d].drop 1).take (Try.prog.cellsOf 3)) = some x1 := hf 1 _ rfl
    have h2 : DataW.trod enc Try.prog w base spare held m 32 (([a, b, c, d].drop 2).take (Try.prog.cellsOf 32)) = some x2 := hf 2 _ rfl
    rw [nc9] at h0
    rw [nc3] at h1
    rw [cellsPt] at h2
    obtain ⟨k0, e0, w0⟩ := dec_str h0
    obtain ⟨k1, e1, w1⟩ := dec_int h1
    obtain ⟨k2, e2, w2⟩ := dec_Pt _ _ _ h2
    simp [Pt.enc] at e0 e1 e2
    obtain ⟨e2, e3⟩ := e2
    subst e0 e1 e2 e3
    exact ⟨⟨k0, k1, k2⟩, rfl, w0, w1, w2⟩
structure Panel.Wf (p : Panel) : Prop where
  w : I64 p.W
  h : I64 p.H
  rail : I64 p.Rail
  gap : I64 p.Gap
  slots : ∀ s ∈ p.Slots, s.Wf
  marks : ∀ s ∈ p.Marks, s.Wf
theorem open_panel {r : Reach} {b0 : Nat} {v : Value} {d : DataW H} {p : List MemPlace} (hv : Value.okWide Try.prog w r b0 26 v) (h : DataW.Trod enc Try.prog w base spare held 26 v d p) :
    ∃ (q : Panel) (kv sv mv : Value), v = .agg #[.int .i64 q.W, .int .i64 q.H, .int .i64 q.Rail, .int .i64 q.Gap, kv, sv, mv] ∧ PanelOk w q kv sv mv ∧ q.Wf := by
  obtain ⟨cs, rfl, hsz⟩ := okWide_struct Try.underlying26 hv
  obtain ⟨l⟩ := cs
  rw [cellsPanel] at hsz
  obtain ⟨fuel, hf⟩ := h
  obtain ⟨xs, m, _, _, _, hx, hf⟩ := DataW.trod_struct Try.underlying26 hf
  match l, hsz, xs, hx with
  | [a, b, c, e, f, g, i], _, [x0, x1, x2, x3, x4, x5, x6], _ =>
    have h0 : DataW.trod enc Try.prog w base spare held m 3 (([a, b, c, e, f, g, i].drop 0).take (Try.prog.cellsOf 3)) = some x0 := hf 0 _ rfl
    have h1 : DataW.trod enc Try.prog w base spare held m 3 (([a, b, c, e, f, g, i].drop 1).take (Try.prog.cellsOf 3)) = some x1 := hf 1 _ rfl
    have h2 : DataW.trod enc Try.prog w base spare held m 3 (([a, b, c, e, f, g, i].drop 2).take (Try.prog.cellsOf 3)) = some x2 := hf 2 _ rfl
    have h3 : DataW.trod enc Try.prog w base spare held m 3 (([a, b, c, e, f, g, i].drop 3).take (Try.prog.cellsOf 3)) = some x3 := hf 3 _ rfl
    have h4 : DataW.trod enc Try.prog w base spare held m 22 (([a, b, c, e, f, g, i].drop 4).take (Try.prog.cellsOf 22)) = some x4 := hf 4 _ rfl
    have h5 : DataW.trod enc Try.prog w base spare held m 23 (([a, b, c, e, f, g, i].drop 5).take (Try.prog.cellsOf 23)) = some x5 := hf 5 _ rfl
    have h6 : DataW.trod enc Try.prog w base spare held m 24 (([a, b, c, e, f, g, i].drop 6).take (Try.prog.cellsOf 24)) = some x6 := hf 6 _ rfl
    rw [nc3] at h0
    rw [nc3] at h1
    rw [nc3] at h2
    rw [nc3] at h3
    rw [cellsSl1] at h4
    rw [cellsSl2] at h5
    rw [cellsSl3] at h6
    obtain ⟨k0, e0, w0⟩ := dec_int h0
    obtain ⟨k1, e1, w1⟩ := dec_int h1
    obtain ⟨k2, e2, w2⟩ := dec_int h2
    obtain ⟨k3, e3, w3⟩ := dec_int h3
    obtain ⟨ks, hks, hkw⟩ := sl_of_trod Try.underlying22 cellsBKind (by omega) dec_BKind h4
    obtain ⟨ss, hss, hsw⟩ := sl_of_trod Try.underlying23 cellsSlot (by omega) dec_Slot h5
    obtain ⟨ms, hms, hmw⟩ := sl_of_trod Try.underlying24 cellsPt (by omega) dec_Pt h6
    simp at e0 e1 e2 e3
    subst e0 e1 e2 e3
    exact ⟨⟨k0, k1, k2, k3, ks, ss, ms⟩, f, g, i, rfl, ⟨hks, hss, hms, fun k hk => (hkw k hk).1⟩, ⟨w0, w1, w2, w3, hsw, hmw⟩⟩
end
theorem own_ : ownKnob Try.prog.godebug = none := by kernel_rfl
theorem laidOut_ : laidOutB Try.prog = true := by kernel_rfl
end Go.Proofs.Ytpkicpnbpldkpaa
