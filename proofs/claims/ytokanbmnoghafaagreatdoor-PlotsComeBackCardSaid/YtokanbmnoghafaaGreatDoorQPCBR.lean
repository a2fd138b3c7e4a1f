/- Opening of the arguments of PlotsComeBack. -/
import Derived.Test.YtokanbmnoghafaaGreatDoorXT
import Derived.Test.YtokanbmnoghafaaGreatDoorJ5
namespace Go.Proofs.YtokanbmnoghafaaGreatDoor
open Go.ChangeShapes Go.WideShapes Go.ChangeAt Go.RowKit Go.Deep Go.WideElems
open Go.ChangeMaps (open_string)
set_option maxRecDepth 100000
theorem zJJ : Tryz.prog.cellsOf 3 = 1 := by kernel_rfl
theorem nc_9 : Tryz.prog.cellsOf 9 = 1 := by kernel_rfl
theorem nc_22 : Tryz.prog.cellsOf 22 = 1 := by kernel_rfl
theorem nc_23 : Tryz.prog.cellsOf 23 = 1 := by kernel_rfl
theorem nc_25 : Tryz.prog.cellsOf 25 = 3 := by kernel_rfl
theorem nc_45 : Tryz.prog.cellsOf 45 = 1 := by kernel_rfl
theorem nc_47 : Tryz.prog.cellsOf 47 = 2 := by kernel_rfl
theorem nc_49 : Tryz.prog.cellsOf 49 = 4 := by kernel_rfl
theorem nc_52 : Tryz.prog.cellsOf 52 = 2 := by kernel_rfl
theorem nc_78 : Tryz.prog.cellsOf 78 = 1 := by kernel_rfl
theorem nc_80 : Tryz.prog.cellsOf 80 = 8 := by kernel_rfl
section
variable {H : Type} {enc : TypeId × Value → H} {w : World} {base : Nat} {spare : Nat → Bool} {held : Bool}
structure JO.Wf (p : JO) : Prop where
  fX0 : I64 p.X0
  fY0 : I64 p.Y0
  fX1 : I64 p.X1
  fY1 : I64 p.Y1
structure zS.Wf (p : zS) : Prop where
  fName : (p.Name).size ≤ 9223372036854775807
  fRects : ((p.Rects).length ≤ 9223372036854775807 ∧ ∀ x ∈ p.Rects, JO.Wf x)
structure zU.Wf (p : zU) : Prop where
  fX : I64 p.X
  fY : I64 p.Y
inductive zB.Wf : zB → Prop
  | mk {p : zB} (fKind : I64 p.Kind) (fName : (p.Name).size ≤ 9223372036854775807) (fAt : zU.Wf p.At) (lPoints : (p.Points).length ≤ 9223372036854775807) (fPoints : ∀ x ∈ p.Points, zU.Wf x) (fNX : I64 p.NX) (fNY : I64 p.NY) (lSteps : (p.Steps).length ≤ 9223372036854775807) (fSteps : ∀ x ∈ p.Steps, zB.Wf x) : zB.Wf p
structure zi.Wf (p : zi) : Prop where
  fUnit : I64 p.Unit
  fTools : ((p.Tools).length ≤ 9223372036854775807 ∧ ∀ x ∈ p.Tools, zS.Wf x)
  fSteps : ((p.Steps).length ≤ 9223372036854775807 ∧ ∀ x ∈ p.Steps, zB.Wf x)
theorem zEr (n : Nat) (cs : List Value) (y : DataW H × List MemPlace) (h : DataW.trod enc Tryz.prog w base spare held n 3 cs = some y) : ∃ k : Int, cs = [.int .i64 k] ∧ I64 k := by
  obtain ⟨k, h1, _, h2⟩ := DataW.trod_int Tryz.underlying3 h
  exact ⟨k, h1, i64_wf h2⟩
theorem dec_9 (n : Nat) (cs : List Value) (y : DataW H × List MemPlace) (h : DataW.trod enc Tryz.prog w base spare held n 9 cs = some y) : ∃ s : ByteArray, cs = [.string s] ∧ s.size ≤ 9223372036854775807 := by
  obtain ⟨k, h1, _, h2⟩ := DataW.trod_string Tryz.underlying9 h
  exact ⟨k, h1, h2⟩
theorem dec_49 (n : Nat) (cs : List Value) (y : DataW H × List MemPlace) (h : DataW.trod enc Tryz.prog w base spare held n 49 cs = some y) : ∃ p : JO, cs = [(.int .i64 p.X0), (.int .i64 p.Y0), (.int .i64 p.X1), (.int .i64 p.Y1)] ∧ p.Wf := by
  obtain ⟨xs, m, _, _, hl, hx, hf⟩ := DataW.trod_struct Tryz.underlying49 h
  rw [nc_49] at hl
  match cs, hl, xs, hx with
  | [a0, a1, a2, a3], _, [x0, x1, x2, x3], _ =>
    have h0 : DataW.trod enc Tryz.prog w base spare held m 3 (([a0, a1, a2, a3].drop 0).take (Tryz.prog.cellsOf 3)) = some x0 := hf 0 _ rfl
    rw [zJJ] at h0
    have h1 : DataW.trod enc Tryz.prog w base spare held m 3 (([a0, a1, a2, a3].drop 1).take (Tryz.prog.cellsOf 3)) = some x1 := hf 1 _ rfl
    rw [zJJ] at h1
    have h2 : DataW.trod enc Tryz.prog w base spare held m 3 (([a0, a1, a2, a3].drop 2).take (Tryz.prog.cellsOf 3)) = some x2 := hf 2 _ rfl
    rw [zJJ] at h2
    have h3 : DataW.trod enc Tryz.prog w base spare held m 3 (([a0, a1, a2, a3].drop 3).take (Tryz.prog.cellsOf 3)) = some x3 := hf 3 _ rfl
    rw [zJJ] at h3
    obtain ⟨k0, e0, w0⟩ := zEr _ _ _ h0
    have e0 := (List.cons.inj e0).1; subst e0
    obtain ⟨k1, e1, w1⟩ := zEr _ _ _ h1
    have e1 := (List.cons.inj e1).1; subst e1
    obtain ⟨k2, e2, w2⟩ := zEr _ _ _ h2
    have e2 := (List.cons.inj e2).1; subst e2
    obtain ⟨k3, e3, w3⟩ := zEr _ _ _ h3
    have e3 := (List.cons.inj e3).1; subst e3
    exact ⟨⟨k0, k1, k2, k3⟩, rfl, ⟨w0, w1, w2, w3⟩⟩
theorem dec_47 (n : Nat) (cs : List Value) (y : DataW H × List MemPlace) (h : DataW.trod enc Tryz.prog w base spare held n 47 cs = some y) : ∃ (u : (zK).Ad) (p : zS), (zK).ok (lo w.heap.size) w u p ∧ cs = (zK).enc u p ∧ p.Wf := by
  obtain ⟨xs, m, _, _, hl, hx, hf⟩ := DataW.trod_struct Tryz.underlying47 h
  rw [nc_47] at hl
  match cs, hl, xs, hx with
  | [a0, a1], _, [x0, x1], _ =>
    have h0 : DataW.trod enc Tryz.prog w base spare held m 9 (([a0, a1].drop 0).take (Tryz.prog.cellsOf 9)) = some x0 := hf 0 _ rfl
    rw [nc_9] at h0
    have h1 : DataW.trod enc Tryz.prog w base spare held m 45 (([a0, a1].drop 1).take (Tryz.prog.cellsOf 45)) = some x1 := hf 1 _ rfl
    rw [nc_45] at h1
    obtain ⟨k0, e0, w0⟩ := dec_9 _ _ _ h0
    have e0 := (List.cons.inj e0).1; subst e0
    obtain ⟨A1, c1, k1, e1, s1, w1⟩ := zDO KR Tryz.underlying45 nc_49 (by decide) (decF KR zEI tr_TRect () dec_49) h1
    subst e1
    exact ⟨(A1, c1), ⟨k0, k1⟩, s1, rfl, ⟨w0, ⟨Nat.le_trans s1.form.1 s1.form.2.1, w1⟩⟩⟩
theorem dec_52 (n : Nat) (cs : List Value) (y : DataW H × List MemPlace) (h : DataW.trod enc Tryz.prog w base spare held n 52 cs = some y) : ∃ p : zU, cs = [(.int .i64 p.X), (.int .i64 p.Y)] ∧ p.Wf := by
  obtain ⟨xs, m, _, _, hl, hx, hf⟩ := DataW.trod_struct Tryz.underlying52 h
  rw [nc_52] at hl
  match cs, hl, xs, hx with
  | [a0, a1], _, [x0, x1], _ =>
    have h0 : DataW.trod enc Tryz.prog w base spare held m 3 (([a0, a1].drop 0).take (Tryz.prog.cellsOf 3)) = some x0 := hf 0 _ rfl
    rw [zJJ] at h0
    have h1 : DataW.trod enc Tryz.prog w base spare held m 3 (([a0, a1].drop 1).take (Tryz.prog.cellsOf 3)) = some x1 := hf 1 _ rfl
    rw [zJJ] at h1
    obtain ⟨k0, e0, w0⟩ := zEr _ _ _ h0
    have e0 := (List.cons.inj e0).1; subst e0
    obtain ⟨k1, e1, w1⟩ := zEr _ _ _ h1
    have e1 := (List.cons.inj e1).1; subst e1
    exact ⟨⟨k0, k1⟩, rfl, ⟨w0, w1⟩⟩
theorem dec_80 : ∀ (n : Nat) (cs : List Value) (y : DataW H × List MemPlace) (_ : DataW.trod enc Tryz.prog w base spare held n 80 cs = some y), ∃ (u : (zC).Ad) (p : zB), (zC).ok (lo w.heap.size) w u p ∧ cs = (zC).enc u p ∧ p.Wf := by
  intro n
  induction n using Nat.strongRecOn with
  | _ n ih =>
  intro cs y h
  obtain ⟨xs, m, hm, _, hl, hx, hf⟩ := DataW.trod_struct Tryz.underlying80 h
  rw [nc_80] at hl
  match cs, hl, xs, hx with
  | [a0, a1, a2, a3, a4, a5, a6, a7], _, [x0, x1, x2, x3, x4, x5, x6], _ =>
    have h0 : DataW.trod enc Tryz.prog w base spare held m 3 (([a0, a1, a2, a3, a4, a5, a6, a7].drop 0).take (Tryz.prog.cellsOf 3)) = some x0 := hf 0 _ rfl
    rw [zJJ] at h0
    have h1 : DataW.trod enc Tryz.prog w base spare held m 9 (([a0, a1, a2, a3, a4, a5, a6, a7].drop 1).take (Tryz.prog.cellsOf 9)) = some x1 := hf 1 _ rfl
    rw [nc_9] at h1
    have h2 : DataW.trod enc Tryz.prog w base spare held m 52 (([a0, a1, a2, a3, a4, a5, a6, a7].drop 2).take (Tryz.prog.cellsOf 52)) = some x2 := hf 2 _ rfl
    rw [nc_52] at h2
    have h3 : DataW.trod enc Tryz.prog w base spare held m 78 (([a0, a1, a2, a3, a4, a5, a6, a7].drop 4).take (Tryz.prog.cellsOf 78)) = some x3 := hf 3 _ rfl
    rw [nc_78] at h3
    have h4 : DataW.trod enc Tryz.prog w base spare held m 3 (([a0, a1, a2, a3, a4, a5, a6, a7].drop 5).take (Tryz.prog.cellsOf 3)) = some x4 := hf 4 _ rfl
    rw [zJJ] at h4
    have h5 : DataW.trod enc Tryz.prog w base spare held m 3 (([a0, a1, a2, a3, a4, a5, a6, a7].drop 6).take (Tryz.prog.cellsOf 3)) = some x5 := hf 5 _ rfl
    rw [zJJ] at h5
    have h6 : DataW.trod enc Tryz.prog w base spare held m 23 (([a0, a1, a2, a3, a4, a5, a6, a7].drop 7).take (Tryz.prog.cellsOf 23)) = some x6 := hf 6 _ rfl
    rw [nc_23] at h6
    obtain ⟨k0, e0, w0⟩ := zEr _ _ _ h0
    have e0 := (List.cons.inj e0).1; subst e0
    obtain ⟨k1, e1, w1⟩ := dec_9 _ _ _ h1
    have e1 := (List.cons.inj e1).1; subst e1
    obtain ⟨k2, e2, w2⟩ := dec_52 _ _ _ h2
    simp at e2
    obtain ⟨q2_0, q2_1⟩ := e2
    subst q2_0 q2_1
    obtain ⟨A3, c3, k3, e3, s3, w3⟩ := zDO QH Tryz.underlying78 nc_52 (by decide) (decF QH zBK tr_TPoint () dec_52) h3
    subst e3
    obtain ⟨k4, e4, w4⟩ := zEr _ _ _ h4
    have e4 := (List.cons.inj e4).1; subst e4
    obtain ⟨k5, e5, w5⟩ := zEr _ _ _ h5
    have e5 := (List.cons.inj e5).1; subst e5
    obtain ⟨A6, c6, k6, e6, s6, w6⟩ := zG8 zC Tryz.underlying23 nc_80 (by decide) (fun n' hn' => ih n' (by omega)) h6
    subst e6
    exact ⟨((A3, c3), (A6, c6)), ⟨k0, k1, k2, k3, k4, k5, k6⟩, (Jn.2 ⟨s3, s6⟩), rfl, ⟨w0, w1, w2, (Nat.le_trans s3.form.1 s3.form.2.1), w3, w4, w5, (Nat.le_trans s6.form.1 s6.form.2.1), w6⟩⟩
theorem open_25 {r : Reach} {b0 : Nat} {v : Value} {d : DataW H} {p : List MemPlace} (hv : Value.okWide Tryz.prog w r b0 25 v) (h : DataW.Trod enc Tryz.prog w base spare held 25 v d p) :
    ∃ (p : zi) (A1 : Option Addr) (c1 : Nat) (A2 : Option Addr) (c2 : Nat), v = .agg #[(.int .i64 p.Unit), (.slice A1 (p.Tools).length c1), (.slice A2 (p.Steps).length c2)] ∧ Sl (lo w.heap.size) w zK A1 c1 p.Tools ∧ Sl (lo w.heap.size) w zC A2 c2 p.Steps ∧ p.Wf := by
  obtain ⟨cs, rfl, hl⟩ := okWide_struct Tryz.underlying25 hv
  obtain ⟨l⟩ := cs
  rw [nc_25] at hl
  obtain ⟨fuel, hf⟩ := h
  obtain ⟨xs, m, _, _, _, hx, hf⟩ := DataW.trod_struct Tryz.underlying25 hf
  match l, hl, xs, hx with
  | [a0, a1, a2], _, [x0, x1, x2], _ =>
    have h0 : DataW.trod enc Tryz.prog w base spare held m 3 (([a0, a1, a2].drop 0).take (Tryz.prog.cellsOf 3)) = some x0 := hf 0 _ rfl
    rw [zJJ] at h0
    have h1 : DataW.trod enc Tryz.prog w base spare held m 22 (([a0, a1, a2].drop 1).take (Tryz.prog.cellsOf 22)) = some x1 := hf 1 _ rfl
    rw [nc_22] at h1
    have h2 : DataW.trod enc Tryz.prog w base spare held m 23 (([a0, a1, a2].drop 2).take (Tryz.prog.cellsOf 23)) = some x2 := hf 2 _ rfl
    rw [nc_23] at h2
    obtain ⟨k0, e0, w0⟩ := zEr _ _ _ h0
    have e0 := (List.cons.inj e0).1; subst e0
    obtain ⟨A1, c1, k1, e1, s1, w1⟩ := zDO zK Tryz.underlying22 nc_47 (by decide) dec_47 h1
    subst e1
    obtain ⟨A2, c2, k2, e2, s2, w2⟩ := zDO zC Tryz.underlying23 nc_80 (by decide) dec_80 h2
    subst e2
    exact ⟨⟨k0, k1, k2⟩, A1, c1, A2, c2, rfl, s1, s2, ⟨w0, ⟨Nat.le_trans s1.form.1 s1.form.2.1, w1⟩, ⟨Nat.le_trans s2.form.1 s2.form.2.1, w2⟩⟩⟩
end
end Go.Proofs.YtokanbmnoghafaaGreatDoor
