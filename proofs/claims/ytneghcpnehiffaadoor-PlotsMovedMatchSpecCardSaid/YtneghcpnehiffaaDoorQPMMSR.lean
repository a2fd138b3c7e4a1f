/- Opening of the arguments of PlotsMovedMatchSpec. -/
import Derived.Test.YtneghcpnehiffaaDoorXT
import Derived.Test.YtneghcpnehiffaaDoorJ4
namespace Go.Proofs.YtneghcpnehiffaaDoor
open Go.ChangeShapes Go.WideShapes Go.ChangeAt Go.RowKit Go.Deep Go.WideElems
open Go.ChangeMaps (open_string)
set_option maxRecDepth 100000
theorem nc_3 : Tryd.prog.cellsOf 3 = 1 := by kernel_rfl
theorem nc_4 : Tryd.prog.cellsOf 4 = 1 := by kernel_rfl
theorem nc_9 : Tryd.prog.cellsOf 9 = 1 := by kernel_rfl
theorem nc_22 : Tryd.prog.cellsOf 22 = 1 := by kernel_rfl
theorem nc_23 : Tryd.prog.cellsOf 23 = 1 := by kernel_rfl
theorem nc_25 : Tryd.prog.cellsOf 25 = 3 := by kernel_rfl
theorem nc_27 : Tryd.prog.cellsOf 27 = 2 := by kernel_rfl
theorem nc_29 : Tryd.prog.cellsOf 29 = 4 := by kernel_rfl
theorem nc_44 : Tryd.prog.cellsOf 44 = 1 := by kernel_rfl
theorem nc_46 : Tryd.prog.cellsOf 46 = 8 := by kernel_rfl
theorem nc_57 : Tryd.prog.cellsOf 57 = 4 := by kernel_rfl
theorem nc_60 : Tryd.prog.cellsOf 60 = 1 := by kernel_rfl
theorem nc_62 : Tryd.prog.cellsOf 62 = 2 := by kernel_rfl
section
variable {H : Type} {enc : TypeId × Value → H} {w : World} {base : Nat} {spare : Nat → Bool} {held : Bool}
structure TRect.Wf (p : TRect) : Prop where
  fX0 : I64 p.X0
  fY0 : I64 p.Y0
  fX1 : I64 p.X1
  fY1 : I64 p.Y1
structure TPlotTool.Wf (p : TPlotTool) : Prop where
  fName : (p.Name).size ≤ 9223372036854775807
  fRects : ((p.Rects).length ≤ 9223372036854775807 ∧ ∀ x ∈ p.Rects, TRect.Wf x)
structure TPoint.Wf (p : TPoint) : Prop where
  fX : I64 p.X
  fY : I64 p.Y
inductive TPlotStep.Wf : TPlotStep → Prop
  | mk {p : TPlotStep} (fKind : I64 p.Kind) (fName : (p.Name).size ≤ 9223372036854775807) (fAt : TPoint.Wf p.At) (lPoints : (p.Points).length ≤ 9223372036854775807) (fPoints : ∀ x ∈ p.Points, TPoint.Wf x) (fNX : I64 p.NX) (fNY : I64 p.NY) (lSteps : (p.Steps).length ≤ 9223372036854775807) (fSteps : ∀ x ∈ p.Steps, TPlotStep.Wf x) : TPlotStep.Wf p
structure TPlot.Wf (p : TPlot) : Prop where
  fUnit : I64 p.Unit
  fTools : ((p.Tools).length ≤ 9223372036854775807 ∧ ∀ x ∈ p.Tools, TPlotTool.Wf x)
  fSteps : ((p.Steps).length ≤ 9223372036854775807 ∧ ∀ x ∈ p.Steps, TPlotStep.Wf x)
theorem dec_3 (n : Nat) (cs : List Value) (y : DataW H × List MemPlace) (h : DataW.trod enc Tryd.prog w base spare held n 3 cs = some y) : ∃ k : Int, cs = [.int .i64 k] ∧ I64 k := by
  obtain ⟨k, h1, _, h2⟩ := DataW.trod_int Tryd.underlying3 h
  exact ⟨k, h1, i64_wf h2⟩
theorem dec_9 (n : Nat) (cs : List Value) (y : DataW H × List MemPlace) (h : DataW.trod enc Tryd.prog w base spare held n 9 cs = some y) : ∃ s : ByteArray, cs = [.string s] ∧ s.size ≤ 9223372036854775807 := by
  obtain ⟨k, h1, _, h2⟩ := DataW.trod_string Tryd.underlying9 h
  exact ⟨k, h1, h2⟩
theorem dec_57 (n : Nat) (cs : List Value) (y : DataW H × List MemPlace) (h : DataW.trod enc Tryd.prog w base spare held n 57 cs = some y) : ∃ p : TRect, cs = [(.int .i64 p.X0), (.int .i64 p.Y0), (.int .i64 p.X1), (.int .i64 p.Y1)] ∧ p.Wf := by
  obtain ⟨xs, m, _, _, hl, hx, hf⟩ := DataW.trod_struct Tryd.underlying57 h
  rw [nc_57] at hl
  match cs, hl, xs, hx with
  | [a0, a1, a2, a3], _, [x0, x1, x2, x3], _ =>
    have h0 : DataW.trod enc Tryd.prog w base spare held m 3 (([a0, a1, a2, a3].drop 0).take (Tryd.prog.cellsOf 3)) = some x0 := hf 0 _ rfl
    rw [nc_3] at h0
    have h1 : DataW.trod enc Tryd.prog w base spare held m 3 (([a0, a1, a2, a3].drop 1).take (Tryd.prog.cellsOf 3)) = some x1 := hf 1 _ rfl
    rw [nc_3] at h1
    have h2 : DataW.trod enc Tryd.prog w base spare held m 3 (([a0, a1, a2, a3].drop 2).take (Tryd.prog.cellsOf 3)) = some x2 := hf 2 _ rfl
    rw [nc_3] at h2
    have h3 : DataW.trod enc Tryd.prog w base spare held m 3 (([a0, a1, a2, a3].drop 3).take (Tryd.prog.cellsOf 3)) = some x3 := hf 3 _ rfl
    rw [nc_3] at h3
    obtain ⟨k0, e0, w0⟩ := dec_3 _ _ _ h0
    have e0 := (List.cons.inj e0).1; subst e0
    obtain ⟨k1, e1, w1⟩ := dec_3 _ _ _ h1
    have e1 := (List.cons.inj e1).1; subst e1
    obtain ⟨k2, e2, w2⟩ := dec_3 _ _ _ h2
    have e2 := (List.cons.inj e2).1; subst e2
    obtain ⟨k3, e3, w3⟩ := dec_3 _ _ _ h3
    have e3 := (List.cons.inj e3).1; subst e3
    exact ⟨⟨k0, k1, k2, k3⟩, rfl, ⟨w0, w1, w2, w3⟩⟩
theorem dec_62 (n : Nat) (cs : List Value) (y : DataW H × List MemPlace) (h : DataW.trod enc Tryd.prog w base spare held n 62 cs = some y) : ∃ (u : (fl_TPlotTool).Ad) (p : TPlotTool), (fl_TPlotTool).ok (lo w.heap.size) w u p ∧ cs = (fl_TPlotTool).enc u p ∧ p.Wf := by
  obtain ⟨xs, m, _, _, hl, hx, hf⟩ := DataW.trod_struct Tryd.underlying62 h
  rw [nc_62] at hl
  match cs, hl, xs, hx with
  | [a0, a1], _, [x0, x1], _ =>
    have h0 : DataW.trod enc Tryd.prog w base spare held m 9 (([a0, a1].drop 0).take (Tryd.prog.cellsOf 9)) = some x0 := hf 0 _ rfl
    rw [nc_9] at h0
    have h1 : DataW.trod enc Tryd.prog w base spare held m 60 (([a0, a1].drop 1).take (Tryd.prog.cellsOf 60)) = some x1 := hf 1 _ rfl
    rw [nc_60] at h1
    obtain ⟨k0, e0, w0⟩ := dec_9 _ _ _ h0
    have e0 := (List.cons.inj e0).1; subst e0
    obtain ⟨A1, c1, k1, e1, s1, w1⟩ := sl_of_trod fl_TRect Tryd.underlying60 nc_57 (by decide) (decF fl_TRect ef_TRect tr_TRect () dec_57) h1
    subst e1
    exact ⟨(A1, c1), ⟨k0, k1⟩, s1, rfl, ⟨w0, ⟨Nat.le_trans s1.form.1 s1.form.2.1, w1⟩⟩⟩
theorem dec_27 (n : Nat) (cs : List Value) (y : DataW H × List MemPlace) (h : DataW.trod enc Tryd.prog w base spare held n 27 cs = some y) : ∃ p : TPoint, cs = [(.int .i64 p.X), (.int .i64 p.Y)] ∧ p.Wf := by
  obtain ⟨xs, m, _, _, hl, hx, hf⟩ := DataW.trod_struct Tryd.underlying27 h
  rw [nc_27] at hl
  match cs, hl, xs, hx with
  | [a0, a1], _, [x0, x1], _ =>
    have h0 : DataW.trod enc Tryd.prog w base spare held m 3 (([a0, a1].drop 0).take (Tryd.prog.cellsOf 3)) = some x0 := hf 0 _ rfl
    rw [nc_3] at h0
    have h1 : DataW.trod enc Tryd.prog w base spare held m 3 (([a0, a1].drop 1).take (Tryd.prog.cellsOf 3)) = some x1 := hf 1 _ rfl
    rw [nc_3] at h1
    obtain ⟨k0, e0, w0⟩ := dec_3 _ _ _ h0
    have e0 := (List.cons.inj e0).1; subst e0
    obtain ⟨k1, e1, w1⟩ := dec_3 _ _ _ h1
    have e1 := (List.cons.inj e1).1; subst e1
    exact ⟨⟨k0, k1⟩, rfl, ⟨w0, w1⟩⟩
theorem dec_46 : ∀ (n : Nat) (cs : List Value) (y : DataW H × List MemPlace) (_ : DataW.trod enc Tryd.prog w base spare held n 46 cs = some y), ∃ (u : (fl_TPlotStep).Ad) (p : TPlotStep), (fl_TPlotStep).ok (lo w.heap.size) w u p ∧ cs = (fl_TPlotStep).enc u p ∧ p.Wf := by
  intro n
  induction n using Nat.strongRecOn with
  | _ n ih =>
  intro cs y h
  obtain ⟨xs, m, hm, _, hl, hx, hf⟩ := DataW.trod_struct Tryd.underlying46 h
  rw [nc_46] at hl
  match cs, hl, xs, hx with
  | [a0, a1, a2, a3, a4, a5, a6, a7], _, [x0, x1, x2, x3, x4, x5, x6], _ =>
    have h0 : DataW.trod enc Tryd.prog w base spare held m 3 (([a0, a1, a2, a3, a4, a5, a6, a7].drop 0).take (Tryd.prog.cellsOf 3)) = some x0 := hf 0 _ rfl
    rw [nc_3] at h0
    have h1 : DataW.trod enc Tryd.prog w base spare held m 9 (([a0, a1, a2, a3, a4, a5, a6, a7].drop 1).take (Tryd.prog.cellsOf 9)) = some x1 := hf 1 _ rfl
    rw [nc_9] at h1
    have h2 : DataW.trod enc Tryd.prog w base spare held m 27 (([a0, a1, a2, a3, a4, a5, a6, a7].drop 2).take (Tryd.prog.cellsOf 27)) = some x2 := hf 2 _ rfl
    rw [nc_27] at h2
    have h3 : DataW.trod enc Tryd.prog w base spare held m 44 (([a0, a1, a2, a3, a4, a5, a6, a7].drop 4).take (Tryd.prog.cellsOf 44)) = some x3 := hf 3 _ rfl
    rw [nc_44] at h3
    have h4 : DataW.trod enc Tryd.prog w base spare held m 3 (([a0, a1, a2, a3, a4, a5, a6, a7].drop 5).take (Tryd.prog.cellsOf 3)) = some x4 := hf 4 _ rfl
    rw [nc_3] at h4
    have h5 : DataW.trod enc Tryd.prog w base spare held m 3 (([a0, a1, a2, a3, a4, a5, a6, a7].drop 6).take (Tryd.prog.cellsOf 3)) = some x5 := hf 5 _ rfl
    rw [nc_3] at h5
    have h6 : DataW.trod enc Tryd.prog w base spare held m 23 (([a0, a1, a2, a3, a4, a5, a6, a7].drop 7).take (Tryd.prog.cellsOf 23)) = some x6 := hf 6 _ rfl
    rw [nc_23] at h6
    obtain ⟨k0, e0, w0⟩ := dec_3 _ _ _ h0
    have e0 := (List.cons.inj e0).1; subst e0
    obtain ⟨k1, e1, w1⟩ := dec_9 _ _ _ h1
    have e1 := (List.cons.inj e1).1; subst e1
    obtain ⟨k2, e2, w2⟩ := dec_27 _ _ _ h2
    simp at e2
    obtain ⟨q2_0, q2_1⟩ := e2
    subst q2_0 q2_1
    obtain ⟨A3, c3, k3, e3, s3, w3⟩ := sl_of_trod fl_TPoint Tryd.underlying44 nc_27 (by decide) (decF fl_TPoint ef_TPoint tr_TPoint () dec_27) h3
    subst e3
    obtain ⟨k4, e4, w4⟩ := dec_3 _ _ _ h4
    have e4 := (List.cons.inj e4).1; subst e4
    obtain ⟨k5, e5, w5⟩ := dec_3 _ _ _ h5
    have e5 := (List.cons.inj e5).1; subst e5
    obtain ⟨A6, c6, k6, e6, s6, w6⟩ := sl_of_trodN fl_TPlotStep Tryd.underlying23 nc_46 (by decide) (fun n' hn' => ih n' (by omega)) h6
    subst e6
    exact ⟨((A3, c3), (A6, c6)), ⟨k0, k1, k2, k3, k4, k5, k6⟩, (TPlotStep_ok.2 ⟨s3, s6⟩), rfl, ⟨w0, w1, w2, (Nat.le_trans s3.form.1 s3.form.2.1), w3, w4, w5, (Nat.le_trans s6.form.1 s6.form.2.1), w6⟩⟩
theorem open_25 {r : Reach} {b0 : Nat} {v : Value} {d : DataW H} {p : List MemPlace} (hv : Value.okWide Tryd.prog w r b0 25 v) (h : DataW.Trod enc Tryd.prog w base spare held 25 v d p) :
    ∃ (p : TPlot) (A1 : Option Addr) (c1 : Nat) (A2 : Option Addr) (c2 : Nat), v = .agg #[(.int .i64 p.Unit), (.slice A1 (p.Tools).length c1), (.slice A2 (p.Steps).length c2)] ∧ Sl (lo w.heap.size) w fl_TPlotTool A1 c1 p.Tools ∧ Sl (lo w.heap.size) w fl_TPlotStep A2 c2 p.Steps ∧ p.Wf := by
  obtain ⟨cs, rfl, hl⟩ := okWide_struct Tryd.underlying25 hv
  obtain ⟨l⟩ := cs
  rw [nc_25] at hl
  obtain ⟨fuel, hf⟩ := h
  obtain ⟨xs, m, _, _, _, hx, hf⟩ := DataW.trod_struct Tryd.underlying25 hf
  match l, hl, xs, hx with
  | [a0, a1, a2], _, [x0, x1, x2], _ =>
    have h0 : DataW.trod enc Tryd.prog w base spare held m 3 (([a0, a1, a2].drop 0).take (Tryd.prog.cellsOf 3)) = some x0 := hf 0 _ rfl
    rw [nc_3] at h0
    have h1 : DataW.trod enc Tryd.prog w base spare held m 22 (([a0, a1, a2].drop 1).take (Tryd.prog.cellsOf 22)) = some x1 := hf 1 _ rfl
    rw [nc_22] at h1
    have h2 : DataW.trod enc Tryd.prog w base spare held m 23 (([a0, a1, a2].drop 2).take (Tryd.prog.cellsOf 23)) = some x2 := hf 2 _ rfl
    rw [nc_23] at h2
    obtain ⟨k0, e0, w0⟩ := dec_3 _ _ _ h0
    have e0 := (List.cons.inj e0).1; subst e0
    obtain ⟨A1, c1, k1, e1, s1, w1⟩ := sl_of_trod fl_TPlotTool Tryd.underlying22 nc_62 (by decide) dec_62 h1
    subst e1
    obtain ⟨A2, c2, k2, e2, s2, w2⟩ := sl_of_trod fl_TPlotStep Tryd.underlying23 nc_46 (by decide) dec_46 h2
    subst e2
    exact ⟨⟨k0, k1, k2⟩, A1, c1, A2, c2, rfl, s1, s2, ⟨w0, ⟨Nat.le_trans s1.form.1 s1.form.2.1, w1⟩, ⟨Nat.le_trans s2.form.1 s2.form.2.1, w2⟩⟩⟩
theorem open_27 {r : Reach} {b0 : Nat} {v : Value} {d : DataW H} {p : List MemPlace} (hv : Value.okWide Tryd.prog w r b0 27 v) (h : DataW.Trod enc Tryd.prog w base spare held 27 v d p) :
    ∃ (p : TPoint), v = .agg #[(.int .i64 p.X), (.int .i64 p.Y)] ∧ p.Wf := by
  obtain ⟨cs, rfl, hl⟩ := okWide_struct Tryd.underlying27 hv
  obtain ⟨l⟩ := cs
  rw [nc_27] at hl
  obtain ⟨fuel, hf⟩ := h
  obtain ⟨xs, m, _, _, _, hx, hf⟩ := DataW.trod_struct Tryd.underlying27 hf
  match l, hl, xs, hx with
  | [a0, a1], _, [x0, x1], _ =>
    have h0 : DataW.trod enc Tryd.prog w base spare held m 3 (([a0, a1].drop 0).take (Tryd.prog.cellsOf 3)) = some x0 := hf 0 _ rfl
    rw [nc_3] at h0
    have h1 : DataW.trod enc Tryd.prog w base spare held m 3 (([a0, a1].drop 1).take (Tryd.prog.cellsOf 3)) = some x1 := hf 1 _ rfl
    rw [nc_3] at h1
    obtain ⟨k0, e0, w0⟩ := dec_3 _ _ _ h0
    have e0 := (List.cons.inj e0).1; subst e0
    obtain ⟨k1, e1, w1⟩ := dec_3 _ _ _ h1
    have e1 := (List.cons.inj e1).1; subst e1
    exact ⟨⟨k0, k1⟩, rfl, ⟨w0, w1⟩⟩
structure TTurn.Wf (p : TTurn) : Prop where
  fFlip : True
  fQuarters : I64 p.Quarters
  fAt : TPoint.Wf p.At
theorem dec_4 (n : Nat) (cs : List Value) (y : DataW H × List MemPlace) (h : DataW.trod enc Tryd.prog w base spare held n 4 cs = some y) : ∃ s : Bool, cs = [.bool s] ∧ True := by
  obtain ⟨k, h1, _⟩ := DataW.trod_bool Tryd.underlying4 h
  exact ⟨k, h1, trivial⟩
theorem open_29 {r : Reach} {b0 : Nat} {v : Value} {d : DataW H} {p : List MemPlace} (hv : Value.okWide Tryd.prog w r b0 29 v) (h : DataW.Trod enc Tryd.prog w base spare held 29 v d p) :
    ∃ (p : TTurn), v = .agg #[(.bool p.Flip), (.int .i64 p.Quarters), (.int .i64 p.At.X), (.int .i64 p.At.Y)] ∧ p.Wf := by
  obtain ⟨cs, rfl, hl⟩ := okWide_struct Tryd.underlying29 hv
  obtain ⟨l⟩ := cs
  rw [nc_29] at hl
  obtain ⟨fuel, hf⟩ := h
  obtain ⟨xs, m, _, _, _, hx, hf⟩ := DataW.trod_struct Tryd.underlying29 hf
  match l, hl, xs, hx with
  | [a0, a1, a2, a3], _, [x0, x1, x2], _ =>
    have h0 : DataW.trod enc Tryd.prog w base spare held m 4 (([a0, a1, a2, a3].drop 0).take (Tryd.prog.cellsOf 4)) = some x0 := hf 0 _ rfl
    rw [nc_4] at h0
    have h1 : DataW.trod enc Tryd.prog w base spare held m 3 (([a0, a1, a2, a3].drop 1).take (Tryd.prog.cellsOf 3)) = some x1 := hf 1 _ rfl
    rw [nc_3] at h1
    have h2 : DataW.trod enc Tryd.prog w base spare held m 27 (([a0, a1, a2, a3].drop 2).take (Tryd.prog.cellsOf 27)) = some x2 := hf 2 _ rfl
    rw [nc_27] at h2
    obtain ⟨k0, e0, w0⟩ := dec_4 _ _ _ h0
    have e0 := (List.cons.inj e0).1; subst e0
    obtain ⟨k1, e1, w1⟩ := dec_3 _ _ _ h1
    have e1 := (List.cons.inj e1).1; subst e1
    obtain ⟨k2, e2, w2⟩ := dec_27 _ _ _ h2
    simp at e2
    obtain ⟨q2_0, q2_1⟩ := e2
    subst q2_0 q2_1
    exact ⟨⟨k0, k1, k2⟩, rfl, ⟨w0, w1, w2⟩⟩
end
end Go.Proofs.YtneghcpnehiffaaDoor
