/- Opening of the arguments of PlotsTurnedDrawTurned. -/
import Derived.Test.YtneghcpnehiffaaGreatDoorXT
import Derived.Test.YtneghcpnehiffaaGreatDoorJ5
namespace Go.Proofs.YtneghcpnehiffaaGreatDoor
open Go.ChangeShapes Go.WideShapes Go.ChangeAt Go.RowKit Go.Deep Go.WideElems
open Go.ChangeMaps (open_string)
set_option maxRecDepth 100000
theorem zMA : Tryz.prog.cellsOf 3 = 1 := by kernel_rfl
theorem zoS : Tryz.prog.cellsOf 4 = 1 := by kernel_rfl
theorem zjj : Tryz.prog.cellsOf 9 = 1 := by kernel_rfl
theorem zjo : Tryz.prog.cellsOf 22 = 1 := by kernel_rfl
theorem zd2 : Tryz.prog.cellsOf 23 = 1 := by kernel_rfl
theorem zjn : Tryz.prog.cellsOf 25 = 3 := by kernel_rfl
theorem zS7 : Tryz.prog.cellsOf 27 = 2 := by kernel_rfl
theorem zjm : Tryz.prog.cellsOf 29 = 4 := by kernel_rfl
theorem zjl : Tryz.prog.cellsOf 30 = 1 := by kernel_rfl
theorem zd1 : Tryz.prog.cellsOf 40 = 4 := by kernel_rfl
theorem zjk : Tryz.prog.cellsOf 57 = 1 := by kernel_rfl
theorem zZF : Tryz.prog.cellsOf 59 = 8 := by kernel_rfl
theorem zd0 : Tryz.prog.cellsOf 91 = 2 := by kernel_rfl
section
variable {H : Type} {enc : TypeId × Value → H} {w : World} {base : Nat} {spare : Nat → Bool} {held : Bool}
structure zK.Wf (p : zK) : Prop where
  fX0 : I64 p.X0
  fY0 : I64 p.Y0
  fX1 : I64 p.X1
  fY1 : I64 p.Y1
structure zg.Wf (p : zg) : Prop where
  fName : (p.Name).size ≤ 9223372036854775807
  fRects : ((p.Rects).length ≤ 9223372036854775807 ∧ ∀ x ∈ p.Rects, zK.Wf x)
structure zI.Wf (p : zI) : Prop where
  fX : I64 p.X
  fY : I64 p.Y
inductive zC.Wf : zC → Prop
  | mk {p : zC} (fKind : I64 p.Kind) (fName : (p.Name).size ≤ 9223372036854775807) (fAt : zI.Wf p.At) (lPoints : (p.Points).length ≤ 9223372036854775807) (fPoints : ∀ x ∈ p.Points, zI.Wf x) (fNX : I64 p.NX) (fNY : I64 p.NY) (lSteps : (p.Steps).length ≤ 9223372036854775807) (fSteps : ∀ x ∈ p.Steps, zC.Wf x) : zC.Wf p
structure zt.Wf (p : zt) : Prop where
  fUnit : I64 p.Unit
  fTools : ((p.Tools).length ≤ 9223372036854775807 ∧ ∀ x ∈ p.Tools, zg.Wf x)
  fSteps : ((p.Steps).length ≤ 9223372036854775807 ∧ ∀ x ∈ p.Steps, zC.Wf x)
theorem zG6 (n : Nat) (cs : List Value) (y : DataW H × List MemPlace) (h : DataW.trod enc Tryz.prog w base spare held n 3 cs = some y) : ∃ k : Int, cs = [.int .i64 k] ∧ I64 k := by
  obtain ⟨k, h1, _, h2⟩ := DataW.trod_int Tryz.underlying3 h
  exact ⟨k, h1, zfj h2⟩
theorem zeb (n : Nat) (cs : List Value) (y : DataW H × List MemPlace) (h : DataW.trod enc Tryz.prog w base spare held n 9 cs = some y) : ∃ s : ByteArray, cs = [.string s] ∧ s.size ≤ 9223372036854775807 := by
  obtain ⟨k, h1, _, h2⟩ := DataW.trod_string Tryz.underlying9 h
  exact ⟨k, h1, h2⟩
theorem ziq (n : Nat) (cs : List Value) (y : DataW H × List MemPlace) (h : DataW.trod enc Tryz.prog w base spare held n 40 cs = some y) : ∃ p : zK, cs = [(.int .i64 p.X0), (.int .i64 p.Y0), (.int .i64 p.X1), (.int .i64 p.Y1)] ∧ p.Wf := by
  obtain ⟨xs, m, _, _, hl, hx, hf⟩ := DataW.trod_struct Tryz.underlying40 h
  rw [zd1] at hl
  match cs, hl, xs, hx with
  | [a0, a1, a2, a3], _, [x0, x1, x2, x3], _ =>
    have h0 : DataW.trod enc Tryz.prog w base spare held m 3 (([a0, a1, a2, a3].drop 0).take (Tryz.prog.cellsOf 3)) = some x0 := hf 0 _ rfl
    rw [zMA] at h0
    have h1 : DataW.trod enc Tryz.prog w base spare held m 3 (([a0, a1, a2, a3].drop 1).take (Tryz.prog.cellsOf 3)) = some x1 := hf 1 _ rfl
    rw [zMA] at h1
    have h2 : DataW.trod enc Tryz.prog w base spare held m 3 (([a0, a1, a2, a3].drop 2).take (Tryz.prog.cellsOf 3)) = some x2 := hf 2 _ rfl
    rw [zMA] at h2
    have h3 : DataW.trod enc Tryz.prog w base spare held m 3 (([a0, a1, a2, a3].drop 3).take (Tryz.prog.cellsOf 3)) = some x3 := hf 3 _ rfl
    rw [zMA] at h3
    obtain ⟨k0, e0, w0⟩ := zG6 _ _ _ h0
    have e0 := (List.cons.inj e0).1; subst e0
    obtain ⟨k1, e1, w1⟩ := zG6 _ _ _ h1
    have e1 := (List.cons.inj e1).1; subst e1
    obtain ⟨k2, e2, w2⟩ := zG6 _ _ _ h2
    have e2 := (List.cons.inj e2).1; subst e2
    obtain ⟨k3, e3, w3⟩ := zG6 _ _ _ h3
    have e3 := (List.cons.inj e3).1; subst e3
    exact ⟨⟨k0, k1, k2, k3⟩, rfl, ⟨w0, w1, w2, w3⟩⟩
theorem zin (n : Nat) (cs : List Value) (y : DataW H × List MemPlace) (h : DataW.trod enc Tryz.prog w base spare held n 91 cs = some y) : ∃ (u : (zW).Ad) (p : zg), (zW).ok (lo w.heap.size) w u p ∧ cs = (zW).enc u p ∧ p.Wf := by
  obtain ⟨xs, m, _, _, hl, hx, hf⟩ := DataW.trod_struct Tryz.underlying91 h
  rw [zd0] at hl
  match cs, hl, xs, hx with
  | [a0, a1], _, [x0, x1], _ =>
    have h0 : DataW.trod enc Tryz.prog w base spare held m 9 (([a0, a1].drop 0).take (Tryz.prog.cellsOf 9)) = some x0 := hf 0 _ rfl
    rw [zjj] at h0
    have h1 : DataW.trod enc Tryz.prog w base spare held m 30 (([a0, a1].drop 1).take (Tryz.prog.cellsOf 30)) = some x1 := hf 1 _ rfl
    rw [zjl] at h1
    obtain ⟨k0, e0, w0⟩ := zeb _ _ _ h0
    have e0 := (List.cons.inj e0).1; subst e0
    obtain ⟨A1, c1, k1, e1, s1, w1⟩ := zHP zR Tryz.underlying30 zd1 (by decide) (zmz zR VP WN () ziq) h1
    subst e1
    exact ⟨(A1, c1), ⟨k0, k1⟩, s1, rfl, ⟨w0, ⟨Nat.le_trans s1.form.1 s1.form.2.1, w1⟩⟩⟩
theorem zVV (n : Nat) (cs : List Value) (y : DataW H × List MemPlace) (h : DataW.trod enc Tryz.prog w base spare held n 27 cs = some y) : ∃ p : zI, cs = [(.int .i64 p.X), (.int .i64 p.Y)] ∧ p.Wf := by
  obtain ⟨xs, m, _, _, hl, hx, hf⟩ := DataW.trod_struct Tryz.underlying27 h
  rw [zS7] at hl
  match cs, hl, xs, hx with
  | [a0, a1], _, [x0, x1], _ =>
    have h0 : DataW.trod enc Tryz.prog w base spare held m 3 (([a0, a1].drop 0).take (Tryz.prog.cellsOf 3)) = some x0 := hf 0 _ rfl
    rw [zMA] at h0
    have h1 : DataW.trod enc Tryz.prog w base spare held m 3 (([a0, a1].drop 1).take (Tryz.prog.cellsOf 3)) = some x1 := hf 1 _ rfl
    rw [zMA] at h1
    obtain ⟨k0, e0, w0⟩ := zG6 _ _ _ h0
    have e0 := (List.cons.inj e0).1; subst e0
    obtain ⟨k1, e1, w1⟩ := zG6 _ _ _ h1
    have e1 := (List.cons.inj e1).1; subst e1
    exact ⟨⟨k0, k1⟩, rfl, ⟨w0, w1⟩⟩
theorem zio : ∀ (n : Nat) (cs : List Value) (y : DataW H × List MemPlace) (_ : DataW.trod enc Tryz.prog w base spare held n 59 cs = some y), ∃ (u : (zJ).Ad) (p : zC), (zJ).ok (lo w.heap.size) w u p ∧ cs = (zJ).enc u p ∧ p.Wf := by
  intro n
  induction n using Nat.strongRecOn with
  | _ n ih =>
  intro cs y h
  obtain ⟨xs, m, hm, _, hl, hx, hf⟩ := DataW.trod_struct Tryz.underlying59 h
  rw [zZF] at hl
  match cs, hl, xs, hx with
  | [a0, a1, a2, a3, a4, a5, a6, a7], _, [x0, x1, x2, x3, x4, x5, x6], _ =>
    have h0 : DataW.trod enc Tryz.prog w base spare held m 3 (([a0, a1, a2, a3, a4, a5, a6, a7].drop 0).take (Tryz.prog.cellsOf 3)) = some x0 := hf 0 _ rfl
    rw [zMA] at h0
    have h1 : DataW.trod enc Tryz.prog w base spare held m 9 (([a0, a1, a2, a3, a4, a5, a6, a7].drop 1).take (Tryz.prog.cellsOf 9)) = some x1 := hf 1 _ rfl
    rw [zjj] at h1
    have h2 : DataW.trod enc Tryz.prog w base spare held m 27 (([a0, a1, a2, a3, a4, a5, a6, a7].drop 2).take (Tryz.prog.cellsOf 27)) = some x2 := hf 2 _ rfl
    rw [zS7] at h2
    have h3 : DataW.trod enc Tryz.prog w base spare held m 57 (([a0, a1, a2, a3, a4, a5, a6, a7].drop 4).take (Tryz.prog.cellsOf 57)) = some x3 := hf 3 _ rfl
    rw [zjk] at h3
    have h4 : DataW.trod enc Tryz.prog w base spare held m 3 (([a0, a1, a2, a3, a4, a5, a6, a7].drop 5).take (Tryz.prog.cellsOf 3)) = some x4 := hf 4 _ rfl
    rw [zMA] at h4
    have h5 : DataW.trod enc Tryz.prog w base spare held m 3 (([a0, a1, a2, a3, a4, a5, a6, a7].drop 6).take (Tryz.prog.cellsOf 3)) = some x5 := hf 5 _ rfl
    rw [zMA] at h5
    have h6 : DataW.trod enc Tryz.prog w base spare held m 23 (([a0, a1, a2, a3, a4, a5, a6, a7].drop 7).take (Tryz.prog.cellsOf 23)) = some x6 := hf 6 _ rfl
    rw [zd2] at h6
    obtain ⟨k0, e0, w0⟩ := zG6 _ _ _ h0
    have e0 := (List.cons.inj e0).1; subst e0
    obtain ⟨k1, e1, w1⟩ := zeb _ _ _ h1
    have e1 := (List.cons.inj e1).1; subst e1
    obtain ⟨k2, e2, w2⟩ := zVV _ _ _ h2
    simp at e2
    obtain ⟨q2_0, q2_1⟩ := e2
    subst q2_0 q2_1
    obtain ⟨A3, c3, k3, e3, s3, w3⟩ := zHP zz Tryz.underlying57 zS7 (by decide) (zmz zz zAL zJD () zVV) h3
    subst e3
    obtain ⟨k4, e4, w4⟩ := zG6 _ _ _ h4
    have e4 := (List.cons.inj e4).1; subst e4
    obtain ⟨k5, e5, w5⟩ := zG6 _ _ _ h5
    have e5 := (List.cons.inj e5).1; subst e5
    obtain ⟨A6, c6, k6, e6, s6, w6⟩ := zMp zJ Tryz.underlying23 zZF (by decide) (fun n' hn' => ih n' (by omega)) h6
    subst e6
    exact ⟨((A3, c3), (A6, c6)), ⟨k0, k1, k2, k3, k4, k5, k6⟩, (WI.2 ⟨s3, s6⟩), rfl, ⟨w0, w1, w2, (Nat.le_trans s3.form.1 s3.form.2.1), w3, w4, w5, (Nat.le_trans s6.form.1 s6.form.2.1), w6⟩⟩
theorem zcJ {r : Reach} {b0 : Nat} {v : Value} {d : DataW H} {p : List MemPlace} (hv : Value.okWide Tryz.prog w r b0 25 v) (h : DataW.Trod enc Tryz.prog w base spare held 25 v d p) :
    ∃ (p : zt) (A1 : Option Addr) (c1 : Nat) (A2 : Option Addr) (c2 : Nat), v = .agg #[(.int .i64 p.Unit), (.slice A1 (p.Tools).length c1), (.slice A2 (p.Steps).length c2)] ∧ Sl (lo w.heap.size) w zW A1 c1 p.Tools ∧ Sl (lo w.heap.size) w zJ A2 c2 p.Steps ∧ p.Wf := by
  obtain ⟨cs, rfl, hl⟩ := okWide_struct Tryz.underlying25 hv
  obtain ⟨l⟩ := cs
  rw [zjn] at hl
  obtain ⟨fuel, hf⟩ := h
  obtain ⟨xs, m, _, _, _, hx, hf⟩ := DataW.trod_struct Tryz.underlying25 hf
  match l, hl, xs, hx with
  | [a0, a1, a2], _, [x0, x1, x2], _ =>
    have h0 : DataW.trod enc Tryz.prog w base spare held m 3 (([a0, a1, a2].drop 0).take (Tryz.prog.cellsOf 3)) = some x0 := hf 0 _ rfl
    rw [zMA] at h0
    have h1 : DataW.trod enc Tryz.prog w base spare held m 22 (([a0, a1, a2].drop 1).take (Tryz.prog.cellsOf 22)) = some x1 := hf 1 _ rfl
    rw [zjo] at h1
    have h2 : DataW.trod enc Tryz.prog w base spare held m 23 (([a0, a1, a2].drop 2).take (Tryz.prog.cellsOf 23)) = some x2 := hf 2 _ rfl
    rw [zd2] at h2
    obtain ⟨k0, e0, w0⟩ := zG6 _ _ _ h0
    have e0 := (List.cons.inj e0).1; subst e0
    obtain ⟨A1, c1, k1, e1, s1, w1⟩ := zHP zW Tryz.underlying22 zd0 (by decide) zin h1
    subst e1
    obtain ⟨A2, c2, k2, e2, s2, w2⟩ := zHP zJ Tryz.underlying23 zZF (by decide) zio h2
    subst e2
    exact ⟨⟨k0, k1, k2⟩, A1, c1, A2, c2, rfl, s1, s2, ⟨w0, ⟨Nat.le_trans s1.form.1 s1.form.2.1, w1⟩, ⟨Nat.le_trans s2.form.1 s2.form.2.1, w2⟩⟩⟩
theorem zcI {r : Reach} {b0 : Nat} {v : Value} {d : DataW H} {p : List MemPlace} (hv : Value.okWide Tryz.prog w r b0 27 v) (h : DataW.Trod enc Tryz.prog w base spare held 27 v d p) :
    ∃ (p : zI), v = .agg #[(.int .i64 p.X), (.int .i64 p.Y)] ∧ p.Wf := by
  obtain ⟨cs, rfl, hl⟩ := okWide_struct Tryz.underlying27 hv
  obtain ⟨l⟩ := cs
  rw [zS7] at hl
  obtain ⟨fuel, hf⟩ := h
  obtain ⟨xs, m, _, _, _, hx, hf⟩ := DataW.trod_struct Tryz.underlying27 hf
  match l, hl, xs, hx with
  | [a0, a1], _, [x0, x1], _ =>
    have h0 : DataW.trod enc Tryz.prog w base spare held m 3 (([a0, a1].drop 0).take (Tryz.prog.cellsOf 3)) = some x0 := hf 0 _ rfl
    rw [zMA] at h0
    have h1 : DataW.trod enc Tryz.prog w base spare held m 3 (([a0, a1].drop 1).take (Tryz.prog.cellsOf 3)) = some x1 := hf 1 _ rfl
    rw [zMA] at h1
    obtain ⟨k0, e0, w0⟩ := zG6 _ _ _ h0
    have e0 := (List.cons.inj e0).1; subst e0
    obtain ⟨k1, e1, w1⟩ := zG6 _ _ _ h1
    have e1 := (List.cons.inj e1).1; subst e1
    exact ⟨⟨k0, k1⟩, rfl, ⟨w0, w1⟩⟩
structure Qf.Wf (p : Qf) : Prop where
  fFlip : True
  fQuarters : I64 p.Quarters
  fAt : zI.Wf p.At
theorem zmy (n : Nat) (cs : List Value) (y : DataW H × List MemPlace) (h : DataW.trod enc Tryz.prog w base spare held n 4 cs = some y) : ∃ s : Bool, cs = [.bool s] ∧ True := by
  obtain ⟨k, h1, _⟩ := DataW.trod_bool Tryz.underlying4 h
  exact ⟨k, h1, trivial⟩
theorem zcH {r : Reach} {b0 : Nat} {v : Value} {d : DataW H} {p : List MemPlace} (hv : Value.okWide Tryz.prog w r b0 29 v) (h : DataW.Trod enc Tryz.prog w base spare held 29 v d p) :
    ∃ (p : Qf), v = .agg #[(.bool p.Flip), (.int .i64 p.Quarters), (.int .i64 p.At.X), (.int .i64 p.At.Y)] ∧ p.Wf := by
  obtain ⟨cs, rfl, hl⟩ := okWide_struct Tryz.underlying29 hv
  obtain ⟨l⟩ := cs
  rw [zjm] at hl
  obtain ⟨fuel, hf⟩ := h
  obtain ⟨xs, m, _, _, _, hx, hf⟩ := DataW.trod_struct Tryz.underlying29 hf
  match l, hl, xs, hx with
  | [a0, a1, a2, a3], _, [x0, x1, x2], _ =>
    have h0 : DataW.trod enc Tryz.prog w base spare held m 4 (([a0, a1, a2, a3].drop 0).take (Tryz.prog.cellsOf 4)) = some x0 := hf 0 _ rfl
    rw [zoS] at h0
    have h1 : DataW.trod enc Tryz.prog w base spare held m 3 (([a0, a1, a2, a3].drop 1).take (Tryz.prog.cellsOf 3)) = some x1 := hf 1 _ rfl
    rw [zMA] at h1
    have h2 : DataW.trod enc Tryz.prog w base spare held m 27 (([a0, a1, a2, a3].drop 2).take (Tryz.prog.cellsOf 27)) = some x2 := hf 2 _ rfl
    rw [zS7] at h2
    obtain ⟨k0, e0, w0⟩ := zmy _ _ _ h0
    have e0 := (List.cons.inj e0).1; subst e0
    obtain ⟨k1, e1, w1⟩ := zG6 _ _ _ h1
    have e1 := (List.cons.inj e1).1; subst e1
    obtain ⟨k2, e2, w2⟩ := zVV _ _ _ h2
    simp at e2
    obtain ⟨q2_0, q2_1⟩ := e2
    subst q2_0 q2_1
    exact ⟨⟨k0, k1, k2⟩, rfl, ⟨w0, w1, w2⟩⟩
end
end Go.Proofs.YtneghcpnehiffaaGreatDoor
