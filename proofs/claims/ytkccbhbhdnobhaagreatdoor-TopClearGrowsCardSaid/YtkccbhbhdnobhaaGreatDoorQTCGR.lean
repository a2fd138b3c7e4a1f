/- Opening of the arguments of TopClearGrows. -/
import Derived.Test.YtkccbhbhdnobhaaGreatDoorXT
import Derived.Test.YtkccbhbhdnobhaaGreatDoorJ6
namespace Go.Proofs.YtkccbhbhdnobhaaGreatDoor
open Go.ChangeShapes Go.WideShapes Go.ChangeAt Go.RowKit Go.Deep Go.WideElems
open Go.ChangeMaps (open_string)
set_option maxRecDepth 100000
theorem vL : Tryz.prog.cellsOf 3 = 1 := by kernel_rfl
theorem Sk : Tryz.prog.cellsOf 4 = 1 := by kernel_rfl
theorem Lu : Tryz.prog.cellsOf 9 = 1 := by kernel_rfl
theorem Q8 : Tryz.prog.cellsOf 22 = 1 := by kernel_rfl
theorem Q7 : Tryz.prog.cellsOf 23 = 1 := by kernel_rfl
theorem Q6 : Tryz.prog.cellsOf 25 = 7 := by kernel_rfl
theorem Q5 : Tryz.prog.cellsOf 26 = 1 := by kernel_rfl
theorem Lx : Tryz.prog.cellsOf 27 = 1 := by kernel_rfl
theorem Q4 : Tryz.prog.cellsOf 28 = 1 := by kernel_rfl
theorem Q3 : Tryz.prog.cellsOf 29 = 1 := by kernel_rfl
theorem Q0 : Tryz.prog.cellsOf 31 = 4 := by kernel_rfl
theorem QZ : Tryz.prog.cellsOf 32 = 1 := by kernel_rfl
theorem Lv : Tryz.prog.cellsOf 48 = 2 := by kernel_rfl
theorem EJ : Tryz.prog.cellsOf 111 = 4 := by kernel_rfl
theorem LD : Tryz.prog.cellsOf 119 = 6 := by kernel_rfl
theorem LC : Tryz.prog.cellsOf 137 = 3 := by kernel_rfl
theorem LB : Tryz.prog.cellsOf 155 = 5 := by kernel_rfl
theorem LA : Tryz.prog.cellsOf 191 = 4 := by kernel_rfl
section
variable {H : Type} {enc : TypeId × Value → H} {w : World} {base : Nat} {spare : Nat → Bool} {held : Bool}
structure kw.Wf (p : kw) : Prop where
  fName : (p.Name).size ≤ 9223372036854775807
  fNets : ((p.Nets).length ≤ 9223372036854775807 ∧ ∀ x ∈ p.Nets, (x).size ≤ 9223372036854775807)
  fClearance : Dy p.Clearance
  fWidth : Dy p.Width
structure au.Wf (p : au) : Prop where
  fX0 : Dy p.X0
  fY0 : Dy p.Y0
  fX1 : Dy p.X1
  fY1 : Dy p.Y1
structure mE.Wf (p : mE) : Prop where
  fLayer : Dy p.Layer
  fRegion : ((p.Region).length ≤ 9223372036854775807 ∧ ∀ x ∈ p.Region, au.Wf x)
  fClearance : Dy p.Clearance
structure gp.Wf (p : gp) : Prop where
  fClearance : Dy p.Clearance
  fWidth : Dy p.Width
  fRing : Dy p.Ring
  fEdge : Dy p.Edge
  fHoleGap : Dy p.HoleGap
  fClasses : ((p.Classes).length ≤ 9223372036854775807 ∧ ∀ x ∈ p.Classes, kw.Wf x)
  fAreas : ((p.Areas).length ≤ 9223372036854775807 ∧ ∀ x ∈ p.Areas, mE.Wf x)
theorem qJ (n : Nat) (cs : List Value) (y : DataW H × List MemPlace) (h : DataW.trod enc Tryz.prog w base spare held n 3 cs = some y) : ∃ k : Int, cs = [.int .i64 k] ∧ Dy k := by
  obtain ⟨k, h1, _, h2⟩ := DataW.trod_int Tryz.underlying3 h
  exact ⟨k, h1, P6 h2⟩
theorem Gr (n : Nat) (cs : List Value) (y : DataW H × List MemPlace) (h : DataW.trod enc Tryz.prog w base spare held n 9 cs = some y) : ∃ s : ByteArray, cs = [.string s] ∧ s.size ≤ 9223372036854775807 := by
  obtain ⟨k, h1, _, h2⟩ := DataW.trod_string Tryz.underlying9 h
  exact ⟨k, h1, h2⟩
theorem Oi (n : Nat) (cs : List Value) (y : DataW H × List MemPlace) (h : DataW.trod enc Tryz.prog w base spare held n 191 cs = some y) : ∃ (u : (iW).Ad) (p : kw), (iW).ok (lo w.heap.size) w u p ∧ cs = (iW).enc u p ∧ p.Wf := by
  obtain ⟨xs, m, _, _, hl, hx, hf⟩ := DataW.trod_struct Tryz.underlying191 h
  rw [LA] at hl
  match cs, hl, xs, hx with
  | [a0, a1, a2, a3], _, [x0, x1, x2, x3], _ =>
    have h0 : DataW.trod enc Tryz.prog w base spare held m 9 (([a0, a1, a2, a3].drop 0).take (Tryz.prog.cellsOf 9)) = some x0 := hf 0 _ rfl
    rw [Lu] at h0
    have h1 : DataW.trod enc Tryz.prog w base spare held m 32 (([a0, a1, a2, a3].drop 1).take (Tryz.prog.cellsOf 32)) = some x1 := hf 1 _ rfl
    rw [QZ] at h1
    have h2 : DataW.trod enc Tryz.prog w base spare held m 3 (([a0, a1, a2, a3].drop 2).take (Tryz.prog.cellsOf 3)) = some x2 := hf 2 _ rfl
    rw [vL] at h2
    have h3 : DataW.trod enc Tryz.prog w base spare held m 3 (([a0, a1, a2, a3].drop 3).take (Tryz.prog.cellsOf 3)) = some x3 := hf 3 _ rfl
    rw [vL] at h3
    obtain ⟨k0, e0, w0⟩ := Gr _ _ _ h0
    have e0 := (List.cons.inj e0).1; subst e0
    obtain ⟨A1, c1, k1, e1, s1, w1⟩ := mV mD Tryz.underlying32 Lu (by decide) (Ia mD vT G5 () Gr) h1
    subst e1
    obtain ⟨k2, e2, w2⟩ := qJ _ _ _ h2
    have e2 := (List.cons.inj e2).1; subst e2
    obtain ⟨k3, e3, w3⟩ := qJ _ _ _ h3
    have e3 := (List.cons.inj e3).1; subst e3
    exact ⟨(A1, c1), ⟨k0, k1, k2, k3⟩, s1, rfl, ⟨w0, ⟨Nat.le_trans s1.form.1 s1.form.2.1, w1⟩, w2, w3⟩⟩
theorem ER (n : Nat) (cs : List Value) (y : DataW H × List MemPlace) (h : DataW.trod enc Tryz.prog w base spare held n 111 cs = some y) : ∃ p : au, cs = [(.int .i64 p.X0), (.int .i64 p.Y0), (.int .i64 p.X1), (.int .i64 p.Y1)] ∧ p.Wf := by
  obtain ⟨xs, m, _, _, hl, hx, hf⟩ := DataW.trod_struct Tryz.underlying111 h
  rw [EJ] at hl
  match cs, hl, xs, hx with
  | [a0, a1, a2, a3], _, [x0, x1, x2, x3], _ =>
    have h0 : DataW.trod enc Tryz.prog w base spare held m 3 (([a0, a1, a2, a3].drop 0).take (Tryz.prog.cellsOf 3)) = some x0 := hf 0 _ rfl
    rw [vL] at h0
    have h1 : DataW.trod enc Tryz.prog w base spare held m 3 (([a0, a1, a2, a3].drop 1).take (Tryz.prog.cellsOf 3)) = some x1 := hf 1 _ rfl
    rw [vL] at h1
    have h2 : DataW.trod enc Tryz.prog w base spare held m 3 (([a0, a1, a2, a3].drop 2).take (Tryz.prog.cellsOf 3)) = some x2 := hf 2 _ rfl
    rw [vL] at h2
    have h3 : DataW.trod enc Tryz.prog w base spare held m 3 (([a0, a1, a2, a3].drop 3).take (Tryz.prog.cellsOf 3)) = some x3 := hf 3 _ rfl
    rw [vL] at h3
    obtain ⟨k0, e0, w0⟩ := qJ _ _ _ h0
    have e0 := (List.cons.inj e0).1; subst e0
    obtain ⟨k1, e1, w1⟩ := qJ _ _ _ h1
    have e1 := (List.cons.inj e1).1; subst e1
    obtain ⟨k2, e2, w2⟩ := qJ _ _ _ h2
    have e2 := (List.cons.inj e2).1; subst e2
    obtain ⟨k3, e3, w3⟩ := qJ _ _ _ h3
    have e3 := (List.cons.inj e3).1; subst e3
    exact ⟨⟨k0, k1, k2, k3⟩, rfl, ⟨w0, w1, w2, w3⟩⟩
theorem Ol (n : Nat) (cs : List Value) (y : DataW H × List MemPlace) (h : DataW.trod enc Tryz.prog w base spare held n 137 cs = some y) : ∃ (u : (jh).Ad) (p : mE), (jh).ok (lo w.heap.size) w u p ∧ cs = (jh).enc u p ∧ p.Wf := by
  obtain ⟨xs, m, _, _, hl, hx, hf⟩ := DataW.trod_struct Tryz.underlying137 h
  rw [LC] at hl
  match cs, hl, xs, hx with
  | [a0, a1, a2], _, [x0, x1, x2], _ =>
    have h0 : DataW.trod enc Tryz.prog w base spare held m 3 (([a0, a1, a2].drop 0).take (Tryz.prog.cellsOf 3)) = some x0 := hf 0 _ rfl
    rw [vL] at h0
    have h1 : DataW.trod enc Tryz.prog w base spare held m 27 (([a0, a1, a2].drop 1).take (Tryz.prog.cellsOf 27)) = some x1 := hf 1 _ rfl
    rw [Lx] at h1
    have h2 : DataW.trod enc Tryz.prog w base spare held m 3 (([a0, a1, a2].drop 2).take (Tryz.prog.cellsOf 3)) = some x2 := hf 2 _ rfl
    rw [vL] at h2
    obtain ⟨k0, e0, w0⟩ := qJ _ _ _ h0
    have e0 := (List.cons.inj e0).1; subst e0
    obtain ⟨A1, c1, k1, e1, s1, w1⟩ := mV aB Tryz.underlying27 EJ (by decide) (Ia aB gm jb () ER) h1
    subst e1
    obtain ⟨k2, e2, w2⟩ := qJ _ _ _ h2
    have e2 := (List.cons.inj e2).1; subst e2
    exact ⟨(A1, c1), ⟨k0, k1, k2⟩, s1, rfl, ⟨w0, ⟨Nat.le_trans s1.form.1 s1.form.2.1, w1⟩, w2⟩⟩
theorem NG {r : Reach} {b0 : Nat} {v : Value} {d : DataW H} {p : List MemPlace} (hv : Value.okWide Tryz.prog w r b0 25 v) (h : DataW.Trod enc Tryz.prog w base spare held 25 v d p) :
    ∃ (p : gp) (A5 : Option Addr) (c5 : Nat) (A6 : Option Addr) (c6 : Nat), v = .agg #[(.int .i64 p.Clearance), (.int .i64 p.Width), (.int .i64 p.Ring), (.int .i64 p.Edge), (.int .i64 p.HoleGap), (.slice A5 (p.Classes).length c5), (.slice A6 (p.Areas).length c6)] ∧ Sl (lo w.heap.size) w iW A5 c5 p.Classes ∧ Sl (lo w.heap.size) w jh A6 c6 p.Areas ∧ p.Wf := by
  obtain ⟨cs, rfl, hl⟩ := okWide_struct Tryz.underlying25 hv
  obtain ⟨l⟩ := cs
  rw [Q6] at hl
  obtain ⟨fuel, hf⟩ := h
  obtain ⟨xs, m, _, _, _, hx, hf⟩ := DataW.trod_struct Tryz.underlying25 hf
  match l, hl, xs, hx with
  | [a0, a1, a2, a3, a4, a5, a6], _, [x0, x1, x2, x3, x4, x5, x6], _ =>
    have h0 : DataW.trod enc Tryz.prog w base spare held m 3 (([a0, a1, a2, a3, a4, a5, a6].drop 0).take (Tryz.prog.cellsOf 3)) = some x0 := hf 0 _ rfl
    rw [vL] at h0
    have h1 : DataW.trod enc Tryz.prog w base spare held m 3 (([a0, a1, a2, a3, a4, a5, a6].drop 1).take (Tryz.prog.cellsOf 3)) = some x1 := hf 1 _ rfl
    rw [vL] at h1
    have h2 : DataW.trod enc Tryz.prog w base spare held m 3 (([a0, a1, a2, a3, a4, a5, a6].drop 2).take (Tryz.prog.cellsOf 3)) = some x2 := hf 2 _ rfl
    rw [vL] at h2
    have h3 : DataW.trod enc Tryz.prog w base spare held m 3 (([a0, a1, a2, a3, a4, a5, a6].drop 3).take (Tryz.prog.cellsOf 3)) = some x3 := hf 3 _ rfl
    rw [vL] at h3
    have h4 : DataW.trod enc Tryz.prog w base spare held m 3 (([a0, a1, a2, a3, a4, a5, a6].drop 4).take (Tryz.prog.cellsOf 3)) = some x4 := hf 4 _ rfl
    rw [vL] at h4
    have h5 : DataW.trod enc Tryz.prog w base spare held m 22 (([a0, a1, a2, a3, a4, a5, a6].drop 5).take (Tryz.prog.cellsOf 22)) = some x5 := hf 5 _ rfl
    rw [Q8] at h5
    have h6 : DataW.trod enc Tryz.prog w base spare held m 23 (([a0, a1, a2, a3, a4, a5, a6].drop 6).take (Tryz.prog.cellsOf 23)) = some x6 := hf 6 _ rfl
    rw [Q7] at h6
    obtain ⟨k0, e0, w0⟩ := qJ _ _ _ h0
    have e0 := (List.cons.inj e0).1; subst e0
    obtain ⟨k1, e1, w1⟩ := qJ _ _ _ h1
    have e1 := (List.cons.inj e1).1; subst e1
    obtain ⟨k2, e2, w2⟩ := qJ _ _ _ h2
    have e2 := (List.cons.inj e2).1; subst e2
    obtain ⟨k3, e3, w3⟩ := qJ _ _ _ h3
    have e3 := (List.cons.inj e3).1; subst e3
    obtain ⟨k4, e4, w4⟩ := qJ _ _ _ h4
    have e4 := (List.cons.inj e4).1; subst e4
    obtain ⟨A5, c5, k5, e5, s5, w5⟩ := mV iW Tryz.underlying22 LA (by decide) Oi h5
    subst e5
    obtain ⟨A6, c6, k6, e6, s6, w6⟩ := mV jh Tryz.underlying23 LC (by decide) Ol h6
    subst e6
    exact ⟨⟨k0, k1, k2, k3, k4, k5, k6⟩, A5, c5, A6, c6, rfl, s5, s6, ⟨w0, w1, w2, w3, w4, ⟨Nat.le_trans s5.form.1 s5.form.2.1, w5⟩, ⟨Nat.le_trans s6.form.1 s6.form.2.1, w6⟩⟩⟩
structure fC.Wf (p : fC) : Prop where
  fX : Dy p.X
  fY : Dy p.Y
structure gP.Wf (p : gP) : Prop where
  fAt : fC.Wf p.At
  fSize : Dy p.Size
  fFrom : Dy p.From
  fTo : Dy p.To
  fPlated : True
structure pG.Wf (p : pG) : Prop where
  fPart : (p.Part).size ≤ 9223372036854775807
  fPin : (p.Pin).size ≤ 9223372036854775807
  fLayer : Dy p.Layer
  fAt : fC.Wf p.At
structure nU.Wf (p : nU) : Prop where
  fCoppers : ((p.Coppers).length ≤ 9223372036854775807 ∧ ∀ x ∈ p.Coppers, ((x).length ≤ 9223372036854775807 ∧ ∀ x' ∈ x, au.Wf x'))
  fOutline : ((p.Outline).length ≤ 9223372036854775807 ∧ ∀ x ∈ p.Outline, au.Wf x)
  fBores : ((p.Bores).length ≤ 9223372036854775807 ∧ ∀ x ∈ p.Bores, gP.Wf x)
  fLands : ((p.Lands).length ≤ 9223372036854775807 ∧ ∀ x ∈ p.Lands, pG.Wf x)
theorem Qa (n : Nat) (cs : List Value) (y : DataW H × List MemPlace) (h : DataW.trod enc Tryz.prog w base spare held n 27 cs = some y) : ∃ (u : (dF).Ad) (a : (List au)), (dF).ok (lo w.heap.size) w u a ∧ cs = (dF).enc u a ∧ ((a).length ≤ 9223372036854775807 ∧ ∀ x ∈ a, au.Wf x) := by
  obtain ⟨v, rfl⟩ : ∃ v, cs = [v] := by
    rcases open_slice Tryz.underlying27 h with ⟨hcs, _⟩ | ⟨_, _, _, _, _, _, _, hcs, _⟩
    · exact ⟨_, hcs⟩
    · exact ⟨_, hcs⟩
  obtain ⟨A, c, l, e, s, w⟩ := mV aB Tryz.underlying27 EJ (by decide) (Ia aB gm jb () ER) h
  exact ⟨(A, c), l, s, by rw [e]; rfl, Nat.le_trans s.form.1 s.form.2.1, w⟩
theorem Mw (n : Nat) (cs : List Value) (y : DataW H × List MemPlace) (h : DataW.trod enc Tryz.prog w base spare held n 48 cs = some y) : ∃ p : fC, cs = [(.int .i64 p.X), (.int .i64 p.Y)] ∧ p.Wf := by
  obtain ⟨xs, m, _, _, hl, hx, hf⟩ := DataW.trod_struct Tryz.underlying48 h
  rw [Lv] at hl
  match cs, hl, xs, hx with
  | [a0, a1], _, [x0, x1], _ =>
    have h0 : DataW.trod enc Tryz.prog w base spare held m 3 (([a0, a1].drop 0).take (Tryz.prog.cellsOf 3)) = some x0 := hf 0 _ rfl
    rw [vL] at h0
    have h1 : DataW.trod enc Tryz.prog w base spare held m 3 (([a0, a1].drop 1).take (Tryz.prog.cellsOf 3)) = some x1 := hf 1 _ rfl
    rw [vL] at h1
    obtain ⟨k0, e0, w0⟩ := qJ _ _ _ h0
    have e0 := (List.cons.inj e0).1; subst e0
    obtain ⟨k1, e1, w1⟩ := qJ _ _ _ h1
    have e1 := (List.cons.inj e1).1; subst e1
    exact ⟨⟨k0, k1⟩, rfl, ⟨w0, w1⟩⟩
theorem Rc (n : Nat) (cs : List Value) (y : DataW H × List MemPlace) (h : DataW.trod enc Tryz.prog w base spare held n 4 cs = some y) : ∃ s : Bool, cs = [.bool s] ∧ True := by
  obtain ⟨k, h1, _⟩ := DataW.trod_bool Tryz.underlying4 h
  exact ⟨k, h1, trivial⟩
theorem Om (n : Nat) (cs : List Value) (y : DataW H × List MemPlace) (h : DataW.trod enc Tryz.prog w base spare held n 119 cs = some y) : ∃ p : gP, cs = [(.int .i64 p.At.X), (.int .i64 p.At.Y), (.int .i64 p.Size), (.int .i64 p.From), (.int .i64 p.To), (.bool p.Plated)] ∧ p.Wf := by
  obtain ⟨xs, m, _, _, hl, hx, hf⟩ := DataW.trod_struct Tryz.underlying119 h
  rw [LD] at hl
  match cs, hl, xs, hx with
  | [a0, a1, a2, a3, a4, a5], _, [x0, x1, x2, x3, x4], _ =>
    have h0 : DataW.trod enc Tryz.prog w base spare held m 48 (([a0, a1, a2, a3, a4, a5].drop 0).take (Tryz.prog.cellsOf 48)) = some x0 := hf 0 _ rfl
    rw [Lv] at h0
    have h1 : DataW.trod enc Tryz.prog w base spare held m 3 (([a0, a1, a2, a3, a4, a5].drop 2).take (Tryz.prog.cellsOf 3)) = some x1 := hf 1 _ rfl
    rw [vL] at h1
    have h2 : DataW.trod enc Tryz.prog w base spare held m 3 (([a0, a1, a2, a3, a4, a5].drop 3).take (Tryz.prog.cellsOf 3)) = some x2 := hf 2 _ rfl
    rw [vL] at h2
    have h3 : DataW.trod enc Tryz.prog w base spare held m 3 (([a0, a1, a2, a3, a4, a5].drop 4).take (Tryz.prog.cellsOf 3)) = some x3 := hf 3 _ rfl
    rw [vL] at h3
    have h4 : DataW.trod enc Tryz.prog w base spare held m 4 (([a0, a1, a2, a3, a4, a5].drop 5).take (Tryz.prog.cellsOf 4)) = some x4 := hf 4 _ rfl
    rw [Sk] at h4
    obtain ⟨k0, e0, w0⟩ := Mw _ _ _ h0
    simp at e0
    obtain ⟨q0_0, q0_1⟩ := e0
    subst q0_0 q0_1
    obtain ⟨k1, e1, w1⟩ := qJ _ _ _ h1
    have e1 := (List.cons.inj e1).1; subst e1
    obtain ⟨k2, e2, w2⟩ := qJ _ _ _ h2
    have e2 := (List.cons.inj e2).1; subst e2
    obtain ⟨k3, e3, w3⟩ := qJ _ _ _ h3
    have e3 := (List.cons.inj e3).1; subst e3
    obtain ⟨k4, e4, w4⟩ := Rc _ _ _ h4
    have e4 := (List.cons.inj e4).1; subst e4
    exact ⟨⟨k0, k1, k2, k3, k4⟩, rfl, ⟨w0, w1, w2, w3, w4⟩⟩
theorem Oj (n : Nat) (cs : List Value) (y : DataW H × List MemPlace) (h : DataW.trod enc Tryz.prog w base spare held n 155 cs = some y) : ∃ p : pG, cs = [(.string p.Part), (.string p.Pin), (.int .i64 p.Layer), (.int .i64 p.At.X), (.int .i64 p.At.Y)] ∧ p.Wf := by
  obtain ⟨xs, m, _, _, hl, hx, hf⟩ := DataW.trod_struct Tryz.underlying155 h
  rw [LB] at hl
  match cs, hl, xs, hx with
  | [a0, a1, a2, a3, a4], _, [x0, x1, x2, x3], _ =>
    have h0 : DataW.trod enc Tryz.prog w base spare held m 9 (([a0, a1, a2, a3, a4].drop 0).take (Tryz.prog.cellsOf 9)) = some x0 := hf 0 _ rfl
    rw [Lu] at h0
    have h1 : DataW.trod enc Tryz.prog w base spare held m 9 (([a0, a1, a2, a3, a4].drop 1).take (Tryz.prog.cellsOf 9)) = some x1 := hf 1 _ rfl
    rw [Lu] at h1
    have h2 : DataW.trod enc Tryz.prog w base spare held m 3 (([a0, a1, a2, a3, a4].drop 2).take (Tryz.prog.cellsOf 3)) = some x2 := hf 2 _ rfl
    rw [vL] at h2
    have h3 : DataW.trod enc Tryz.prog w base spare held m 48 (([a0, a1, a2, a3, a4].drop 3).take (Tryz.prog.cellsOf 48)) = some x3 := hf 3 _ rfl
    rw [Lv] at h3
    obtain ⟨k0, e0, w0⟩ := Gr _ _ _ h0
    have e0 := (List.cons.inj e0).1; subst e0
    obtain ⟨k1, e1, w1⟩ := Gr _ _ _ h1
    have e1 := (List.cons.inj e1).1; subst e1
    obtain ⟨k2, e2, w2⟩ := qJ _ _ _ h2
    have e2 := (List.cons.inj e2).1; subst e2
    obtain ⟨k3, e3, w3⟩ := Mw _ _ _ h3
    simp at e3
    obtain ⟨q3_0, q3_1⟩ := e3
    subst q3_0 q3_1
    exact ⟨⟨k0, k1, k2, k3⟩, rfl, ⟨w0, w1, w2, w3⟩⟩
theorem NF {r : Reach} {b0 : Nat} {v : Value} {d : DataW H} {p : List MemPlace} (hv : Value.okWide Tryz.prog w r b0 31 v) (h : DataW.Trod enc Tryz.prog w base spare held 31 v d p) :
    ∃ (p : nU) (A0 : Option Addr) (c0 : Nat) (A1 : Option Addr) (c1 : Nat) (A2 : Option Addr) (c2 : Nat) (A3 : Option Addr) (c3 : Nat), v = .agg #[(.slice A0 (p.Coppers).length c0), (.slice A1 (p.Outline).length c1), (.slice A2 (p.Bores).length c2), (.slice A3 (p.Lands).length c3)] ∧ Sl (lo w.heap.size) w dF A0 c0 p.Coppers ∧ Sl (lo w.heap.size) w aB A1 c1 p.Outline ∧ Sl (lo w.heap.size) w dY A2 c2 p.Bores ∧ Sl (lo w.heap.size) w eH A3 c3 p.Lands ∧ p.Wf := by
  obtain ⟨cs, rfl, hl⟩ := okWide_struct Tryz.underlying31 hv
  obtain ⟨l⟩ := cs
  rw [Q0] at hl
  obtain ⟨fuel, hf⟩ := h
  obtain ⟨xs, m, _, _, _, hx, hf⟩ := DataW.trod_struct Tryz.underlying31 hf
  match l, hl, xs, hx with
  | [a0, a1, a2, a3], _, [x0, x1, x2, x3], _ =>
    have h0 : DataW.trod enc Tryz.prog w base spare held m 26 (([a0, a1, a2, a3].drop 0).take (Tryz.prog.cellsOf 26)) = some x0 := hf 0 _ rfl
    rw [Q5] at h0
    have h1 : DataW.trod enc Tryz.prog w base spare held m 27 (([a0, a1, a2, a3].drop 1).take (Tryz.prog.cellsOf 27)) = some x1 := hf 1 _ rfl
    rw [Lx] at h1
    have h2 : DataW.trod enc Tryz.prog w base spare held m 28 (([a0, a1, a2, a3].drop 2).take (Tryz.prog.cellsOf 28)) = some x2 := hf 2 _ rfl
    rw [Q4] at h2
    have h3 : DataW.trod enc Tryz.prog w base spare held m 29 (([a0, a1, a2, a3].drop 3).take (Tryz.prog.cellsOf 29)) = some x3 := hf 3 _ rfl
    rw [Q3] at h3
    obtain ⟨A0, c0, k0, e0, s0, w0⟩ := mV dF Tryz.underlying26 Lx (by decide) Qa h0
    subst e0
    obtain ⟨A1, c1, k1, e1, s1, w1⟩ := mV aB Tryz.underlying27 EJ (by decide) (Ia aB gm jb () ER) h1
    subst e1
    obtain ⟨A2, c2, k2, e2, s2, w2⟩ := mV dY Tryz.underlying28 LD (by decide) (Ia dY rT KW () Om) h2
    subst e2
    obtain ⟨A3, c3, k3, e3, s3, w3⟩ := mV eH Tryz.underlying29 LB (by decide) (Ia eH zM KV () Oj) h3
    subst e3
    exact ⟨⟨k0, k1, k2, k3⟩, A0, c0, A1, c1, A2, c2, A3, c3, rfl, s0, s1, s2, s3, ⟨⟨Nat.le_trans s0.form.1 s0.form.2.1, w0⟩, ⟨Nat.le_trans s1.form.1 s1.form.2.1, w1⟩, ⟨Nat.le_trans s2.form.1 s2.form.2.1, w2⟩, ⟨Nat.le_trans s3.form.1 s3.form.2.1, w3⟩⟩⟩
end
end Go.Proofs.YtkccbhbhdnobhaaGreatDoor
