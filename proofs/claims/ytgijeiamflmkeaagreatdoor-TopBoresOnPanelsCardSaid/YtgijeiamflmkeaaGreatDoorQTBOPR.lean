/- Opening of the arguments of TopBoresOnPanels. -/
import Derived.Test.YtgijeiamflmkeaaGreatDoorXT
import Derived.Test.YtgijeiamflmkeaaGreatDoorJ5
namespace Go.Proofs.YtgijeiamflmkeaaGreatDoor
open Go.ChangeShapes Go.WideShapes Go.ChangeAt Go.RowKit Go.Deep Go.WideElems
open Go.ChangeMaps (open_string)
set_option maxRecDepth 100000
def Ar : Fl pO where
  Ad := (Option Addr × Nat) × (Option Addr × Nat)
  sz := 2
  enc u x := [(.slice u.1.1 (x.Parts).length u.1.2), (.slice u.2.1 (x.Nets).length u.2.2)]
  ok S W u x := Sl S W mH u.1.1 u.1.2 x.Parts ∧ Sl S W rH u.2.1 u.2.2 x.Nets
  len _ _ := rfl
  one _ _ v h := by
    simp at h
    rcases h with rfl | rfl <;> rfl
  loc h hs hb := ⟨h.1.go hs hb, h.2.go hs hb⟩
def Aq : Fl uj where
  Ad := (Option Addr × Nat) × (Option Addr × Nat)
  sz := 7
  enc u x := [(.int .i64 x.Clearance), (.int .i64 x.Width), (.int .i64 x.Ring), (.int .i64 x.Edge), (.int .i64 x.HoleGap), (.slice u.1.1 (x.Classes).length u.1.2), (.slice u.2.1 (x.Areas).length u.2.2)]
  ok S W u x := Sl S W jX u.1.1 u.1.2 x.Classes ∧ Sl S W kV u.2.1 u.2.2 x.Areas
  len _ _ := rfl
  one _ _ v h := by
    simp at h
    rcases h with rfl | rfl | rfl | rfl | rfl | rfl | rfl <;> rfl
  loc h hs hb := ⟨h.1.go hs hb, h.2.go hs hb⟩
theorem qA : Tryz.prog.cellsOf 3 = 1 := by kernel_rfl
theorem Xw : Tryz.prog.cellsOf 4 = 1 := by kernel_rfl
theorem wE : Tryz.prog.cellsOf 9 = 1 := by kernel_rfl
theorem XJ : Tryz.prog.cellsOf 22 = 1 := by kernel_rfl
theorem XI : Tryz.prog.cellsOf 23 = 1 := by kernel_rfl
theorem XH : Tryz.prog.cellsOf 24 = 1 := by kernel_rfl
theorem Vx : Tryz.prog.cellsOf 26 = 2 := by kernel_rfl
theorem XG : Tryz.prog.cellsOf 27 = 1 := by kernel_rfl
theorem XF : Tryz.prog.cellsOf 28 = 1 := by kernel_rfl
theorem XE : Tryz.prog.cellsOf 29 = 1 := by kernel_rfl
theorem XD : Tryz.prog.cellsOf 30 = 1 := by kernel_rfl
theorem Vw : Tryz.prog.cellsOf 31 = 1 := by kernel_rfl
theorem Rp : Tryz.prog.cellsOf 33 = 3 := by kernel_rfl
theorem XC : Tryz.prog.cellsOf 34 = 1 := by kernel_rfl
theorem XB : Tryz.prog.cellsOf 35 = 1 := by kernel_rfl
theorem XA : Tryz.prog.cellsOf 36 = 1 := by kernel_rfl
theorem Xz : Tryz.prog.cellsOf 37 = 1 := by kernel_rfl
theorem Xy : Tryz.prog.cellsOf 38 = 1 := by kernel_rfl
theorem Xx : Tryz.prog.cellsOf 39 = 1 := by kernel_rfl
theorem Vv : Tryz.prog.cellsOf 41 = 7 := by kernel_rfl
theorem Xv : Tryz.prog.cellsOf 43 = 20 := by kernel_rfl
theorem Xu : Tryz.prog.cellsOf 44 = 1 := by kernel_rfl
theorem Xt : Tryz.prog.cellsOf 45 = 1 := by kernel_rfl
theorem Vu : Tryz.prog.cellsOf 46 = 1 := by kernel_rfl
theorem Xr : Tryz.prog.cellsOf 48 = 7 := by kernel_rfl
theorem FK : Tryz.prog.cellsOf 54 = 2 := by kernel_rfl
theorem Vt : Tryz.prog.cellsOf 56 = 4 := by kernel_rfl
theorem Vs : Tryz.prog.cellsOf 58 = 6 := by kernel_rfl
theorem Vr : Tryz.prog.cellsOf 67 = 3 := by kernel_rfl
theorem Ro : Tryz.prog.cellsOf 77 = 4 := by kernel_rfl
theorem Vq : Tryz.prog.cellsOf 78 = 1 := by kernel_rfl
theorem Ws : Tryz.prog.cellsOf 135 = 1 := by kernel_rfl
theorem RI : Tryz.prog.cellsOf 136 = 1 := by kernel_rfl
theorem RH : Tryz.prog.cellsOf 138 = 3 := by kernel_rfl
theorem RG : Tryz.prog.cellsOf 141 = 2 := by kernel_rfl
theorem RF : Tryz.prog.cellsOf 147 = 2 := by kernel_rfl
theorem RD : Tryz.prog.cellsOf 149 = 4 := by kernel_rfl
theorem RA : Tryz.prog.cellsOf 155 = 2 := by kernel_rfl
theorem Rz : Tryz.prog.cellsOf 161 = 6 := by kernel_rfl
theorem Ry : Tryz.prog.cellsOf 163 = 5 := by kernel_rfl
theorem Wq : Tryz.prog.cellsOf 167 = 1 := by kernel_rfl
theorem Rx : Tryz.prog.cellsOf 169 = 2 := by kernel_rfl
theorem Rw : Tryz.prog.cellsOf 172 = 3 := by kernel_rfl
theorem Wp : Tryz.prog.cellsOf 174 = 1 := by kernel_rfl
theorem Rv : Tryz.prog.cellsOf 176 = 2 := by kernel_rfl
theorem Ru : Tryz.prog.cellsOf 181 = 3 := by kernel_rfl
theorem Rt : Tryz.prog.cellsOf 202 = 2 := by kernel_rfl
theorem NN : Tryz.prog.cellsOf 214 = 8 := by kernel_rfl
theorem Rs : Tryz.prog.cellsOf 223 = 3 := by kernel_rfl
theorem Rq : Tryz.prog.cellsOf 227 = 4 := by kernel_rfl
section
variable {H : Type} {enc : TypeId × Value → H} {w : World} {base : Nat} {spare : Nat → Bool} {held : Bool}
structure dO.Wf (p : dO) : Prop where
  fName : (p.Name).size ≤ 9223372036854775807
  fKind : yK p.Kind
  fGroup : yK p.Group
structure dG.Wf (p : dG) : Prop where
  fName : (p.Name).size ≤ 9223372036854775807
  fPins : ((p.Pins).length ≤ 9223372036854775807 ∧ ∀ x ∈ p.Pins, dO.Wf x)
structure oo.Wf (p : oo) : Prop where
  fName : (p.Name).size ≤ 9223372036854775807
  fType_ : (p.Type_).size ≤ 9223372036854775807
structure tL.Wf (p : tL) : Prop where
  fPart : (p.Part).size ≤ 9223372036854775807
  fPin : (p.Pin).size ≤ 9223372036854775807
structure K4.Wf (p : K4) : Prop where
  fName : (p.Name).size ≤ 9223372036854775807
  fPins : ((p.Pins).length ≤ 9223372036854775807 ∧ ∀ x ∈ p.Pins, tL.Wf x)
  fPorts : ((p.Ports).length ≤ 9223372036854775807 ∧ ∀ x ∈ p.Ports, (x).size ≤ 9223372036854775807)
structure pO.Wf (p : pO) : Prop where
  fParts : ((p.Parts).length ≤ 9223372036854775807 ∧ ∀ x ∈ p.Parts, oo.Wf x)
  fNets : ((p.Nets).length ≤ 9223372036854775807 ∧ ∀ x ∈ p.Nets, K4.Wf x)
structure dK.Wf (p : dK) : Prop where
  fName : (p.Name).size ≤ 9223372036854775807
  fKind : yK p.Kind
  fThick : yK p.Thick
  fGrow : yK p.Grow
structure lV.Wf (p : lV) : Prop where
  fName : (p.Name).size ≤ 9223372036854775807
  fMaterial : (p.Material).size ≤ 9223372036854775807
structure aO.Wf (p : aO) : Prop where
  fX0 : yK p.X0
  fY0 : yK p.Y0
  fX1 : yK p.X1
  fY1 : yK p.Y1
structure eH.Wf (p : eH) : Prop where
  fName : (p.Name).size ≤ 9223372036854775807
  fRects : ((p.Rects).length ≤ 9223372036854775807 ∧ ∀ x ∈ p.Rects, aO.Wf x)
structure aK.Wf (p : aK) : Prop where
  fX : yK p.X
  fY : yK p.Y
inductive aZ.Wf : aZ → Prop
  | mk {p : aZ} (fKind : yK p.Kind) (fName : (p.Name).size ≤ 9223372036854775807) (fAt : aK.Wf p.At) (lPoints : (p.Points).length ≤ 9223372036854775807) (fPoints : ∀ x ∈ p.Points, aK.Wf x) (fNX : yK p.NX) (fNY : yK p.NY) (lSteps : (p.Steps).length ≤ 9223372036854775807) (fSteps : ∀ x ∈ p.Steps, aZ.Wf x) : aZ.Wf p
structure eX.Wf (p : eX) : Prop where
  fUnit : yK p.Unit
  fTools : ((p.Tools).length ≤ 9223372036854775807 ∧ ∀ x ∈ p.Tools, eH.Wf x)
  fSteps : ((p.Steps).length ≤ 9223372036854775807 ∧ ∀ x ∈ p.Steps, aZ.Wf x)
structure fq.Wf (p : fq) : Prop where
  fAt : aK.Wf p.At
  fSize : yK p.Size
  fFrom : yK p.From
  fTo : yK p.To
  fPlated : True
structure mW.Wf (p : mW) : Prop where
  fType_ : (p.Type_).size ≤ 9223372036854775807
  fW : yK p.W
  fH : yK p.H
  fTall : yK p.Tall
  fNozzle : (p.Nozzle).size ≤ 9223372036854775807
structure uk.Wf (p : uk) : Prop where
  fPart : (p.Part).size ≤ 9223372036854775807
  fType_ : (p.Type_).size ≤ 9223372036854775807
  fAt : aK.Wf p.At
  fQuarters : yK p.Quarters
  fBelow : True
structure El.Wf (p : El) : Prop where
  fPin : (p.Pin).size ≤ 9223372036854775807
  fAt : aK.Wf p.At
structure zD.Wf (p : zD) : Prop where
  fType_ : (p.Type_).size ≤ 9223372036854775807
  fSpots : ((p.Spots).length ≤ 9223372036854775807 ∧ ∀ x ∈ p.Spots, El.Wf x)
structure iV.Wf (p : iV) : Prop where
  fName : (p.Name).size ≤ 9223372036854775807
  fNets : ((p.Nets).length ≤ 9223372036854775807 ∧ ∀ x ∈ p.Nets, (x).size ≤ 9223372036854775807)
  fClearance : yK p.Clearance
  fWidth : yK p.Width
structure rP.Wf (p : rP) : Prop where
  fLayer : yK p.Layer
  fRegion : ((p.Region).length ≤ 9223372036854775807 ∧ ∀ x ∈ p.Region, aO.Wf x)
  fClearance : yK p.Clearance
structure uj.Wf (p : uj) : Prop where
  fClearance : yK p.Clearance
  fWidth : yK p.Width
  fRing : yK p.Ring
  fEdge : yK p.Edge
  fHoleGap : yK p.HoleGap
  fClasses : ((p.Classes).length ≤ 9223372036854775807 ∧ ∀ x ∈ p.Classes, iV.Wf x)
  fAreas : ((p.Areas).length ≤ 9223372036854775807 ∧ ∀ x ∈ p.Areas, rP.Wf x)
structure lU.Wf (p : lU) : Prop where
  fTypes : ((p.Types).length ≤ 9223372036854775807 ∧ ∀ x ∈ p.Types, dG.Wf x)
  fList_ : pO.Wf p.List_
  fMaterials : ((p.Materials).length ≤ 9223372036854775807 ∧ ∀ x ∈ p.Materials, dK.Wf x)
  fStack : ((p.Stack).length ≤ 9223372036854775807 ∧ ∀ x ∈ p.Stack, lV.Wf x)
  fPlots : ((p.Plots).length ≤ 9223372036854775807 ∧ ∀ x ∈ p.Plots, eX.Wf x)
  fOutline : eX.Wf p.Outline
  fBores : ((p.Bores).length ≤ 9223372036854775807 ∧ ∀ x ∈ p.Bores, fq.Wf x)
  fBodies : ((p.Bodies).length ≤ 9223372036854775807 ∧ ∀ x ∈ p.Bodies, mW.Wf x)
  fPlaces : ((p.Places).length ≤ 9223372036854775807 ∧ ∀ x ∈ p.Places, uk.Wf x)
  fFeet : ((p.Feet).length ≤ 9223372036854775807 ∧ ∀ x ∈ p.Feet, zD.Wf x)
  fRules : uj.Wf p.Rules
theorem rq (n : Nat) (cs : List Value) (y : DataW H × List MemPlace) (h : DataW.trod enc Tryz.prog w base spare held n 9 cs = some y) : ∃ s : ByteArray, cs = [.string s] ∧ s.size ≤ 9223372036854775807 := by
  obtain ⟨k, h1, _, h2⟩ := DataW.trod_string Tryz.underlying9 h
  exact ⟨k, h1, h2⟩
theorem lS (n : Nat) (cs : List Value) (y : DataW H × List MemPlace) (h : DataW.trod enc Tryz.prog w base spare held n 3 cs = some y) : ∃ k : Int, cs = [.int .i64 k] ∧ yK k := by
  obtain ⟨k, h1, _, h2⟩ := DataW.trod_int Tryz.underlying3 h
  exact ⟨k, h1, Wv h2⟩
theorem UF (n : Nat) (cs : List Value) (y : DataW H × List MemPlace) (h : DataW.trod enc Tryz.prog w base spare held n 223 cs = some y) : ∃ p : dO, cs = [(.string p.Name), (.int .i64 p.Kind), (.int .i64 p.Group)] ∧ p.Wf := by
  obtain ⟨xs, m, _, _, hl, hx, hf⟩ := DataW.trod_struct Tryz.underlying223 h
  rw [Rs] at hl
  match cs, hl, xs, hx with
  | [a0, a1, a2], _, [x0, x1, x2], _ =>
    have h0 : DataW.trod enc Tryz.prog w base spare held m 9 (([a0, a1, a2].drop 0).take (Tryz.prog.cellsOf 9)) = some x0 := hf 0 _ rfl
    rw [wE] at h0
    have h1 : DataW.trod enc Tryz.prog w base spare held m 3 (([a0, a1, a2].drop 1).take (Tryz.prog.cellsOf 3)) = some x1 := hf 1 _ rfl
    rw [qA] at h1
    have h2 : DataW.trod enc Tryz.prog w base spare held m 3 (([a0, a1, a2].drop 2).take (Tryz.prog.cellsOf 3)) = some x2 := hf 2 _ rfl
    rw [qA] at h2
    obtain ⟨k0, e0, w0⟩ := rq _ _ _ h0
    have e0 := (List.cons.inj e0).1; subst e0
    obtain ⟨k1, e1, w1⟩ := lS _ _ _ h1
    have e1 := (List.cons.inj e1).1; subst e1
    obtain ⟨k2, e2, w2⟩ := lS _ _ _ h2
    have e2 := (List.cons.inj e2).1; subst e2
    exact ⟨⟨k0, k1, k2⟩, rfl, ⟨w0, w1, w2⟩⟩
theorem UJ (n : Nat) (cs : List Value) (y : DataW H × List MemPlace) (h : DataW.trod enc Tryz.prog w base spare held n 176 cs = some y) : ∃ (u : (iB).Ad) (p : dG), (iB).ok (lo w.heap.size) w u p ∧ cs = (iB).enc u p ∧ p.Wf := by
  obtain ⟨xs, m, _, _, hl, hx, hf⟩ := DataW.trod_struct Tryz.underlying176 h
  rw [Rv] at hl
  match cs, hl, xs, hx with
  | [a0, a1], _, [x0, x1], _ =>
    have h0 : DataW.trod enc Tryz.prog w base spare held m 9 (([a0, a1].drop 0).take (Tryz.prog.cellsOf 9)) = some x0 := hf 0 _ rfl
    rw [wE] at h0
    have h1 : DataW.trod enc Tryz.prog w base spare held m 174 (([a0, a1].drop 1).take (Tryz.prog.cellsOf 174)) = some x1 := hf 1 _ rfl
    rw [Wp] at h1
    obtain ⟨k0, e0, w0⟩ := rq _ _ _ h0
    have e0 := (List.cons.inj e0).1; subst e0
    obtain ⟨A1, c1, k1, e1, s1, w1⟩ := gy jG Tryz.underlying174 Rs (by decide) (Aw jG rf Lj () UF) h1
    subst e1
    exact ⟨(A1, c1), ⟨k0, k1⟩, s1, rfl, ⟨w0, ⟨Nat.le_trans s1.form.1 s1.form.2.1, w1⟩⟩⟩
theorem UH (n : Nat) (cs : List Value) (y : DataW H × List MemPlace) (h : DataW.trod enc Tryz.prog w base spare held n 202 cs = some y) : ∃ p : oo, cs = [(.string p.Name), (.string p.Type_)] ∧ p.Wf := by
  obtain ⟨xs, m, _, _, hl, hx, hf⟩ := DataW.trod_struct Tryz.underlying202 h
  rw [Rt] at hl
  match cs, hl, xs, hx with
  | [a0, a1], _, [x0, x1], _ =>
    have h0 : DataW.trod enc Tryz.prog w base spare held m 9 (([a0, a1].drop 0).take (Tryz.prog.cellsOf 9)) = some x0 := hf 0 _ rfl
    rw [wE] at h0
    have h1 : DataW.trod enc Tryz.prog w base spare held m 9 (([a0, a1].drop 1).take (Tryz.prog.cellsOf 9)) = some x1 := hf 1 _ rfl
    rw [wE] at h1
    obtain ⟨k0, e0, w0⟩ := rq _ _ _ h0
    have e0 := (List.cons.inj e0).1; subst e0
    obtain ⟨k1, e1, w1⟩ := rq _ _ _ h1
    have e1 := (List.cons.inj e1).1; subst e1
    exact ⟨⟨k0, k1⟩, rfl, ⟨w0, w1⟩⟩
theorem UT (n : Nat) (cs : List Value) (y : DataW H × List MemPlace) (h : DataW.trod enc Tryz.prog w base spare held n 141 cs = some y) : ∃ p : tL, cs = [(.string p.Part), (.string p.Pin)] ∧ p.Wf := by
  obtain ⟨xs, m, _, _, hl, hx, hf⟩ := DataW.trod_struct Tryz.underlying141 h
  rw [RG] at hl
  match cs, hl, xs, hx with
  | [a0, a1], _, [x0, x1], _ =>
    have h0 : DataW.trod enc Tryz.prog w base spare held m 9 (([a0, a1].drop 0).take (Tryz.prog.cellsOf 9)) = some x0 := hf 0 _ rfl
    rw [wE] at h0
    have h1 : DataW.trod enc Tryz.prog w base spare held m 9 (([a0, a1].drop 1).take (Tryz.prog.cellsOf 9)) = some x1 := hf 1 _ rfl
    rw [wE] at h1
    obtain ⟨k0, e0, w0⟩ := rq _ _ _ h0
    have e0 := (List.cons.inj e0).1; subst e0
    obtain ⟨k1, e1, w1⟩ := rq _ _ _ h1
    have e1 := (List.cons.inj e1).1; subst e1
    exact ⟨⟨k0, k1⟩, rfl, ⟨w0, w1⟩⟩
theorem UU (n : Nat) (cs : List Value) (y : DataW H × List MemPlace) (h : DataW.trod enc Tryz.prog w base spare held n 138 cs = some y) : ∃ (u : (rH).Ad) (p : K4), (rH).ok (lo w.heap.size) w u p ∧ cs = (rH).enc u p ∧ p.Wf := by
  obtain ⟨xs, m, _, _, hl, hx, hf⟩ := DataW.trod_struct Tryz.underlying138 h
  rw [RH] at hl
  match cs, hl, xs, hx with
  | [a0, a1, a2], _, [x0, x1, x2], _ =>
    have h0 : DataW.trod enc Tryz.prog w base spare held m 9 (([a0, a1, a2].drop 0).take (Tryz.prog.cellsOf 9)) = some x0 := hf 0 _ rfl
    rw [wE] at h0
    have h1 : DataW.trod enc Tryz.prog w base spare held m 135 (([a0, a1, a2].drop 1).take (Tryz.prog.cellsOf 135)) = some x1 := hf 1 _ rfl
    rw [Ws] at h1
    have h2 : DataW.trod enc Tryz.prog w base spare held m 136 (([a0, a1, a2].drop 2).take (Tryz.prog.cellsOf 136)) = some x2 := hf 2 _ rfl
    rw [RI] at h2
    obtain ⟨k0, e0, w0⟩ := rq _ _ _ h0
    have e0 := (List.cons.inj e0).1; subst e0
    obtain ⟨A1, c1, k1, e1, s1, w1⟩ := gy y9 Tryz.underlying135 RG (by decide) (Aw y9 Gl TQ () UT) h1
    subst e1
    obtain ⟨A2, c2, k2, e2, s2, w2⟩ := gy ug Tryz.underlying136 wE (by decide) (Aw ug Cv Nu () rq) h2
    subst e2
    exact ⟨((A1, c1), (A2, c2)), ⟨k0, k1, k2⟩, ⟨s1, s2⟩, rfl, ⟨w0, ⟨Nat.le_trans s1.form.1 s1.form.2.1, w1⟩, ⟨Nat.le_trans s2.form.1 s2.form.2.1, w2⟩⟩⟩
theorem WE (n : Nat) (cs : List Value) (y : DataW H × List MemPlace) (h : DataW.trod enc Tryz.prog w base spare held n 26 cs = some y) : ∃ (u : (Ar).Ad) (p : pO), (Ar).ok (lo w.heap.size) w u p ∧ cs = (Ar).enc u p ∧ p.Wf := by
  obtain ⟨xs, m, _, _, hl, hx, hf⟩ := DataW.trod_struct Tryz.underlying26 h
  rw [Vx] at hl
  match cs, hl, xs, hx with
  | [a0, a1], _, [x0, x1], _ =>
    have h0 : DataW.trod enc Tryz.prog w base spare held m 23 (([a0, a1].drop 0).take (Tryz.prog.cellsOf 23)) = some x0 := hf 0 _ rfl
    rw [XI] at h0
    have h1 : DataW.trod enc Tryz.prog w base spare held m 24 (([a0, a1].drop 1).take (Tryz.prog.cellsOf 24)) = some x1 := hf 1 _ rfl
    rw [XH] at h1
    obtain ⟨A0, c0, k0, e0, s0, w0⟩ := gy mH Tryz.underlying23 Rt (by decide) (Aw mH yo QL () UH) h0
    subst e0
    obtain ⟨A1, c1, k1, e1, s1, w1⟩ := gy rH Tryz.underlying24 RH (by decide) UU h1
    subst e1
    exact ⟨((A0, c0), (A1, c1)), ⟨k0, k1⟩, ⟨s0, s1⟩, rfl, ⟨⟨Nat.le_trans s0.form.1 s0.form.2.1, w0⟩, ⟨Nat.le_trans s1.form.1 s1.form.2.1, w1⟩⟩⟩
theorem UQ (n : Nat) (cs : List Value) (y : DataW H × List MemPlace) (h : DataW.trod enc Tryz.prog w base spare held n 149 cs = some y) : ∃ p : dK, cs = [(.string p.Name), (.int .i64 p.Kind), (.int .i64 p.Thick), (.int .i64 p.Grow)] ∧ p.Wf := by
  obtain ⟨xs, m, _, _, hl, hx, hf⟩ := DataW.trod_struct Tryz.underlying149 h
  rw [RD] at hl
  match cs, hl, xs, hx with
  | [a0, a1, a2, a3], _, [x0, x1, x2, x3], _ =>
    have h0 : DataW.trod enc Tryz.prog w base spare held m 9 (([a0, a1, a2, a3].drop 0).take (Tryz.prog.cellsOf 9)) = some x0 := hf 0 _ rfl
    rw [wE] at h0
    have h1 : DataW.trod enc Tryz.prog w base spare held m 3 (([a0, a1, a2, a3].drop 1).take (Tryz.prog.cellsOf 3)) = some x1 := hf 1 _ rfl
    rw [qA] at h1
    have h2 : DataW.trod enc Tryz.prog w base spare held m 3 (([a0, a1, a2, a3].drop 2).take (Tryz.prog.cellsOf 3)) = some x2 := hf 2 _ rfl
    rw [qA] at h2
    have h3 : DataW.trod enc Tryz.prog w base spare held m 3 (([a0, a1, a2, a3].drop 3).take (Tryz.prog.cellsOf 3)) = some x3 := hf 3 _ rfl
    rw [qA] at h3
    obtain ⟨k0, e0, w0⟩ := rq _ _ _ h0
    have e0 := (List.cons.inj e0).1; subst e0
    obtain ⟨k1, e1, w1⟩ := lS _ _ _ h1
    have e1 := (List.cons.inj e1).1; subst e1
    obtain ⟨k2, e2, w2⟩ := lS _ _ _ h2
    have e2 := (List.cons.inj e2).1; subst e2
    obtain ⟨k3, e3, w3⟩ := lS _ _ _ h3
    have e3 := (List.cons.inj e3).1; subst e3
    exact ⟨⟨k0, k1, k2, k3⟩, rfl, ⟨w0, w1, w2, w3⟩⟩
theorem UR (n : Nat) (cs : List Value) (y : DataW H × List MemPlace) (h : DataW.trod enc Tryz.prog w base spare held n 147 cs = some y) : ∃ p : lV, cs = [(.string p.Name), (.string p.Material)] ∧ p.Wf := by
  obtain ⟨xs, m, _, _, hl, hx, hf⟩ := DataW.trod_struct Tryz.underlying147 h
  rw [RF] at hl
  match cs, hl, xs, hx with
  | [a0, a1], _, [x0, x1], _ =>
    have h0 : DataW.trod enc Tryz.prog w base spare held m 9 (([a0, a1].drop 0).take (Tryz.prog.cellsOf 9)) = some x0 := hf 0 _ rfl
    rw [wE] at h0
    have h1 : DataW.trod enc Tryz.prog w base spare held m 9 (([a0, a1].drop 1).take (Tryz.prog.cellsOf 9)) = some x1 := hf 1 _ rfl
    rw [wE] at h1
    obtain ⟨k0, e0, w0⟩ := rq _ _ _ h0
    have e0 := (List.cons.inj e0).1; subst e0
    obtain ⟨k1, e1, w1⟩ := rq _ _ _ h1
    have e1 := (List.cons.inj e1).1; subst e1
    exact ⟨⟨k0, k1⟩, rfl, ⟨w0, w1⟩⟩
theorem SF (n : Nat) (cs : List Value) (y : DataW H × List MemPlace) (h : DataW.trod enc Tryz.prog w base spare held n 77 cs = some y) : ∃ p : aO, cs = [(.int .i64 p.X0), (.int .i64 p.Y0), (.int .i64 p.X1), (.int .i64 p.Y1)] ∧ p.Wf := by
  obtain ⟨xs, m, _, _, hl, hx, hf⟩ := DataW.trod_struct Tryz.underlying77 h
  rw [Ro] at hl
  match cs, hl, xs, hx with
  | [a0, a1, a2, a3], _, [x0, x1, x2, x3], _ =>
    have h0 : DataW.trod enc Tryz.prog w base spare held m 3 (([a0, a1, a2, a3].drop 0).take (Tryz.prog.cellsOf 3)) = some x0 := hf 0 _ rfl
    rw [qA] at h0
    have h1 : DataW.trod enc Tryz.prog w base spare held m 3 (([a0, a1, a2, a3].drop 1).take (Tryz.prog.cellsOf 3)) = some x1 := hf 1 _ rfl
    rw [qA] at h1
    have h2 : DataW.trod enc Tryz.prog w base spare held m 3 (([a0, a1, a2, a3].drop 2).take (Tryz.prog.cellsOf 3)) = some x2 := hf 2 _ rfl
    rw [qA] at h2
    have h3 : DataW.trod enc Tryz.prog w base spare held m 3 (([a0, a1, a2, a3].drop 3).take (Tryz.prog.cellsOf 3)) = some x3 := hf 3 _ rfl
    rw [qA] at h3
    obtain ⟨k0, e0, w0⟩ := lS _ _ _ h0
    have e0 := (List.cons.inj e0).1; subst e0
    obtain ⟨k1, e1, w1⟩ := lS _ _ _ h1
    have e1 := (List.cons.inj e1).1; subst e1
    obtain ⟨k2, e2, w2⟩ := lS _ _ _ h2
    have e2 := (List.cons.inj e2).1; subst e2
    obtain ⟨k3, e3, w3⟩ := lS _ _ _ h3
    have e3 := (List.cons.inj e3).1; subst e3
    exact ⟨⟨k0, k1, k2, k3⟩, rfl, ⟨w0, w1, w2, w3⟩⟩
theorem UO (n : Nat) (cs : List Value) (y : DataW H × List MemPlace) (h : DataW.trod enc Tryz.prog w base spare held n 155 cs = some y) : ∃ (u : (cB).Ad) (p : eH), (cB).ok (lo w.heap.size) w u p ∧ cs = (cB).enc u p ∧ p.Wf := by
  obtain ⟨xs, m, _, _, hl, hx, hf⟩ := DataW.trod_struct Tryz.underlying155 h
  rw [RA] at hl
  match cs, hl, xs, hx with
  | [a0, a1], _, [x0, x1], _ =>
    have h0 : DataW.trod enc Tryz.prog w base spare held m 9 (([a0, a1].drop 0).take (Tryz.prog.cellsOf 9)) = some x0 := hf 0 _ rfl
    rw [wE] at h0
    have h1 : DataW.trod enc Tryz.prog w base spare held m 78 (([a0, a1].drop 1).take (Tryz.prog.cellsOf 78)) = some x1 := hf 1 _ rfl
    rw [Vq] at h1
    obtain ⟨k0, e0, w0⟩ := rq _ _ _ h0
    have e0 := (List.cons.inj e0).1; subst e0
    obtain ⟨A1, c1, k1, e1, s1, w1⟩ := gy bf Tryz.underlying78 Ro (by decide) (Aw bf kQ jA () SF) h1
    subst e1
    exact ⟨(A1, c1), ⟨k0, k1⟩, s1, rfl, ⟨w0, ⟨Nat.le_trans s1.form.1 s1.form.2.1, w1⟩⟩⟩
theorem Cx (n : Nat) (cs : List Value) (y : DataW H × List MemPlace) (h : DataW.trod enc Tryz.prog w base spare held n 54 cs = some y) : ∃ p : aK, cs = [(.int .i64 p.X), (.int .i64 p.Y)] ∧ p.Wf := by
  obtain ⟨xs, m, _, _, hl, hx, hf⟩ := DataW.trod_struct Tryz.underlying54 h
  rw [FK] at hl
  match cs, hl, xs, hx with
  | [a0, a1], _, [x0, x1], _ =>
    have h0 : DataW.trod enc Tryz.prog w base spare held m 3 (([a0, a1].drop 0).take (Tryz.prog.cellsOf 3)) = some x0 := hf 0 _ rfl
    rw [qA] at h0
    have h1 : DataW.trod enc Tryz.prog w base spare held m 3 (([a0, a1].drop 1).take (Tryz.prog.cellsOf 3)) = some x1 := hf 1 _ rfl
    rw [qA] at h1
    obtain ⟨k0, e0, w0⟩ := lS _ _ _ h0
    have e0 := (List.cons.inj e0).1; subst e0
    obtain ⟨k1, e1, w1⟩ := lS _ _ _ h1
    have e1 := (List.cons.inj e1).1; subst e1
    exact ⟨⟨k0, k1⟩, rfl, ⟨w0, w1⟩⟩
theorem UG : ∀ (n : Nat) (cs : List Value) (y : DataW H × List MemPlace) (_ : DataW.trod enc Tryz.prog w base spare held n 214 cs = some y), ∃ (u : (bH).Ad) (p : aZ), (bH).ok (lo w.heap.size) w u p ∧ cs = (bH).enc u p ∧ p.Wf := by
  intro n
  induction n using Nat.strongRecOn with
  | _ n ih =>
  intro cs y h
  obtain ⟨xs, m, hm, _, hl, hx, hf⟩ := DataW.trod_struct Tryz.underlying214 h
  rw [NN] at hl
  match cs, hl, xs, hx with
  | [a0, a1, a2, a3, a4, a5, a6, a7], _, [x0, x1, x2, x3, x4, x5, x6], _ =>
    have h0 : DataW.trod enc Tryz.prog w base spare held m 3 (([a0, a1, a2, a3, a4, a5, a6, a7].drop 0).take (Tryz.prog.cellsOf 3)) = some x0 := hf 0 _ rfl
    rw [qA] at h0
    have h1 : DataW.trod enc Tryz.prog w base spare held m 9 (([a0, a1, a2, a3, a4, a5, a6, a7].drop 1).take (Tryz.prog.cellsOf 9)) = some x1 := hf 1 _ rfl
    rw [wE] at h1
    have h2 : DataW.trod enc Tryz.prog w base spare held m 54 (([a0, a1, a2, a3, a4, a5, a6, a7].drop 2).take (Tryz.prog.cellsOf 54)) = some x2 := hf 2 _ rfl
    rw [FK] at h2
    have h3 : DataW.trod enc Tryz.prog w base spare held m 46 (([a0, a1, a2, a3, a4, a5, a6, a7].drop 4).take (Tryz.prog.cellsOf 46)) = some x3 := hf 3 _ rfl
    rw [Vu] at h3
    have h4 : DataW.trod enc Tryz.prog w base spare held m 3 (([a0, a1, a2, a3, a4, a5, a6, a7].drop 5).take (Tryz.prog.cellsOf 3)) = some x4 := hf 4 _ rfl
    rw [qA] at h4
    have h5 : DataW.trod enc Tryz.prog w base spare held m 3 (([a0, a1, a2, a3, a4, a5, a6, a7].drop 6).take (Tryz.prog.cellsOf 3)) = some x5 := hf 5 _ rfl
    rw [qA] at h5
    have h6 : DataW.trod enc Tryz.prog w base spare held m 31 (([a0, a1, a2, a3, a4, a5, a6, a7].drop 7).take (Tryz.prog.cellsOf 31)) = some x6 := hf 6 _ rfl
    rw [Vw] at h6
    obtain ⟨k0, e0, w0⟩ := lS _ _ _ h0
    have e0 := (List.cons.inj e0).1; subst e0
    obtain ⟨k1, e1, w1⟩ := rq _ _ _ h1
    have e1 := (List.cons.inj e1).1; subst e1
    obtain ⟨k2, e2, w2⟩ := Cx _ _ _ h2
    simp at e2
    obtain ⟨q2_0, q2_1⟩ := e2
    subst q2_0 q2_1
    obtain ⟨A3, c3, k3, e3, s3, w3⟩ := gy dP Tryz.underlying46 FK (by decide) (Aw dP qK Jo () Cx) h3
    subst e3
    obtain ⟨k4, e4, w4⟩ := lS _ _ _ h4
    have e4 := (List.cons.inj e4).1; subst e4
    obtain ⟨k5, e5, w5⟩ := lS _ _ _ h5
    have e5 := (List.cons.inj e5).1; subst e5
    obtain ⟨A6, c6, k6, e6, s6, w6⟩ := FE bH Tryz.underlying31 NN (by decide) (fun n' hn' => ih n' (by omega)) h6
    subst e6
    exact ⟨((A3, c3), (A6, c6)), ⟨k0, k1, k2, k3, k4, k5, k6⟩, (vP.2 ⟨s3, s6⟩), rfl, ⟨w0, w1, w2, (Nat.le_trans s3.form.1 s3.form.2.1), w3, w4, w5, (Nat.le_trans s6.form.1 s6.form.2.1), w6⟩⟩
theorem SG (n : Nat) (cs : List Value) (y : DataW H × List MemPlace) (h : DataW.trod enc Tryz.prog w base spare held n 33 cs = some y) : ∃ (u : (sF).Ad) (p : eX), (sF).ok (lo w.heap.size) w u p ∧ cs = (sF).enc u p ∧ p.Wf := by
  obtain ⟨xs, m, _, _, hl, hx, hf⟩ := DataW.trod_struct Tryz.underlying33 h
  rw [Rp] at hl
  match cs, hl, xs, hx with
  | [a0, a1, a2], _, [x0, x1, x2], _ =>
    have h0 : DataW.trod enc Tryz.prog w base spare held m 3 (([a0, a1, a2].drop 0).take (Tryz.prog.cellsOf 3)) = some x0 := hf 0 _ rfl
    rw [qA] at h0
    have h1 : DataW.trod enc Tryz.prog w base spare held m 30 (([a0, a1, a2].drop 1).take (Tryz.prog.cellsOf 30)) = some x1 := hf 1 _ rfl
    rw [XD] at h1
    have h2 : DataW.trod enc Tryz.prog w base spare held m 31 (([a0, a1, a2].drop 2).take (Tryz.prog.cellsOf 31)) = some x2 := hf 2 _ rfl
    rw [Vw] at h2
    obtain ⟨k0, e0, w0⟩ := lS _ _ _ h0
    have e0 := (List.cons.inj e0).1; subst e0
    obtain ⟨A1, c1, k1, e1, s1, w1⟩ := gy cB Tryz.underlying30 RA (by decide) UO h1
    subst e1
    obtain ⟨A2, c2, k2, e2, s2, w2⟩ := gy bH Tryz.underlying31 NN (by decide) UG h2
    subst e2
    exact ⟨((A1, c1), (A2, c2)), ⟨k0, k1, k2⟩, ⟨s1, s2⟩, rfl, ⟨w0, ⟨Nat.le_trans s1.form.1 s1.form.2.1, w1⟩, ⟨Nat.le_trans s2.form.1 s2.form.2.1, w2⟩⟩⟩
theorem VE (n : Nat) (cs : List Value) (y : DataW H × List MemPlace) (h : DataW.trod enc Tryz.prog w base spare held n 4 cs = some y) : ∃ s : Bool, cs = [.bool s] ∧ True := by
  obtain ⟨k, h1, _⟩ := DataW.trod_bool Tryz.underlying4 h
  exact ⟨k, h1, trivial⟩
theorem WA (n : Nat) (cs : List Value) (y : DataW H × List MemPlace) (h : DataW.trod enc Tryz.prog w base spare held n 58 cs = some y) : ∃ p : fq, cs = [(.int .i64 p.At.X), (.int .i64 p.At.Y), (.int .i64 p.Size), (.int .i64 p.From), (.int .i64 p.To), (.bool p.Plated)] ∧ p.Wf := by
  obtain ⟨xs, m, _, _, hl, hx, hf⟩ := DataW.trod_struct Tryz.underlying58 h
  rw [Vs] at hl
  match cs, hl, xs, hx with
  | [a0, a1, a2, a3, a4, a5], _, [x0, x1, x2, x3, x4], _ =>
    have h0 : DataW.trod enc Tryz.prog w base spare held m 54 (([a0, a1, a2, a3, a4, a5].drop 0).take (Tryz.prog.cellsOf 54)) = some x0 := hf 0 _ rfl
    rw [FK] at h0
    have h1 : DataW.trod enc Tryz.prog w base spare held m 3 (([a0, a1, a2, a3, a4, a5].drop 2).take (Tryz.prog.cellsOf 3)) = some x1 := hf 1 _ rfl
    rw [qA] at h1
    have h2 : DataW.trod enc Tryz.prog w base spare held m 3 (([a0, a1, a2, a3, a4, a5].drop 3).take (Tryz.prog.cellsOf 3)) = some x2 := hf 2 _ rfl
    rw [qA] at h2
    have h3 : DataW.trod enc Tryz.prog w base spare held m 3 (([a0, a1, a2, a3, a4, a5].drop 4).take (Tryz.prog.cellsOf 3)) = some x3 := hf 3 _ rfl
    rw [qA] at h3
    have h4 : DataW.trod enc Tryz.prog w base spare held m 4 (([a0, a1, a2, a3, a4, a5].drop 5).take (Tryz.prog.cellsOf 4)) = some x4 := hf 4 _ rfl
    rw [Xw] at h4
    obtain ⟨k0, e0, w0⟩ := Cx _ _ _ h0
    simp at e0
    obtain ⟨q0_0, q0_1⟩ := e0
    subst q0_0 q0_1
    obtain ⟨k1, e1, w1⟩ := lS _ _ _ h1
    have e1 := (List.cons.inj e1).1; subst e1
    obtain ⟨k2, e2, w2⟩ := lS _ _ _ h2
    have e2 := (List.cons.inj e2).1; subst e2
    obtain ⟨k3, e3, w3⟩ := lS _ _ _ h3
    have e3 := (List.cons.inj e3).1; subst e3
    obtain ⟨k4, e4, w4⟩ := VE _ _ _ h4
    have e4 := (List.cons.inj e4).1; subst e4
    exact ⟨⟨k0, k1, k2, k3, k4⟩, rfl, ⟨w0, w1, w2, w3, w4⟩⟩
theorem UM (n : Nat) (cs : List Value) (y : DataW H × List MemPlace) (h : DataW.trod enc Tryz.prog w base spare held n 163 cs = some y) : ∃ p : mW, cs = [(.string p.Type_), (.int .i64 p.W), (.int .i64 p.H), (.int .i64 p.Tall), (.string p.Nozzle)] ∧ p.Wf := by
  obtain ⟨xs, m, _, _, hl, hx, hf⟩ := DataW.trod_struct Tryz.underlying163 h
  rw [Ry] at hl
  match cs, hl, xs, hx with
  | [a0, a1, a2, a3, a4], _, [x0, x1, x2, x3, x4], _ =>
    have h0 : DataW.trod enc Tryz.prog w base spare held m 9 (([a0, a1, a2, a3, a4].drop 0).take (Tryz.prog.cellsOf 9)) = some x0 := hf 0 _ rfl
    rw [wE] at h0
    have h1 : DataW.trod enc Tryz.prog w base spare held m 3 (([a0, a1, a2, a3, a4].drop 1).take (Tryz.prog.cellsOf 3)) = some x1 := hf 1 _ rfl
    rw [qA] at h1
    have h2 : DataW.trod enc Tryz.prog w base spare held m 3 (([a0, a1, a2, a3, a4].drop 2).take (Tryz.prog.cellsOf 3)) = some x2 := hf 2 _ rfl
    rw [qA] at h2
    have h3 : DataW.trod enc Tryz.prog w base spare held m 3 (([a0, a1, a2, a3, a4].drop 3).take (Tryz.prog.cellsOf 3)) = some x3 := hf 3 _ rfl
    rw [qA] at h3
    have h4 : DataW.trod enc Tryz.prog w base spare held m 9 (([a0, a1, a2, a3, a4].drop 4).take (Tryz.prog.cellsOf 9)) = some x4 := hf 4 _ rfl
    rw [wE] at h4
    obtain ⟨k0, e0, w0⟩ := rq _ _ _ h0
    have e0 := (List.cons.inj e0).1; subst e0
    obtain ⟨k1, e1, w1⟩ := lS _ _ _ h1
    have e1 := (List.cons.inj e1).1; subst e1
    obtain ⟨k2, e2, w2⟩ := lS _ _ _ h2
    have e2 := (List.cons.inj e2).1; subst e2
    obtain ⟨k3, e3, w3⟩ := lS _ _ _ h3
    have e3 := (List.cons.inj e3).1; subst e3
    obtain ⟨k4, e4, w4⟩ := rq _ _ _ h4
    have e4 := (List.cons.inj e4).1; subst e4
    exact ⟨⟨k0, k1, k2, k3, k4⟩, rfl, ⟨w0, w1, w2, w3, w4⟩⟩
theorem UN (n : Nat) (cs : List Value) (y : DataW H × List MemPlace) (h : DataW.trod enc Tryz.prog w base spare held n 161 cs = some y) : ∃ p : uk, cs = [(.string p.Part), (.string p.Type_), (.int .i64 p.At.X), (.int .i64 p.At.Y), (.int .i64 p.Quarters), (.bool p.Below)] ∧ p.Wf := by
  obtain ⟨xs, m, _, _, hl, hx, hf⟩ := DataW.trod_struct Tryz.underlying161 h
  rw [Rz] at hl
  match cs, hl, xs, hx with
  | [a0, a1, a2, a3, a4, a5], _, [x0, x1, x2, x3, x4], _ =>
    have h0 : DataW.trod enc Tryz.prog w base spare held m 9 (([a0, a1, a2, a3, a4, a5].drop 0).take (Tryz.prog.cellsOf 9)) = some x0 := hf 0 _ rfl
    rw [wE] at h0
    have h1 : DataW.trod enc Tryz.prog w base spare held m 9 (([a0, a1, a2, a3, a4, a5].drop 1).take (Tryz.prog.cellsOf 9)) = some x1 := hf 1 _ rfl
    rw [wE] at h1
    have h2 : DataW.trod enc Tryz.prog w base spare held m 54 (([a0, a1, a2, a3, a4, a5].drop 2).take (Tryz.prog.cellsOf 54)) = some x2 := hf 2 _ rfl
    rw [FK] at h2
    have h3 : DataW.trod enc Tryz.prog w base spare held m 3 (([a0, a1, a2, a3, a4, a5].drop 4).take (Tryz.prog.cellsOf 3)) = some x3 := hf 3 _ rfl
    rw [qA] at h3
    have h4 : DataW.trod enc Tryz.prog w base spare held m 4 (([a0, a1, a2, a3, a4, a5].drop 5).take (Tryz.prog.cellsOf 4)) = some x4 := hf 4 _ rfl
    rw [Xw] at h4
    obtain ⟨k0, e0, w0⟩ := rq _ _ _ h0
    have e0 := (List.cons.inj e0).1; subst e0
    obtain ⟨k1, e1, w1⟩ := rq _ _ _ h1
    have e1 := (List.cons.inj e1).1; subst e1
    obtain ⟨k2, e2, w2⟩ := Cx _ _ _ h2
    simp at e2
    obtain ⟨q2_0, q2_1⟩ := e2
    subst q2_0 q2_1
    obtain ⟨k3, e3, w3⟩ := lS _ _ _ h3
    have e3 := (List.cons.inj e3).1; subst e3
    obtain ⟨k4, e4, w4⟩ := VE _ _ _ h4
    have e4 := (List.cons.inj e4).1; subst e4
    exact ⟨⟨k0, k1, k2, k3, k4⟩, rfl, ⟨w0, w1, w2, w3, w4⟩⟩
theorem UK (n : Nat) (cs : List Value) (y : DataW H × List MemPlace) (h : DataW.trod enc Tryz.prog w base spare held n 172 cs = some y) : ∃ p : El, cs = [(.string p.Pin), (.int .i64 p.At.X), (.int .i64 p.At.Y)] ∧ p.Wf := by
  obtain ⟨xs, m, _, _, hl, hx, hf⟩ := DataW.trod_struct Tryz.underlying172 h
  rw [Rw] at hl
  match cs, hl, xs, hx with
  | [a0, a1, a2], _, [x0, x1], _ =>
    have h0 : DataW.trod enc Tryz.prog w base spare held m 9 (([a0, a1, a2].drop 0).take (Tryz.prog.cellsOf 9)) = some x0 := hf 0 _ rfl
    rw [wE] at h0
    have h1 : DataW.trod enc Tryz.prog w base spare held m 54 (([a0, a1, a2].drop 1).take (Tryz.prog.cellsOf 54)) = some x1 := hf 1 _ rfl
    rw [FK] at h1
    obtain ⟨k0, e0, w0⟩ := rq _ _ _ h0
    have e0 := (List.cons.inj e0).1; subst e0
    obtain ⟨k1, e1, w1⟩ := Cx _ _ _ h1
    simp at e1
    obtain ⟨q1_0, q1_1⟩ := e1
    subst q1_0 q1_1
    exact ⟨⟨k0, k1⟩, rfl, ⟨w0, w1⟩⟩
theorem UL (n : Nat) (cs : List Value) (y : DataW H × List MemPlace) (h : DataW.trod enc Tryz.prog w base spare held n 169 cs = some y) : ∃ (u : (sG).Ad) (p : zD), (sG).ok (lo w.heap.size) w u p ∧ cs = (sG).enc u p ∧ p.Wf := by
  obtain ⟨xs, m, _, _, hl, hx, hf⟩ := DataW.trod_struct Tryz.underlying169 h
  rw [Rx] at hl
  match cs, hl, xs, hx with
  | [a0, a1], _, [x0, x1], _ =>
    have h0 : DataW.trod enc Tryz.prog w base spare held m 9 (([a0, a1].drop 0).take (Tryz.prog.cellsOf 9)) = some x0 := hf 0 _ rfl
    rw [wE] at h0
    have h1 : DataW.trod enc Tryz.prog w base spare held m 167 (([a0, a1].drop 1).take (Tryz.prog.cellsOf 167)) = some x1 := hf 1 _ rfl
    rw [Wq] at h1
    obtain ⟨k0, e0, w0⟩ := rq _ _ _ h0
    have e0 := (List.cons.inj e0).1; subst e0
    obtain ⟨A1, c1, k1, e1, s1, w1⟩ := gy yl Tryz.underlying167 Rw (by decide) (Aw yl Ie QJ () UK) h1
    subst e1
    exact ⟨(A1, c1), ⟨k0, k1⟩, s1, rfl, ⟨w0, ⟨Nat.le_trans s1.form.1 s1.form.2.1, w1⟩⟩⟩
theorem UE (n : Nat) (cs : List Value) (y : DataW H × List MemPlace) (h : DataW.trod enc Tryz.prog w base spare held n 227 cs = some y) : ∃ (u : (jX).Ad) (p : iV), (jX).ok (lo w.heap.size) w u p ∧ cs = (jX).enc u p ∧ p.Wf := by
  obtain ⟨xs, m, _, _, hl, hx, hf⟩ := DataW.trod_struct Tryz.underlying227 h
  rw [Rq] at hl
  match cs, hl, xs, hx with
  | [a0, a1, a2, a3], _, [x0, x1, x2, x3], _ =>
    have h0 : DataW.trod enc Tryz.prog w base spare held m 9 (([a0, a1, a2, a3].drop 0).take (Tryz.prog.cellsOf 9)) = some x0 := hf 0 _ rfl
    rw [wE] at h0
    have h1 : DataW.trod enc Tryz.prog w base spare held m 136 (([a0, a1, a2, a3].drop 1).take (Tryz.prog.cellsOf 136)) = some x1 := hf 1 _ rfl
    rw [RI] at h1
    have h2 : DataW.trod enc Tryz.prog w base spare held m 3 (([a0, a1, a2, a3].drop 2).take (Tryz.prog.cellsOf 3)) = some x2 := hf 2 _ rfl
    rw [qA] at h2
    have h3 : DataW.trod enc Tryz.prog w base spare held m 3 (([a0, a1, a2, a3].drop 3).take (Tryz.prog.cellsOf 3)) = some x3 := hf 3 _ rfl
    rw [qA] at h3
    obtain ⟨k0, e0, w0⟩ := rq _ _ _ h0
    have e0 := (List.cons.inj e0).1; subst e0
    obtain ⟨A1, c1, k1, e1, s1, w1⟩ := gy ug Tryz.underlying136 wE (by decide) (Aw ug Cv Nu () rq) h1
    subst e1
    obtain ⟨k2, e2, w2⟩ := lS _ _ _ h2
    have e2 := (List.cons.inj e2).1; subst e2
    obtain ⟨k3, e3, w3⟩ := lS _ _ _ h3
    have e3 := (List.cons.inj e3).1; subst e3
    exact ⟨(A1, c1), ⟨k0, k1, k2, k3⟩, s1, rfl, ⟨w0, ⟨Nat.le_trans s1.form.1 s1.form.2.1, w1⟩, w2, w3⟩⟩
theorem UI (n : Nat) (cs : List Value) (y : DataW H × List MemPlace) (h : DataW.trod enc Tryz.prog w base spare held n 181 cs = some y) : ∃ (u : (kV).Ad) (p : rP), (kV).ok (lo w.heap.size) w u p ∧ cs = (kV).enc u p ∧ p.Wf := by
  obtain ⟨xs, m, _, _, hl, hx, hf⟩ := DataW.trod_struct Tryz.underlying181 h
  rw [Ru] at hl
  match cs, hl, xs, hx with
  | [a0, a1, a2], _, [x0, x1, x2], _ =>
    have h0 : DataW.trod enc Tryz.prog w base spare held m 3 (([a0, a1, a2].drop 0).take (Tryz.prog.cellsOf 3)) = some x0 := hf 0 _ rfl
    rw [qA] at h0
    have h1 : DataW.trod enc Tryz.prog w base spare held m 78 (([a0, a1, a2].drop 1).take (Tryz.prog.cellsOf 78)) = some x1 := hf 1 _ rfl
    rw [Vq] at h1
    have h2 : DataW.trod enc Tryz.prog w base spare held m 3 (([a0, a1, a2].drop 2).take (Tryz.prog.cellsOf 3)) = some x2 := hf 2 _ rfl
    rw [qA] at h2
    obtain ⟨k0, e0, w0⟩ := lS _ _ _ h0
    have e0 := (List.cons.inj e0).1; subst e0
    obtain ⟨A1, c1, k1, e1, s1, w1⟩ := gy bf Tryz.underlying78 Ro (by decide) (Aw bf kQ jA () SF) h1
    subst e1
    obtain ⟨k2, e2, w2⟩ := lS _ _ _ h2
    have e2 := (List.cons.inj e2).1; subst e2
    exact ⟨(A1, c1), ⟨k0, k1, k2⟩, s1, rfl, ⟨w0, ⟨Nat.le_trans s1.form.1 s1.form.2.1, w1⟩, w2⟩⟩
theorem WC (n : Nat) (cs : List Value) (y : DataW H × List MemPlace) (h : DataW.trod enc Tryz.prog w base spare held n 41 cs = some y) : ∃ (u : (Aq).Ad) (p : uj), (Aq).ok (lo w.heap.size) w u p ∧ cs = (Aq).enc u p ∧ p.Wf := by
  obtain ⟨xs, m, _, _, hl, hx, hf⟩ := DataW.trod_struct Tryz.underlying41 h
  rw [Vv] at hl
  match cs, hl, xs, hx with
  | [a0, a1, a2, a3, a4, a5, a6], _, [x0, x1, x2, x3, x4, x5, x6], _ =>
    have h0 : DataW.trod enc Tryz.prog w base spare held m 3 (([a0, a1, a2, a3, a4, a5, a6].drop 0).take (Tryz.prog.cellsOf 3)) = some x0 := hf 0 _ rfl
    rw [qA] at h0
    have h1 : DataW.trod enc Tryz.prog w base spare held m 3 (([a0, a1, a2, a3, a4, a5, a6].drop 1).take (Tryz.prog.cellsOf 3)) = some x1 := hf 1 _ rfl
    rw [qA] at h1
    have h2 : DataW.trod enc Tryz.prog w base spare held m 3 (([a0, a1, a2, a3, a4, a5, a6].drop 2).take (Tryz.prog.cellsOf 3)) = some x2 := hf 2 _ rfl
    rw [qA] at h2
    have h3 : DataW.trod enc Tryz.prog w base spare held m 3 (([a0, a1, a2, a3, a4, a5, a6].drop 3).take (Tryz.prog.cellsOf 3)) = some x3 := hf 3 _ rfl
    rw [qA] at h3
    have h4 : DataW.trod enc Tryz.prog w base spare held m 3 (([a0, a1, a2, a3, a4, a5, a6].drop 4).take (Tryz.prog.cellsOf 3)) = some x4 := hf 4 _ rfl
    rw [qA] at h4
    have h5 : DataW.trod enc Tryz.prog w base spare held m 38 (([a0, a1, a2, a3, a4, a5, a6].drop 5).take (Tryz.prog.cellsOf 38)) = some x5 := hf 5 _ rfl
    rw [Xy] at h5
    have h6 : DataW.trod enc Tryz.prog w base spare held m 39 (([a0, a1, a2, a3, a4, a5, a6].drop 6).take (Tryz.prog.cellsOf 39)) = some x6 := hf 6 _ rfl
    rw [Xx] at h6
    obtain ⟨k0, e0, w0⟩ := lS _ _ _ h0
    have e0 := (List.cons.inj e0).1; subst e0
    obtain ⟨k1, e1, w1⟩ := lS _ _ _ h1
    have e1 := (List.cons.inj e1).1; subst e1
    obtain ⟨k2, e2, w2⟩ := lS _ _ _ h2
    have e2 := (List.cons.inj e2).1; subst e2
    obtain ⟨k3, e3, w3⟩ := lS _ _ _ h3
    have e3 := (List.cons.inj e3).1; subst e3
    obtain ⟨k4, e4, w4⟩ := lS _ _ _ h4
    have e4 := (List.cons.inj e4).1; subst e4
    obtain ⟨A5, c5, k5, e5, s5, w5⟩ := gy jX Tryz.underlying38 Rq (by decide) UE h5
    subst e5
    obtain ⟨A6, c6, k6, e6, s6, w6⟩ := gy kV Tryz.underlying39 Ru (by decide) UI h6
    subst e6
    exact ⟨((A5, c5), (A6, c6)), ⟨k0, k1, k2, k3, k4, k5, k6⟩, ⟨s5, s6⟩, rfl, ⟨w0, w1, w2, w3, w4, ⟨Nat.le_trans s5.form.1 s5.form.2.1, w5⟩, ⟨Nat.le_trans s6.form.1 s6.form.2.1, w6⟩⟩⟩
theorem Ub {r : Reach} {b0 : Nat} {v : Value} {d : DataW H} {p : List MemPlace} (hv : Value.okWide Tryz.prog w r b0 43 v) (h : DataW.Trod enc Tryz.prog w base spare held 43 v d p) :
    ∃ (p : lU) (A0 : Option Addr) (c0 : Nat) (A1_0 : Option Addr) (c1_0 : Nat) (A1_1 : Option Addr) (c1_1 : Nat) (A2 : Option Addr) (c2 : Nat) (A3 : Option Addr) (c3 : Nat) (A4 : Option Addr) (c4 : Nat) (A5_0 : Option Addr) (c5_0 : Nat) (A5_1 : Option Addr) (c5_1 : Nat) (A6 : Option Addr) (c6 : Nat) (A7 : Option Addr) (c7 : Nat) (A8 : Option Addr) (c8 : Nat) (A9 : Option Addr) (c9 : Nat) (A10_0 : Option Addr) (c10_0 : Nat) (A10_1 : Option Addr) (c10_1 : Nat), v = .agg #[(.slice A0 (p.Types).length c0), (.slice A1_0 (p.List_.Parts).length c1_0), (.slice A1_1 (p.List_.Nets).length c1_1), (.slice A2 (p.Materials).length c2), (.slice A3 (p.Stack).length c3), (.slice A4 (p.Plots).length c4), (.int .i64 p.Outline.Unit), (.slice A5_0 (p.Outline.Tools).length c5_0), (.slice A5_1 (p.Outline.Steps).length c5_1), (.slice A6 (p.Bores).length c6), (.slice A7 (p.Bodies).length c7), (.slice A8 (p.Places).length c8), (.slice A9 (p.Feet).length c9), (.int .i64 p.Rules.Clearance), (.int .i64 p.Rules.Width), (.int .i64 p.Rules.Ring), (.int .i64 p.Rules.Edge), (.int .i64 p.Rules.HoleGap), (.slice A10_0 (p.Rules.Classes).length c10_0), (.slice A10_1 (p.Rules.Areas).length c10_1)] ∧ Sl (lo w.heap.size) w iB A0 c0 p.Types ∧ Sl (lo w.heap.size) w mH A1_0 c1_0 p.List_.Parts ∧ Sl (lo w.heap.size) w rH A1_1 c1_1 p.List_.Nets ∧ Sl (lo w.heap.size) w iZ A2 c2 p.Materials ∧ Sl (lo w.heap.size) w ou A3 c3 p.Stack ∧ Sl (lo w.heap.size) w sF A4 c4 p.Plots ∧ Sl (lo w.heap.size) w cB A5_0 c5_0 p.Outline.Tools ∧ Sl (lo w.heap.size) w bH A5_1 c5_1 p.Outline.Steps ∧ Sl (lo w.heap.size) w eZ A6 c6 p.Bores ∧ Sl (lo w.heap.size) w oL A7 c7 p.Bodies ∧ Sl (lo w.heap.size) w pK A8 c8 p.Places ∧ Sl (lo w.heap.size) w sG A9 c9 p.Feet ∧ Sl (lo w.heap.size) w jX A10_0 c10_0 p.Rules.Classes ∧ Sl (lo w.heap.size) w kV A10_1 c10_1 p.Rules.Areas ∧ p.Wf := by
  obtain ⟨cs, rfl, hl⟩ := okWide_struct Tryz.underlying43 hv
  obtain ⟨l⟩ := cs
  rw [Xv] at hl
  obtain ⟨fuel, hf⟩ := h
  obtain ⟨xs, m, _, _, _, hx, hf⟩ := DataW.trod_struct Tryz.underlying43 hf
  match l, hl, xs, hx with
  | [a0, a1, a2, a3, a4, a5, a6, a7, a8, a9, a10, a11, a12, a13, a14, a15, a16, a17, a18, a19], _, [x0, x1, x2, x3, x4, x5, x6, x7, x8, x9, YR], _ =>
    have h0 : DataW.trod enc Tryz.prog w base spare held m 22 (([a0, a1, a2, a3, a4, a5, a6, a7, a8, a9, a10, a11, a12, a13, a14, a15, a16, a17, a18, a19].drop 0).take (Tryz.prog.cellsOf 22)) = some x0 := hf 0 _ rfl
    rw [XJ] at h0
    have h1 : DataW.trod enc Tryz.prog w base spare held m 26 (([a0, a1, a2, a3, a4, a5, a6, a7, a8, a9, a10, a11, a12, a13, a14, a15, a16, a17, a18, a19].drop 1).take (Tryz.prog.cellsOf 26)) = some x1 := hf 1 _ rfl
    rw [Vx] at h1
    have h2 : DataW.trod enc Tryz.prog w base spare held m 27 (([a0, a1, a2, a3, a4, a5, a6, a7, a8, a9, a10, a11, a12, a13, a14, a15, a16, a17, a18, a19].drop 3).take (Tryz.prog.cellsOf 27)) = some x2 := hf 2 _ rfl
    rw [XG] at h2
    have h3 : DataW.trod enc Tryz.prog w base spare held m 28 (([a0, a1, a2, a3, a4, a5, a6, a7, a8, a9, a10, a11, a12, a13, a14, a15, a16, a17, a18, a19].drop 4).take (Tryz.prog.cellsOf 28)) = some x3 := hf 3 _ rfl
    rw [XF] at h3
    have h4 : DataW.trod enc Tryz.prog w base spare held m 29 (([a0, a1, a2, a3, a4, a5, a6, a7, a8, a9, a10, a11, a12, a13, a14, a15, a16, a17, a18, a19].drop 5).take (Tryz.prog.cellsOf 29)) = some x4 := hf 4 _ rfl
    rw [XE] at h4
    have h5 : DataW.trod enc Tryz.prog w base spare held m 33 (([a0, a1, a2, a3, a4, a5, a6, a7, a8, a9, a10, a11, a12, a13, a14, a15, a16, a17, a18, a19].drop 6).take (Tryz.prog.cellsOf 33)) = some x5 := hf 5 _ rfl
    rw [Rp] at h5
    have h6 : DataW.trod enc Tryz.prog w base spare held m 34 (([a0, a1, a2, a3, a4, a5, a6, a7, a8, a9, a10, a11, a12, a13, a14, a15, a16, a17, a18, a19].drop 9).take (Tryz.prog.cellsOf 34)) = some x6 := hf 6 _ rfl
    rw [XC] at h6
    have h7 : DataW.trod enc Tryz.prog w base spare held m 35 (([a0, a1, a2, a3, a4, a5, a6, a7, a8, a9, a10, a11, a12, a13, a14, a15, a16, a17, a18, a19].drop 10).take (Tryz.prog.cellsOf 35)) = some x7 := hf 7 _ rfl
    rw [XB] at h7
    have h8 : DataW.trod enc Tryz.prog w base spare held m 36 (([a0, a1, a2, a3, a4, a5, a6, a7, a8, a9, a10, a11, a12, a13, a14, a15, a16, a17, a18, a19].drop 11).take (Tryz.prog.cellsOf 36)) = some x8 := hf 8 _ rfl
    rw [XA] at h8
    have h9 : DataW.trod enc Tryz.prog w base spare held m 37 (([a0, a1, a2, a3, a4, a5, a6, a7, a8, a9, a10, a11, a12, a13, a14, a15, a16, a17, a18, a19].drop 12).take (Tryz.prog.cellsOf 37)) = some x9 := hf 9 _ rfl
    rw [Xz] at h9
    have h10 : DataW.trod enc Tryz.prog w base spare held m 41 (([a0, a1, a2, a3, a4, a5, a6, a7, a8, a9, a10, a11, a12, a13, a14, a15, a16, a17, a18, a19].drop 13).take (Tryz.prog.cellsOf 41)) = some YR := hf 10 _ rfl
    rw [Vv] at h10
    obtain ⟨A0, c0, k0, e0, s0, w0⟩ := gy iB Tryz.underlying22 Rv (by decide) UJ h0
    subst e0
    obtain ⟨u1, k1, s1, e1, w1⟩ := WE _ _ _ h1
    obtain ⟨⟨A1_0, c1_0⟩, ⟨A1_1, c1_1⟩⟩ := u1
    obtain ⟨s1_0, s1_1⟩ := s1
    replace e1 : _ = ([(.slice A1_0 (k1.Parts).length c1_0), (.slice A1_1 (k1.Nets).length c1_1)] : List Value) := e1
    simp at e1
    obtain ⟨q1_0, q1_1⟩ := e1
    subst q1_0 q1_1
    obtain ⟨A2, c2, k2, e2, s2, w2⟩ := gy iZ Tryz.underlying27 RD (by decide) (Aw iZ rJ Kk () UQ) h2
    subst e2
    obtain ⟨A3, c3, k3, e3, s3, w3⟩ := gy ou Tryz.underlying28 RF (by decide) (Aw ou vX PQ () UR) h3
    subst e3
    obtain ⟨A4, c4, k4, e4, s4, w4⟩ := gy sF Tryz.underlying29 Rp (by decide) SG h4
    subst e4
    obtain ⟨u5, k5, s5, e5, w5⟩ := SG _ _ _ h5
    obtain ⟨⟨A5_0, c5_0⟩, ⟨A5_1, c5_1⟩⟩ := u5
    obtain ⟨s5_0, s5_1⟩ := s5
    replace e5 : _ = ([(.int .i64 k5.Unit), (.slice A5_0 (k5.Tools).length c5_0), (.slice A5_1 (k5.Steps).length c5_1)] : List Value) := e5
    simp at e5
    obtain ⟨q5_0, q5_1, q5_2⟩ := e5
    subst q5_0 q5_1 q5_2
    obtain ⟨A6, c6, k6, e6, s6, w6⟩ := gy eZ Tryz.underlying34 Vs (by decide) (Aw eZ uh vg () WA) h6
    subst e6
    obtain ⟨A7, c7, k7, e7, s7, w7⟩ := gy oL Tryz.underlying35 Ry (by decide) (Aw oL yt QM () UM) h7
    subst e7
    obtain ⟨A8, c8, k8, e8, s8, w8⟩ := gy pK Tryz.underlying36 Rz (by decide) (Aw pK E8 PP () UN) h8
    subst e8
    obtain ⟨A9, c9, k9, e9, s9, w9⟩ := gy sG Tryz.underlying37 Rx (by decide) UL h9
    subst e9
    obtain ⟨YS, k10, s10, e10, w10⟩ := WC _ _ _ h10
    obtain ⟨⟨A10_0, c10_0⟩, ⟨A10_1, c10_1⟩⟩ := YS
    obtain ⟨s10_0, s10_1⟩ := s10
    replace e10 : _ = ([(.int .i64 k10.Clearance), (.int .i64 k10.Width), (.int .i64 k10.Ring), (.int .i64 k10.Edge), (.int .i64 k10.HoleGap), (.slice A10_0 (k10.Classes).length c10_0), (.slice A10_1 (k10.Areas).length c10_1)] : List Value) := e10
    simp at e10
    obtain ⟨q10_0, q10_1, q10_2, q10_3, q10_4, q10_5, q10_6⟩ := e10
    subst q10_0 q10_1 q10_2 q10_3 q10_4 q10_5 q10_6
    exact ⟨⟨k0, k1, k2, k3, k4, k5, k6, k7, k8, k9, k10⟩, A0, c0, A1_0, c1_0, A1_1, c1_1, A2, c2, A3, c3, A4, c4, A5_0, c5_0, A5_1, c5_1, A6, c6, A7, c7, A8, c8, A9, c9, A10_0, c10_0, A10_1, c10_1, rfl, s0, s1_0, s1_1, s2, s3, s4, s5_0, s5_1, s6, s7, s8, s9, s10_0, s10_1, ⟨⟨Nat.le_trans s0.form.1 s0.form.2.1, w0⟩, w1, ⟨Nat.le_trans s2.form.1 s2.form.2.1, w2⟩, ⟨Nat.le_trans s3.form.1 s3.form.2.1, w3⟩, ⟨Nat.le_trans s4.form.1 s4.form.2.1, w4⟩, w5, ⟨Nat.le_trans s6.form.1 s6.form.2.1, w6⟩, ⟨Nat.le_trans s7.form.1 s7.form.2.1, w7⟩, ⟨Nat.le_trans s8.form.1 s8.form.2.1, w8⟩, ⟨Nat.le_trans s9.form.1 s9.form.2.1, w9⟩, w10⟩⟩
structure bW.Wf (p : bW) : Prop where
  fName : (p.Name).size ≤ 9223372036854775807
  fW : yK p.W
  fH : yK p.H
structure jH.Wf (p : jH) : Prop where
  fBoard : (p.Board).size ≤ 9223372036854775807
  fQuarters : yK p.Quarters
  fAt : aK.Wf p.At
structure dw.Wf (p : dw) : Prop where
  fW : yK p.W
  fH : yK p.H
  fRail : yK p.Rail
  fGap : yK p.Gap
  fKinds : ((p.Kinds).length ≤ 9223372036854775807 ∧ ∀ x ∈ p.Kinds, bW.Wf x)
  fSlots : ((p.Slots).length ≤ 9223372036854775807 ∧ ∀ x ∈ p.Slots, jH.Wf x)
  fMarks : ((p.Marks).length ≤ 9223372036854775807 ∧ ∀ x ∈ p.Marks, aK.Wf x)
theorem Wz (n : Nat) (cs : List Value) (y : DataW H × List MemPlace) (h : DataW.trod enc Tryz.prog w base spare held n 67 cs = some y) : ∃ p : bW, cs = [(.string p.Name), (.int .i64 p.W), (.int .i64 p.H)] ∧ p.Wf := by
  obtain ⟨xs, m, _, _, hl, hx, hf⟩ := DataW.trod_struct Tryz.underlying67 h
  rw [Vr] at hl
  match cs, hl, xs, hx with
  | [a0, a1, a2], _, [x0, x1, x2], _ =>
    have h0 : DataW.trod enc Tryz.prog w base spare held m 9 (([a0, a1, a2].drop 0).take (Tryz.prog.cellsOf 9)) = some x0 := hf 0 _ rfl
    rw [wE] at h0
    have h1 : DataW.trod enc Tryz.prog w base spare held m 3 (([a0, a1, a2].drop 1).take (Tryz.prog.cellsOf 3)) = some x1 := hf 1 _ rfl
    rw [qA] at h1
    have h2 : DataW.trod enc Tryz.prog w base spare held m 3 (([a0, a1, a2].drop 2).take (Tryz.prog.cellsOf 3)) = some x2 := hf 2 _ rfl
    rw [qA] at h2
    obtain ⟨k0, e0, w0⟩ := rq _ _ _ h0
    have e0 := (List.cons.inj e0).1; subst e0
    obtain ⟨k1, e1, w1⟩ := lS _ _ _ h1
    have e1 := (List.cons.inj e1).1; subst e1
    obtain ⟨k2, e2, w2⟩ := lS _ _ _ h2
    have e2 := (List.cons.inj e2).1; subst e2
    exact ⟨⟨k0, k1, k2⟩, rfl, ⟨w0, w1, w2⟩⟩
theorem WB (n : Nat) (cs : List Value) (y : DataW H × List MemPlace) (h : DataW.trod enc Tryz.prog w base spare held n 56 cs = some y) : ∃ p : jH, cs = [(.string p.Board), (.int .i64 p.Quarters), (.int .i64 p.At.X), (.int .i64 p.At.Y)] ∧ p.Wf := by
  obtain ⟨xs, m, _, _, hl, hx, hf⟩ := DataW.trod_struct Tryz.underlying56 h
  rw [Vt] at hl
  match cs, hl, xs, hx with
  | [a0, a1, a2, a3], _, [x0, x1, x2], _ =>
    have h0 : DataW.trod enc Tryz.prog w base spare held m 9 (([a0, a1, a2, a3].drop 0).take (Tryz.prog.cellsOf 9)) = some x0 := hf 0 _ rfl
    rw [wE] at h0
    have h1 : DataW.trod enc Tryz.prog w base spare held m 3 (([a0, a1, a2, a3].drop 1).take (Tryz.prog.cellsOf 3)) = some x1 := hf 1 _ rfl
    rw [qA] at h1
    have h2 : DataW.trod enc Tryz.prog w base spare held m 54 (([a0, a1, a2, a3].drop 2).take (Tryz.prog.cellsOf 54)) = some x2 := hf 2 _ rfl
    rw [FK] at h2
    obtain ⟨k0, e0, w0⟩ := rq _ _ _ h0
    have e0 := (List.cons.inj e0).1; subst e0
    obtain ⟨k1, e1, w1⟩ := lS _ _ _ h1
    have e1 := (List.cons.inj e1).1; subst e1
    obtain ⟨k2, e2, w2⟩ := Cx _ _ _ h2
    simp at e2
    obtain ⟨q2_0, q2_1⟩ := e2
    subst q2_0 q2_1
    exact ⟨⟨k0, k1, k2⟩, rfl, ⟨w0, w1, w2⟩⟩
theorem Ua {r : Reach} {b0 : Nat} {v : Value} {d : DataW H} {p : List MemPlace} (hv : Value.okWide Tryz.prog w r b0 48 v) (h : DataW.Trod enc Tryz.prog w base spare held 48 v d p) :
    ∃ (p : dw) (A4 : Option Addr) (c4 : Nat) (A5 : Option Addr) (c5 : Nat) (A6 : Option Addr) (c6 : Nat), v = .agg #[(.int .i64 p.W), (.int .i64 p.H), (.int .i64 p.Rail), (.int .i64 p.Gap), (.slice A4 (p.Kinds).length c4), (.slice A5 (p.Slots).length c5), (.slice A6 (p.Marks).length c6)] ∧ Sl (lo w.heap.size) w fe A4 c4 p.Kinds ∧ Sl (lo w.heap.size) w lG A5 c5 p.Slots ∧ Sl (lo w.heap.size) w dP A6 c6 p.Marks ∧ p.Wf := by
  obtain ⟨cs, rfl, hl⟩ := okWide_struct Tryz.underlying48 hv
  obtain ⟨l⟩ := cs
  rw [Xr] at hl
  obtain ⟨fuel, hf⟩ := h
  obtain ⟨xs, m, _, _, _, hx, hf⟩ := DataW.trod_struct Tryz.underlying48 hf
  match l, hl, xs, hx with
  | [a0, a1, a2, a3, a4, a5, a6], _, [x0, x1, x2, x3, x4, x5, x6], _ =>
    have h0 : DataW.trod enc Tryz.prog w base spare held m 3 (([a0, a1, a2, a3, a4, a5, a6].drop 0).take (Tryz.prog.cellsOf 3)) = some x0 := hf 0 _ rfl
    rw [qA] at h0
    have h1 : DataW.trod enc Tryz.prog w base spare held m 3 (([a0, a1, a2, a3, a4, a5, a6].drop 1).take (Tryz.prog.cellsOf 3)) = some x1 := hf 1 _ rfl
    rw [qA] at h1
    have h2 : DataW.trod enc Tryz.prog w base spare held m 3 (([a0, a1, a2, a3, a4, a5, a6].drop 2).take (Tryz.prog.cellsOf 3)) = some x2 := hf 2 _ rfl
    rw [qA] at h2
    have h3 : DataW.trod enc Tryz.prog w base spare held m 3 (([a0, a1, a2, a3, a4, a5, a6].drop 3).take (Tryz.prog.cellsOf 3)) = some x3 := hf 3 _ rfl
    rw [qA] at h3
    have h4 : DataW.trod enc Tryz.prog w base spare held m 44 (([a0, a1, a2, a3, a4, a5, a6].drop 4).take (Tryz.prog.cellsOf 44)) = some x4 := hf 4 _ rfl
    rw [Xu] at h4
    have h5 : DataW.trod enc Tryz.prog w base spare held m 45 (([a0, a1, a2, a3, a4, a5, a6].drop 5).take (Tryz.prog.cellsOf 45)) = some x5 := hf 5 _ rfl
    rw [Xt] at h5
    have h6 : DataW.trod enc Tryz.prog w base spare held m 46 (([a0, a1, a2, a3, a4, a5, a6].drop 6).take (Tryz.prog.cellsOf 46)) = some x6 := hf 6 _ rfl
    rw [Vu] at h6
    obtain ⟨k0, e0, w0⟩ := lS _ _ _ h0
    have e0 := (List.cons.inj e0).1; subst e0
    obtain ⟨k1, e1, w1⟩ := lS _ _ _ h1
    have e1 := (List.cons.inj e1).1; subst e1
    obtain ⟨k2, e2, w2⟩ := lS _ _ _ h2
    have e2 := (List.cons.inj e2).1; subst e2
    obtain ⟨k3, e3, w3⟩ := lS _ _ _ h3
    have e3 := (List.cons.inj e3).1; subst e3
    obtain ⟨A4, c4, k4, e4, s4, w4⟩ := gy fe Tryz.underlying44 Vr (by decide) (Aw fe o6 IY () Wz) h4
    subst e4
    obtain ⟨A5, c5, k5, e5, s5, w5⟩ := gy lG Tryz.underlying45 Vt (by decide) (Aw lG yn QK () WB) h5
    subst e5
    obtain ⟨A6, c6, k6, e6, s6, w6⟩ := gy dP Tryz.underlying46 FK (by decide) (Aw dP qK Jo () Cx) h6
    subst e6
    exact ⟨⟨k0, k1, k2, k3, k4, k5, k6⟩, A4, c4, A5, c5, A6, c6, rfl, s4, s5, s6, ⟨w0, w1, w2, w3, ⟨Nat.le_trans s4.form.1 s4.form.2.1, w4⟩, ⟨Nat.le_trans s5.form.1 s5.form.2.1, w5⟩, ⟨Nat.le_trans s6.form.1 s6.form.2.1, w6⟩⟩⟩
end
end Go.Proofs.YtgijeiamflmkeaaGreatDoor
