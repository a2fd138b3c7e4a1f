/- Opening of the arguments of TopPartsForPanels. -/
import Derived.Test.YtejfmgjfdnmmgaaGreatDoorXT
import Derived.Test.YtejfmgjfdnmmgaaGreatDoorJ4
namespace Go.Proofs.YtejfmgjfdnmmgaaGreatDoor
open Go.ChangeShapes Go.WideShapes Go.ChangeAt Go.RowKit Go.Deep Go.WideElems
open Go.ChangeMaps (open_string)
set_option maxRecDepth 100000
theorem nc_3 : Tryz.prog.cellsOf 3 = 1 := by kernel_rfl
theorem nc_4 : Tryz.prog.cellsOf 4 = 1 := by kernel_rfl
theorem nc_9 : Tryz.prog.cellsOf 9 = 1 := by kernel_rfl
theorem nc_22 : Tryz.prog.cellsOf 22 = 1 := by kernel_rfl
theorem nc_23 : Tryz.prog.cellsOf 23 = 1 := by kernel_rfl
theorem nc_24 : Tryz.prog.cellsOf 24 = 1 := by kernel_rfl
theorem nc_26 : Tryz.prog.cellsOf 26 = 7 := by kernel_rfl
theorem nc_27 : Tryz.prog.cellsOf 27 = 1 := by kernel_rfl
theorem nc_28 : Tryz.prog.cellsOf 28 = 1 := by kernel_rfl
theorem nc_34 : Tryz.prog.cellsOf 34 = 2 := by kernel_rfl
theorem nc_36 : Tryz.prog.cellsOf 36 = 4 := by kernel_rfl
theorem nc_60 : Tryz.prog.cellsOf 60 = 3 := by kernel_rfl
theorem nc_66 : Tryz.prog.cellsOf 66 = 6 := by kernel_rfl
theorem nc_68 : Tryz.prog.cellsOf 68 = 5 := by kernel_rfl
section
variable {H : Type} {enc : TypeId × Value → H} {w : World} {base : Nat} {spare : Nat → Bool} {held : Bool}
structure TBoardKind.Wf (p : TBoardKind) : Prop where
  fName : (p.Name).size ≤ 9223372036854775807
  fW : I64 p.W
  fH : I64 p.H
structure TPoint.Wf (p : TPoint) : Prop where
  fX : I64 p.X
  fY : I64 p.Y
structure TSlot.Wf (p : TSlot) : Prop where
  fBoard : (p.Board).size ≤ 9223372036854775807
  fQuarters : I64 p.Quarters
  fAt : TPoint.Wf p.At
structure TPanel.Wf (p : TPanel) : Prop where
  fW : I64 p.W
  fH : I64 p.H
  fRail : I64 p.Rail
  fGap : I64 p.Gap
  fKinds : ((p.Kinds).length ≤ 9223372036854775807 ∧ ∀ x ∈ p.Kinds, TBoardKind.Wf x)
  fSlots : ((p.Slots).length ≤ 9223372036854775807 ∧ ∀ x ∈ p.Slots, TSlot.Wf x)
  fMarks : ((p.Marks).length ≤ 9223372036854775807 ∧ ∀ x ∈ p.Marks, TPoint.Wf x)
theorem dec_3 (n : Nat) (cs : List Value) (y : DataW H × List MemPlace) (h : DataW.trod enc Tryz.prog w base spare held n 3 cs = some y) : ∃ k : Int, cs = [.int .i64 k] ∧ I64 k := by
  obtain ⟨k, h1, _, h2⟩ := DataW.trod_int Tryz.underlying3 h
  exact ⟨k, h1, i64_wf h2⟩
theorem dec_9 (n : Nat) (cs : List Value) (y : DataW H × List MemPlace) (h : DataW.trod enc Tryz.prog w base spare held n 9 cs = some y) : ∃ s : ByteArray, cs = [.string s] ∧ s.size ≤ 9223372036854775807 := by
  obtain ⟨k, h1, _, h2⟩ := DataW.trod_string Tryz.underlying9 h
  exact ⟨k, h1, h2⟩
theorem dec_60 (n : Nat) (cs : List Value) (y : DataW H × List MemPlace) (h : DataW.trod enc Tryz.prog w base spare held n 60 cs = some y) : ∃ p : TBoardKind, cs = [(.string p.Name), (.int .i64 p.W), (.int .i64 p.H)] ∧ p.Wf := by
  obtain ⟨xs, m, _, _, hl, hx, hf⟩ := DataW.trod_struct Tryz.underlying60 h
  rw [nc_60] at hl
  match cs, hl, xs, hx with
  | [a0, a1, a2], _, [x0, x1, x2], _ =>
    have h0 : DataW.trod enc Tryz.prog w base spare held m 9 (([a0, a1, a2].drop 0).take (Tryz.prog.cellsOf 9)) = some x0 := hf 0 _ rfl
    rw [nc_9] at h0
    have h1 : DataW.trod enc Tryz.prog w base spare held m 3 (([a0, a1, a2].drop 1).take (Tryz.prog.cellsOf 3)) = some x1 := hf 1 _ rfl
    rw [nc_3] at h1
    have h2 : DataW.trod enc Tryz.prog w base spare held m 3 (([a0, a1, a2].drop 2).take (Tryz.prog.cellsOf 3)) = some x2 := hf 2 _ rfl
    rw [nc_3] at h2
    obtain ⟨k0, e0, w0⟩ := dec_9 _ _ _ h0
    have e0 := (List.cons.inj e0).1; subst e0
    obtain ⟨k1, e1, w1⟩ := dec_3 _ _ _ h1
    have e1 := (List.cons.inj e1).1; subst e1
    obtain ⟨k2, e2, w2⟩ := dec_3 _ _ _ h2
    have e2 := (List.cons.inj e2).1; subst e2
    exact ⟨⟨k0, k1, k2⟩, rfl, ⟨w0, w1, w2⟩⟩
theorem dec_34 (n : Nat) (cs : List Value) (y : DataW H × List MemPlace) (h : DataW.trod enc Tryz.prog w base spare held n 34 cs = some y) : ∃ p : TPoint, cs = [(.int .i64 p.X), (.int .i64 p.Y)] ∧ p.Wf := by
  obtain ⟨xs, m, _, _, hl, hx, hf⟩ := DataW.trod_struct Tryz.underlying34 h
  rw [nc_34] at hl
  match cs, hl, xs, hx with
  | [a0, a1], _, [x0, x1], _ =>
    have h0 : DataW.trod enc Tryz.prog w base spare held m 3 (([a0, a1].drop 0).take (Tryz.prog.cellsOf 3)) = some x0 := hf 0 _ rfl
    rw [nc_3] at h0
    have h1 : DataW.trod enc Tryz.prog w base spare held m 3 (([a0, a1].drop 1).take (Tryz.prog.cellsOf 3)) = some x1 := hf 1 _ rfl
    rw [nc_3] at h1
    obtain ⟨k0, e0, w0⟩ := dec_3 _ _ _ h0
    have e0 := (List.cons.inj e0).1; subst e0
    obtain ⟨k1, e1, w1⟩ := dec_3 _ _ _ h1
    have e1 := (List.cons.inj e1).1; subst e1
    exact ⟨⟨k0, k1⟩, rfl, ⟨w0, w1⟩⟩
theorem dec_36 (n : Nat) (cs : List Value) (y : DataW H × List MemPlace) (h : DataW.trod enc Tryz.prog w base spare held n 36 cs = some y) : ∃ p : TSlot, cs = [(.string p.Board), (.int .i64 p.Quarters), (.int .i64 p.At.X), (.int .i64 p.At.Y)] ∧ p.Wf := by
  obtain ⟨xs, m, _, _, hl, hx, hf⟩ := DataW.trod_struct Tryz.underlying36 h
  rw [nc_36] at hl
  match cs, hl, xs, hx with
  | [a0, a1, a2, a3], _, [x0, x1, x2], _ =>
    have h0 : DataW.trod enc Tryz.prog w base spare held m 9 (([a0, a1, a2, a3].drop 0).take (Tryz.prog.cellsOf 9)) = some x0 := hf 0 _ rfl
    rw [nc_9] at h0
    have h1 : DataW.trod enc Tryz.prog w base spare held m 3 (([a0, a1, a2, a3].drop 1).take (Tryz.prog.cellsOf 3)) = some x1 := hf 1 _ rfl
    rw [nc_3] at h1
    have h2 : DataW.trod enc Tryz.prog w base spare held m 34 (([a0, a1, a2, a3].drop 2).take (Tryz.prog.cellsOf 34)) = some x2 := hf 2 _ rfl
    rw [nc_34] at h2
    obtain ⟨k0, e0, w0⟩ := dec_9 _ _ _ h0
    have e0 := (List.cons.inj e0).1; subst e0
    obtain ⟨k1, e1, w1⟩ := dec_3 _ _ _ h1
    have e1 := (List.cons.inj e1).1; subst e1
    obtain ⟨k2, e2, w2⟩ := dec_34 _ _ _ h2
    simp at e2
    obtain ⟨q2_0, q2_1⟩ := e2
    subst q2_0 q2_1
    exact ⟨⟨k0, k1, k2⟩, rfl, ⟨w0, w1, w2⟩⟩
theorem open_26 {r : Reach} {b0 : Nat} {v : Value} {d : DataW H} {p : List MemPlace} (hv : Value.okWide Tryz.prog w r b0 26 v) (h : DataW.Trod enc Tryz.prog w base spare held 26 v d p) :
    ∃ (p : TPanel) (A4 : Option Addr) (c4 : Nat) (A5 : Option Addr) (c5 : Nat) (A6 : Option Addr) (c6 : Nat), v = .agg #[(.int .i64 p.W), (.int .i64 p.H), (.int .i64 p.Rail), (.int .i64 p.Gap), (.slice A4 (p.Kinds).length c4), (.slice A5 (p.Slots).length c5), (.slice A6 (p.Marks).length c6)] ∧ Sl (lo w.heap.size) w fl_TBoardKind A4 c4 p.Kinds ∧ Sl (lo w.heap.size) w fl_TSlot A5 c5 p.Slots ∧ Sl (lo w.heap.size) w fl_TPoint A6 c6 p.Marks ∧ p.Wf := by
  obtain ⟨cs, rfl, hl⟩ := okWide_struct Tryz.underlying26 hv
  obtain ⟨l⟩ := cs
  rw [nc_26] at hl
  obtain ⟨fuel, hf⟩ := h
  obtain ⟨xs, m, _, _, _, hx, hf⟩ := DataW.trod_struct Tryz.underlying26 hf
  match l, hl, xs, hx with
  | [a0, a1, a2, a3, a4, a5, a6], _, [x0, x1, x2, x3, x4, x5, x6], _ =>
    have h0 : DataW.trod enc Tryz.prog w base spare held m 3 (([a0, a1, a2, a3, a4, a5, a6].drop 0).take (Tryz.prog.cellsOf 3)) = some x0 := hf 0 _ rfl
    rw [nc_3] at h0
    have h1 : DataW.trod enc Tryz.prog w base spare held m 3 (([a0, a1, a2, a3, a4, a5, a6].drop 1).take (Tryz.prog.cellsOf 3)) = some x1 := hf 1 _ rfl
    rw [nc_3] at h1
    have h2 : DataW.trod enc Tryz.prog w base spare held m 3 (([a0, a1, a2, a3, a4, a5, a6].drop 2).take (Tryz.prog.cellsOf 3)) = some x2 := hf 2 _ rfl
    rw [nc_3] at h2
    have h3 : DataW.trod enc Tryz.prog w base spare held m 3 (([a0, a1, a2, a3, a4, a5, a6].drop 3).take (Tryz.prog.cellsOf 3)) = some x3 := hf 3 _ rfl
    rw [nc_3] at h3
    have h4 : DataW.trod enc Tryz.prog w base spare held m 22 (([a0, a1, a2, a3, a4, a5, a6].drop 4).take (Tryz.prog.cellsOf 22)) = some x4 := hf 4 _ rfl
    rw [nc_22] at h4
    have h5 : DataW.trod enc Tryz.prog w base spare held m 23 (([a0, a1, a2, a3, a4, a5, a6].drop 5).take (Tryz.prog.cellsOf 23)) = some x5 := hf 5 _ rfl
    rw [nc_23] at h5
    have h6 : DataW.trod enc Tryz.prog w base spare held m 24 (([a0, a1, a2, a3, a4, a5, a6].drop 6).take (Tryz.prog.cellsOf 24)) = some x6 := hf 6 _ rfl
    rw [nc_24] at h6
    obtain ⟨k0, e0, w0⟩ := dec_3 _ _ _ h0
    have e0 := (List.cons.inj e0).1; subst e0
    obtain ⟨k1, e1, w1⟩ := dec_3 _ _ _ h1
    have e1 := (List.cons.inj e1).1; subst e1
    obtain ⟨k2, e2, w2⟩ := dec_3 _ _ _ h2
    have e2 := (List.cons.inj e2).1; subst e2
    obtain ⟨k3, e3, w3⟩ := dec_3 _ _ _ h3
    have e3 := (List.cons.inj e3).1; subst e3
    obtain ⟨A4, c4, k4, e4, s4, w4⟩ := sl_of_trod fl_TBoardKind Tryz.underlying22 nc_60 (by decide) (decF fl_TBoardKind ef_TBoardKind tr_TBoardKind () dec_60) h4
    subst e4
    obtain ⟨A5, c5, k5, e5, s5, w5⟩ := sl_of_trod fl_TSlot Tryz.underlying23 nc_36 (by decide) (decF fl_TSlot ef_TSlot tr_TSlot () dec_36) h5
    subst e5
    obtain ⟨A6, c6, k6, e6, s6, w6⟩ := sl_of_trod fl_TPoint Tryz.underlying24 nc_34 (by decide) (decF fl_TPoint ef_TPoint tr_TPoint () dec_34) h6
    subst e6
    exact ⟨⟨k0, k1, k2, k3, k4, k5, k6⟩, A4, c4, A5, c5, A6, c6, rfl, s4, s5, s6, ⟨w0, w1, w2, w3, ⟨Nat.le_trans s4.form.1 s4.form.2.1, w4⟩, ⟨Nat.le_trans s5.form.1 s5.form.2.1, w5⟩, ⟨Nat.le_trans s6.form.1 s6.form.2.1, w6⟩⟩⟩
structure TBody.Wf (p : TBody) : Prop where
  fType_ : (p.Type_).size ≤ 9223372036854775807
  fW : I64 p.W
  fH : I64 p.H
  fTall : I64 p.Tall
  fNozzle : (p.Nozzle).size ≤ 9223372036854775807
theorem dec_68 (n : Nat) (cs : List Value) (y : DataW H × List MemPlace) (h : DataW.trod enc Tryz.prog w base spare held n 68 cs = some y) : ∃ p : TBody, cs = [(.string p.Type_), (.int .i64 p.W), (.int .i64 p.H), (.int .i64 p.Tall), (.string p.Nozzle)] ∧ p.Wf := by
  obtain ⟨xs, m, _, _, hl, hx, hf⟩ := DataW.trod_struct Tryz.underlying68 h
  rw [nc_68] at hl
  match cs, hl, xs, hx with
  | [a0, a1, a2, a3, a4], _, [x0, x1, x2, x3, x4], _ =>
    have h0 : DataW.trod enc Tryz.prog w base spare held m 9 (([a0, a1, a2, a3, a4].drop 0).take (Tryz.prog.cellsOf 9)) = some x0 := hf 0 _ rfl
    rw [nc_9] at h0
    have h1 : DataW.trod enc Tryz.prog w base spare held m 3 (([a0, a1, a2, a3, a4].drop 1).take (Tryz.prog.cellsOf 3)) = some x1 := hf 1 _ rfl
    rw [nc_3] at h1
    have h2 : DataW.trod enc Tryz.prog w base spare held m 3 (([a0, a1, a2, a3, a4].drop 2).take (Tryz.prog.cellsOf 3)) = some x2 := hf 2 _ rfl
    rw [nc_3] at h2
    have h3 : DataW.trod enc Tryz.prog w base spare held m 3 (([a0, a1, a2, a3, a4].drop 3).take (Tryz.prog.cellsOf 3)) = some x3 := hf 3 _ rfl
    rw [nc_3] at h3
    have h4 : DataW.trod enc Tryz.prog w base spare held m 9 (([a0, a1, a2, a3, a4].drop 4).take (Tryz.prog.cellsOf 9)) = some x4 := hf 4 _ rfl
    rw [nc_9] at h4
    obtain ⟨k0, e0, w0⟩ := dec_9 _ _ _ h0
    have e0 := (List.cons.inj e0).1; subst e0
    obtain ⟨k1, e1, w1⟩ := dec_3 _ _ _ h1
    have e1 := (List.cons.inj e1).1; subst e1
    obtain ⟨k2, e2, w2⟩ := dec_3 _ _ _ h2
    have e2 := (List.cons.inj e2).1; subst e2
    obtain ⟨k3, e3, w3⟩ := dec_3 _ _ _ h3
    have e3 := (List.cons.inj e3).1; subst e3
    obtain ⟨k4, e4, w4⟩ := dec_9 _ _ _ h4
    have e4 := (List.cons.inj e4).1; subst e4
    exact ⟨⟨k0, k1, k2, k3, k4⟩, rfl, ⟨w0, w1, w2, w3, w4⟩⟩
structure TPlace.Wf (p : TPlace) : Prop where
  fPart : (p.Part).size ≤ 9223372036854775807
  fType_ : (p.Type_).size ≤ 9223372036854775807
  fAt : TPoint.Wf p.At
  fQuarters : I64 p.Quarters
  fBelow : True
theorem dec_4 (n : Nat) (cs : List Value) (y : DataW H × List MemPlace) (h : DataW.trod enc Tryz.prog w base spare held n 4 cs = some y) : ∃ s : Bool, cs = [.bool s] ∧ True := by
  obtain ⟨k, h1, _⟩ := DataW.trod_bool Tryz.underlying4 h
  exact ⟨k, h1, trivial⟩
theorem dec_66 (n : Nat) (cs : List Value) (y : DataW H × List MemPlace) (h : DataW.trod enc Tryz.prog w base spare held n 66 cs = some y) : ∃ p : TPlace, cs = [(.string p.Part), (.string p.Type_), (.int .i64 p.At.X), (.int .i64 p.At.Y), (.int .i64 p.Quarters), (.bool p.Below)] ∧ p.Wf := by
  obtain ⟨xs, m, _, _, hl, hx, hf⟩ := DataW.trod_struct Tryz.underlying66 h
  rw [nc_66] at hl
  match cs, hl, xs, hx with
  | [a0, a1, a2, a3, a4, a5], _, [x0, x1, x2, x3, x4], _ =>
    have h0 : DataW.trod enc Tryz.prog w base spare held m 9 (([a0, a1, a2, a3, a4, a5].drop 0).take (Tryz.prog.cellsOf 9)) = some x0 := hf 0 _ rfl
    rw [nc_9] at h0
    have h1 : DataW.trod enc Tryz.prog w base spare held m 9 (([a0, a1, a2, a3, a4, a5].drop 1).take (Tryz.prog.cellsOf 9)) = some x1 := hf 1 _ rfl
    rw [nc_9] at h1
    have h2 : DataW.trod enc Tryz.prog w base spare held m 34 (([a0, a1, a2, a3, a4, a5].drop 2).take (Tryz.prog.cellsOf 34)) = some x2 := hf 2 _ rfl
    rw [nc_34] at h2
    have h3 : DataW.trod enc Tryz.prog w base spare held m 3 (([a0, a1, a2, a3, a4, a5].drop 4).take (Tryz.prog.cellsOf 3)) = some x3 := hf 3 _ rfl
    rw [nc_3] at h3
    have h4 : DataW.trod enc Tryz.prog w base spare held m 4 (([a0, a1, a2, a3, a4, a5].drop 5).take (Tryz.prog.cellsOf 4)) = some x4 := hf 4 _ rfl
    rw [nc_4] at h4
    obtain ⟨k0, e0, w0⟩ := dec_9 _ _ _ h0
    have e0 := (List.cons.inj e0).1; subst e0
    obtain ⟨k1, e1, w1⟩ := dec_9 _ _ _ h1
    have e1 := (List.cons.inj e1).1; subst e1
    obtain ⟨k2, e2, w2⟩ := dec_34 _ _ _ h2
    simp at e2
    obtain ⟨q2_0, q2_1⟩ := e2
    subst q2_0 q2_1
    obtain ⟨k3, e3, w3⟩ := dec_3 _ _ _ h3
    have e3 := (List.cons.inj e3).1; subst e3
    obtain ⟨k4, e4, w4⟩ := dec_4 _ _ _ h4
    have e4 := (List.cons.inj e4).1; subst e4
    exact ⟨⟨k0, k1, k2, k3, k4⟩, rfl, ⟨w0, w1, w2, w3, w4⟩⟩
end
end Go.Proofs.YtejfmgjfdnmmgaaGreatDoor
