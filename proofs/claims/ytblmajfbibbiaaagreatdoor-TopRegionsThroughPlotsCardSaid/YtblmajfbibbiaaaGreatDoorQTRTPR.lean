/- Opening of the arguments of TopRegionsThroughPlots. -/
import Derived.Test.YtblmajfbibbiaaaGreatDoorXT
import Derived.Test.YtblmajfbibbiaaaGreatDoorJ7
namespace Go.Proofs.YtblmajfbibbiaaaGreatDoor
open Go.ChangeShapes Go.WideShapes Go.ChangeAt Go.RowKit Go.Deep Go.WideElems
open Go.ChangeMaps (open_string)
set_option maxRecDepth 100000
theorem M0 : Tryz.prog.cellsOf 3 = 1 := by kernel_rfl
theorem YV : Tryz.prog.cellsOf 4 = 1 := by kernel_rfl
theorem Zl : Tryz.prog.cellsOf 22 = 1 := by kernel_rfl
theorem Vv : Tryz.prog.cellsOf 24 = 2 := by kernel_rfl
theorem X3 : Tryz.prog.cellsOf 26 = 4 := by kernel_rfl
theorem Vu : Tryz.prog.cellsOf 45 = 4 := by kernel_rfl
section
variable {H : Type} {enc : TypeId × Value → H} {w : World} {base : Nat} {spare : Nat → Bool} {held : Bool}
structure aK.Wf (p : aK) : Prop where
  fX0 : Vg p.X0
  fY0 : Vg p.Y0
  fX1 : Vg p.X1
  fY1 : Vg p.Y1
theorem Gy (n : Nat) (cs : List Value) (y : DataW H × List MemPlace) (h : DataW.trod enc Tryz.prog w base spare held n 3 cs = some y) : ∃ k : Int, cs = [.int .i64 k] ∧ Vg k := by
  obtain ⟨k, h1, _, h2⟩ := DataW.trod_int Tryz.underlying3 h
  exact ⟨k, h1, WP h2⟩
theorem WS (n : Nat) (cs : List Value) (y : DataW H × List MemPlace) (h : DataW.trod enc Tryz.prog w base spare held n 45 cs = some y) : ∃ p : aK, cs = [(.int .i64 p.X0), (.int .i64 p.Y0), (.int .i64 p.X1), (.int .i64 p.Y1)] ∧ p.Wf := by
  obtain ⟨xs, m, _, _, hl, hx, hf⟩ := DataW.trod_struct Tryz.underlying45 h
  rw [Vu] at hl
  match cs, hl, xs, hx with
  | [a0, a1, a2, a3], _, [x0, x1, x2, x3], _ =>
    have h0 : DataW.trod enc Tryz.prog w base spare held m 3 (([a0, a1, a2, a3].drop 0).take (Tryz.prog.cellsOf 3)) = some x0 := hf 0 _ rfl
    rw [M0] at h0
    have h1 : DataW.trod enc Tryz.prog w base spare held m 3 (([a0, a1, a2, a3].drop 1).take (Tryz.prog.cellsOf 3)) = some x1 := hf 1 _ rfl
    rw [M0] at h1
    have h2 : DataW.trod enc Tryz.prog w base spare held m 3 (([a0, a1, a2, a3].drop 2).take (Tryz.prog.cellsOf 3)) = some x2 := hf 2 _ rfl
    rw [M0] at h2
    have h3 : DataW.trod enc Tryz.prog w base spare held m 3 (([a0, a1, a2, a3].drop 3).take (Tryz.prog.cellsOf 3)) = some x3 := hf 3 _ rfl
    rw [M0] at h3
    obtain ⟨k0, e0, w0⟩ := Gy _ _ _ h0
    have e0 := (List.cons.inj e0).1; subst e0
    obtain ⟨k1, e1, w1⟩ := Gy _ _ _ h1
    have e1 := (List.cons.inj e1).1; subst e1
    obtain ⟨k2, e2, w2⟩ := Gy _ _ _ h2
    have e2 := (List.cons.inj e2).1; subst e2
    obtain ⟨k3, e3, w3⟩ := Gy _ _ _ h3
    have e3 := (List.cons.inj e3).1; subst e3
    exact ⟨⟨k0, k1, k2, k3⟩, rfl, ⟨w0, w1, w2, w3⟩⟩
structure ak.Wf (p : ak) : Prop where
  fX : Vg p.X
  fY : Vg p.Y
structure iT.Wf (p : iT) : Prop where
  fFlip : True
  fQuarters : Vg p.Quarters
  fAt : ak.Wf p.At
theorem Yc (n : Nat) (cs : List Value) (y : DataW H × List MemPlace) (h : DataW.trod enc Tryz.prog w base spare held n 4 cs = some y) : ∃ s : Bool, cs = [.bool s] ∧ True := by
  obtain ⟨k, h1, _⟩ := DataW.trod_bool Tryz.underlying4 h
  exact ⟨k, h1, trivial⟩
theorem WT (n : Nat) (cs : List Value) (y : DataW H × List MemPlace) (h : DataW.trod enc Tryz.prog w base spare held n 24 cs = some y) : ∃ p : ak, cs = [(.int .i64 p.X), (.int .i64 p.Y)] ∧ p.Wf := by
  obtain ⟨xs, m, _, _, hl, hx, hf⟩ := DataW.trod_struct Tryz.underlying24 h
  rw [Vv] at hl
  match cs, hl, xs, hx with
  | [a0, a1], _, [x0, x1], _ =>
    have h0 : DataW.trod enc Tryz.prog w base spare held m 3 (([a0, a1].drop 0).take (Tryz.prog.cellsOf 3)) = some x0 := hf 0 _ rfl
    rw [M0] at h0
    have h1 : DataW.trod enc Tryz.prog w base spare held m 3 (([a0, a1].drop 1).take (Tryz.prog.cellsOf 3)) = some x1 := hf 1 _ rfl
    rw [M0] at h1
    obtain ⟨k0, e0, w0⟩ := Gy _ _ _ h0
    have e0 := (List.cons.inj e0).1; subst e0
    obtain ⟨k1, e1, w1⟩ := Gy _ _ _ h1
    have e1 := (List.cons.inj e1).1; subst e1
    exact ⟨⟨k0, k1⟩, rfl, ⟨w0, w1⟩⟩
theorem Ul {r : Reach} {b0 : Nat} {v : Value} {d : DataW H} {p : List MemPlace} (hv : Value.okWide Tryz.prog w r b0 26 v) (h : DataW.Trod enc Tryz.prog w base spare held 26 v d p) :
    ∃ (p : iT), v = .agg #[(.bool p.Flip), (.int .i64 p.Quarters), (.int .i64 p.At.X), (.int .i64 p.At.Y)] ∧ p.Wf := by
  obtain ⟨cs, rfl, hl⟩ := okWide_struct Tryz.underlying26 hv
  obtain ⟨l⟩ := cs
  rw [X3] at hl
  obtain ⟨fuel, hf⟩ := h
  obtain ⟨xs, m, _, _, _, hx, hf⟩ := DataW.trod_struct Tryz.underlying26 hf
  match l, hl, xs, hx with
  | [a0, a1, a2, a3], _, [x0, x1, x2], _ =>
    have h0 : DataW.trod enc Tryz.prog w base spare held m 4 (([a0, a1, a2, a3].drop 0).take (Tryz.prog.cellsOf 4)) = some x0 := hf 0 _ rfl
    rw [YV] at h0
    have h1 : DataW.trod enc Tryz.prog w base spare held m 3 (([a0, a1, a2, a3].drop 1).take (Tryz.prog.cellsOf 3)) = some x1 := hf 1 _ rfl
    rw [M0] at h1
    have h2 : DataW.trod enc Tryz.prog w base spare held m 24 (([a0, a1, a2, a3].drop 2).take (Tryz.prog.cellsOf 24)) = some x2 := hf 2 _ rfl
    rw [Vv] at h2
    obtain ⟨k0, e0, w0⟩ := Yc _ _ _ h0
    have e0 := (List.cons.inj e0).1; subst e0
    obtain ⟨k1, e1, w1⟩ := Gy _ _ _ h1
    have e1 := (List.cons.inj e1).1; subst e1
    obtain ⟨k2, e2, w2⟩ := WT _ _ _ h2
    simp at e2
    obtain ⟨q2_0, q2_1⟩ := e2
    subst q2_0 q2_1
    exact ⟨⟨k0, k1, k2⟩, rfl, ⟨w0, w1, w2⟩⟩
end
end Go.Proofs.YtblmajfbibbiaaaGreatDoor
