/- Opening of the arguments of PlotsOfDrawIt. -/
import Derived.Test.YtcjeebkoafonpaaGreatDoorXT
import Derived.Test.YtcjeebkoafonpaaGreatDoorJ7
namespace Go.Proofs.YtcjeebkoafonpaaGreatDoor
open Go.ChangeShapes Go.WideShapes Go.ChangeAt Go.RowKit Go.Deep Go.WideElems
open Go.ChangeMaps (open_string)
set_option maxRecDepth 100000
theorem QG : Tryz.prog.cellsOf 3 = 1 := by kernel_rfl
theorem VE : Tryz.prog.cellsOf 22 = 1 := by kernel_rfl
theorem RF : Tryz.prog.cellsOf 38 = 4 := by kernel_rfl
section
variable {H : Type} {enc : TypeId × Value → H} {w : World} {base : Nat} {spare : Nat → Bool} {held : Bool}
structure aQ.Wf (p : aQ) : Prop where
  fX0 : TF p.X0
  fY0 : TF p.Y0
  fX1 : TF p.X1
  fY1 : TF p.Y1
theorem Mj (n : Nat) (cs : List Value) (y : DataW H × List MemPlace) (h : DataW.trod enc Tryz.prog w base spare held n 3 cs = some y) : ∃ k : Int, cs = [.int .i64 k] ∧ TF k := by
  obtain ⟨k, h1, _, h2⟩ := DataW.trod_int Tryz.underlying3 h
  exact ⟨k, h1, Ta h2⟩
theorem Te (n : Nat) (cs : List Value) (y : DataW H × List MemPlace) (h : DataW.trod enc Tryz.prog w base spare held n 38 cs = some y) : ∃ p : aQ, cs = [(.int .i64 p.X0), (.int .i64 p.Y0), (.int .i64 p.X1), (.int .i64 p.Y1)] ∧ p.Wf := by
  obtain ⟨xs, m, _, _, hl, hx, hf⟩ := DataW.trod_struct Tryz.underlying38 h
  rw [RF] at hl
  match cs, hl, xs, hx with
  | [a0, a1, a2, a3], _, [x0, x1, x2, x3], _ =>
    have h0 : DataW.trod enc Tryz.prog w base spare held m 3 (([a0, a1, a2, a3].drop 0).take (Tryz.prog.cellsOf 3)) = some x0 := hf 0 _ rfl
    rw [QG] at h0
    have h1 : DataW.trod enc Tryz.prog w base spare held m 3 (([a0, a1, a2, a3].drop 1).take (Tryz.prog.cellsOf 3)) = some x1 := hf 1 _ rfl
    rw [QG] at h1
    have h2 : DataW.trod enc Tryz.prog w base spare held m 3 (([a0, a1, a2, a3].drop 2).take (Tryz.prog.cellsOf 3)) = some x2 := hf 2 _ rfl
    rw [QG] at h2
    have h3 : DataW.trod enc Tryz.prog w base spare held m 3 (([a0, a1, a2, a3].drop 3).take (Tryz.prog.cellsOf 3)) = some x3 := hf 3 _ rfl
    rw [QG] at h3
    obtain ⟨k0, e0, w0⟩ := Mj _ _ _ h0
    have e0 := (List.cons.inj e0).1; subst e0
    obtain ⟨k1, e1, w1⟩ := Mj _ _ _ h1
    have e1 := (List.cons.inj e1).1; subst e1
    obtain ⟨k2, e2, w2⟩ := Mj _ _ _ h2
    have e2 := (List.cons.inj e2).1; subst e2
    obtain ⟨k3, e3, w3⟩ := Mj _ _ _ h3
    have e3 := (List.cons.inj e3).1; subst e3
    exact ⟨⟨k0, k1, k2, k3⟩, rfl, ⟨w0, w1, w2, w3⟩⟩
end
end Go.Proofs.YtcjeebkoafonpaaGreatDoor
