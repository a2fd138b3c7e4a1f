/- Opening of the arguments of OutlinesMatchSpec. -/
import Derived.Test.YtacapjleiadkkaaGreatXT
import Derived.Test.YtacapjleiadkkaaGreatJ6
namespace Go.Proofs.YtacapjleiadkkaaGreat
open Go.ChangeShapes Go.WideShapes Go.ChangeAt Go.RowKit Go.Deep Go.WideElems
open Go.ChangeMaps (open_string)
set_option maxRecDepth 100000
theorem zYn : Tryz.prog.cellsOf 3 = 1 := by kernel_rfl
theorem zra : Tryz.prog.cellsOf 22 = 1 := by kernel_rfl
theorem zrZ : Tryz.prog.cellsOf 23 = 1 := by kernel_rfl
theorem zlw : Tryz.prog.cellsOf 30 = 1 := by kernel_rfl
theorem zZn : Tryz.prog.cellsOf 33 = 2 := by kernel_rfl
theorem zeF : Tryz.prog.cellsOf 36 = 4 := by kernel_rfl
section
variable {H : Type} {enc : TypeId × Value → H} {w : World} {base : Nat} {spare : Nat → Bool} {held : Bool}
structure zJ.Wf (p : zJ) : Prop where
  fX0 : I64 p.X0
  fY0 : I64 p.Y0
  fX1 : I64 p.X1
  fY1 : I64 p.Y1
theorem zQ7 (n : Nat) (cs : List Value) (y : DataW H × List MemPlace) (h : DataW.trod enc Tryz.prog w base spare held n 3 cs = some y) : ∃ k : Int, cs = [.int .i64 k] ∧ I64 k := by
  obtain ⟨k, h1, _, h2⟩ := DataW.trod_int Tryz.underlying3 h
  exact ⟨k, h1, zfw h2⟩
theorem zkt (n : Nat) (cs : List Value) (y : DataW H × List MemPlace) (h : DataW.trod enc Tryz.prog w base spare held n 36 cs = some y) : ∃ p : zJ, cs = [(.int .i64 p.X0), (.int .i64 p.Y0), (.int .i64 p.X1), (.int .i64 p.Y1)] ∧ p.Wf := by
  obtain ⟨xs, m, _, _, hl, hx, hf⟩ := DataW.trod_struct Tryz.underlying36 h
  rw [zeF] at hl
  match cs, hl, xs, hx with
  | [a0, a1, a2, a3], _, [x0, x1, x2, x3], _ =>
    have h0 : DataW.trod enc Tryz.prog w base spare held m 3 (([a0, a1, a2, a3].drop 0).take (Tryz.prog.cellsOf 3)) = some x0 := hf 0 _ rfl
    rw [zYn] at h0
    have h1 : DataW.trod enc Tryz.prog w base spare held m 3 (([a0, a1, a2, a3].drop 1).take (Tryz.prog.cellsOf 3)) = some x1 := hf 1 _ rfl
    rw [zYn] at h1
    have h2 : DataW.trod enc Tryz.prog w base spare held m 3 (([a0, a1, a2, a3].drop 2).take (Tryz.prog.cellsOf 3)) = some x2 := hf 2 _ rfl
    rw [zYn] at h2
    have h3 : DataW.trod enc Tryz.prog w base spare held m 3 (([a0, a1, a2, a3].drop 3).take (Tryz.prog.cellsOf 3)) = some x3 := hf 3 _ rfl
    rw [zYn] at h3
    obtain ⟨k0, e0, w0⟩ := zQ7 _ _ _ h0
    have e0 := (List.cons.inj e0).1; subst e0
    obtain ⟨k1, e1, w1⟩ := zQ7 _ _ _ h1
    have e1 := (List.cons.inj e1).1; subst e1
    obtain ⟨k2, e2, w2⟩ := zQ7 _ _ _ h2
    have e2 := (List.cons.inj e2).1; subst e2
    obtain ⟨k3, e3, w3⟩ := zQ7 _ _ _ h3
    have e3 := (List.cons.inj e3).1; subst e3
    exact ⟨⟨k0, k1, k2, k3⟩, rfl, ⟨w0, w1, w2, w3⟩⟩
structure zG.Wf (p : zG) : Prop where
  fX : I64 p.X
  fY : I64 p.Y
theorem zbo (n : Nat) (cs : List Value) (y : DataW H × List MemPlace) (h : DataW.trod enc Tryz.prog w base spare held n 33 cs = some y) : ∃ p : zG, cs = [(.int .i64 p.X), (.int .i64 p.Y)] ∧ p.Wf := by
  obtain ⟨xs, m, _, _, hl, hx, hf⟩ := DataW.trod_struct Tryz.underlying33 h
  rw [zZn] at hl
  match cs, hl, xs, hx with
  | [a0, a1], _, [x0, x1], _ =>
    have h0 : DataW.trod enc Tryz.prog w base spare held m 3 (([a0, a1].drop 0).take (Tryz.prog.cellsOf 3)) = some x0 := hf 0 _ rfl
    rw [zYn] at h0
    have h1 : DataW.trod enc Tryz.prog w base spare held m 3 (([a0, a1].drop 1).take (Tryz.prog.cellsOf 3)) = some x1 := hf 1 _ rfl
    rw [zYn] at h1
    obtain ⟨k0, e0, w0⟩ := zQ7 _ _ _ h0
    have e0 := (List.cons.inj e0).1; subst e0
    obtain ⟨k1, e1, w1⟩ := zQ7 _ _ _ h1
    have e1 := (List.cons.inj e1).1; subst e1
    exact ⟨⟨k0, k1⟩, rfl, ⟨w0, w1⟩⟩
theorem zrO (n : Nat) (cs : List Value) (y : DataW H × List MemPlace) (h : DataW.trod enc Tryz.prog w base spare held n 30 cs = some y) : ∃ (u : (zS).Ad) (a : (List zG)), (zS).ok (lo w.heap.size) w u a ∧ cs = (zS).enc u a ∧ ((a).length ≤ 9223372036854775807 ∧ ∀ x ∈ a, zG.Wf x) := by
  obtain ⟨v, rfl⟩ : ∃ v, cs = [v] := by
    rcases open_slice Tryz.underlying30 h with ⟨hcs, _⟩ | ⟨_, _, _, _, _, _, _, hcs, _⟩
    · exact ⟨_, hcs⟩
    · exact ⟨_, hcs⟩
  obtain ⟨A, c, l, e, s, w⟩ := zNp zz Tryz.underlying30 zZn (by decide) (zpV zz Jb zDB () zbo) h
  exact ⟨(A, c), l, s, by rw [e]; rfl, Nat.le_trans s.form.1 s.form.2.1, w⟩
theorem zdf (n : Nat) (cs : List Value) (y : DataW H × List MemPlace) (h : DataW.trod enc Tryz.prog w base spare held n 30 cs = some y) : ∃ (u : (zS).Ad) (a : (List zG)), (zS).ok (lo w.heap.size) w u a ∧ cs = (zS).enc u a ∧ (((a).length ≤ 9223372036854775807 ∧ ∀ x ∈ a, zG.Wf x)) ∧ a.length + 1 ≤ Rows.uptoBulk y.1 := by
  obtain ⟨v, rfl⟩ : ∃ v, cs = [v] := by
    rcases open_slice Tryz.underlying30 h with ⟨hcs, _⟩ | ⟨_, _, _, _, _, _, _, hcs, _⟩
    · exact ⟨_, hcs⟩
    · exact ⟨_, hcs⟩
  obtain ⟨A, c, l, e, s, w, z⟩ := zLx zz (fun _ => 1) Tryz.underlying30 zZn (by decide) (zpU zz Jb zDB () zbo) h
  rw [zS5] at z
  exact ⟨(A, c), l, s, by rw [e]; rfl, ⟨Nat.le_trans s.form.1 s.form.2.1, w⟩, z⟩
end
end Go.Proofs.YtacapjleiadkkaaGreat
