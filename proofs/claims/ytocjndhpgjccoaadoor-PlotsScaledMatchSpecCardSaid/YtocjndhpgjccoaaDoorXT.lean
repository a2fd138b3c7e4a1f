/- Types of the data, and closed facts of the program's table of types. -/
import Derived.Test.YtocjndhpgjccoaaDoorProg
import Derived.Test.YtocjndhpgjccoaaDoorJ2
import Derived.Test.YtocjndhpgjccoaaDoorSH
namespace Go.Proofs.YtocjndhpgjccoaaDoor
open Go.RowKit
set_option maxRecDepth 100000
structure TRect where
  X0 : Int
  Y0 : Int
  X1 : Int
  Y1 : Int
structure TPlotTool where
  Name : ByteArray
  Rects : (List TRect)
structure TPoint where
  X : Int
  Y : Int
structure TPlotStep where
  Kind : Int
  Name : ByteArray
  At : TPoint
  Points : (List TPoint)
  NX : Int
  NY : Int
  Steps : (List TPlotStep)
structure TFields where
  name : Bool
  at_ : Bool
  points : Bool
  repeat_ : Bool
structure TPlot where
  Unit : Int
  Tools : (List TPlotTool)
  Steps : (List TPlotStep)
def fl_TRect : Fl TRect := Fl.flat 4 (fun x => [(.int .i64 x.X0), (.int .i64 x.Y0), (.int .i64 x.X1), (.int .i64 x.Y1)]) (fun _ => rfl) (fun _ u h => by
  simp at h
  rcases h with rfl | rfl | rfl | rfl <;> rfl)
theorem ef_TRect : ∀ u x, fl_TRect.enc u x = [(.int .i64 x.X0), (.int .i64 x.Y0), (.int .i64 x.X1), (.int .i64 x.Y1)] := fun _ _ => rfl
theorem tr_TRect : fl_TRect.Tri := fun _ _ _ _ => trivial
def fl_TPoint : Fl TPoint := Fl.flat 2 (fun x => [(.int .i64 x.X), (.int .i64 x.Y)]) (fun _ => rfl) (fun _ u h => by
  simp at h
  rcases h with rfl | rfl <;> rfl)
theorem ef_TPoint : ∀ u x, fl_TPoint.enc u x = [(.int .i64 x.X), (.int .i64 x.Y)] := fun _ _ => rfl
theorem tr_TPoint : fl_TPoint.Tri := fun _ _ _ _ => trivial
def fl_TPlotStepR : FlR TPlotStep where
  Ad := (Option Addr × Nat) × (Option Addr × Nat)
  sz := 8
  enc u x := [(.int .i64 x.Kind), (.string x.Name), (.int .i64 x.At.X), (.int .i64 x.At.Y), (.slice u.1.1 (x.Points).length u.1.2), (.int .i64 x.NX), (.int .i64 x.NY), (.slice u.2.1 (x.Steps).length u.2.2)]
  okb S W u x := Sl S W fl_TPoint u.1.1 u.1.2 x.Points
  ua u := u.2
  sub x := x.Steps
  len _ _ := rfl
  one _ _ v h := by
    simp at h
    rcases h with rfl | rfl | rfl | rfl | rfl | rfl | rfl | rfl <;> rfl
  loc h hs hb := h.go hs hb
def fl_TPlotStep : Fl TPlotStep := fl_TPlotStepR.fix
theorem TPlotStep_ok {S : Nat → Prop} {W : World} {u : (Option Addr × Nat) × (Option Addr × Nat)} {x : TPlotStep} : fl_TPlotStep.ok S W u x ↔ Sl S W fl_TPoint u.1.1 u.1.2 x.Points ∧ Sl S W fl_TPlotStep u.2.1 u.2.2 x.Steps :=
  FlR.fix_ok fl_TPlotStepR
def fl_TPlotTool : Fl TPlotTool where
  Ad := (Option Addr × Nat)
  sz := 2
  enc u x := [(.string x.Name), (.slice u.1 (x.Rects).length u.2)]
  ok S W u x := Sl S W fl_TRect u.1 u.2 x.Rects
  len _ _ := rfl
  one _ _ v h := by
    simp at h
    rcases h with rfl | rfl <;> rfl
  loc h hs hb := h.go hs hb
theorem ag_101 : aggOf Tryd.prog 101 = some false := by kernel_rfl
theorem ag_120 : aggOf Tryd.prog 120 = some false := by kernel_rfl
theorem ag_22 : aggOf Tryd.prog 22 = some false := by kernel_rfl
theorem ag_23 : aggOf Tryd.prog 23 = some false := by kernel_rfl
theorem ag_25 : aggOf Tryd.prog 25 = some true := by kernel_rfl
theorem ag_3 : aggOf Tryd.prog 3 = some false := by kernel_rfl
theorem ag_37 : aggOf Tryd.prog 37 = some true := by kernel_rfl
theorem ag_4 : aggOf Tryd.prog 4 = some false := by kernel_rfl
theorem ag_53 : aggOf Tryd.prog 53 = some false := by kernel_rfl
theorem ag_55 : aggOf Tryd.prog 55 = some true := by kernel_rfl
theorem ag_57 : aggOf Tryd.prog 57 = some true := by kernel_rfl
theorem ag_80 : aggOf Tryd.prog 80 = some true := by kernel_rfl
theorem ag_82 : aggOf Tryd.prog 82 = some false := by kernel_rfl
theorem ag_84 : aggOf Tryd.prog 84 = some true := by kernel_rfl
theorem ag_9 : aggOf Tryd.prog 9 = some false := by kernel_rfl
theorem sz_120 : szOf Tryd.prog 120 = some 1 := by kernel_rfl
theorem sz_22 : szOf Tryd.prog 22 = some 1 := by kernel_rfl
theorem sz_23 : szOf Tryd.prog 23 = some 1 := by kernel_rfl
theorem sz_25 : szOf Tryd.prog 25 = some 3 := by kernel_rfl
theorem sz_3 : szOf Tryd.prog 3 = some 1 := by kernel_rfl
theorem sz_37 : szOf Tryd.prog 37 = some 2 := by kernel_rfl
theorem sz_4 : szOf Tryd.prog 4 = some 1 := by kernel_rfl
theorem sz_53 : szOf Tryd.prog 53 = some 1 := by kernel_rfl
theorem sz_55 : szOf Tryd.prog 55 = some 2 := by kernel_rfl
theorem sz_57 : szOf Tryd.prog 57 = some 4 := by kernel_rfl
theorem sz_80 : szOf Tryd.prog 80 = some 4 := by kernel_rfl
theorem sz_82 : szOf Tryd.prog 82 = some 1 := by kernel_rfl
theorem sz_84 : szOf Tryd.prog 84 = some 8 := by kernel_rfl
theorem ze_120 : zeroOf Tryd.prog 120 = some [.nilFunc] := by kernel_rfl
theorem ze_25 : zeroOf Tryd.prog 25 = some [(.int .i64 0), (.slice none 0 0), (.slice none 0 0)] := by kernel_rfl
theorem ze_37 : zeroOf Tryd.prog 37 = some [(.int .i64 0), (.int .i64 0)] := by kernel_rfl
theorem ze_4 : zeroOf Tryd.prog 4 = some [(.bool false)] := by kernel_rfl
theorem ze_55 : zeroOf Tryd.prog 55 = some [(.string ⟨#[]⟩), (.slice none 0 0)] := by kernel_rfl
theorem ze_57 : zeroOf Tryd.prog 57 = some [(.int .i64 0), (.int .i64 0), (.int .i64 0), (.int .i64 0)] := by kernel_rfl
theorem ze_80 : zeroOf Tryd.prog 80 = some [(.bool false), (.bool false), (.bool false), (.bool false)] := by kernel_rfl
theorem ze_84 : zeroOf Tryd.prog 84 = some [(.int .i64 0), (.string ⟨#[]⟩), (.int .i64 0), (.int .i64 0), (.slice none 0 0), (.int .i64 0), (.int .i64 0), (.slice none 0 0)] := by kernel_rfl
theorem zb_47 : zeroOf Tryd.prog 47 = some [.pointer none, .slice none 0 0] := by kernel_rfl
theorem zl_37 : (zeroOf Tryd.prog 37).map List.length = some 2 := by kernel_rfl
theorem zl_55 : (zeroOf Tryd.prog 55).map List.length = some 2 := by kernel_rfl
theorem zl_57 : (zeroOf Tryd.prog 57).map List.length = some 4 := by kernel_rfl
theorem zl_84 : (zeroOf Tryd.prog 84).map List.length = some 8 := by kernel_rfl
theorem by_37 : (Tryd.prog.info? 37).map (·.bytes) = some 16 := by kernel_rfl
theorem by_55 : (Tryd.prog.info? 55).map (·.bytes) = some 40 := by kernel_rfl
theorem by_57 : (Tryd.prog.info? 57).map (·.bytes) = some 32 := by kernel_rfl
theorem by_84 : (Tryd.prog.info? 84).map (·.bytes) = some 104 := by kernel_rfl
theorem fo_25_0 : fieldOf Tryd.prog 25 0 = some 0 := by kernel_rfl
theorem fo_25_1 : fieldOf Tryd.prog 25 1 = some 1 := by kernel_rfl
theorem fo_25_2 : fieldOf Tryd.prog 25 2 = some 2 := by kernel_rfl
theorem fo_37_0 : fieldOf Tryd.prog 37 0 = some 0 := by kernel_rfl
theorem fo_37_1 : fieldOf Tryd.prog 37 1 = some 1 := by kernel_rfl
theorem fo_55_0 : fieldOf Tryd.prog 55 0 = some 0 := by kernel_rfl
theorem fo_55_1 : fieldOf Tryd.prog 55 1 = some 1 := by kernel_rfl
theorem fo_57_0 : fieldOf Tryd.prog 57 0 = some 0 := by kernel_rfl
theorem fo_57_1 : fieldOf Tryd.prog 57 1 = some 1 := by kernel_rfl
theorem fo_57_2 : fieldOf Tryd.prog 57 2 = some 2 := by kernel_rfl
theorem fo_57_3 : fieldOf Tryd.prog 57 3 = some 3 := by kernel_rfl
theorem fo_80_0 : fieldOf Tryd.prog 80 0 = some 0 := by kernel_rfl
theorem fo_80_1 : fieldOf Tryd.prog 80 1 = some 1 := by kernel_rfl
theorem fo_80_2 : fieldOf Tryd.prog 80 2 = some 2 := by kernel_rfl
theorem fo_80_3 : fieldOf Tryd.prog 80 3 = some 3 := by kernel_rfl
theorem fo_84_0 : fieldOf Tryd.prog 84 0 = some 0 := by kernel_rfl
theorem fo_84_1 : fieldOf Tryd.prog 84 1 = some 1 := by kernel_rfl
theorem fo_84_2 : fieldOf Tryd.prog 84 2 = some 2 := by kernel_rfl
theorem fo_84_3 : fieldOf Tryd.prog 84 3 = some 4 := by kernel_rfl
theorem fo_84_4 : fieldOf Tryd.prog 84 4 = some 5 := by kernel_rfl
theorem fo_84_5 : fieldOf Tryd.prog 84 5 = some 6 := by kernel_rfl
theorem fo_84_6 : fieldOf Tryd.prog 84 6 = some 7 := by kernel_rfl
theorem el_22 : elemOf? Tryd.prog 22 = some (55, 2) := by kernel_rfl
theorem el_23 : elemOf? Tryd.prog 23 = some (84, 8) := by kernel_rfl
theorem el_53 : elemOf? Tryd.prog 53 = some (57, 4) := by kernel_rfl
theorem el_82 : elemOf? Tryd.prog 82 = some (37, 2) := by kernel_rfl
theorem un_22 : Tryd.prog.underlying 22 = some (.slice 55) := by kernel_rfl
theorem un_23 : Tryd.prog.underlying 23 = some (.slice 84) := by kernel_rfl
theorem un_4 : Tryd.prog.underlying 4 = some (.bool) := by kernel_rfl
theorem un_53 : Tryd.prog.underlying 53 = some (.slice 57) := by kernel_rfl
theorem un_82 : Tryd.prog.underlying 82 = some (.slice 37) := by kernel_rfl
theorem un_9 : Tryd.prog.underlying 9 = some (.string) := by kernel_rfl
def eqTPoint (a b : TPoint) : Bool := (a.X == b.X) && ((a.Y == b.Y) && true)
theorem eqTPoint_iff {a b : TPoint} : eqTPoint a b = true ↔ a = b := by
  cases a; cases b; simp [eqTPoint, sEq_iff]
theorem eqr_37 (a b : TPoint) (d : Nat) (W : World) : (Op.equalIn (d + 2) 37 (.agg #[(.int .i64 a.X), (.int .i64 a.Y)]) (.agg #[(.int .i64 b.X), (.int .i64 b.Y)])).run Tryd.prog W = .ok (eqTPoint a b) W := by
  rw [show d + 2 = (d + 1) + 1 from rfl, run_equalIn_struct W _ 37 _ _ (by kernel_rfl) (by kernel_rfl)]
  simp only [Program.fieldsOf, Tryd.underlying37]
  exact eqF_cons rfl (part1 ag_3 rfl) (part1 ag_3 rfl) (eq_int Tryd.underlying3) (eqF_cons rfl (part1 ag_3 rfl) (part1 ag_3 rfl) (eq_int Tryd.underlying3) (eqF_nil))
theorem run_eql_37 {ρ : Operand → Value} {W : World} {dd : Option Tmp} {ty T' : TypeId} {pos : String} {af : Array Edge} {g : Option (Nat × Bool)} {p q : Operand} (a b : TPoint) (hp : ρ p = .agg #[(.int .i64 a.X), (.int .i64 a.Y)]) (hq : ρ q = .agg #[(.int .i64 b.X), (.int .i64 b.Y)]) : (execOp ρ ⟨dd, .binOp .eql 37 p q T', ty, pos, af, g⟩).run Tryd.prog W = .ok (.value (.bool (eqTPoint a b))) W :=
  run_eqlG (m := 9998 + 2) rfl (by kernel_rfl) (eqr_37 a b 9998 W) hp hq
theorem run_neq_37 {ρ : Operand → Value} {W : World} {dd : Option Tmp} {ty T' : TypeId} {pos : String} {af : Array Edge} {g : Option (Nat × Bool)} {p q : Operand} (a b : TPoint) (hp : ρ p = .agg #[(.int .i64 a.X), (.int .i64 a.Y)]) (hq : ρ q = .agg #[(.int .i64 b.X), (.int .i64 b.Y)]) : (execOp ρ ⟨dd, .binOp .neq 37 p q T', ty, pos, af, g⟩).run Tryd.prog W = .ok (.value (.bool (!eqTPoint a b))) W :=
  run_neqG (m := 9998 + 2) rfl (by kernel_rfl) (eqr_37 a b 9998 W) hp hq
def eqTRect (a b : TRect) : Bool := (a.X0 == b.X0) && ((a.Y0 == b.Y0) && ((a.X1 == b.X1) && ((a.Y1 == b.Y1) && true)))
theorem eqTRect_iff {a b : TRect} : eqTRect a b = true ↔ a = b := by
  cases a; cases b; simp [eqTRect, sEq_iff]
theorem eqr_57 (a b : TRect) (d : Nat) (W : World) : (Op.equalIn (d + 2) 57 (.agg #[(.int .i64 a.X0), (.int .i64 a.Y0), (.int .i64 a.X1), (.int .i64 a.Y1)]) (.agg #[(.int .i64 b.X0), (.int .i64 b.Y0), (.int .i64 b.X1), (.int .i64 b.Y1)])).run Tryd.prog W = .ok (eqTRect a b) W := by
  rw [show d + 2 = (d + 1) + 1 from rfl, run_equalIn_struct W _ 57 _ _ (by kernel_rfl) (by kernel_rfl)]
  simp only [Program.fieldsOf, Tryd.underlying57]
  exact eqF_cons rfl (part1 ag_3 rfl) (part1 ag_3 rfl) (eq_int Tryd.underlying3) (eqF_cons rfl (part1 ag_3 rfl) (part1 ag_3 rfl) (eq_int Tryd.underlying3) (eqF_cons rfl (part1 ag_3 rfl) (part1 ag_3 rfl) (eq_int Tryd.underlying3) (eqF_cons rfl (part1 ag_3 rfl) (part1 ag_3 rfl) (eq_int Tryd.underlying3) (eqF_nil))))
theorem run_eql_57 {ρ : Operand → Value} {W : World} {dd : Option Tmp} {ty T' : TypeId} {pos : String} {af : Array Edge} {g : Option (Nat × Bool)} {p q : Operand} (a b : TRect) (hp : ρ p = .agg #[(.int .i64 a.X0), (.int .i64 a.Y0), (.int .i64 a.X1), (.int .i64 a.Y1)]) (hq : ρ q = .agg #[(.int .i64 b.X0), (.int .i64 b.Y0), (.int .i64 b.X1), (.int .i64 b.Y1)]) : (execOp ρ ⟨dd, .binOp .eql 57 p q T', ty, pos, af, g⟩).run Tryd.prog W = .ok (.value (.bool (eqTRect a b))) W :=
  run_eqlG (m := 9998 + 2) rfl (by kernel_rfl) (eqr_57 a b 9998 W) hp hq
theorem run_neq_57 {ρ : Operand → Value} {W : World} {dd : Option Tmp} {ty T' : TypeId} {pos : String} {af : Array Edge} {g : Option (Nat × Bool)} {p q : Operand} (a b : TRect) (hp : ρ p = .agg #[(.int .i64 a.X0), (.int .i64 a.Y0), (.int .i64 a.X1), (.int .i64 a.Y1)]) (hq : ρ q = .agg #[(.int .i64 b.X0), (.int .i64 b.Y0), (.int .i64 b.X1), (.int .i64 b.Y1)]) : (execOp ρ ⟨dd, .binOp .neq 57 p q T', ty, pos, af, g⟩).run Tryd.prog W = .ok (.value (.bool (!eqTRect a b))) W :=
  run_neqG (m := 9998 + 2) rfl (by kernel_rfl) (eqr_57 a b 9998 W) hp hq
end Go.Proofs.YtocjndhpgjccoaaDoor
