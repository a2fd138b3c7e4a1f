/- Types of the data, and closed facts of the program's table of types. -/
import Derived.Test.YtneghcpnehiffaaDoorProg
import Derived.Test.YtneghcpnehiffaaDoorJ2
import Derived.Test.YtneghcpnehiffaaDoorSH
namespace Go.Proofs.YtneghcpnehiffaaDoor
open Go.RowKit
set_option maxRecDepth 100000
structure TRect where
  X0 : Int
  Y0 : Int
  X1 : Int
  Y1 : Int
structure TPlotTool where
  Name : ByteArray
  Rects : (List TRect)
structure TPoint where
  X : Int
  Y : Int
structure TPlotStep where
  Kind : Int
  Name : ByteArray
  At : TPoint
  Points : (List TPoint)
  NX : Int
  NY : Int
  Steps : (List TPlotStep)
structure TFields where
  name : Bool
  at_ : Bool
  points : Bool
  repeat_ : Bool
structure TPlot where
  Unit : Int
  Tools : (List TPlotTool)
  Steps : (List TPlotStep)
structure TTurn where
  Flip : Bool
  Quarters : Int
  At : TPoint
def fl_TRect : Fl TRect := Fl.flat 4 (fun x => [(.int .i64 x.X0), (.int .i64 x.Y0), (.int .i64 x.X1), (.int .i64 x.Y1)]) (fun _ => rfl) (fun _ u h => by
  simp at h
  rcases h with rfl | rfl | rfl | rfl <;> rfl)
theorem ef_TRect : ∀ u x, fl_TRect.enc u x = [(.int .i64 x.X0), (.int .i64 x.Y0), (.int .i64 x.X1), (.int .i64 x.Y1)] := fun _ _ => rfl
theorem tr_TRect : fl_TRect.Tri := fun _ _ _ _ => trivial
def fl_TPoint : Fl TPoint := Fl.flat 2 (fun x => [(.int .i64 x.X), (.int .i64 x.Y)]) (fun _ => rfl) (fun _ u h => by
  simp at h
  rcases h with rfl | rfl <;> rfl)
theorem ef_TPoint : ∀ u x, fl_TPoint.enc u x = [(.int .i64 x.X), (.int .i64 x.Y)] := fun _ _ => rfl
theorem tr_TPoint : fl_TPoint.Tri := fun _ _ _ _ => trivial
def fl_TPlotStepR : FlR TPlotStep where
  Ad := (Option Addr × Nat) × (Option Addr × Nat)
  sz := 8
  enc u x := [(.int .i64 x.Kind), (.string x.Name), (.int .i64 x.At.X), (.int .i64 x.At.Y), (.slice u.1.1 (x.Points).length u.1.2), (.int .i64 x.NX), (.int .i64 x.NY), (.slice u.2.1 (x.Steps).length u.2.2)]
  okb S W u x := Sl S W fl_TPoint u.1.1 u.1.2 x.Points
  ua u := u.2
  sub x := x.Steps
  len _ _ := rfl
  one _ _ v h := by
    simp at h
    rcases h with rfl | rfl | rfl | rfl | rfl | rfl | rfl | rfl <;> rfl
  loc h hs hb := h.go hs hb
def fl_TPlotStep : Fl TPlotStep := fl_TPlotStepR.fix
theorem TPlotStep_ok {S : Nat → Prop} {W : World} {u : (Option Addr × Nat) × (Option Addr × Nat)} {x : TPlotStep} : fl_TPlotStep.ok S W u x ↔ Sl S W fl_TPoint u.1.1 u.1.2 x.Points ∧ Sl S W fl_TPlotStep u.2.1 u.2.2 x.Steps :=
  FlR.fix_ok fl_TPlotStepR
def fl_TPlotTool : Fl TPlotTool where
  Ad := (Option Addr × Nat)
  sz := 2
  enc u x := [(.string x.Name), (.slice u.1 (x.Rects).length u.2)]
  ok S W u x := Sl S W fl_TRect u.1 u.2 x.Rects
  len _ _ := rfl
  one _ _ v h := by
    simp at h
    rcases h with rfl | rfl <;> rfl
  loc h hs hb := h.go hs hb
def ln_TPlotStep : Lens fl_TPlotStep fl_TPoint where
  get x := x.Points
  ga u := u.1
  okR S W u x := Sl S W fl_TPlotStep u.2.1 u.2.2 x.Steps
  ok S W u x h1 h2 := TPlotStep_ok.2 ⟨h2, h1⟩
  locR h hs hb := h.go hs hb
theorem ag_22 : aggOf Tryd.prog 22 = some false := by kernel_rfl
theorem ag_23 : aggOf Tryd.prog 23 = some false := by kernel_rfl
theorem ag_25 : aggOf Tryd.prog 25 = some true := by kernel_rfl
theorem ag_27 : aggOf Tryd.prog 27 = some true := by kernel_rfl
theorem ag_29 : aggOf Tryd.prog 29 = some true := by kernel_rfl
theorem ag_3 : aggOf Tryd.prog 3 = some false := by kernel_rfl
theorem ag_4 : aggOf Tryd.prog 4 = some false := by kernel_rfl
theorem ag_42 : aggOf Tryd.prog 42 = some true := by kernel_rfl
theorem ag_44 : aggOf Tryd.prog 44 = some false := by kernel_rfl
theorem ag_46 : aggOf Tryd.prog 46 = some true := by kernel_rfl
theorem ag_57 : aggOf Tryd.prog 57 = some true := by kernel_rfl
theorem ag_60 : aggOf Tryd.prog 60 = some false := by kernel_rfl
theorem ag_62 : aggOf Tryd.prog 62 = some true := by kernel_rfl
theorem ag_9 : aggOf Tryd.prog 9 = some false := by kernel_rfl
theorem sz_22 : szOf Tryd.prog 22 = some 1 := by kernel_rfl
theorem sz_23 : szOf Tryd.prog 23 = some 1 := by kernel_rfl
theorem sz_25 : szOf Tryd.prog 25 = some 3 := by kernel_rfl
theorem sz_27 : szOf Tryd.prog 27 = some 2 := by kernel_rfl
theorem sz_29 : szOf Tryd.prog 29 = some 4 := by kernel_rfl
theorem sz_3 : szOf Tryd.prog 3 = some 1 := by kernel_rfl
theorem sz_42 : szOf Tryd.prog 42 = some 4 := by kernel_rfl
theorem sz_44 : szOf Tryd.prog 44 = some 1 := by kernel_rfl
theorem sz_46 : szOf Tryd.prog 46 = some 8 := by kernel_rfl
theorem sz_57 : szOf Tryd.prog 57 = some 4 := by kernel_rfl
theorem sz_60 : szOf Tryd.prog 60 = some 1 := by kernel_rfl
theorem sz_62 : szOf Tryd.prog 62 = some 2 := by kernel_rfl
theorem ze_25 : zeroOf Tryd.prog 25 = some [(.int .i64 0), (.slice none 0 0), (.slice none 0 0)] := by kernel_rfl
theorem ze_27 : zeroOf Tryd.prog 27 = some [(.int .i64 0), (.int .i64 0)] := by kernel_rfl
theorem ze_29 : zeroOf Tryd.prog 29 = some [(.bool false), (.int .i64 0), (.int .i64 0), (.int .i64 0)] := by kernel_rfl
theorem ze_3 : zeroOf Tryd.prog 3 = some [(.int .i64 0)] := by kernel_rfl
theorem ze_42 : zeroOf Tryd.prog 42 = some [(.bool false), (.bool false), (.bool false), (.bool false)] := by kernel_rfl
theorem ze_46 : zeroOf Tryd.prog 46 = some [(.int .i64 0), (.string ⟨#[]⟩), (.int .i64 0), (.int .i64 0), (.slice none 0 0), (.int .i64 0), (.int .i64 0), (.slice none 0 0)] := by kernel_rfl
theorem ze_57 : zeroOf Tryd.prog 57 = some [(.int .i64 0), (.int .i64 0), (.int .i64 0), (.int .i64 0)] := by kernel_rfl
theorem ze_62 : zeroOf Tryd.prog 62 = some [(.string ⟨#[]⟩), (.slice none 0 0)] := by kernel_rfl
theorem zb_85 : zeroOf Tryd.prog 85 = some [.pointer none, .slice none 0 0] := by kernel_rfl
theorem zl_27 : (zeroOf Tryd.prog 27).map List.length = some 2 := by kernel_rfl
theorem zl_46 : (zeroOf Tryd.prog 46).map List.length = some 8 := by kernel_rfl
theorem zl_57 : (zeroOf Tryd.prog 57).map List.length = some 4 := by kernel_rfl
theorem zl_62 : (zeroOf Tryd.prog 62).map List.length = some 2 := by kernel_rfl
theorem by_27 : (Tryd.prog.info? 27).map (·.bytes) = some 16 := by kernel_rfl
theorem by_46 : (Tryd.prog.info? 46).map (·.bytes) = some 104 := by kernel_rfl
theorem by_57 : (Tryd.prog.info? 57).map (·.bytes) = some 32 := by kernel_rfl
theorem by_62 : (Tryd.prog.info? 62).map (·.bytes) = some 40 := by kernel_rfl
theorem fo_25_0 : fieldOf Tryd.prog 25 0 = some 0 := by kernel_rfl
theorem fo_25_1 : fieldOf Tryd.prog 25 1 = some 1 := by kernel_rfl
theorem fo_25_2 : fieldOf Tryd.prog 25 2 = some 2 := by kernel_rfl
theorem fo_27_0 : fieldOf Tryd.prog 27 0 = some 0 := by kernel_rfl
theorem fo_27_1 : fieldOf Tryd.prog 27 1 = some 1 := by kernel_rfl
theorem fo_29_0 : fieldOf Tryd.prog 29 0 = some 0 := by kernel_rfl
theorem fo_29_1 : fieldOf Tryd.prog 29 1 = some 1 := by kernel_rfl
theorem fo_29_2 : fieldOf Tryd.prog 29 2 = some 2 := by kernel_rfl
theorem fo_42_0 : fieldOf Tryd.prog 42 0 = some 0 := by kernel_rfl
theorem fo_42_1 : fieldOf Tryd.prog 42 1 = some 1 := by kernel_rfl
theorem fo_42_2 : fieldOf Tryd.prog 42 2 = some 2 := by kernel_rfl
theorem fo_42_3 : fieldOf Tryd.prog 42 3 = some 3 := by kernel_rfl
theorem fo_46_0 : fieldOf Tryd.prog 46 0 = some 0 := by kernel_rfl
theorem fo_46_1 : fieldOf Tryd.prog 46 1 = some 1 := by kernel_rfl
theorem fo_46_2 : fieldOf Tryd.prog 46 2 = some 2 := by kernel_rfl
theorem fo_46_3 : fieldOf Tryd.prog 46 3 = some 4 := by kernel_rfl
theorem fo_46_4 : fieldOf Tryd.prog 46 4 = some 5 := by kernel_rfl
theorem fo_46_5 : fieldOf Tryd.prog 46 5 = some 6 := by kernel_rfl
theorem fo_46_6 : fieldOf Tryd.prog 46 6 = some 7 := by kernel_rfl
theorem fo_57_0 : fieldOf Tryd.prog 57 0 = some 0 := by kernel_rfl
theorem fo_57_1 : fieldOf Tryd.prog 57 1 = some 1 := by kernel_rfl
theorem fo_57_2 : fieldOf Tryd.prog 57 2 = some 2 := by kernel_rfl
theorem fo_57_3 : fieldOf Tryd.prog 57 3 = some 3 := by kernel_rfl
theorem fo_62_0 : fieldOf Tryd.prog 62 0 = some 0 := by kernel_rfl
theorem fo_62_1 : fieldOf Tryd.prog 62 1 = some 1 := by kernel_rfl
theorem fa_42_1 : fieldAtT Tryd.prog 42 1 = some (1, 4) := by kernel_rfl
theorem el_22 : elemOf? Tryd.prog 22 = some (62, 2) := by kernel_rfl
theorem el_23 : elemOf? Tryd.prog 23 = some (46, 8) := by kernel_rfl
theorem el_44 : elemOf? Tryd.prog 44 = some (27, 2) := by kernel_rfl
theorem el_60 : elemOf? Tryd.prog 60 = some (57, 4) := by kernel_rfl
theorem un_22 : Tryd.prog.underlying 22 = some (.slice 62) := by kernel_rfl
theorem un_23 : Tryd.prog.underlying 23 = some (.slice 46) := by kernel_rfl
theorem un_4 : Tryd.prog.underlying 4 = some (.bool) := by kernel_rfl
theorem un_44 : Tryd.prog.underlying 44 = some (.slice 27) := by kernel_rfl
theorem un_60 : Tryd.prog.underlying 60 = some (.slice 57) := by kernel_rfl
theorem un_9 : Tryd.prog.underlying 9 = some (.string) := by kernel_rfl
def eqTPoint (a b : TPoint) : Bool := (a.X == b.X) && ((a.Y == b.Y) && true)
theorem eqTPoint_iff {a b : TPoint} : eqTPoint a b = true ↔ a = b := by
  cases a; cases b; simp [eqTPoint, sEq_iff]
theorem eqr_27 (a b : TPoint) (d : Nat) (W : World) : (Op.equalIn (d + 2) 27 (.agg #[(.int .i64 a.X), (.int .i64 a.Y)]) (.agg #[(.int .i64 b.X), (.int .i64 b.Y)])).run Tryd.prog W = .ok (eqTPoint a b) W := by
  rw [show d + 2 = (d + 1) + 1 from rfl, run_equalIn_struct W _ 27 _ _ (by kernel_rfl) (by kernel_rfl)]
  simp only [Program.fieldsOf, Tryd.underlying27]
  exact eqF_cons rfl (part1 ag_3 rfl) (part1 ag_3 rfl) (eq_int Tryd.underlying3) (eqF_cons rfl (part1 ag_3 rfl) (part1 ag_3 rfl) (eq_int Tryd.underlying3) (eqF_nil))
theorem run_eql_27 {ρ : Operand → Value} {W : World} {dd : Option Tmp} {ty T' : TypeId} {pos : String} {af : Array Edge} {g : Option (Nat × Bool)} {p q : Operand} (a b : TPoint) (hp : ρ p = .agg #[(.int .i64 a.X), (.int .i64 a.Y)]) (hq : ρ q = .agg #[(.int .i64 b.X), (.int .i64 b.Y)]) : (execOp ρ ⟨dd, .binOp .eql 27 p q T', ty, pos, af, g⟩).run Tryd.prog W = .ok (.value (.bool (eqTPoint a b))) W :=
  run_eqlG (m := 9998 + 2) rfl (by kernel_rfl) (eqr_27 a b 9998 W) hp hq
theorem run_neq_27 {ρ : Operand → Value} {W : World} {dd : Option Tmp} {ty T' : TypeId} {pos : String} {af : Array Edge} {g : Option (Nat × Bool)} {p q : Operand} (a b : TPoint) (hp : ρ p = .agg #[(.int .i64 a.X), (.int .i64 a.Y)]) (hq : ρ q = .agg #[(.int .i64 b.X), (.int .i64 b.Y)]) : (execOp ρ ⟨dd, .binOp .neq 27 p q T', ty, pos, af, g⟩).run Tryd.prog W = .ok (.value (.bool (!eqTPoint a b))) W :=
  run_neqG (m := 9998 + 2) rfl (by kernel_rfl) (eqr_27 a b 9998 W) hp hq
def eqTRect (a b : TRect) : Bool := (a.X0 == b.X0) && ((a.Y0 == b.Y0) && ((a.X1 == b.X1) && ((a.Y1 == b.Y1) && true)))
theorem eqTRect_iff {a b : TRect} : eqTRect a b = true ↔ a = b := by
  cases a; cases b; simp [eqTRect, sEq_iff]
theorem eqr_57 (a b : TRect) (d : Nat) (W : World) : (Op.equalIn (d + 2) 57 (.agg #[(.int .i64 a.X0), (.int .i64 a.Y0), (.int .i64 a.X1), (.int .i64 a.Y1)]) (.agg #[(.int .i64 b.X0), (.int .i64 b.Y0), (.int .i64 b.X1), (.int .i64 b.Y1)])).run Tryd.prog W = .ok (eqTRect a b) W := by
  rw [show d + 2 = (d + 1) + 1 from rfl, run_equalIn_struct W _ 57 _ _ (by kernel_rfl) (by kernel_rfl)]
  simp only [Program.fieldsOf, Tryd.underlying57]
  exact eqF_cons rfl (part1 ag_3 rfl) (part1 ag_3 rfl) (eq_int Tryd.underlying3) (eqF_cons rfl (part1 ag_3 rfl) (part1 ag_3 rfl) (eq_int Tryd.underlying3) (eqF_cons rfl (part1 ag_3 rfl) (part1 ag_3 rfl) (eq_int Tryd.underlying3) (eqF_cons rfl (part1 ag_3 rfl) (part1 ag_3 rfl) (eq_int Tryd.underlying3) (eqF_nil))))
theorem run_eql_57 {ρ : Operand → Value} {W : World} {dd : Option Tmp} {ty T' : TypeId} {pos : String} {af : Array Edge} {g : Option (Nat × Bool)} {p q : Operand} (a b : TRect) (hp : ρ p = .agg #[(.int .i64 a.X0), (.int .i64 a.Y0), (.int .i64 a.X1), (.int .i64 a.Y1)]) (hq : ρ q = .agg #[(.int .i64 b.X0), (.int .i64 b.Y0), (.int .i64 b.X1), (.int .i64 b.Y1)]) : (execOp ρ ⟨dd, .binOp .eql 57 p q T', ty, pos, af, g⟩).run Tryd.prog W = .ok (.value (.bool (eqTRect a b))) W :=
  run_eqlG (m := 9998 + 2) rfl (by kernel_rfl) (eqr_57 a b 9998 W) hp hq
theorem run_neq_57 {ρ : Operand → Value} {W : World} {dd : Option Tmp} {ty T' : TypeId} {pos : String} {af : Array Edge} {g : Option (Nat × Bool)} {p q : Operand} (a b : TRect) (hp : ρ p = .agg #[(.int .i64 a.X0), (.int .i64 a.Y0), (.int .i64 a.X1), (.int .i64 a.Y1)]) (hq : ρ q = .agg #[(.int .i64 b.X0), (.int .i64 b.Y0), (.int .i64 b.X1), (.int .i64 b.Y1)]) : (execOp ρ ⟨dd, .binOp .neq 57 p q T', ty, pos, af, g⟩).run Tryd.prog W = .ok (.value (.bool (!eqTRect a b))) W :=
  run_neqG (m := 9998 + 2) rfl (by kernel_rfl) (eqr_57 a b 9998 W) hp hq
end Go.Proofs.YtneghcpnehiffaaDoor
