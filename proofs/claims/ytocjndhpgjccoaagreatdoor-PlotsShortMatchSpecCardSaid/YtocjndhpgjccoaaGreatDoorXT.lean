/- Types of the data, and closed facts of the program's table of types. -/
import Derived.Test.YtocjndhpgjccoaaGreatDoorProg
import Derived.Test.YtocjndhpgjccoaaGreatDoorJ2
import Derived.Test.YtocjndhpgjccoaaGreatDoorSH
namespace Go.Proofs.YtocjndhpgjccoaaGreatDoor
open Go.RowKit
set_option maxRecDepth 100000
structure TRect where
  X0 : Int
  Y0 : Int
  X1 : Int
  Y1 : Int
structure TPlotTool where
  Name : ByteArray
  Rects : (List TRect)
structure TPoint where
  X : Int
  Y : Int
structure TPlotStep where
  Kind : Int
  Name : ByteArray
  At : TPoint
  Points : (List TPoint)
  NX : Int
  NY : Int
  Steps : (List TPlotStep)
structure TFields where
  name : Bool
  at_ : Bool
  points : Bool
  repeat_ : Bool
structure TPlot where
  Unit : Int
  Tools : (List TPlotTool)
  Steps : (List TPlotStep)
structure TKnown where
  dark : Int
  tool : ByteArray
  place : TPoint
  placed : Bool
  last : TPlotStep
structure Tetchhouseref3Known where
  light : Int
  tool : ByteArray
  there : Bool
  place : TPoint
  drawn : Bool
  drawTool : ByteArray
  drawDark : Int
  drawAt : TPoint
def fl_TRect : Fl TRect := Fl.flat 4 (fun x => [(.int .i64 x.X0), (.int .i64 x.Y0), (.int .i64 x.X1), (.int .i64 x.Y1)]) (fun _ => rfl) (fun _ u h => by
  simp at h
  rcases h with rfl | rfl | rfl | rfl <;> rfl)
theorem ef_TRect : ∀ u x, fl_TRect.enc u x = [(.int .i64 x.X0), (.int .i64 x.Y0), (.int .i64 x.X1), (.int .i64 x.Y1)] := fun _ _ => rfl
theorem tr_TRect : fl_TRect.Tri := fun _ _ _ _ => trivial
def fl_TPoint : Fl TPoint := Fl.flat 2 (fun x => [(.int .i64 x.X), (.int .i64 x.Y)]) (fun _ => rfl) (fun _ u h => by
  simp at h
  rcases h with rfl | rfl <;> rfl)
theorem ef_TPoint : ∀ u x, fl_TPoint.enc u x = [(.int .i64 x.X), (.int .i64 x.Y)] := fun _ _ => rfl
theorem tr_TPoint : fl_TPoint.Tri := fun _ _ _ _ => trivial
def fl_TPlotStepR : FlR TPlotStep where
  Ad := (Option Addr × Nat) × (Option Addr × Nat)
  sz := 8
  enc u x := [(.int .i64 x.Kind), (.string x.Name), (.int .i64 x.At.X), (.int .i64 x.At.Y), (.slice u.1.1 (x.Points).length u.1.2), (.int .i64 x.NX), (.int .i64 x.NY), (.slice u.2.1 (x.Steps).length u.2.2)]
  okb S W u x := Sl S W fl_TPoint u.1.1 u.1.2 x.Points
  ua u := u.2
  sub x := x.Steps
  len _ _ := rfl
  one _ _ v h := by
    simp at h
    rcases h with rfl | rfl | rfl | rfl | rfl | rfl | rfl | rfl <;> rfl
  loc h hs hb := h.go hs hb
def fl_TPlotStep : Fl TPlotStep := fl_TPlotStepR.fix
theorem TPlotStep_ok {S : Nat → Prop} {W : World} {u : (Option Addr × Nat) × (Option Addr × Nat)} {x : TPlotStep} : fl_TPlotStep.ok S W u x ↔ Sl S W fl_TPoint u.1.1 u.1.2 x.Points ∧ Sl S W fl_TPlotStep u.2.1 u.2.2 x.Steps :=
  FlR.fix_ok fl_TPlotStepR
def fl_TPlotTool : Fl TPlotTool where
  Ad := (Option Addr × Nat)
  sz := 2
  enc u x := [(.string x.Name), (.slice u.1 (x.Rects).length u.2)]
  ok S W u x := Sl S W fl_TRect u.1 u.2 x.Rects
  len _ _ := rfl
  one _ _ v h := by
    simp at h
    rcases h with rfl | rfl <;> rfl
  loc h hs hb := h.go hs hb
def fl_i64 : Fl Int := Fl.flat 1 (fun x => [(.int .i64 x)]) (fun _ => rfl) (fun _ u h => by
  simp at h
  subst h; rfl)
theorem ef_i64 : ∀ u x, fl_i64.enc u x = [(.int .i64 x)] := fun _ _ => rfl
theorem tr_i64 : fl_i64.Tri := fun _ _ _ _ => trivial
theorem ag_103 : aggOf Tryz.prog 103 = some true := by kernel_rfl
theorem ag_123 : aggOf Tryz.prog 123 = some true := by kernel_rfl
theorem ag_22 : aggOf Tryz.prog 22 = some false := by kernel_rfl
theorem ag_23 : aggOf Tryz.prog 23 = some false := by kernel_rfl
theorem ag_25 : aggOf Tryz.prog 25 = some true := by kernel_rfl
theorem ag_3 : aggOf Tryz.prog 3 = some false := by kernel_rfl
theorem ag_4 : aggOf Tryz.prog 4 = some false := by kernel_rfl
theorem ag_42 : aggOf Tryz.prog 42 = some true := by kernel_rfl
theorem ag_44 : aggOf Tryz.prog 44 = some false := by kernel_rfl
theorem ag_47 : aggOf Tryz.prog 47 = some false := by kernel_rfl
theorem ag_49 : aggOf Tryz.prog 49 = some true := by kernel_rfl
theorem ag_52 : aggOf Tryz.prog 52 = some false := by kernel_rfl
theorem ag_54 : aggOf Tryz.prog 54 = some true := by kernel_rfl
theorem ag_66 : aggOf Tryz.prog 66 = some true := by kernel_rfl
theorem ag_9 : aggOf Tryz.prog 9 = some false := by kernel_rfl
theorem ag_94 : aggOf Tryz.prog 94 = some false := by kernel_rfl
theorem ag_99 : aggOf Tryz.prog 99 = some true := by kernel_rfl
theorem sz_103 : szOf Tryz.prog 103 = some 10 := by kernel_rfl
theorem sz_123 : szOf Tryz.prog 123 = some 4 := by kernel_rfl
theorem sz_23 : szOf Tryz.prog 23 = some 1 := by kernel_rfl
theorem sz_25 : szOf Tryz.prog 25 = some 3 := by kernel_rfl
theorem sz_3 : szOf Tryz.prog 3 = some 1 := by kernel_rfl
theorem sz_4 : szOf Tryz.prog 4 = some 1 := by kernel_rfl
theorem sz_42 : szOf Tryz.prog 42 = some 2 := by kernel_rfl
theorem sz_47 : szOf Tryz.prog 47 = some 1 := by kernel_rfl
theorem sz_49 : szOf Tryz.prog 49 = some 8 := by kernel_rfl
theorem sz_52 : szOf Tryz.prog 52 = some 1 := by kernel_rfl
theorem sz_54 : szOf Tryz.prog 54 = some 2 := by kernel_rfl
theorem sz_66 : szOf Tryz.prog 66 = some 4 := by kernel_rfl
theorem sz_9 : szOf Tryz.prog 9 = some 1 := by kernel_rfl
theorem sz_94 : szOf Tryz.prog 94 = some 1 := by kernel_rfl
theorem sz_99 : szOf Tryz.prog 99 = some 13 := by kernel_rfl
theorem ze_103 : zeroOf Tryz.prog 103 = some [(.int .i64 0), (.string ⟨#[]⟩), (.bool false), (.int .i64 0), (.int .i64 0), (.bool false), (.string ⟨#[]⟩), (.int .i64 0), (.int .i64 0), (.int .i64 0)] := by kernel_rfl
theorem ze_123 : zeroOf Tryz.prog 123 = some [(.bool false), (.bool false), (.bool false), (.bool false)] := by kernel_rfl
theorem ze_25 : zeroOf Tryz.prog 25 = some [(.int .i64 0), (.slice none 0 0), (.slice none 0 0)] := by kernel_rfl
theorem ze_42 : zeroOf Tryz.prog 42 = some [(.int .i64 0), (.int .i64 0)] := by kernel_rfl
theorem ze_49 : zeroOf Tryz.prog 49 = some [(.int .i64 0), (.string ⟨#[]⟩), (.int .i64 0), (.int .i64 0), (.slice none 0 0), (.int .i64 0), (.int .i64 0), (.slice none 0 0)] := by kernel_rfl
theorem ze_54 : zeroOf Tryz.prog 54 = some [(.string ⟨#[]⟩), (.slice none 0 0)] := by kernel_rfl
theorem ze_66 : zeroOf Tryz.prog 66 = some [(.int .i64 0), (.int .i64 0), (.int .i64 0), (.int .i64 0)] := by kernel_rfl
theorem ze_94 : zeroOf Tryz.prog 94 = some [.nilFunc] := by kernel_rfl
theorem ze_99 : zeroOf Tryz.prog 99 = some [(.int .i64 0), (.string ⟨#[]⟩), (.int .i64 0), (.int .i64 0), (.bool false), (.int .i64 0), (.string ⟨#[]⟩), (.int .i64 0), (.int .i64 0), (.slice none 0 0), (.int .i64 0), (.int .i64 0), (.slice none 0 0)] := by kernel_rfl
theorem zb_59 : zeroOf Tryz.prog 59 = some [.pointer none, .slice none 0 0] := by kernel_rfl
theorem zl_42 : (zeroOf Tryz.prog 42).map List.length = some 2 := by kernel_rfl
theorem zl_49 : (zeroOf Tryz.prog 49).map List.length = some 8 := by kernel_rfl
theorem zl_54 : (zeroOf Tryz.prog 54).map List.length = some 2 := by kernel_rfl
theorem zl_66 : (zeroOf Tryz.prog 66).map List.length = some 4 := by kernel_rfl
theorem by_42 : (Tryz.prog.info? 42).map (·.bytes) = some 16 := by kernel_rfl
theorem by_49 : (Tryz.prog.info? 49).map (·.bytes) = some 104 := by kernel_rfl
theorem by_54 : (Tryz.prog.info? 54).map (·.bytes) = some 40 := by kernel_rfl
theorem by_66 : (Tryz.prog.info? 66).map (·.bytes) = some 32 := by kernel_rfl
theorem fo_103_0 : fieldOf Tryz.prog 103 0 = some 0 := by kernel_rfl
theorem fo_103_1 : fieldOf Tryz.prog 103 1 = some 1 := by kernel_rfl
theorem fo_103_2 : fieldOf Tryz.prog 103 2 = some 2 := by kernel_rfl
theorem fo_103_3 : fieldOf Tryz.prog 103 3 = some 3 := by kernel_rfl
theorem fo_103_4 : fieldOf Tryz.prog 103 4 = some 5 := by kernel_rfl
theorem fo_103_5 : fieldOf Tryz.prog 103 5 = some 6 := by kernel_rfl
theorem fo_103_6 : fieldOf Tryz.prog 103 6 = some 7 := by kernel_rfl
theorem fo_103_7 : fieldOf Tryz.prog 103 7 = some 8 := by kernel_rfl
theorem fo_123_0 : fieldOf Tryz.prog 123 0 = some 0 := by kernel_rfl
theorem fo_123_1 : fieldOf Tryz.prog 123 1 = some 1 := by kernel_rfl
theorem fo_123_2 : fieldOf Tryz.prog 123 2 = some 2 := by kernel_rfl
theorem fo_123_3 : fieldOf Tryz.prog 123 3 = some 3 := by kernel_rfl
theorem fo_25_0 : fieldOf Tryz.prog 25 0 = some 0 := by kernel_rfl
theorem fo_25_1 : fieldOf Tryz.prog 25 1 = some 1 := by kernel_rfl
theorem fo_25_2 : fieldOf Tryz.prog 25 2 = some 2 := by kernel_rfl
theorem fo_42_0 : fieldOf Tryz.prog 42 0 = some 0 := by kernel_rfl
theorem fo_42_1 : fieldOf Tryz.prog 42 1 = some 1 := by kernel_rfl
theorem fo_49_0 : fieldOf Tryz.prog 49 0 = some 0 := by kernel_rfl
theorem fo_49_1 : fieldOf Tryz.prog 49 1 = some 1 := by kernel_rfl
theorem fo_49_2 : fieldOf Tryz.prog 49 2 = some 2 := by kernel_rfl
theorem fo_49_3 : fieldOf Tryz.prog 49 3 = some 4 := by kernel_rfl
theorem fo_49_4 : fieldOf Tryz.prog 49 4 = some 5 := by kernel_rfl
theorem fo_49_5 : fieldOf Tryz.prog 49 5 = some 6 := by kernel_rfl
theorem fo_49_6 : fieldOf Tryz.prog 49 6 = some 7 := by kernel_rfl
theorem fo_54_0 : fieldOf Tryz.prog 54 0 = some 0 := by kernel_rfl
theorem fo_54_1 : fieldOf Tryz.prog 54 1 = some 1 := by kernel_rfl
theorem fo_66_0 : fieldOf Tryz.prog 66 0 = some 0 := by kernel_rfl
theorem fo_66_1 : fieldOf Tryz.prog 66 1 = some 1 := by kernel_rfl
theorem fo_66_2 : fieldOf Tryz.prog 66 2 = some 2 := by kernel_rfl
theorem fo_66_3 : fieldOf Tryz.prog 66 3 = some 3 := by kernel_rfl
theorem fo_99_0 : fieldOf Tryz.prog 99 0 = some 0 := by kernel_rfl
theorem fo_99_1 : fieldOf Tryz.prog 99 1 = some 1 := by kernel_rfl
theorem fo_99_2 : fieldOf Tryz.prog 99 2 = some 2 := by kernel_rfl
theorem fo_99_3 : fieldOf Tryz.prog 99 3 = some 4 := by kernel_rfl
theorem fo_99_4 : fieldOf Tryz.prog 99 4 = some 5 := by kernel_rfl
theorem fa_123_1 : fieldAtT Tryz.prog 123 1 = some (1, 4) := by kernel_rfl
theorem el_22 : elemOf? Tryz.prog 22 = some (54, 2) := by kernel_rfl
theorem el_23 : elemOf? Tryz.prog 23 = some (49, 8) := by kernel_rfl
theorem el_47 : elemOf? Tryz.prog 47 = some (42, 2) := by kernel_rfl
theorem el_52 : elemOf? Tryz.prog 52 = some (66, 4) := by kernel_rfl
theorem el_83 : elemOf? Tryz.prog 83 = some (3, 1) := by kernel_rfl
theorem un_22 : Tryz.prog.underlying 22 = some (.slice 54) := by kernel_rfl
theorem un_23 : Tryz.prog.underlying 23 = some (.slice 49) := by kernel_rfl
theorem un_4 : Tryz.prog.underlying 4 = some (.bool) := by kernel_rfl
theorem un_47 : Tryz.prog.underlying 47 = some (.slice 42) := by kernel_rfl
theorem un_52 : Tryz.prog.underlying 52 = some (.slice 66) := by kernel_rfl
theorem un_83 : Tryz.prog.underlying 83 = some (.slice 3) := by kernel_rfl
theorem un_9 : Tryz.prog.underlying 9 = some (.string) := by kernel_rfl
def eqTPoint (a b : TPoint) : Bool := (a.X == b.X) && ((a.Y == b.Y) && true)
theorem eqTPoint_iff {a b : TPoint} : eqTPoint a b = true ↔ a = b := by
  cases a; cases b; simp [eqTPoint, sEq_iff]
theorem eqr_42 (a b : TPoint) (d : Nat) (W : World) : (Op.equalIn (d + 2) 42 (.agg #[(.int .i64 a.X), (.int .i64 a.Y)]) (.agg #[(.int .i64 b.X), (.int .i64 b.Y)])).run Tryz.prog W = .ok (eqTPoint a b) W := by
  rw [show d + 2 = (d + 1) + 1 from rfl, run_equalIn_struct W _ 42 _ _ (by kernel_rfl) (by kernel_rfl)]
  simp only [Program.fieldsOf, Tryz.underlying42]
  exact eqF_cons rfl (part1 ag_3 rfl) (part1 ag_3 rfl) (eq_int Tryz.underlying3) (eqF_cons rfl (part1 ag_3 rfl) (part1 ag_3 rfl) (eq_int Tryz.underlying3) (eqF_nil))
theorem run_eql_42 {ρ : Operand → Value} {W : World} {dd : Option Tmp} {ty T' : TypeId} {pos : String} {af : Array Edge} {g : Option (Nat × Bool)} {p q : Operand} (a b : TPoint) (hp : ρ p = .agg #[(.int .i64 a.X), (.int .i64 a.Y)]) (hq : ρ q = .agg #[(.int .i64 b.X), (.int .i64 b.Y)]) : (execOp ρ ⟨dd, .binOp .eql 42 p q T', ty, pos, af, g⟩).run Tryz.prog W = .ok (.value (.bool (eqTPoint a b))) W :=
  run_eqlG (m := 9998 + 2) rfl (by kernel_rfl) (eqr_42 a b 9998 W) hp hq
theorem run_neq_42 {ρ : Operand → Value} {W : World} {dd : Option Tmp} {ty T' : TypeId} {pos : String} {af : Array Edge} {g : Option (Nat × Bool)} {p q : Operand} (a b : TPoint) (hp : ρ p = .agg #[(.int .i64 a.X), (.int .i64 a.Y)]) (hq : ρ q = .agg #[(.int .i64 b.X), (.int .i64 b.Y)]) : (execOp ρ ⟨dd, .binOp .neq 42 p q T', ty, pos, af, g⟩).run Tryz.prog W = .ok (.value (.bool (!eqTPoint a b))) W :=
  run_neqG (m := 9998 + 2) rfl (by kernel_rfl) (eqr_42 a b 9998 W) hp hq
def eqTRect (a b : TRect) : Bool := (a.X0 == b.X0) && ((a.Y0 == b.Y0) && ((a.X1 == b.X1) && ((a.Y1 == b.Y1) && true)))
theorem eqTRect_iff {a b : TRect} : eqTRect a b = true ↔ a = b := by
  cases a; cases b; simp [eqTRect, sEq_iff]
theorem eqr_66 (a b : TRect) (d : Nat) (W : World) : (Op.equalIn (d + 2) 66 (.agg #[(.int .i64 a.X0), (.int .i64 a.Y0), (.int .i64 a.X1), (.int .i64 a.Y1)]) (.agg #[(.int .i64 b.X0), (.int .i64 b.Y0), (.int .i64 b.X1), (.int .i64 b.Y1)])).run Tryz.prog W = .ok (eqTRect a b) W := by
  rw [show d + 2 = (d + 1) + 1 from rfl, run_equalIn_struct W _ 66 _ _ (by kernel_rfl) (by kernel_rfl)]
  simp only [Program.fieldsOf, Tryz.underlying66]
  exact eqF_cons rfl (part1 ag_3 rfl) (part1 ag_3 rfl) (eq_int Tryz.underlying3) (eqF_cons rfl (part1 ag_3 rfl) (part1 ag_3 rfl) (eq_int Tryz.underlying3) (eqF_cons rfl (part1 ag_3 rfl) (part1 ag_3 rfl) (eq_int Tryz.underlying3) (eqF_cons rfl (part1 ag_3 rfl) (part1 ag_3 rfl) (eq_int Tryz.underlying3) (eqF_nil))))
theorem run_eql_66 {ρ : Operand → Value} {W : World} {dd : Option Tmp} {ty T' : TypeId} {pos : String} {af : Array Edge} {g : Option (Nat × Bool)} {p q : Operand} (a b : TRect) (hp : ρ p = .agg #[(.int .i64 a.X0), (.int .i64 a.Y0), (.int .i64 a.X1), (.int .i64 a.Y1)]) (hq : ρ q = .agg #[(.int .i64 b.X0), (.int .i64 b.Y0), (.int .i64 b.X1), (.int .i64 b.Y1)]) : (execOp ρ ⟨dd, .binOp .eql 66 p q T', ty, pos, af, g⟩).run Tryz.prog W = .ok (.value (.bool (eqTRect a b))) W :=
  run_eqlG (m := 9998 + 2) rfl (by kernel_rfl) (eqr_66 a b 9998 W) hp hq
theorem run_neq_66 {ρ : Operand → Value} {W : World} {dd : Option Tmp} {ty T' : TypeId} {pos : String} {af : Array Edge} {g : Option (Nat × Bool)} {p q : Operand} (a b : TRect) (hp : ρ p = .agg #[(.int .i64 a.X0), (.int .i64 a.Y0), (.int .i64 a.X1), (.int .i64 a.Y1)]) (hq : ρ q = .agg #[(.int .i64 b.X0), (.int .i64 b.Y0), (.int .i64 b.X1), (.int .i64 b.Y1)]) : (execOp ρ ⟨dd, .binOp .neq 66 p q T', ty, pos, af, g⟩).run Tryz.prog W = .ok (.value (.bool (!eqTRect a b))) W :=
  run_neqG (m := 9998 + 2) rfl (by kernel_rfl) (eqr_66 a b 9998 W) hp hq
end Go.Proofs.YtocjndhpgjccoaaGreatDoor
