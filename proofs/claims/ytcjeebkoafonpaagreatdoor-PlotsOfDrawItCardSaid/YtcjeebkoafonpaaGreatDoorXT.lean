/- Types of the data, and closed facts of the program's table of types. -/
import Derived.Test.YtcjeebkoafonpaaGreatDoorProg
import Derived.Test.YtcjeebkoafonpaaGreatDoorJ2
import Derived.Test.YtcjeebkoafonpaaGreatDoorJ3
import Derived.Test.YtcjeebkoafonpaaGreatDoorSH
namespace Go.Proofs.YtcjeebkoafonpaaGreatDoor
open Go.RowKit
set_option maxRecDepth 100000
structure TRect where
  X0 : Int
  Y0 : Int
  X1 : Int
  Y1 : Int
structure TBand where
  Y0 : Int
  Y1 : Int
  Xs : (List Int)
structure TPoint where
  X : Int
  Y : Int
structure TSide where
  from_ : TPoint
  to_ : TPoint
structure TRow where
  points : (List TPoint)
  area : Int
structure TPlotTool where
  Name : ByteArray
  Rects : (List TRect)
structure TPlotStep where
  Kind : Int
  Name : ByteArray
  At : TPoint
  Points : (List TPoint)
  NX : Int
  NY : Int
  Steps : (List TPlotStep)
structure TPlot where
  Unit : Int
  Tools : (List TPlotTool)
  Steps : (List TPlotStep)
structure TFields where
  name : Bool
  at_ : Bool
  points : Bool
  repeat_ : Bool
structure TMachine where
  p : TPlot
  tools : (List (List TBand))
  image : (List TBand)
  clear : Bool
  tool : Int
  place : TPoint
  placed : Bool
  off : Int
  on : Int
structure TKnown where
  dark : Int
  tool : ByteArray
  place : TPoint
  placed : Bool
  last : TPlotStep
def fl_TRect : Fl TRect := Fl.flat 4 (fun x => [(.int .i64 x.X0), (.int .i64 x.Y0), (.int .i64 x.X1), (.int .i64 x.Y1)]) (fun _ => rfl) (fun _ u h => by
  simp at h
  rcases h with rfl | rfl | rfl | rfl <;> rfl)
theorem ef_TRect : ∀ u x, fl_TRect.enc u x = [(.int .i64 x.X0), (.int .i64 x.Y0), (.int .i64 x.X1), (.int .i64 x.Y1)] := fun _ _ => rfl
theorem tr_TRect : fl_TRect.Tri := fun _ _ _ _ => trivial
def fl_i64 : Fl Int := Fl.flat 1 (fun x => [(.int .i64 x)]) (fun _ => rfl) (fun _ u h => by
  simp at h
  subst h; rfl)
theorem ef_i64 : ∀ u x, fl_i64.enc u x = [(.int .i64 x)] := fun _ _ => rfl
theorem tr_i64 : fl_i64.Tri := fun _ _ _ _ => trivial
def fl_TBand : Fl TBand where
  Ad := (Option Addr × Nat)
  sz := 3
  enc u x := [(.int .i64 x.Y0), (.int .i64 x.Y1), (.slice u.1 (x.Xs).length u.2)]
  ok S W u x := Sl S W fl_i64 u.1 u.2 x.Xs
  len _ _ := rfl
  one _ _ v h := by
    simp at h
    rcases h with rfl | rfl | rfl <;> rfl
  loc h hs hb := h.go hs hb
def fl_TSide : Fl TSide := Fl.flat 4 (fun x => [(.int .i64 x.from_.X), (.int .i64 x.from_.Y), (.int .i64 x.to_.X), (.int .i64 x.to_.Y)]) (fun _ => rfl) (fun _ u h => by
  simp at h
  rcases h with rfl | rfl | rfl | rfl <;> rfl)
theorem ef_TSide : ∀ u x, fl_TSide.enc u x = [(.int .i64 x.from_.X), (.int .i64 x.from_.Y), (.int .i64 x.to_.X), (.int .i64 x.to_.Y)] := fun _ _ => rfl
theorem tr_TSide : fl_TSide.Tri := fun _ _ _ _ => trivial
def fl_bool : Fl Bool := Fl.flat 1 (fun x => [(.bool x)]) (fun _ => rfl) (fun _ u h => by
  simp at h
  subst h; rfl)
theorem ef_bool : ∀ u x, fl_bool.enc u x = [(.bool x)] := fun _ _ => rfl
theorem tr_bool : fl_bool.Tri := fun _ _ _ _ => trivial
def fl_TPoint : Fl TPoint := Fl.flat 2 (fun x => [(.int .i64 x.X), (.int .i64 x.Y)]) (fun _ => rfl) (fun _ u h => by
  simp at h
  rcases h with rfl | rfl <;> rfl)
theorem ef_TPoint : ∀ u x, fl_TPoint.enc u x = [(.int .i64 x.X), (.int .i64 x.Y)] := fun _ _ => rfl
theorem tr_TPoint : fl_TPoint.Tri := fun _ _ _ _ => trivial
def fl_LTPoint : Fl (List TPoint) where
  Ad := (Option Addr × Nat)
  sz := 1
  enc u x := [(.slice u.1 (x).length u.2)]
  ok S W u x := Sl S W fl_TPoint u.1 u.2 x
  len _ _ := rfl
  one _ _ v h := by
    simp at h
    subst h; rfl
  loc h hs hb := h.go hs hb
def fl_TPlotTool : Fl TPlotTool where
  Ad := (Option Addr × Nat)
  sz := 2
  enc u x := [(.string x.Name), (.slice u.1 (x.Rects).length u.2)]
  ok S W u x := Sl S W fl_TRect u.1 u.2 x.Rects
  len _ _ := rfl
  one _ _ v h := by
    simp at h
    rcases h with rfl | rfl <;> rfl
  loc h hs hb := h.go hs hb
def fl_TPlotStepR : FlR TPlotStep where
  Ad := (Option Addr × Nat) × (Option Addr × Nat)
  sz := 8
  enc u x := [(.int .i64 x.Kind), (.string x.Name), (.int .i64 x.At.X), (.int .i64 x.At.Y), (.slice u.1.1 (x.Points).length u.1.2), (.int .i64 x.NX), (.int .i64 x.NY), (.slice u.2.1 (x.Steps).length u.2.2)]
  okb S W u x := Sl S W fl_TPoint u.1.1 u.1.2 x.Points
  ua u := u.2
  sub x := x.Steps
  len _ _ := rfl
  one _ _ v h := by
    simp at h
    rcases h with rfl | rfl | rfl | rfl | rfl | rfl | rfl | rfl <;> rfl
  loc h hs hb := h.go hs hb
def fl_TPlotStep : Fl TPlotStep := fl_TPlotStepR.fix
theorem TPlotStep_ok {S : Nat → Prop} {W : World} {u : (Option Addr × Nat) × (Option Addr × Nat)} {x : TPlotStep} : fl_TPlotStep.ok S W u x ↔ Sl S W fl_TPoint u.1.1 u.1.2 x.Points ∧ Sl S W fl_TPlotStep u.2.1 u.2.2 x.Steps :=
  FlR.fix_ok fl_TPlotStepR
def fl_TRow : Fl TRow where
  Ad := (Option Addr × Nat)
  sz := 2
  enc u x := [(.slice u.1 (x.points).length u.2), (.int .i64 x.area)]
  ok S W u x := Sl S W fl_TPoint u.1 u.2 x.points
  len _ _ := rfl
  one _ _ v h := by
    simp at h
    rcases h with rfl | rfl <;> rfl
  loc h hs hb := h.go hs hb
def fl_LTBand : Fl (List TBand) where
  Ad := (Option Addr × Nat)
  sz := 1
  enc u x := [(.slice u.1 (x).length u.2)]
  ok S W u x := Sl S W fl_TBand u.1 u.2 x
  len _ _ := rfl
  one _ _ v h := by
    simp at h
    subst h; rfl
  loc h hs hb := h.go hs hb
theorem ag_102 : aggOf Tryz.prog 102 = some false := by kernel_rfl
theorem ag_109 : aggOf Tryz.prog 109 = some true := by kernel_rfl
theorem ag_121 : aggOf Tryz.prog 121 = some false := by kernel_rfl
theorem ag_123 : aggOf Tryz.prog 123 = some false := by kernel_rfl
theorem ag_125 : aggOf Tryz.prog 125 = some true := by kernel_rfl
theorem ag_126 : aggOf Tryz.prog 126 = some false := by kernel_rfl
theorem ag_128 : aggOf Tryz.prog 128 = some false := by kernel_rfl
theorem ag_129 : aggOf Tryz.prog 129 = some false := by kernel_rfl
theorem ag_162 : aggOf Tryz.prog 162 = some false := by kernel_rfl
theorem ag_185 : aggOf Tryz.prog 185 = some true := by kernel_rfl
theorem ag_23 : aggOf Tryz.prog 23 = some false := by kernel_rfl
theorem ag_24 : aggOf Tryz.prog 24 = some false := by kernel_rfl
theorem ag_26 : aggOf Tryz.prog 26 = some true := by kernel_rfl
theorem ag_3 : aggOf Tryz.prog 3 = some false := by kernel_rfl
theorem ag_38 : aggOf Tryz.prog 38 = some true := by kernel_rfl
theorem ag_4 : aggOf Tryz.prog 4 = some false := by kernel_rfl
theorem ag_43 : aggOf Tryz.prog 43 = some false := by kernel_rfl
theorem ag_45 : aggOf Tryz.prog 45 = some true := by kernel_rfl
theorem ag_47 : aggOf Tryz.prog 47 = some true := by kernel_rfl
theorem ag_48 : aggOf Tryz.prog 48 = some false := by kernel_rfl
theorem ag_53 : aggOf Tryz.prog 53 = some true := by kernel_rfl
theorem ag_54 : aggOf Tryz.prog 54 = some false := by kernel_rfl
theorem ag_62 : aggOf Tryz.prog 62 = some false := by kernel_rfl
theorem ag_9 : aggOf Tryz.prog 9 = some false := by kernel_rfl
theorem ag_96 : aggOf Tryz.prog 96 = some false := by kernel_rfl
theorem ag_98 : aggOf Tryz.prog 98 = some true := by kernel_rfl
theorem sz_102 : szOf Tryz.prog 102 = some 1 := by kernel_rfl
theorem sz_109 : szOf Tryz.prog 109 = some 13 := by kernel_rfl
theorem sz_121 : szOf Tryz.prog 121 = some 1 := by kernel_rfl
theorem sz_123 : szOf Tryz.prog 123 = some 1 := by kernel_rfl
theorem sz_125 : szOf Tryz.prog 125 = some 4 := by kernel_rfl
theorem sz_126 : szOf Tryz.prog 126 = some 1 := by kernel_rfl
theorem sz_128 : szOf Tryz.prog 128 = some 1 := by kernel_rfl
theorem sz_129 : szOf Tryz.prog 129 = some 1 := by kernel_rfl
theorem sz_162 : szOf Tryz.prog 162 = some 1 := by kernel_rfl
theorem sz_185 : szOf Tryz.prog 185 = some 4 := by kernel_rfl
theorem sz_24 : szOf Tryz.prog 24 = some 1 := by kernel_rfl
theorem sz_26 : szOf Tryz.prog 26 = some 3 := by kernel_rfl
theorem sz_3 : szOf Tryz.prog 3 = some 1 := by kernel_rfl
theorem sz_38 : szOf Tryz.prog 38 = some 4 := by kernel_rfl
theorem sz_4 : szOf Tryz.prog 4 = some 1 := by kernel_rfl
theorem sz_43 : szOf Tryz.prog 43 = some 1 := by kernel_rfl
theorem sz_45 : szOf Tryz.prog 45 = some 2 := by kernel_rfl
theorem sz_47 : szOf Tryz.prog 47 = some 2 := by kernel_rfl
theorem sz_48 : szOf Tryz.prog 48 = some 1 := by kernel_rfl
theorem sz_53 : szOf Tryz.prog 53 = some 8 := by kernel_rfl
theorem sz_58 : szOf Tryz.prog 58 = some 2 := by kernel_rfl
theorem sz_62 : szOf Tryz.prog 62 = some 1 := by kernel_rfl
theorem sz_96 : szOf Tryz.prog 96 = some 1 := by kernel_rfl
theorem sz_98 : szOf Tryz.prog 98 = some 3 := by kernel_rfl
theorem ze_102 : zeroOf Tryz.prog 102 = some [.nilFunc] := by kernel_rfl
theorem ze_109 : zeroOf Tryz.prog 109 = some [(.int .i64 0), (.string ⟨#[]⟩), (.int .i64 0), (.int .i64 0), (.bool false), (.int .i64 0), (.string ⟨#[]⟩), (.int .i64 0), (.int .i64 0), (.slice none 0 0), (.int .i64 0), (.int .i64 0), (.slice none 0 0)] := by kernel_rfl
theorem ze_121 : zeroOf Tryz.prog 121 = some [(.slice none 0 0)] := by kernel_rfl
theorem ze_123 : zeroOf Tryz.prog 123 = some [(.map none)] := by kernel_rfl
theorem ze_125 : zeroOf Tryz.prog 125 = some [(.int .i64 0), (.int .i64 0), (.int .i64 0), (.int .i64 0)] := by kernel_rfl
theorem ze_126 : zeroOf Tryz.prog 126 = some [(.slice none 0 0)] := by kernel_rfl
theorem ze_128 : zeroOf Tryz.prog 128 = some [.nilFunc] := by kernel_rfl
theorem ze_129 : zeroOf Tryz.prog 129 = some [.nilFunc] := by kernel_rfl
theorem ze_162 : zeroOf Tryz.prog 162 = some [.nilFunc] := by kernel_rfl
theorem ze_185 : zeroOf Tryz.prog 185 = some [(.bool false), (.bool false), (.bool false), (.bool false)] := by kernel_rfl
theorem ze_26 : zeroOf Tryz.prog 26 = some [(.int .i64 0), (.slice none 0 0), (.slice none 0 0)] := by kernel_rfl
theorem ze_3 : zeroOf Tryz.prog 3 = some [(.int .i64 0)] := by kernel_rfl
theorem ze_38 : zeroOf Tryz.prog 38 = some [(.int .i64 0), (.int .i64 0), (.int .i64 0), (.int .i64 0)] := by kernel_rfl
theorem ze_4 : zeroOf Tryz.prog 4 = some [(.bool false)] := by kernel_rfl
theorem ze_45 : zeroOf Tryz.prog 45 = some [(.slice none 0 0), (.int .i64 0)] := by kernel_rfl
theorem ze_47 : zeroOf Tryz.prog 47 = some [(.int .i64 0), (.int .i64 0)] := by kernel_rfl
theorem ze_48 : zeroOf Tryz.prog 48 = some [.nilFunc] := by kernel_rfl
theorem ze_53 : zeroOf Tryz.prog 53 = some [(.int .i64 0), (.string ⟨#[]⟩), (.int .i64 0), (.int .i64 0), (.slice none 0 0), (.int .i64 0), (.int .i64 0), (.slice none 0 0)] := by kernel_rfl
theorem ze_96 : zeroOf Tryz.prog 96 = some [(.slice none 0 0)] := by kernel_rfl
theorem ze_98 : zeroOf Tryz.prog 98 = some [(.int .i64 0), (.int .i64 0), (.slice none 0 0)] := by kernel_rfl
theorem zb_80 : zeroOf Tryz.prog 80 = some [.pointer none, .slice none 0 0] := by kernel_rfl
theorem zl_125 : (zeroOf Tryz.prog 125).map List.length = some 4 := by kernel_rfl
theorem zl_3 : (zeroOf Tryz.prog 3).map List.length = some 1 := by kernel_rfl
theorem zl_38 : (zeroOf Tryz.prog 38).map List.length = some 4 := by kernel_rfl
theorem zl_43 : (zeroOf Tryz.prog 43).map List.length = some 1 := by kernel_rfl
theorem zl_45 : (zeroOf Tryz.prog 45).map List.length = some 2 := by kernel_rfl
theorem zl_47 : (zeroOf Tryz.prog 47).map List.length = some 2 := by kernel_rfl
theorem zl_53 : (zeroOf Tryz.prog 53).map List.length = some 8 := by kernel_rfl
theorem zl_58 : (zeroOf Tryz.prog 58).map List.length = some 2 := by kernel_rfl
theorem zl_98 : (zeroOf Tryz.prog 98).map List.length = some 3 := by kernel_rfl
theorem by_125 : (Tryz.prog.info? 125).map (·.bytes) = some 32 := by kernel_rfl
theorem by_3 : (Tryz.prog.info? 3).map (·.bytes) = some 8 := by kernel_rfl
theorem by_38 : (Tryz.prog.info? 38).map (·.bytes) = some 32 := by kernel_rfl
theorem by_4 : (Tryz.prog.info? 4).map (·.bytes) = some 1 := by kernel_rfl
theorem by_43 : (Tryz.prog.info? 43).map (·.bytes) = some 24 := by kernel_rfl
theorem by_45 : (Tryz.prog.info? 45).map (·.bytes) = some 32 := by kernel_rfl
theorem by_47 : (Tryz.prog.info? 47).map (·.bytes) = some 16 := by kernel_rfl
theorem by_53 : (Tryz.prog.info? 53).map (·.bytes) = some 104 := by kernel_rfl
theorem by_58 : (Tryz.prog.info? 58).map (·.bytes) = some 40 := by kernel_rfl
theorem by_98 : (Tryz.prog.info? 98).map (·.bytes) = some 40 := by kernel_rfl
theorem fo_109_0 : fieldOf Tryz.prog 109 0 = some 0 := by kernel_rfl
theorem fo_109_4 : fieldOf Tryz.prog 109 4 = some 5 := by kernel_rfl
theorem fo_125_0 : fieldOf Tryz.prog 125 0 = some 0 := by kernel_rfl
theorem fo_125_1 : fieldOf Tryz.prog 125 1 = some 2 := by kernel_rfl
theorem fo_185_0 : fieldOf Tryz.prog 185 0 = some 0 := by kernel_rfl
theorem fo_185_1 : fieldOf Tryz.prog 185 1 = some 1 := by kernel_rfl
theorem fo_185_2 : fieldOf Tryz.prog 185 2 = some 2 := by kernel_rfl
theorem fo_185_3 : fieldOf Tryz.prog 185 3 = some 3 := by kernel_rfl
theorem fo_26_0 : fieldOf Tryz.prog 26 0 = some 0 := by kernel_rfl
theorem fo_26_1 : fieldOf Tryz.prog 26 1 = some 1 := by kernel_rfl
theorem fo_26_2 : fieldOf Tryz.prog 26 2 = some 2 := by kernel_rfl
theorem fo_38_0 : fieldOf Tryz.prog 38 0 = some 0 := by kernel_rfl
theorem fo_38_1 : fieldOf Tryz.prog 38 1 = some 1 := by kernel_rfl
theorem fo_38_2 : fieldOf Tryz.prog 38 2 = some 2 := by kernel_rfl
theorem fo_38_3 : fieldOf Tryz.prog 38 3 = some 3 := by kernel_rfl
theorem fo_45_0 : fieldOf Tryz.prog 45 0 = some 0 := by kernel_rfl
theorem fo_45_1 : fieldOf Tryz.prog 45 1 = some 1 := by kernel_rfl
theorem fo_47_0 : fieldOf Tryz.prog 47 0 = some 0 := by kernel_rfl
theorem fo_47_1 : fieldOf Tryz.prog 47 1 = some 1 := by kernel_rfl
theorem fo_53_0 : fieldOf Tryz.prog 53 0 = some 0 := by kernel_rfl
theorem fo_53_1 : fieldOf Tryz.prog 53 1 = some 1 := by kernel_rfl
theorem fo_53_2 : fieldOf Tryz.prog 53 2 = some 2 := by kernel_rfl
theorem fo_53_3 : fieldOf Tryz.prog 53 3 = some 4 := by kernel_rfl
theorem fo_53_4 : fieldOf Tryz.prog 53 4 = some 5 := by kernel_rfl
theorem fo_53_5 : fieldOf Tryz.prog 53 5 = some 6 := by kernel_rfl
theorem fo_53_6 : fieldOf Tryz.prog 53 6 = some 7 := by kernel_rfl
theorem fo_95_0 : fieldOf Tryz.prog 95 0 = some 0 := by kernel_rfl
theorem fo_95_2 : fieldOf Tryz.prog 95 2 = some 4 := by kernel_rfl
theorem fo_95_3 : fieldOf Tryz.prog 95 3 = some 5 := by kernel_rfl
theorem fo_98_0 : fieldOf Tryz.prog 98 0 = some 0 := by kernel_rfl
theorem fo_98_1 : fieldOf Tryz.prog 98 1 = some 1 := by kernel_rfl
theorem fo_98_2 : fieldOf Tryz.prog 98 2 = some 2 := by kernel_rfl
theorem el_121 : elemOf? Tryz.prog 121 = some (125, 4) := by kernel_rfl
theorem el_126 : elemOf? Tryz.prog 126 = some (4, 1) := by kernel_rfl
theorem el_22 : elemOf? Tryz.prog 22 = some (38, 4) := by kernel_rfl
theorem el_24 : elemOf? Tryz.prog 24 = some (53, 8) := by kernel_rfl
theorem el_39 : elemOf? Tryz.prog 39 = some (43, 1) := by kernel_rfl
theorem el_42 : elemOf? Tryz.prog 42 = some (45, 2) := by kernel_rfl
theorem el_43 : elemOf? Tryz.prog 43 = some (47, 2) := by kernel_rfl
theorem el_62 : elemOf? Tryz.prog 62 = some (98, 3) := by kernel_rfl
theorem el_93 : elemOf? Tryz.prog 93 = some (62, 1) := by kernel_rfl
theorem el_96 : elemOf? Tryz.prog 96 = some (3, 1) := by kernel_rfl
theorem zs_96 : (Tryz.prog.info? 96).bind (·.zero) = some (.slice none 0 0) := by kernel_rfl
theorem kp_47 : KeyT Tryz.prog 47 encP okP := keyP (IT := 3) (by kernel_rfl) (of_decide_eq_true (by kernel_rfl)) ⟨277, by kernel_rfl⟩ (of_decide_eq_true (by kernel_rfl)) (by kernel_rfl) ⟨_, Tryz.underlying47, by kernel_rfl⟩ (by kernel_rfl) (by kernel_rfl) Tryz.underlying3
theorem un_121 : Tryz.prog.underlying 121 = some (.slice 125) := by kernel_rfl
theorem un_123 : Tryz.prog.underlying 123 = some (.map 47 96) := by kernel_rfl
theorem un_126 : Tryz.prog.underlying 126 = some (.slice 4) := by kernel_rfl
theorem un_158 : Tryz.prog.underlying 158 = some (.int .u64) := by kernel_rfl
theorem un_22 : Tryz.prog.underlying 22 = some (.slice 38) := by kernel_rfl
theorem un_23 : Tryz.prog.underlying 23 = some (.slice 58) := by kernel_rfl
theorem un_24 : Tryz.prog.underlying 24 = some (.slice 53) := by kernel_rfl
theorem un_3 : Tryz.prog.underlying 3 = some (.int .i64) := by kernel_rfl
theorem un_39 : Tryz.prog.underlying 39 = some (.slice 43) := by kernel_rfl
theorem un_4 : Tryz.prog.underlying 4 = some (.bool) := by kernel_rfl
theorem un_42 : Tryz.prog.underlying 42 = some (.slice 45) := by kernel_rfl
theorem un_43 : Tryz.prog.underlying 43 = some (.slice 47) := by kernel_rfl
theorem un_62 : Tryz.prog.underlying 62 = some (.slice 98) := by kernel_rfl
theorem un_93 : Tryz.prog.underlying 93 = some (.slice 62) := by kernel_rfl
theorem un_96 : Tryz.prog.underlying 96 = some (.slice 3) := by kernel_rfl
def eqTRect (a b : TRect) : Bool := (a.X0 == b.X0) && ((a.Y0 == b.Y0) && ((a.X1 == b.X1) && ((a.Y1 == b.Y1) && true)))
theorem eqTRect_iff {a b : TRect} : eqTRect a b = true ↔ a = b := by
  cases a; cases b; simp [eqTRect, sEq_iff]
theorem eqr_38 (a b : TRect) (d : Nat) (W : World) : (Op.equalIn (d + 2) 38 (.agg #[(.int .i64 a.X0), (.int .i64 a.Y0), (.int .i64 a.X1), (.int .i64 a.Y1)]) (.agg #[(.int .i64 b.X0), (.int .i64 b.Y0), (.int .i64 b.X1), (.int .i64 b.Y1)])).run Tryz.prog W = .ok (eqTRect a b) W := by
  rw [show d + 2 = (d + 1) + 1 from rfl, run_equalIn_struct W _ 38 _ _ (by kernel_rfl) (by kernel_rfl)]
  simp only [Program.fieldsOf, Tryz.underlying38]
  exact eqF_cons rfl (part1 ag_3 rfl) (part1 ag_3 rfl) (eq_int Tryz.underlying3) (eqF_cons rfl (part1 ag_3 rfl) (part1 ag_3 rfl) (eq_int Tryz.underlying3) (eqF_cons rfl (part1 ag_3 rfl) (part1 ag_3 rfl) (eq_int Tryz.underlying3) (eqF_cons rfl (part1 ag_3 rfl) (part1 ag_3 rfl) (eq_int Tryz.underlying3) (eqF_nil))))
theorem run_eql_38 {ρ : Operand → Value} {W : World} {dd : Option Tmp} {ty T' : TypeId} {pos : String} {af : Array Edge} {g : Option (Nat × Bool)} {p q : Operand} (a b : TRect) (hp : ρ p = .agg #[(.int .i64 a.X0), (.int .i64 a.Y0), (.int .i64 a.X1), (.int .i64 a.Y1)]) (hq : ρ q = .agg #[(.int .i64 b.X0), (.int .i64 b.Y0), (.int .i64 b.X1), (.int .i64 b.Y1)]) : (execOp ρ ⟨dd, .binOp .eql 38 p q T', ty, pos, af, g⟩).run Tryz.prog W = .ok (.value (.bool (eqTRect a b))) W :=
  run_eqlG (m := 9998 + 2) rfl (by kernel_rfl) (eqr_38 a b 9998 W) hp hq
theorem run_neq_38 {ρ : Operand → Value} {W : World} {dd : Option Tmp} {ty T' : TypeId} {pos : String} {af : Array Edge} {g : Option (Nat × Bool)} {p q : Operand} (a b : TRect) (hp : ρ p = .agg #[(.int .i64 a.X0), (.int .i64 a.Y0), (.int .i64 a.X1), (.int .i64 a.Y1)]) (hq : ρ q = .agg #[(.int .i64 b.X0), (.int .i64 b.Y0), (.int .i64 b.X1), (.int .i64 b.Y1)]) : (execOp ρ ⟨dd, .binOp .neq 38 p q T', ty, pos, af, g⟩).run Tryz.prog W = .ok (.value (.bool (!eqTRect a b))) W :=
  run_neqG (m := 9998 + 2) rfl (by kernel_rfl) (eqr_38 a b 9998 W) hp hq
def eqTPoint (a b : TPoint) : Bool := (a.X == b.X) && ((a.Y == b.Y) && true)
theorem eqTPoint_iff {a b : TPoint} : eqTPoint a b = true ↔ a = b := by
  cases a; cases b; simp [eqTPoint, sEq_iff]
theorem eqr_47 (a b : TPoint) (d : Nat) (W : World) : (Op.equalIn (d + 2) 47 (.agg #[(.int .i64 a.X), (.int .i64 a.Y)]) (.agg #[(.int .i64 b.X), (.int .i64 b.Y)])).run Tryz.prog W = .ok (eqTPoint a b) W := by
  rw [show d + 2 = (d + 1) + 1 from rfl, run_equalIn_struct W _ 47 _ _ (by kernel_rfl) (by kernel_rfl)]
  simp only [Program.fieldsOf, Tryz.underlying47]
  exact eqF_cons rfl (part1 ag_3 rfl) (part1 ag_3 rfl) (eq_int Tryz.underlying3) (eqF_cons rfl (part1 ag_3 rfl) (part1 ag_3 rfl) (eq_int Tryz.underlying3) (eqF_nil))
theorem run_eql_47 {ρ : Operand → Value} {W : World} {dd : Option Tmp} {ty T' : TypeId} {pos : String} {af : Array Edge} {g : Option (Nat × Bool)} {p q : Operand} (a b : TPoint) (hp : ρ p = .agg #[(.int .i64 a.X), (.int .i64 a.Y)]) (hq : ρ q = .agg #[(.int .i64 b.X), (.int .i64 b.Y)]) : (execOp ρ ⟨dd, .binOp .eql 47 p q T', ty, pos, af, g⟩).run Tryz.prog W = .ok (.value (.bool (eqTPoint a b))) W :=
  run_eqlG (m := 9998 + 2) rfl (by kernel_rfl) (eqr_47 a b 9998 W) hp hq
theorem run_neq_47 {ρ : Operand → Value} {W : World} {dd : Option Tmp} {ty T' : TypeId} {pos : String} {af : Array Edge} {g : Option (Nat × Bool)} {p q : Operand} (a b : TPoint) (hp : ρ p = .agg #[(.int .i64 a.X), (.int .i64 a.Y)]) (hq : ρ q = .agg #[(.int .i64 b.X), (.int .i64 b.Y)]) : (execOp ρ ⟨dd, .binOp .neq 47 p q T', ty, pos, af, g⟩).run Tryz.prog W = .ok (.value (.bool (!eqTPoint a b))) W :=
  run_neqG (m := 9998 + 2) rfl (by kernel_rfl) (eqr_47 a b 9998 W) hp hq
end Go.Proofs.YtcjeebkoafonpaaGreatDoor
