/- Types of the data, and closed facts of the program's table of types. -/
import Derived.Test.YtcjeebkoafonpaaGreatDoorProg
import Derived.Test.YtcjeebkoafonpaaGreatDoorJ2
import Derived.Test.YtcjeebkoafonpaaGreatDoorJ3
import Derived.Test.YtcjeebkoafonpaaGreatDoorSH
namespace Go.Proofs.YtcjeebkoafonpaaGreatDoor
open Go.RowKit
set_option maxRecDepth 100000
structure TRect where
  X0 : Int
  Y0 : Int
  X1 : Int
  Y1 : Int
structure TBand where
  Y0 : Int
  Y1 : Int
  Xs : (List Int)
structure TPoint where
  X : Int
  Y : Int
structure TSide where
  from_ : TPoint
  to_ : TPoint
structure TRow where
  points : (List TPoint)
  area : Int
structure TPlotTool where
  Name : ByteArray
  Rects : (List TRect)
structure TPlotStep where
  Kind : Int
  Name : ByteArray
  At : TPoint
  Points : (List TPoint)
  NX : Int
  NY : Int
  Steps : (List TPlotStep)
structure TPlot where
  Unit : Int
  Tools : (List TPlotTool)
  Steps : (List TPlotStep)
structure TSpan where
  from_ : Int
  to_ : Int
structure Tetchhouseref1Band where
  from_ : Int
  to_ : Int
  spans : (List TSpan)
structure TCells where
  xs : (List Int)
  ys : (List Int)
  in_ : (List (List Bool))
structure Tetchhouseref1Side where
  from_ : TPoint
  to_ : TPoint
structure TFields where
  name : Bool
  at_ : Bool
  points : Bool
  repeat_ : Bool
def fl_TRect : Fl TRect := Fl.flat 4 (fun x => [(.int .i64 x.X0), (.int .i64 x.Y0), (.int .i64 x.X1), (.int .i64 x.Y1)]) (fun _ => rfl) (fun _ u h => by
  simp at h
  rcases h with rfl | rfl | rfl | rfl <;> rfl)
theorem ef_TRect : ∀ u x, fl_TRect.enc u x = [(.int .i64 x.X0), (.int .i64 x.Y0), (.int .i64 x.X1), (.int .i64 x.Y1)] := fun _ _ => rfl
theorem tr_TRect : fl_TRect.Tri := fun _ _ _ _ => trivial
def fl_i64 : Fl Int := Fl.flat 1 (fun x => [(.int .i64 x)]) (fun _ => rfl) (fun _ u h => by
  simp at h
  subst h; rfl)
theorem ef_i64 : ∀ u x, fl_i64.enc u x = [(.int .i64 x)] := fun _ _ => rfl
theorem tr_i64 : fl_i64.Tri := fun _ _ _ _ => trivial
def fl_TBand : Fl TBand where
  Ad := (Option Addr × Nat)
  sz := 3
  enc u x := [(.int .i64 x.Y0), (.int .i64 x.Y1), (.slice u.1 (x.Xs).length u.2)]
  ok S W u x := Sl S W fl_i64 u.1 u.2 x.Xs
  len _ _ := rfl
  one _ _ v h := by
    simp at h
    rcases h with rfl | rfl | rfl <;> rfl
  loc h hs hb := h.go hs hb
def fl_TSide : Fl TSide := Fl.flat 4 (fun x => [(.int .i64 x.from_.X), (.int .i64 x.from_.Y), (.int .i64 x.to_.X), (.int .i64 x.to_.Y)]) (fun _ => rfl) (fun _ u h => by
  simp at h
  rcases h with rfl | rfl | rfl | rfl <;> rfl)
theorem ef_TSide : ∀ u x, fl_TSide.enc u x = [(.int .i64 x.from_.X), (.int .i64 x.from_.Y), (.int .i64 x.to_.X), (.int .i64 x.to_.Y)] := fun _ _ => rfl
theorem tr_TSide : fl_TSide.Tri := fun _ _ _ _ => trivial
def fl_bool : Fl Bool := Fl.flat 1 (fun x => [(.bool x)]) (fun _ => rfl) (fun _ u h => by
  simp at h
  subst h; rfl)
theorem ef_bool : ∀ u x, fl_bool.enc u x = [(.bool x)] := fun _ _ => rfl
theorem tr_bool : fl_bool.Tri := fun _ _ _ _ => trivial
def fl_TPoint : Fl TPoint := Fl.flat 2 (fun x => [(.int .i64 x.X), (.int .i64 x.Y)]) (fun _ => rfl) (fun _ u h => by
  simp at h
  rcases h with rfl | rfl <;> rfl)
theorem ef_TPoint : ∀ u x, fl_TPoint.enc u x = [(.int .i64 x.X), (.int .i64 x.Y)] := fun _ _ => rfl
theorem tr_TPoint : fl_TPoint.Tri := fun _ _ _ _ => trivial
def fl_LTPoint : Fl (List TPoint) where
  Ad := (Option Addr × Nat)
  sz := 1
  enc u x := [(.slice u.1 (x).length u.2)]
  ok S W u x := Sl S W fl_TPoint u.1 u.2 x
  len _ _ := rfl
  one _ _ v h := by
    simp at h
    subst h; rfl
  loc h hs hb := h.go hs hb
def fl_TPlotTool : Fl TPlotTool where
  Ad := (Option Addr × Nat)
  sz := 2
  enc u x := [(.string x.Name), (.slice u.1 (x.Rects).length u.2)]
  ok S W u x := Sl S W fl_TRect u.1 u.2 x.Rects
  len _ _ := rfl
  one _ _ v h := by
    simp at h
    rcases h with rfl | rfl <;> rfl
  loc h hs hb := h.go hs hb
def fl_TPlotStepR : FlR TPlotStep where
  Ad := (Option Addr × Nat) × (Option Addr × Nat)
  sz := 8
  enc u x := [(.int .i64 x.Kind), (.string x.Name), (.int .i64 x.At.X), (.int .i64 x.At.Y), (.slice u.1.1 (x.Points).length u.1.2), (.int .i64 x.NX), (.int .i64 x.NY), (.slice u.2.1 (x.Steps).length u.2.2)]
  okb S W u x := Sl S W fl_TPoint u.1.1 u.1.2 x.Points
  ua u := u.2
  sub x := x.Steps
  len _ _ := rfl
  one _ _ v h := by
    simp at h
    rcases h with rfl | rfl | rfl | rfl | rfl | rfl | rfl | rfl <;> rfl
  loc h hs hb := h.go hs hb
def fl_TPlotStep : Fl TPlotStep := fl_TPlotStepR.fix
theorem TPlotStep_ok {S : Nat → Prop} {W : World} {u : (Option Addr × Nat) × (Option Addr × Nat)} {x : TPlotStep} : fl_TPlotStep.ok S W u x ↔ Sl S W fl_TPoint u.1.1 u.1.2 x.Points ∧ Sl S W fl_TPlotStep u.2.1 u.2.2 x.Steps :=
  FlR.fix_ok fl_TPlotStepR
def fl_TRow : Fl TRow where
  Ad := (Option Addr × Nat)
  sz := 2
  enc u x := [(.slice u.1 (x.points).length u.2), (.int .i64 x.area)]
  ok S W u x := Sl S W fl_TPoint u.1 u.2 x.points
  len _ _ := rfl
  one _ _ v h := by
    simp at h
    rcases h with rfl | rfl <;> rfl
  loc h hs hb := h.go hs hb
def fl_TSpan : Fl TSpan := Fl.flat 2 (fun x => [(.int .i64 x.from_), (.int .i64 x.to_)]) (fun _ => rfl) (fun _ u h => by
  simp at h
  rcases h with rfl | rfl <;> rfl)
theorem ef_TSpan : ∀ u x, fl_TSpan.enc u x = [(.int .i64 x.from_), (.int .i64 x.to_)] := fun _ _ => rfl
theorem tr_TSpan : fl_TSpan.Tri := fun _ _ _ _ => trivial
def fl_Tetchhouseref1Band : Fl Tetchhouseref1Band where
  Ad := (Option Addr × Nat)
  sz := 3
  enc u x := [(.int .i64 x.from_), (.int .i64 x.to_), (.slice u.1 (x.spans).length u.2)]
  ok S W u x := Sl S W fl_TSpan u.1 u.2 x.spans
  len _ _ := rfl
  one _ _ v h := by
    simp at h
    rcases h with rfl | rfl | rfl <;> rfl
  loc h hs hb := h.go hs hb
def fl_Lbool : Fl (List Bool) where
  Ad := (Option Addr × Nat)
  sz := 1
  enc u x := [(.slice u.1 (x).length u.2)]
  ok S W u x := Sl S W fl_bool u.1 u.2 x
  len _ _ := rfl
  one _ _ v h := by
    simp at h
    subst h; rfl
  loc h hs hb := h.go hs hb
def fl_Tetchhouseref1Side : Fl Tetchhouseref1Side := Fl.flat 4 (fun x => [(.int .i64 x.from_.X), (.int .i64 x.from_.Y), (.int .i64 x.to_.X), (.int .i64 x.to_.Y)]) (fun _ => rfl) (fun _ u h => by
  simp at h
  rcases h with rfl | rfl | rfl | rfl <;> rfl)
theorem ef_Tetchhouseref1Side : ∀ u x, fl_Tetchhouseref1Side.enc u x = [(.int .i64 x.from_.X), (.int .i64 x.from_.Y), (.int .i64 x.to_.X), (.int .i64 x.to_.Y)] := fun _ _ => rfl
theorem tr_Tetchhouseref1Side : fl_Tetchhouseref1Side.Tri := fun _ _ _ _ => trivial
theorem ag_121 : aggOf Tryz.prog 121 = some false := by kernel_rfl
theorem ag_123 : aggOf Tryz.prog 123 = some false := by kernel_rfl
theorem ag_125 : aggOf Tryz.prog 125 = some true := by kernel_rfl
theorem ag_126 : aggOf Tryz.prog 126 = some false := by kernel_rfl
theorem ag_128 : aggOf Tryz.prog 128 = some false := by kernel_rfl
theorem ag_129 : aggOf Tryz.prog 129 = some false := by kernel_rfl
theorem ag_142 : aggOf Tryz.prog 142 = some true := by kernel_rfl
theorem ag_162 : aggOf Tryz.prog 162 = some false := by kernel_rfl
theorem ag_170 : aggOf Tryz.prog 170 = some false := by kernel_rfl
theorem ag_173 : aggOf Tryz.prog 173 = some true := by kernel_rfl
theorem ag_175 : aggOf Tryz.prog 175 = some false := by kernel_rfl
theorem ag_177 : aggOf Tryz.prog 177 = some true := by kernel_rfl
theorem ag_220 : aggOf Tryz.prog 220 = some true := by kernel_rfl
theorem ag_23 : aggOf Tryz.prog 23 = some false := by kernel_rfl
theorem ag_24 : aggOf Tryz.prog 24 = some false := by kernel_rfl
theorem ag_26 : aggOf Tryz.prog 26 = some true := by kernel_rfl
theorem ag_3 : aggOf Tryz.prog 3 = some false := by kernel_rfl
theorem ag_38 : aggOf Tryz.prog 38 = some true := by kernel_rfl
theorem ag_4 : aggOf Tryz.prog 4 = some false := by kernel_rfl
theorem ag_43 : aggOf Tryz.prog 43 = some false := by kernel_rfl
theorem ag_45 : aggOf Tryz.prog 45 = some true := by kernel_rfl
theorem ag_47 : aggOf Tryz.prog 47 = some true := by kernel_rfl
theorem ag_48 : aggOf Tryz.prog 48 = some false := by kernel_rfl
theorem ag_53 : aggOf Tryz.prog 53 = some true := by kernel_rfl
theorem ag_9 : aggOf Tryz.prog 9 = some false := by kernel_rfl
theorem ag_96 : aggOf Tryz.prog 96 = some false := by kernel_rfl
theorem ag_98 : aggOf Tryz.prog 98 = some true := by kernel_rfl
theorem sz_121 : szOf Tryz.prog 121 = some 1 := by kernel_rfl
theorem sz_123 : szOf Tryz.prog 123 = some 1 := by kernel_rfl
theorem sz_125 : szOf Tryz.prog 125 = some 4 := by kernel_rfl
theorem sz_126 : szOf Tryz.prog 126 = some 1 := by kernel_rfl
theorem sz_128 : szOf Tryz.prog 128 = some 1 := by kernel_rfl
theorem sz_129 : szOf Tryz.prog 129 = some 1 := by kernel_rfl
theorem sz_142 : szOf Tryz.prog 142 = some 4 := by kernel_rfl
theorem sz_162 : szOf Tryz.prog 162 = some 1 := by kernel_rfl
theorem sz_173 : szOf Tryz.prog 173 = some 3 := by kernel_rfl
theorem sz_175 : szOf Tryz.prog 175 = some 1 := by kernel_rfl
theorem sz_177 : szOf Tryz.prog 177 = some 3 := by kernel_rfl
theorem sz_220 : szOf Tryz.prog 220 = some 2 := by kernel_rfl
theorem sz_24 : szOf Tryz.prog 24 = some 1 := by kernel_rfl
theorem sz_26 : szOf Tryz.prog 26 = some 3 := by kernel_rfl
theorem sz_3 : szOf Tryz.prog 3 = some 1 := by kernel_rfl
theorem sz_38 : szOf Tryz.prog 38 = some 4 := by kernel_rfl
theorem sz_4 : szOf Tryz.prog 4 = some 1 := by kernel_rfl
theorem sz_43 : szOf Tryz.prog 43 = some 1 := by kernel_rfl
theorem sz_45 : szOf Tryz.prog 45 = some 2 := by kernel_rfl
theorem sz_47 : szOf Tryz.prog 47 = some 2 := by kernel_rfl
theorem sz_48 : szOf Tryz.prog 48 = some 1 := by kernel_rfl
theorem sz_53 : szOf Tryz.prog 53 = some 8 := by kernel_rfl
theorem sz_96 : szOf Tryz.prog 96 = some 1 := by kernel_rfl
theorem sz_98 : szOf Tryz.prog 98 = some 3 := by kernel_rfl
theorem ze_121 : zeroOf Tryz.prog 121 = some [(.slice none 0 0)] := by kernel_rfl
theorem ze_123 : zeroOf Tryz.prog 123 = some [(.map none)] := by kernel_rfl
theorem ze_125 : zeroOf Tryz.prog 125 = some [(.int .i64 0), (.int .i64 0), (.int .i64 0), (.int .i64 0)] := by kernel_rfl
theorem ze_126 : zeroOf Tryz.prog 126 = some [(.slice none 0 0)] := by kernel_rfl
theorem ze_128 : zeroOf Tryz.prog 128 = some [.nilFunc] := by kernel_rfl
theorem ze_129 : zeroOf Tryz.prog 129 = some [.nilFunc] := by kernel_rfl
theorem ze_142 : zeroOf Tryz.prog 142 = some [(.int .i64 0), (.int .i64 0), (.int .i64 0), (.int .i64 0)] := by kernel_rfl
theorem ze_162 : zeroOf Tryz.prog 162 = some [.nilFunc] := by kernel_rfl
theorem ze_177 : zeroOf Tryz.prog 177 = some [(.slice none 0 0), (.slice none 0 0), (.slice none 0 0)] := by kernel_rfl
theorem ze_26 : zeroOf Tryz.prog 26 = some [(.int .i64 0), (.slice none 0 0), (.slice none 0 0)] := by kernel_rfl
theorem ze_3 : zeroOf Tryz.prog 3 = some [(.int .i64 0)] := by kernel_rfl
theorem ze_38 : zeroOf Tryz.prog 38 = some [(.int .i64 0), (.int .i64 0), (.int .i64 0), (.int .i64 0)] := by kernel_rfl
theorem ze_4 : zeroOf Tryz.prog 4 = some [(.bool false)] := by kernel_rfl
theorem ze_45 : zeroOf Tryz.prog 45 = some [(.slice none 0 0), (.int .i64 0)] := by kernel_rfl
theorem ze_47 : zeroOf Tryz.prog 47 = some [(.int .i64 0), (.int .i64 0)] := by kernel_rfl
theorem ze_48 : zeroOf Tryz.prog 48 = some [.nilFunc] := by kernel_rfl
theorem ze_53 : zeroOf Tryz.prog 53 = some [(.int .i64 0), (.string ⟨#[]⟩), (.int .i64 0), (.int .i64 0), (.slice none 0 0), (.int .i64 0), (.int .i64 0), (.slice none 0 0)] := by kernel_rfl
theorem ze_96 : zeroOf Tryz.prog 96 = some [(.slice none 0 0)] := by kernel_rfl
theorem ze_98 : zeroOf Tryz.prog 98 = some [(.int .i64 0), (.int .i64 0), (.slice none 0 0)] := by kernel_rfl
theorem zb_80 : zeroOf Tryz.prog 80 = some [.pointer none, .slice none 0 0] := by kernel_rfl
theorem zl_125 : (zeroOf Tryz.prog 125).map List.length = some 4 := by kernel_rfl
theorem zl_126 : (zeroOf Tryz.prog 126).map List.length = some 1 := by kernel_rfl
theorem zl_142 : (zeroOf Tryz.prog 142).map List.length = some 4 := by kernel_rfl
theorem zl_173 : (zeroOf Tryz.prog 173).map List.length = some 3 := by kernel_rfl
theorem zl_220 : (zeroOf Tryz.prog 220).map List.length = some 2 := by kernel_rfl
theorem zl_3 : (zeroOf Tryz.prog 3).map List.length = some 1 := by kernel_rfl
theorem zl_38 : (zeroOf Tryz.prog 38).map List.length = some 4 := by kernel_rfl
theorem zl_43 : (zeroOf Tryz.prog 43).map List.length = some 1 := by kernel_rfl
theorem zl_45 : (zeroOf Tryz.prog 45).map List.length = some 2 := by kernel_rfl
theorem zl_47 : (zeroOf Tryz.prog 47).map List.length = some 2 := by kernel_rfl
theorem zl_53 : (zeroOf Tryz.prog 53).map List.length = some 8 := by kernel_rfl
theorem zl_98 : (zeroOf Tryz.prog 98).map List.length = some 3 := by kernel_rfl
theorem by_125 : (Tryz.prog.info? 125).map (·.bytes) = some 32 := by kernel_rfl
theorem by_126 : (Tryz.prog.info? 126).map (·.bytes) = some 24 := by kernel_rfl
theorem by_142 : (Tryz.prog.info? 142).map (·.bytes) = some 32 := by kernel_rfl
theorem by_173 : (Tryz.prog.info? 173).map (·.bytes) = some 40 := by kernel_rfl
theorem by_220 : (Tryz.prog.info? 220).map (·.bytes) = some 16 := by kernel_rfl
theorem by_3 : (Tryz.prog.info? 3).map (·.bytes) = some 8 := by kernel_rfl
theorem by_38 : (Tryz.prog.info? 38).map (·.bytes) = some 32 := by kernel_rfl
theorem by_4 : (Tryz.prog.info? 4).map (·.bytes) = some 1 := by kernel_rfl
theorem by_43 : (Tryz.prog.info? 43).map (·.bytes) = some 24 := by kernel_rfl
theorem by_45 : (Tryz.prog.info? 45).map (·.bytes) = some 32 := by kernel_rfl
theorem by_47 : (Tryz.prog.info? 47).map (·.bytes) = some 16 := by kernel_rfl
theorem by_53 : (Tryz.prog.info? 53).map (·.bytes) = some 104 := by kernel_rfl
theorem by_98 : (Tryz.prog.info? 98).map (·.bytes) = some 40 := by kernel_rfl
theorem fo_125_0 : fieldOf Tryz.prog 125 0 = some 0 := by kernel_rfl
theorem fo_125_1 : fieldOf Tryz.prog 125 1 = some 2 := by kernel_rfl
theorem fo_142_0 : fieldOf Tryz.prog 142 0 = some 0 := by kernel_rfl
theorem fo_142_1 : fieldOf Tryz.prog 142 1 = some 2 := by kernel_rfl
theorem fo_173_0 : fieldOf Tryz.prog 173 0 = some 0 := by kernel_rfl
theorem fo_173_1 : fieldOf Tryz.prog 173 1 = some 1 := by kernel_rfl
theorem fo_173_2 : fieldOf Tryz.prog 173 2 = some 2 := by kernel_rfl
theorem fo_177_0 : fieldOf Tryz.prog 177 0 = some 0 := by kernel_rfl
theorem fo_177_1 : fieldOf Tryz.prog 177 1 = some 1 := by kernel_rfl
theorem fo_177_2 : fieldOf Tryz.prog 177 2 = some 2 := by kernel_rfl
theorem fo_220_0 : fieldOf Tryz.prog 220 0 = some 0 := by kernel_rfl
theorem fo_220_1 : fieldOf Tryz.prog 220 1 = some 1 := by kernel_rfl
theorem fo_26_0 : fieldOf Tryz.prog 26 0 = some 0 := by kernel_rfl
theorem fo_26_1 : fieldOf Tryz.prog 26 1 = some 1 := by kernel_rfl
theorem fo_26_2 : fieldOf Tryz.prog 26 2 = some 2 := by kernel_rfl
theorem fo_38_0 : fieldOf Tryz.prog 38 0 = some 0 := by kernel_rfl
theorem fo_38_1 : fieldOf Tryz.prog 38 1 = some 1 := by kernel_rfl
theorem fo_38_2 : fieldOf Tryz.prog 38 2 = some 2 := by kernel_rfl
theorem fo_38_3 : fieldOf Tryz.prog 38 3 = some 3 := by kernel_rfl
theorem fo_45_0 : fieldOf Tryz.prog 45 0 = some 0 := by kernel_rfl
theorem fo_45_1 : fieldOf Tryz.prog 45 1 = some 1 := by kernel_rfl
theorem fo_47_0 : fieldOf Tryz.prog 47 0 = some 0 := by kernel_rfl
theorem fo_47_1 : fieldOf Tryz.prog 47 1 = some 1 := by kernel_rfl
theorem fo_53_0 : fieldOf Tryz.prog 53 0 = some 0 := by kernel_rfl
theorem fo_53_1 : fieldOf Tryz.prog 53 1 = some 1 := by kernel_rfl
theorem fo_53_2 : fieldOf Tryz.prog 53 2 = some 2 := by kernel_rfl
theorem fo_53_3 : fieldOf Tryz.prog 53 3 = some 4 := by kernel_rfl
theorem fo_53_4 : fieldOf Tryz.prog 53 4 = some 5 := by kernel_rfl
theorem fo_53_5 : fieldOf Tryz.prog 53 5 = some 6 := by kernel_rfl
theorem fo_53_6 : fieldOf Tryz.prog 53 6 = some 7 := by kernel_rfl
theorem fo_98_0 : fieldOf Tryz.prog 98 0 = some 0 := by kernel_rfl
theorem fo_98_1 : fieldOf Tryz.prog 98 1 = some 1 := by kernel_rfl
theorem fo_98_2 : fieldOf Tryz.prog 98 2 = some 2 := by kernel_rfl
theorem el_121 : elemOf? Tryz.prog 121 = some (125, 4) := by kernel_rfl
theorem el_126 : elemOf? Tryz.prog 126 = some (4, 1) := by kernel_rfl
theorem el_138 : elemOf? Tryz.prog 138 = some (142, 4) := by kernel_rfl
theorem el_168 : elemOf? Tryz.prog 168 = some (173, 3) := by kernel_rfl
theorem el_170 : elemOf? Tryz.prog 170 = some (220, 2) := by kernel_rfl
theorem el_175 : elemOf? Tryz.prog 175 = some (126, 1) := by kernel_rfl
theorem el_22 : elemOf? Tryz.prog 22 = some (38, 4) := by kernel_rfl
theorem el_24 : elemOf? Tryz.prog 24 = some (53, 8) := by kernel_rfl
theorem el_39 : elemOf? Tryz.prog 39 = some (43, 1) := by kernel_rfl
theorem el_42 : elemOf? Tryz.prog 42 = some (45, 2) := by kernel_rfl
theorem el_43 : elemOf? Tryz.prog 43 = some (47, 2) := by kernel_rfl
theorem el_62 : elemOf? Tryz.prog 62 = some (98, 3) := by kernel_rfl
theorem el_96 : elemOf? Tryz.prog 96 = some (3, 1) := by kernel_rfl
theorem zs_96 : (Tryz.prog.info? 96).bind (·.zero) = some (.slice none 0 0) := by kernel_rfl
theorem kp_47 : KeyT Tryz.prog 47 encP okP := keyP (IT := 3) (by kernel_rfl) (of_decide_eq_true (by kernel_rfl)) ⟨277, by kernel_rfl⟩ (of_decide_eq_true (by kernel_rfl)) (by kernel_rfl) ⟨_, Tryz.underlying47, by kernel_rfl⟩ (by kernel_rfl) (by kernel_rfl) Tryz.underlying3
theorem un_121 : Tryz.prog.underlying 121 = some (.slice 125) := by kernel_rfl
theorem un_123 : Tryz.prog.underlying 123 = some (.map 47 96) := by kernel_rfl
theorem un_126 : Tryz.prog.underlying 126 = some (.slice 4) := by kernel_rfl
theorem un_138 : Tryz.prog.underlying 138 = some (.slice 142) := by kernel_rfl
theorem un_158 : Tryz.prog.underlying 158 = some (.int .u64) := by kernel_rfl
theorem un_168 : Tryz.prog.underlying 168 = some (.slice 173) := by kernel_rfl
theorem un_170 : Tryz.prog.underlying 170 = some (.slice 220) := by kernel_rfl
theorem un_175 : Tryz.prog.underlying 175 = some (.slice 126) := by kernel_rfl
theorem un_22 : Tryz.prog.underlying 22 = some (.slice 38) := by kernel_rfl
theorem un_23 : Tryz.prog.underlying 23 = some (.slice 58) := by kernel_rfl
theorem un_24 : Tryz.prog.underlying 24 = some (.slice 53) := by kernel_rfl
theorem un_3 : Tryz.prog.underlying 3 = some (.int .i64) := by kernel_rfl
theorem un_39 : Tryz.prog.underlying 39 = some (.slice 43) := by kernel_rfl
theorem un_4 : Tryz.prog.underlying 4 = some (.bool) := by kernel_rfl
theorem un_42 : Tryz.prog.underlying 42 = some (.slice 45) := by kernel_rfl
theorem un_43 : Tryz.prog.underlying 43 = some (.slice 47) := by kernel_rfl
theorem un_62 : Tryz.prog.underlying 62 = some (.slice 98) := by kernel_rfl
theorem un_96 : Tryz.prog.underlying 96 = some (.slice 3) := by kernel_rfl
def eqTRect (a b : TRect) : Bool := (a.X0 == b.X0) && ((a.Y0 == b.Y0) && ((a.X1 == b.X1) && ((a.Y1 == b.Y1) && true)))
theorem eqTRect_iff {a b : TRect} : eqTRect a b = true ↔ a = b := by
  cases a; cases b; simp [eqTRect, sEq_iff]
theorem eqr_38 (a b : TRect) (d : Nat) (W : World) : (Op.equalIn (d + 2) 38 (.agg #[(.int .i64 a.X0), (.int .i64 a.Y0), (.int .i64 a.X1), (.int .i64 a.Y1)]) (.agg #[(.int .i64 b.X0), (.int .i64 b.Y0), (.int .i64 b.X1), (.int .i64 b.Y1)])).run Tryz.prog W = .ok (eqTRect a b) W := by
  rw [show d + 2 = (d + 1) + 1 from rfl, run_equalIn_struct W _ 38 _ _ (by kernel_rfl) (by kernel_rfl)]
  simp only [Program.fieldsOf, Tryz.underlying38]
  exact eqF_cons rfl (part1 ag_3 rfl) (part1 ag_3 rfl) (eq_int Tryz.underlying3) (eqF_cons rfl (part1 ag_3 rfl) (part1 ag_3 rfl) (eq_int Tryz.underlying3) (eqF_cons rfl (part1 ag_3 rfl) (part1 ag_3 rfl) (eq_int Tryz.underlying3) (eqF_cons rfl (part1 ag_3 rfl) (part1 ag_3 rfl) (eq_int Tryz.underlying3) (eqF_nil))))
theorem run_eql_38 {ρ : Operand → Value} {W : World} {dd : Option Tmp} {ty T' : TypeId} {pos : String} {af : Array Edge} {g : Option (Nat × Bool)} {p q : Operand} (a b : TRect) (hp : ρ p = .agg #[(.int .i64 a.X0), (.int .i64 a.Y0), (.int .i64 a.X1), (.int .i64 a.Y1)]) (hq : ρ q = .agg #[(.int .i64 b.X0), (.int .i64 b.Y0), (.int .i64 b.X1), (.int .i64 b.Y1)]) : (execOp ρ ⟨dd, .binOp .eql 38 p q T', ty, pos, af, g⟩).run Tryz.prog W = .ok (.value (.bool (eqTRect a b))) W :=
  run_eqlG (m := 9998 + 2) rfl (by kernel_rfl) (eqr_38 a b 9998 W) hp hq
theorem run_neq_38 {ρ : Operand → Value} {W : World} {dd : Option Tmp} {ty T' : TypeId} {pos : String} {af : Array Edge} {g : Option (Nat × Bool)} {p q : Operand} (a b : TRect) (hp : ρ p = .agg #[(.int .i64 a.X0), (.int .i64 a.Y0), (.int .i64 a.X1), (.int .i64 a.Y1)]) (hq : ρ q = .agg #[(.int .i64 b.X0), (.int .i64 b.Y0), (.int .i64 b.X1), (.int .i64 b.Y1)]) : (execOp ρ ⟨dd, .binOp .neq 38 p q T', ty, pos, af, g⟩).run Tryz.prog W = .ok (.value (.bool (!eqTRect a b))) W :=
  run_neqG (m := 9998 + 2) rfl (by kernel_rfl) (eqr_38 a b 9998 W) hp hq
def eqTPoint (a b : TPoint) : Bool := (a.X == b.X) && ((a.Y == b.Y) && true)
theorem eqTPoint_iff {a b : TPoint} : eqTPoint a b = true ↔ a = b := by
  cases a; cases b; simp [eqTPoint, sEq_iff]
theorem eqr_47 (a b : TPoint) (d : Nat) (W : World) : (Op.equalIn (d + 2) 47 (.agg #[(.int .i64 a.X), (.int .i64 a.Y)]) (.agg #[(.int .i64 b.X), (.int .i64 b.Y)])).run Tryz.prog W = .ok (eqTPoint a b) W := by
  rw [show d + 2 = (d + 1) + 1 from rfl, run_equalIn_struct W _ 47 _ _ (by kernel_rfl) (by kernel_rfl)]
  simp only [Program.fieldsOf, Tryz.underlying47]
  exact eqF_cons rfl (part1 ag_3 rfl) (part1 ag_3 rfl) (eq_int Tryz.underlying3) (eqF_cons rfl (part1 ag_3 rfl) (part1 ag_3 rfl) (eq_int Tryz.underlying3) (eqF_nil))
theorem run_eql_47 {ρ : Operand → Value} {W : World} {dd : Option Tmp} {ty T' : TypeId} {pos : String} {af : Array Edge} {g : Option (Nat × Bool)} {p q : Operand} (a b : TPoint) (hp : ρ p = .agg #[(.int .i64 a.X), (.int .i64 a.Y)]) (hq : ρ q = .agg #[(.int .i64 b.X), (.int .i64 b.Y)]) : (execOp ρ ⟨dd, .binOp .eql 47 p q T', ty, pos, af, g⟩).run Tryz.prog W = .ok (.value (.bool (eqTPoint a b))) W :=
  run_eqlG (m := 9998 + 2) rfl (by kernel_rfl) (eqr_47 a b 9998 W) hp hq
theorem run_neq_47 {ρ : Operand → Value} {W : World} {dd : Option Tmp} {ty T' : TypeId} {pos : String} {af : Array Edge} {g : Option (Nat × Bool)} {p q : Operand} (a b : TPoint) (hp : ρ p = .agg #[(.int .i64 a.X), (.int .i64 a.Y)]) (hq : ρ q = .agg #[(.int .i64 b.X), (.int .i64 b.Y)]) : (execOp ρ ⟨dd, .binOp .neq 47 p q T', ty, pos, af, g⟩).run Tryz.prog W = .ok (.value (.bool (!eqTPoint a b))) W :=
  run_neqG (m := 9998 + 2) rfl (by kernel_rfl) (eqr_47 a b 9998 W) hp hq
def eqTSpan (a b : TSpan) : Bool := (a.from_ == b.from_) && ((a.to_ == b.to_) && true)
theorem eqTSpan_iff {a b : TSpan} : eqTSpan a b = true ↔ a = b := by
  cases a; cases b; simp [eqTSpan, sEq_iff]
theorem eqr_220 (a b : TSpan) (d : Nat) (W : World) : (Op.equalIn (d + 2) 220 (.agg #[(.int .i64 a.from_), (.int .i64 a.to_)]) (.agg #[(.int .i64 b.from_), (.int .i64 b.to_)])).run Tryz.prog W = .ok (eqTSpan a b) W := by
  rw [show d + 2 = (d + 1) + 1 from rfl, run_equalIn_struct W _ 220 _ _ (by kernel_rfl) (by kernel_rfl)]
  simp only [Program.fieldsOf, Tryz.underlying220]
  exact eqF_cons rfl (part1 ag_3 rfl) (part1 ag_3 rfl) (eq_int Tryz.underlying3) (eqF_cons rfl (part1 ag_3 rfl) (part1 ag_3 rfl) (eq_int Tryz.underlying3) (eqF_nil))
theorem run_eql_220 {ρ : Operand → Value} {W : World} {dd : Option Tmp} {ty T' : TypeId} {pos : String} {af : Array Edge} {g : Option (Nat × Bool)} {p q : Operand} (a b : TSpan) (hp : ρ p = .agg #[(.int .i64 a.from_), (.int .i64 a.to_)]) (hq : ρ q = .agg #[(.int .i64 b.from_), (.int .i64 b.to_)]) : (execOp ρ ⟨dd, .binOp .eql 220 p q T', ty, pos, af, g⟩).run Tryz.prog W = .ok (.value (.bool (eqTSpan a b))) W :=
  run_eqlG (m := 9998 + 2) rfl (by kernel_rfl) (eqr_220 a b 9998 W) hp hq
theorem run_neq_220 {ρ : Operand → Value} {W : World} {dd : Option Tmp} {ty T' : TypeId} {pos : String} {af : Array Edge} {g : Option (Nat × Bool)} {p q : Operand} (a b : TSpan) (hp : ρ p = .agg #[(.int .i64 a.from_), (.int .i64 a.to_)]) (hq : ρ q = .agg #[(.int .i64 b.from_), (.int .i64 b.to_)]) : (execOp ρ ⟨dd, .binOp .neq 220 p q T', ty, pos, af, g⟩).run Tryz.prog W = .ok (.value (.bool (!eqTSpan a b))) W :=
  run_neqG (m := 9998 + 2) rfl (by kernel_rfl) (eqr_220 a b 9998 W) hp hq
end Go.Proofs.YtcjeebkoafonpaaGreatDoor
