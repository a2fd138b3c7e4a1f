/- The plain functions: what each function of the program computes; none where it would panic. -/
import Derived.Test.YtocjndhpgjccoaaDoorXT
namespace Go.Proofs.YtocjndhpgjccoaaDoor
open Go.RowKit

def F_plot_within (p0 : Int) (p1 : Int) (p2 : Int) : Option Bool :=
  some ((decide (p1 ≤ p0)) && (decide (p0 ≤ p2)))

def F_plot_IsName_L1 (p0 : ByteArray) : Nat → Int → Option Bool
  | 0, _ => none
  | mF_plot_IsName_L1 + 1, x105 =>
    if (decide (x105 < (p0.size : Int))) then
      (strAt p0 x105).bind fun c106 =>
      if ((!(((decide (97 ≤ c106)) && (decide (c106 ≤ 122))) || ((decide (65 ≤ c106)) && (decide (c106 ≤ 90))))) && ((x105 == 0) || ((((decide (c106 < 48)) || (decide (57 < c106))) && (c106 != 95)) && (c106 != 45)))) then
        some false
      else
        (F_plot_IsName_L1 p0 mF_plot_IsName_L1) (w64 (x105 + 1))
    else
      some ((decide (1 ≤ (p0.size : Int))) && (decide ((p0.size : Int) ≤ 40)))
def F_plot_IsName (N : Nat) (p0 : ByteArray) : Option Bool :=
  F_plot_IsName_L1 p0 N 0


def F_plot_isAt (p0 : Int) (p1 : Int) : Option Bool :=
  (dv (-1000000) p1).bind fun q100 =>
  (dv 1000000 p1).bind fun q101 =>
  (F_plot_within p0 q100 q101).bind fun y102 =>
  some y102

def F_plot_checkTool_L1 (p1 : Int) : List TRect → Nat → Option Int
  | [], iF_plot_checkTool_L1 =>
    some 0
  | xF_plot_checkTool_L1 :: restF_plot_checkTool_L1, iF_plot_checkTool_L1 =>
    (F_plot_isAt xF_plot_checkTool_L1.X0 p1).bind fun y116 =>
    (if (!y116) then some true else 
      (F_plot_isAt xF_plot_checkTool_L1.Y0 p1).bind fun y119 =>
      some (!y119)
    ).bind fun g118 =>
    (if g118 then some true else 
      (F_plot_isAt xF_plot_checkTool_L1.X1 p1).bind fun y122 =>
      some (!y122)
    ).bind fun g121 =>
    (if g121 then some true else 
      (F_plot_isAt xF_plot_checkTool_L1.Y1 p1).bind fun y125 =>
      some (!y125)
    ).bind fun g124 =>
    if g124 then
      some 1
    else
      if ((decide (xF_plot_checkTool_L1.X1 ≤ xF_plot_checkTool_L1.X0)) || (decide (xF_plot_checkTool_L1.Y1 ≤ xF_plot_checkTool_L1.Y0))) then
        some 13
      else
        (F_plot_checkTool_L1 p1 restF_plot_checkTool_L1 (iF_plot_checkTool_L1 + 1))
def F_plot_checkTool (N : Nat) (p0 : TPlotTool) (p1 : Int) : Option Int :=
  (F_plot_IsName N p0.Name).bind fun y101 =>
  if (!y101) then
    some 5
  else
    if ((p0.Rects.length : Int) == 0) then
      some 9
    else
      if (decide (2000 < (p0.Rects.length : Int))) then
        some 2
      else
        F_plot_checkTool_L1 p1 p0.Rects 0


def F_plot_times_1 (p0 : Int) : Option Int :=
  (F_plot_within p0 1 100).bind fun y100 =>
  if y100 then
    some p0
  else
    some 1


def F_plot_times (p0 : TPlotStep) : Option Int :=
  (F_plot_times_1 p0.NX).bind fun y101 =>
  (F_plot_times_1 p0.NY).bind fun y102 =>
  some (w64 (y101 * y102))

def F_plot_count_J4 (kF_plot_count_L3 : Int → Option Int) (x131 : Int) : Option Int :=
  if (decide (3000 < x131)) then
    some 3001
  else
    kF_plot_count_L3 x131
def F_plot_count_L3 (rec : (List TPlotStep) → Option Int) : List TPlotStep → Nat → Int → Option Int
  | [], iF_plot_count_L3, x126 =>
    some x126
  | xF_plot_count_L3 :: restF_plot_count_L3, iF_plot_count_L3, x126 =>
    if (decide (0 < (xF_plot_count_L3.Steps.length : Int))) then
      (F_plot_times xF_plot_count_L3).bind fun y134 =>
      (rec xF_plot_count_L3.Steps).bind fun y135 =>
      F_plot_count_J4 (F_plot_count_L3 rec restF_plot_count_L3 (iF_plot_count_L3 + 1)) (w64 ((w64 (x126 + 1)) + (w64 (y134 * y135))))
    else
      F_plot_count_J4 (F_plot_count_L3 rec restF_plot_count_L3 (iF_plot_count_L3 + 1)) (w64 (x126 + 1))
def F_plot_count_b (N : Nat) (rec : (List TPlotStep) → Option Int) (p0 : (List TPlotStep)) : Option Int :=
  F_plot_count_L3 rec p0 0 0
def F_plot_count : Nat → (List TPlotStep) → Option Int
  | 0 => fun _ => none
  | N + 1 => F_plot_count_b N (F_plot_count N)

def F_plot_fieldsOf_J1 (p0 : Int) (x101 : Bool) : Option TFields :=
  if x101 then
    some (TFields.mk false true false false)
  else
    if (p0 == 7) then
      some (TFields.mk false false true false)
    else
      if (p0 == 8) then
        some (TFields.mk false true false true)
      else
        some (TFields.mk false false false false)
def F_plot_fieldsOf (p0 : Int) : Option TFields :=
  if (p0 == 3) then
    some (TFields.mk true false false false)
  else
    if (p0 == 4) then
      F_plot_fieldsOf_J1 p0 (p0 == 4)
    else
      if (p0 == 5) then
        F_plot_fieldsOf_J1 p0 (p0 == 5)
      else
        F_plot_fieldsOf_J1 p0 (p0 == 6)


def F_plot_toolAt_1 (p0 : TPlotTool) (q0 : ByteArray) : Option Bool :=
  some (sEq p0.Name q0)

def F_slices_IndexFunc_PlotTool__toolAt_1_L1 (q0 : ByteArray) : List TPlotTool → Nat → Option Int
  | [], iF_slices_IndexFunc_PlotTool__toolAt_1_L1 =>
    some (-1)
  | xF_slices_IndexFunc_PlotTool__toolAt_1_L1 :: restF_slices_IndexFunc_PlotTool__toolAt_1_L1, iF_slices_IndexFunc_PlotTool__toolAt_1_L1 =>
    (F_plot_toolAt_1 xF_slices_IndexFunc_PlotTool__toolAt_1_L1 q0).bind fun y105 =>
    if y105 then
      some (iF_slices_IndexFunc_PlotTool__toolAt_1_L1 : Int)
    else
      (F_slices_IndexFunc_PlotTool__toolAt_1_L1 q0 restF_slices_IndexFunc_PlotTool__toolAt_1_L1 (iF_slices_IndexFunc_PlotTool__toolAt_1_L1 + 1))
def F_slices_IndexFunc_PlotTool__toolAt_1 (p0 : (List TPlotTool)) (q0 : ByteArray) : Option Int :=
  F_slices_IndexFunc_PlotTool__toolAt_1_L1 q0 p0 0


def F_plot_toolAt (p0 : TPlot) (p1 : ByteArray) : Option Int :=
  (F_slices_IndexFunc_PlotTool__toolAt_1 p0.Tools p1).bind fun y102 =>
  some y102


def F_plot_isPoint (p0 : TPoint) (p1 : Int) : Option Bool :=
  (F_plot_isAt p0.X p1).bind fun y101 =>
  (if y101 then 
    (F_plot_isAt p0.Y p1).bind fun y104 =>
    some y104
   else some false).bind fun g103 =>
  some g103


def F_plot_checkStep_1 (p0 : TPoint) (q0 : TPlot) : Option Bool :=
  (F_plot_isPoint p0 q0.Unit).bind fun y101 =>
  some (!y101)

def F_slices_IndexFunc_Point_L1 (p1 : TPoint → Option Bool) : List TPoint → Nat → Option Int
  | [], iF_slices_IndexFunc_Point_L1 =>
    some (-1)
  | xF_slices_IndexFunc_Point_L1 :: restF_slices_IndexFunc_Point_L1, iF_slices_IndexFunc_Point_L1 =>
    (p1 xF_slices_IndexFunc_Point_L1).bind fun y103 =>
    if y103 then
      some (iF_slices_IndexFunc_Point_L1 : Int)
    else
      (F_slices_IndexFunc_Point_L1 p1 restF_slices_IndexFunc_Point_L1 (iF_slices_IndexFunc_Point_L1 + 1))
def F_slices_IndexFunc_Point (p0 : (List TPoint)) (p1 : TPoint → Option Bool) : Option Int :=
  F_slices_IndexFunc_Point_L1 p1 p0 0


def F_slices_ContainsFunc_Point (p0 : (List TPoint)) (p1 : TPoint → Option Bool) : Option Bool :=
  (F_slices_IndexFunc_Point p0 p1).bind fun y100 =>
  some (decide (0 ≤ y100))

def F_shape_IsRow_L1 (p0 : (List TPoint)) : List TPoint → Nat → Option Bool
  | [], iF_shape_IsRow_L1 =>
    some true
  | xF_shape_IsRow_L1 :: restF_shape_IsRow_L1, iF_shape_IsRow_L1 =>
    (md (w64 ((iF_shape_IsRow_L1 : Int) + 1)) (p0.length : Int)).bind fun q107 =>
    (idx p0 q107).bind fun x108 =>
    if ((xF_shape_IsRow_L1.X == x108.X) == (xF_shape_IsRow_L1.Y == x108.Y)) then
      some false
    else
      (F_shape_IsRow_L1 p0 restF_shape_IsRow_L1 (iF_shape_IsRow_L1 + 1))
def F_shape_IsRow (p0 : (List TPoint)) : Option Bool :=
  if (decide ((p0.length : Int) < 4)) then
    some false
  else
    F_shape_IsRow_L1 p0 p0 0

def F_plot_checkStep_J1 (p0 : TPlot) (p1 : TPlotStep) (p2 : Int) (y103 : TFields) (x105 : Bool) : Option Int :=
  if x105 then
    some 3
  else
    (if y103.name then 
      (F_plot_toolAt p0 p1.Name).bind fun y110 =>
      some (decide (y110 < 0))
     else some false).bind fun g109 =>
    if g109 then
      some 5
    else
      (F_plot_isPoint p1.At p0.Unit).bind fun y111 =>
      (if (!y111) then some true else 
        (F_slices_ContainsFunc_Point p1.Points (fun z0 => F_plot_checkStep_1 z0 p0)).bind fun y114 =>
        some y114
      ).bind fun g113 =>
      if g113 then
        some 1
      else
        if (decide (2000 < (p1.Points.length : Int))) then
          some 2
        else
          (if y103.points then 
            (F_shape_IsRow p1.Points).bind fun y117 =>
            some (!y117)
           else some false).bind fun g116 =>
          if g116 then
            some 3
          else
            if (!y103.repeat_) then
              some 0
            else
              (F_plot_within p1.NX 1 100).bind fun y118 =>
              (if (!y118) then some true else 
                (F_plot_within p1.NY 1 100).bind fun y121 =>
                some (!y121)
              ).bind fun g120 =>
              if g120 then
                some 1
              else
                if ((p1.Steps.length : Int) == 0) then
                  some 9
                else
                  if (decide (5 ≤ p2)) then
                    some 2
                  else
                    some 0
def F_plot_checkStep (p0 : TPlot) (p1 : TPlotStep) (p2 : Int) : Option Int :=
  (F_plot_within p1.Kind 1 8).bind fun y102 =>
  if (!y102) then
    some 4
  else
    (F_plot_fieldsOf p1.Kind).bind fun y103 =>
    if ((!y103.name) && (!sEq p1.Name ByteArray.empty)) then
      F_plot_checkStep_J1 p0 p1 p2 y103 ((!y103.name) && (!sEq p1.Name ByteArray.empty))
    else
      if ((!y103.at_) && (!(eqTPoint p1.At (TPoint.mk 0 0)))) then
        F_plot_checkStep_J1 p0 p1 p2 y103 ((!y103.at_) && (!(eqTPoint p1.At (TPoint.mk 0 0))))
      else
        if ((!y103.points) && (decide (0 < (p1.Points.length : Int)))) then
          F_plot_checkStep_J1 p0 p1 p2 y103 ((!y103.points) && (decide (0 < (p1.Points.length : Int))))
        else
          F_plot_checkStep_J1 p0 p1 p2 y103 ((!y103.repeat_) && (((p1.NX != 0) || (p1.NY != 0)) || (decide (0 < (p1.Steps.length : Int)))))

def F_plot_checkSteps_L1 (p0 : TPlot) (p2 : Int) (rec : TPlot → (List TPlotStep) → Int → Option Int) : List TPlotStep → Nat → Option Int
  | [], iF_plot_checkSteps_L1 =>
    some 0
  | xF_plot_checkSteps_L1 :: restF_plot_checkSteps_L1, iF_plot_checkSteps_L1 =>
    (F_plot_checkStep p0 xF_plot_checkSteps_L1 p2).bind fun y109 =>
    if (y109 != 0) then
      some y109
    else
      (rec p0 xF_plot_checkSteps_L1.Steps (w64 (p2 + 1))).bind fun y110 =>
      if (y110 != 0) then
        some y110
      else
        (F_plot_checkSteps_L1 p0 p2 rec restF_plot_checkSteps_L1 (iF_plot_checkSteps_L1 + 1))
def F_plot_checkSteps_b (N : Nat) (rec : TPlot → (List TPlotStep) → Int → Option Int) (p0 : TPlot) (p1 : (List TPlotStep)) (p2 : Int) : Option Int :=
  F_plot_checkSteps_L1 p0 p2 rec p1 0
def F_plot_checkSteps : Nat → TPlot → (List TPlotStep) → Int → Option Int
  | 0 => fun _ _ _ => none
  | N + 1 => F_plot_checkSteps_b N (F_plot_checkSteps N)

def F_plot_CheckPlot_L1 (N : Nat) (p0 : TPlot) : List TPlotTool → Nat → Option Int
  | [], iF_plot_CheckPlot_L1 =>
    (F_plot_count N p0.Steps).bind fun y112 =>
    if (decide (3000 < y112)) then
      some 2
    else
      (F_plot_checkSteps N p0 p0.Steps 0).bind fun y113 =>
      some y113
  | xF_plot_CheckPlot_L1 :: restF_plot_CheckPlot_L1, iF_plot_CheckPlot_L1 =>
    (F_plot_checkTool N xF_plot_CheckPlot_L1 p0.Unit).bind fun y116 =>
    if (y116 != 0) then
      some y116
    else
      (if (decide (0 < (iF_plot_CheckPlot_L1 : Int))) then 
        (idx p0.Tools (w64 ((iF_plot_CheckPlot_L1 : Int) - 1))).bind fun x120 =>
        some (sLt xF_plot_CheckPlot_L1.Name x120.Name || sEq xF_plot_CheckPlot_L1.Name x120.Name)
       else some false).bind fun g119 =>
      if g119 then
        some 8
      else
        (F_plot_CheckPlot_L1 N p0 restF_plot_CheckPlot_L1 (iF_plot_CheckPlot_L1 + 1))
def F_plot_CheckPlot (N : Nat) (p0 : TPlot) : Option Int :=
  (F_plot_within p0.Unit 1 1000).bind fun y101 =>
  if (!y101) then
    some 1
  else
    if (decide (200 < (p0.Tools.length : Int))) then
      some 2
    else
      F_plot_CheckPlot_L1 N p0 p0.Tools 0



def F_plot_points_L1 : List TPoint → Nat → ByteArray → Option ByteArray
  | [], iF_plot_points_L1, x122 =>
    some x122
  | xF_plot_points_L1 :: restF_plot_points_L1, iF_plot_points_L1, x122 =>
    (itoaF xF_plot_points_L1.X).bind fun y124 =>
    (catS (⟨#[32]⟩) y124).bind fun t125 =>
    (catS t125 (⟨#[32]⟩)).bind fun t126 =>
    (itoaF xF_plot_points_L1.Y).bind fun y127 =>
    (catS t126 y127).bind fun t128 =>
    (catS x122 t128).bind fun t129 =>
    (F_plot_points_L1 restF_plot_points_L1 (iF_plot_points_L1 + 1)) t129
def F_plot_points (p0 : (List TPoint)) : Option ByteArray :=
  F_plot_points_L1 p0 0 ByteArray.empty

def F_plot_writeSteps_L1 (rec : ByteArray → (List TPlotStep) → Option ByteArray) : List TPlotStep → Nat → ByteArray → Option ByteArray
  | [], iF_plot_writeSteps_L1, m194 =>
    some m194
  | xF_plot_writeSteps_L1 :: restF_plot_writeSteps_L1, iF_plot_writeSteps_L1, m194 =>
    if (xF_plot_writeSteps_L1.Kind == 1) then
      (sbW m194 (⟨#[100, 97, 114, 107, 10]⟩)).bind fun y197 =>
      (F_plot_writeSteps_L1 rec restF_plot_writeSteps_L1 (iF_plot_writeSteps_L1 + 1)) y197
    else
      if (xF_plot_writeSteps_L1.Kind == 2) then
        (sbW m194 (⟨#[99, 108, 101, 97, 114, 10]⟩)).bind fun y199 =>
        (F_plot_writeSteps_L1 rec restF_plot_writeSteps_L1 (iF_plot_writeSteps_L1 + 1)) y199
      else
        if (xF_plot_writeSteps_L1.Kind == 3) then
          (catS (⟨#[117, 115, 101, 32]⟩) xF_plot_writeSteps_L1.Name).bind fun t201 =>
          (catS t201 (⟨#[10]⟩)).bind fun t202 =>
          (sbW m194 t202).bind fun y203 =>
          (F_plot_writeSteps_L1 rec restF_plot_writeSteps_L1 (iF_plot_writeSteps_L1 + 1)) y203
        else
          if (xF_plot_writeSteps_L1.Kind == 4) then
            (F_plot_points [xF_plot_writeSteps_L1.At]).bind fun y206 =>
            (catS (⟨#[109, 111, 118, 101]⟩) y206).bind fun t207 =>
            (catS t207 (⟨#[10]⟩)).bind fun t208 =>
            (sbW m194 t208).bind fun y209 =>
            (F_plot_writeSteps_L1 rec restF_plot_writeSteps_L1 (iF_plot_writeSteps_L1 + 1)) y209
          else
            if (xF_plot_writeSteps_L1.Kind == 5) then
              (F_plot_points [xF_plot_writeSteps_L1.At]).bind fun y212 =>
              (catS (⟨#[102, 108, 97, 115, 104]⟩) y212).bind fun t213 =>
              (catS t213 (⟨#[10]⟩)).bind fun t214 =>
              (sbW m194 t214).bind fun y215 =>
              (F_plot_writeSteps_L1 rec restF_plot_writeSteps_L1 (iF_plot_writeSteps_L1 + 1)) y215
            else
              if (xF_plot_writeSteps_L1.Kind == 6) then
                (F_plot_points [xF_plot_writeSteps_L1.At]).bind fun y218 =>
                (catS (⟨#[108, 105, 110, 101]⟩) y218).bind fun t219 =>
                (catS t219 (⟨#[10]⟩)).bind fun t220 =>
                (sbW m194 t220).bind fun y221 =>
                (F_plot_writeSteps_L1 rec restF_plot_writeSteps_L1 (iF_plot_writeSteps_L1 + 1)) y221
              else
                if (xF_plot_writeSteps_L1.Kind == 7) then
                  (F_plot_points xF_plot_writeSteps_L1.Points).bind fun y223 =>
                  (catS (⟨#[97, 114, 101, 97]⟩) y223).bind fun t224 =>
                  (catS t224 (⟨#[10]⟩)).bind fun t225 =>
                  (sbW m194 t225).bind fun y226 =>
                  (F_plot_writeSteps_L1 rec restF_plot_writeSteps_L1 (iF_plot_writeSteps_L1 + 1)) y226
                else
                  if (xF_plot_writeSteps_L1.Kind == 8) then
                    (F_plot_points [(TPoint.mk xF_plot_writeSteps_L1.NX xF_plot_writeSteps_L1.NY), xF_plot_writeSteps_L1.At]).bind fun y229 =>
                    (catS (⟨#[114, 101, 112, 101, 97, 116]⟩) y229).bind fun t230 =>
                    (catS t230 (⟨#[10]⟩)).bind fun t231 =>
                    (sbW m194 t231).bind fun y232 =>
                    (rec y232 xF_plot_writeSteps_L1.Steps).bind fun y234 =>
                    (sbW y234 (⟨#[100, 111, 110, 101, 10]⟩)).bind fun y236 =>
                    (F_plot_writeSteps_L1 rec restF_plot_writeSteps_L1 (iF_plot_writeSteps_L1 + 1)) y236
                  else
                    (F_plot_writeSteps_L1 rec restF_plot_writeSteps_L1 (iF_plot_writeSteps_L1 + 1)) m194
def F_plot_writeSteps_b (N : Nat) (rec : ByteArray → (List TPlotStep) → Option ByteArray) (p0 : ByteArray) (p1 : (List TPlotStep)) : Option ByteArray :=
  F_plot_writeSteps_L1 rec p1 0 p0
def F_plot_writeSteps : Nat → ByteArray → (List TPlotStep) → Option ByteArray
  | 0 => fun _ _ => none
  | N + 1 => F_plot_writeSteps_b N (F_plot_writeSteps N)



def F_plot_Text_L4 (kF_plot_Text_L3 : ByteArray → Option (ByteArray × Int)) : List TRect → Nat → ByteArray → Option (ByteArray × Int)
  | [], iF_plot_Text_L4, m208 =>
    (sbW m208 (⟨#[10]⟩)).bind fun y209 =>
    kF_plot_Text_L3 y209
  | xF_plot_Text_L4 :: restF_plot_Text_L4, iF_plot_Text_L4, m208 =>
    (F_plot_points [(TPoint.mk xF_plot_Text_L4.X0 xF_plot_Text_L4.Y0), (TPoint.mk xF_plot_Text_L4.X1 xF_plot_Text_L4.Y1)]).bind fun y213 =>
    (sbW m208 y213).bind fun y214 =>
    (F_plot_Text_L4 kF_plot_Text_L3 restF_plot_Text_L4 (iF_plot_Text_L4 + 1)) y214
def F_plot_Text_L3 (N : Nat) (p0 : TPlot) : List TPlotTool → Nat → ByteArray → Option (ByteArray × Int)
  | [], iF_plot_Text_L3, m178 =>
    (F_plot_writeSteps N m178 p0.Steps).bind fun y179 =>
    (sbL y179).bind fun y181 =>
    if (decide (200000 < y181.1)) then
      some (ByteArray.empty, 2)
    else
      (sbS y181.2).bind fun y183 =>
      some (y183.1, 0)
  | xF_plot_Text_L3 :: restF_plot_Text_L3, iF_plot_Text_L3, m178 =>
    (catS (⟨#[116, 111, 111, 108, 32]⟩) xF_plot_Text_L3.Name).bind fun t187 =>
    (sbW m178 t187).bind fun y188 =>
    F_plot_Text_L4 (F_plot_Text_L3 N p0 restF_plot_Text_L3 (iF_plot_Text_L3 + 1)) xF_plot_Text_L3.Rects 0 y188
def F_plot_Text (N : Nat) (p0 : TPlot) : Option (ByteArray × Int) :=
  (F_plot_CheckPlot N p0).bind fun y101 =>
  if (y101 != 0) then
    some (ByteArray.empty, y101)
  else
    (itoaF p0.Unit).bind fun y103 =>
    (catS (⟨#[117, 110, 105, 116, 32]⟩) y103).bind fun t104 =>
    (catS t104 (⟨#[10]⟩)).bind fun t105 =>
    (sbW ByteArray.empty t105).bind fun y106 =>
    F_plot_Text_L3 N p0 p0.Tools 0 y106


def F_etchhouseref3_within (p0 : Int) (p1 : Int) (p2 : Int) : Option Bool :=
  some ((decide (p1 ≤ p0)) && (decide (p0 ≤ p2)))

def F_etchhouseref3_IsName_L1 (p0 : ByteArray) : Nat → Int → Option Bool
  | 0, _ => none
  | mF_etchhouseref3_IsName_L1 + 1, x105 =>
    if (decide (x105 < (p0.size : Int))) then
      (strAt p0 x105).bind fun c106 =>
      if ((!(((decide (97 ≤ c106)) && (decide (c106 ≤ 122))) || ((decide (65 ≤ c106)) && (decide (c106 ≤ 90))))) && ((x105 == 0) || (((c106 != 95) && (c106 != 45)) && (!((decide (48 ≤ c106)) && (decide (c106 ≤ 57))))))) then
        some false
      else
        (F_etchhouseref3_IsName_L1 p0 mF_etchhouseref3_IsName_L1) (w64 (x105 + 1))
    else
      (F_etchhouseref3_within (p0.size : Int) 1 40).bind fun y107 =>
      some y107
def F_etchhouseref3_IsName (N : Nat) (p0 : ByteArray) : Option Bool :=
  F_etchhouseref3_IsName_L1 p0 N 0


def F_etchhouseref1_within (p0 : Int) (p1 : Int) (p2 : Int) : Option Bool :=
  some ((decide (p1 ≤ p0)) && (decide (p0 ≤ p2)))


def F_etchhouseref1_At (p0 : Int) : Option Bool :=
  (F_etchhouseref1_within p0 (-1000000) 1000000).bind fun y100 =>
  some y100


def F_etchhouseref3_fits (p0 : Int) (p1 : Int) : Option Bool :=
  (F_etchhouseref1_At p0).bind fun y100 =>
  (if y100 then 
    (F_etchhouseref1_At (w64 (p0 * p1))).bind fun y103 =>
    some y103
   else some false).bind fun g102 =>
  some g102

def F_etchhouseref3_checkToolRects_L1 (p0 : (List TRect)) (p1 : Int) : Nat → Int → Option Int
  | 0, _ => none
  | mF_etchhouseref3_checkToolRects_L1 + 1, x127 =>
    if (decide (x127 < (p0.length : Int))) then
      (idx p0 x127).bind fun x128 =>
      (F_etchhouseref3_fits x128.X0 p1).bind fun y130 =>
      (if (!y130) then some true else 
        (F_etchhouseref3_fits x128.Y0 p1).bind fun y133 =>
        some (!y133)
      ).bind fun g132 =>
      (if g132 then some true else 
        (F_etchhouseref3_fits x128.X1 p1).bind fun y136 =>
        some (!y136)
      ).bind fun g135 =>
      (if g135 then some true else 
        (F_etchhouseref3_fits x128.Y1 p1).bind fun y139 =>
        some (!y139)
      ).bind fun g138 =>
      if g138 then
        some 1
      else
        if ((decide (x128.X1 ≤ x128.X0)) || (decide (x128.Y1 ≤ x128.Y0))) then
          some 13
        else
          (F_etchhouseref3_checkToolRects_L1 p0 p1 mF_etchhouseref3_checkToolRects_L1) (w64 (x127 + 1))
    else
      some 0
def F_etchhouseref3_checkToolRects (N : Nat) (p0 : (List TRect)) (p1 : Int) : Option Int :=
  if ((p0.length : Int) == 0) then
    some 9
  else
    if (decide (2000 < (p0.length : Int))) then
      some 2
    else
      F_etchhouseref3_checkToolRects_L1 p0 p1 N 0

def F_etchhouseref3_count_J6 (p0 : (List TPlotStep)) (rec : (List TPlotStep) → Option Int) (x164 : Int) (x165 : Int) (kF_etchhouseref3_count_L5 : Int → Int → Option Int) (x171 : Int) (x179 : Int) : Option Int :=
  (idx p0 x165).bind fun x182 =>
  (rec x182.Steps).bind fun y184 =>
  kF_etchhouseref3_count_L5 (w64 ((w64 (x164 + 1)) + (w64 ((w64 (x171 * x179)) * y184)))) (w64 (x165 + 1))
def F_etchhouseref3_count_J7 (p0 : (List TPlotStep)) (rec : (List TPlotStep) → Option Int) (x164 : Int) (x165 : Int) (kF_etchhouseref3_count_L5 : Int → Int → Option Int) (x171 : Int) : Option Int :=
  (idx p0 x165).bind fun x185 =>
  (F_etchhouseref3_within x185.NY 1 100).bind fun y187 =>
  if y187 then
    (idx p0 x165).bind fun x188 =>
    F_etchhouseref3_count_J6 p0 rec x164 x165 kF_etchhouseref3_count_L5 x171 x188.NY
  else
    F_etchhouseref3_count_J6 p0 rec x164 x165 kF_etchhouseref3_count_L5 x171 1
def F_etchhouseref3_count_L5 (p0 : (List TPlotStep)) (rec : (List TPlotStep) → Option Int) : Nat → Int → Int → Option Int
  | 0, _, _ => none
  | mF_etchhouseref3_count_L5 + 1, x164, x165 =>
    if ((decide (x165 < (p0.length : Int))) && (decide (x164 ≤ 3000))) then
      (idx p0 x165).bind fun x190 =>
      (F_etchhouseref3_within x190.NX 1 100).bind fun y192 =>
      if y192 then
        (idx p0 x165).bind fun x193 =>
        F_etchhouseref3_count_J7 p0 rec x164 x165 (F_etchhouseref3_count_L5 p0 rec mF_etchhouseref3_count_L5) x193.NX
      else
        F_etchhouseref3_count_J7 p0 rec x164 x165 (F_etchhouseref3_count_L5 p0 rec mF_etchhouseref3_count_L5) 1
    else
      some (min x164 3001)
def F_etchhouseref3_count_b (N : Nat) (rec : (List TPlotStep) → Option Int) (p0 : (List TPlotStep)) : Option Int :=
  F_etchhouseref3_count_L5 p0 rec N 0 0
def F_etchhouseref3_count : Nat → (List TPlotStep) → Option Int
  | 0 => fun _ => none
  | N + 1 => F_etchhouseref3_count_b N (F_etchhouseref3_count N)

def F_etchhouseref3_fields_J2 (p0 : TPlotStep) (x104 : Bool) (x105 : Bool) (x106 : Bool) (x107 : Bool) : Option Bool :=
  some ((((x104 || (sEq p0.Name ByteArray.empty)) && (x105 || (eqTPoint p0.At (TPoint.mk 0 0)))) && (x106 || ((p0.Points.length : Int) == 0))) && (x107 || (((p0.NX == 0) && (p0.NY == 0)) && ((p0.Steps.length : Int) == 0))))
def F_etchhouseref3_fields_J3 (p0 : TPlotStep) (x110 : Bool) : Option Bool :=
  if x110 then
    F_etchhouseref3_fields_J2 p0 false true false false
  else
    if (p0.Kind == 7) then
      F_etchhouseref3_fields_J2 p0 false false true false
    else
      if (p0.Kind == 8) then
        F_etchhouseref3_fields_J2 p0 false true false true
      else
        F_etchhouseref3_fields_J2 p0 false false false false
def F_etchhouseref3_fields (p0 : TPlotStep) : Option Bool :=
  if (p0.Kind == 3) then
    F_etchhouseref3_fields_J2 p0 true false false false
  else
    if (p0.Kind == 4) then
      F_etchhouseref3_fields_J3 p0 (p0.Kind == 4)
    else
      if (p0.Kind == 5) then
        F_etchhouseref3_fields_J3 p0 (p0.Kind == 5)
      else
        F_etchhouseref3_fields_J3 p0 (p0.Kind == 6)

def F_etchhouseref3_tool_L1 (p0 : TPlot) (p1 : ByteArray) : Nat → Int → Option Int
  | 0, _ => none
  | mF_etchhouseref3_tool_L1 + 1, x108 =>
    if (decide (x108 < (p0.Tools.length : Int))) then
      (idx p0.Tools x108).bind fun x109 =>
      if (sEq x109.Name p1) then
        some x108
      else
        (F_etchhouseref3_tool_L1 p0 p1 mF_etchhouseref3_tool_L1) (w64 (x108 + 1))
    else
      some (-1)
def F_etchhouseref3_tool (N : Nat) (p0 : TPlot) (p1 : ByteArray) : Option Int :=
  F_etchhouseref3_tool_L1 p0 p1 N 0


def F_etchhouseref3_pointFits (p0 : TPoint) (p1 : Int) : Option Bool :=
  (F_etchhouseref3_fits p0.X p1).bind fun y101 =>
  (if y101 then 
    (F_etchhouseref3_fits p0.Y p1).bind fun y104 =>
    some y104
   else some false).bind fun g103 =>
  some g103

def F_etchhouseref3_checkArea_L2 (p0 : (List TPoint)) : Nat → Int → Option Int
  | 0, _ => none
  | mF_etchhouseref3_checkArea_L2 + 1, x127 =>
    if (decide (x127 < (p0.length : Int))) then
      (idx p0 x127).bind fun x129 =>
      (md (w64 (x127 + 1)) (p0.length : Int)).bind fun q130 =>
      (idx p0 q130).bind fun x131 =>
      if ((x129.X == x131.X) == (x129.Y == x131.Y)) then
        some 3
      else
        (F_etchhouseref3_checkArea_L2 p0 mF_etchhouseref3_checkArea_L2) (w64 (x127 + 1))
    else
      some 0
def F_etchhouseref3_checkArea_L1 (N : Nat) (p0 : (List TPoint)) (p1 : Int) : Nat → Int → Option Int
  | 0, _ => none
  | mF_etchhouseref3_checkArea_L1 + 1, x107 =>
    if (decide (x107 < (p0.length : Int))) then
      (idx p0 x107).bind fun x108 =>
      (F_etchhouseref3_pointFits x108 p1).bind fun y109 =>
      if (!y109) then
        some 1
      else
        (F_etchhouseref3_checkArea_L1 N p0 p1 mF_etchhouseref3_checkArea_L1) (w64 (x107 + 1))
    else
      if (decide (2000 < (p0.length : Int))) then
        some 2
      else
        if (decide ((p0.length : Int) < 4)) then
          some 3
        else
          F_etchhouseref3_checkArea_L2 p0 N 0
def F_etchhouseref3_checkArea (N : Nat) (p0 : (List TPoint)) (p1 : Int) : Option Int :=
  F_etchhouseref3_checkArea_L1 N p0 p1 N 0

def F_etchhouseref3_checkStep_J1 : Option Int :=
  some 0
def F_etchhouseref3_checkStep (N : Nat) (p0 : TPlot) (p1 : TPlotStep) (p2 : Int) : Option Int :=
  (F_etchhouseref3_within p1.Kind 1 8).bind fun y102 =>
  if (!y102) then
    some 4
  else
    (F_etchhouseref3_fields p1).bind fun y103 =>
    if (!y103) then
      some 3
    else
      (if (p1.Kind == 3) then 
        (F_etchhouseref3_tool N p0 p1.Name).bind fun y106 =>
        some (decide (y106 < 0))
       else some false).bind fun g105 =>
      if g105 then
        some 5
      else
        (F_etchhouseref3_pointFits p1.At p0.Unit).bind fun y107 =>
        if (!y107) then
          some 1
        else
          if (p1.Kind == 7) then
            (F_etchhouseref3_checkArea N p1.Points p0.Unit).bind fun y108 =>
            some y108
          else
            if (p1.Kind == 8) then
              (F_etchhouseref3_within p1.NX 1 100).bind fun y115 =>
              (if (!y115) then some true else 
                (F_etchhouseref3_within p1.NY 1 100).bind fun y118 =>
                some (!y118)
              ).bind fun g117 =>
              if g117 then
                some 1
              else
                if ((p1.Steps.length : Int) == 0) then
                  some 9
                else
                  if (decide (5 ≤ p2)) then
                    some 2
                  else
                    F_etchhouseref3_checkStep_J1
            else
              F_etchhouseref3_checkStep_J1

def F_etchhouseref3_checkSteps_L1 (N : Nat) (p0 : TPlot) (p1 : (List TPlotStep)) (p2 : Int) (rec : TPlot → (List TPlotStep) → Int → Option Int) : Nat → Int → Option Int
  | 0, _ => none
  | mF_etchhouseref3_checkSteps_L1 + 1, x116 =>
    if (decide (x116 < (p1.length : Int))) then
      (idx p1 x116).bind fun x117 =>
      (F_etchhouseref3_checkStep N p0 x117 p2).bind fun y119 =>
      if (y119 != 0) then
        some y119
      else
        (idx p1 x116).bind fun x120 =>
        (rec p0 x120.Steps (w64 (p2 + 1))).bind fun y122 =>
        if (y122 != 0) then
          some y122
        else
          (F_etchhouseref3_checkSteps_L1 N p0 p1 p2 rec mF_etchhouseref3_checkSteps_L1) (w64 (x116 + 1))
    else
      some 0
def F_etchhouseref3_checkSteps_b (N : Nat) (rec : TPlot → (List TPlotStep) → Int → Option Int) (p0 : TPlot) (p1 : (List TPlotStep)) (p2 : Int) : Option Int :=
  F_etchhouseref3_checkSteps_L1 N p0 p1 p2 rec N 0
def F_etchhouseref3_checkSteps : Nat → TPlot → (List TPlotStep) → Int → Option Int
  | 0 => fun _ _ _ => none
  | N + 1 => F_etchhouseref3_checkSteps_b N (F_etchhouseref3_checkSteps N)

def F_etchhouseref3_CheckPlot_L1 (N : Nat) (p0 : TPlot) : Nat → Int → Option Int
  | 0, _ => none
  | mF_etchhouseref3_CheckPlot_L1 + 1, x125 =>
    if (decide (x125 < (p0.Tools.length : Int))) then
      (idx p0.Tools x125).bind fun x126 =>
      (F_etchhouseref3_IsName N x126.Name).bind fun y129 =>
      if (!y129) then
        some 5
      else
        (F_etchhouseref3_checkToolRects N x126.Rects p0.Unit).bind fun y130 =>
        if (y130 != 0) then
          some y130
        else
          (if (decide (0 < x125)) then 
            (idx p0.Tools (w64 (x125 - 1))).bind fun x134 =>
            some (sLt x126.Name x134.Name || sEq x126.Name x134.Name)
           else some false).bind fun g133 =>
          if g133 then
            some 8
          else
            (F_etchhouseref3_CheckPlot_L1 N p0 mF_etchhouseref3_CheckPlot_L1) (w64 (x125 + 1))
    else
      (F_etchhouseref3_count N p0.Steps).bind fun y136 =>
      if (decide (3000 < y136)) then
        some 2
      else
        (F_etchhouseref3_checkSteps N p0 p0.Steps 0).bind fun y137 =>
        some y137
def F_etchhouseref3_CheckPlot (N : Nat) (p0 : TPlot) : Option Int :=
  (F_etchhouseref3_within p0.Unit 1 1000).bind fun y101 =>
  if (!y101) then
    some 1
  else
    if (decide (200 < (p0.Tools.length : Int))) then
      some 2
    else
      F_etchhouseref3_CheckPlot_L1 N p0 N 0

def F_etchhouseref3_numbers_L1 (p0 : (List Int)) : Nat → ByteArray → Int → Option ByteArray
  | 0, _, _ => none
  | mF_etchhouseref3_numbers_L1 + 1, x114, x115 =>
    if (decide (x115 < (p0.length : Int))) then
      (idx p0 x115).bind fun x116 =>
      (itoaF x116).bind fun y117 =>
      (catS (⟨#[32]⟩) y117).bind fun t118 =>
      (catS x114 t118).bind fun t119 =>
      (F_etchhouseref3_numbers_L1 p0 mF_etchhouseref3_numbers_L1) t119 (w64 (x115 + 1))
    else
      some x114
def F_etchhouseref3_numbers (N : Nat) (p0 : (List Int)) : Option ByteArray :=
  F_etchhouseref3_numbers_L1 p0 N ByteArray.empty 0

def F_etchhouseref3_stepText_L4 (N : Nat) (x221 : Int) (kF_etchhouseref3_stepText_L3 : ByteArray → Int → Option ByteArray) (x222 : TPlotStep) : Nat → ByteArray → Int → Option ByteArray
  | 0, _, _ => none
  | mF_etchhouseref3_stepText_L4 + 1, x260, x261 =>
    if (decide (x261 < (x222.Points.length : Int))) then
      (idx x222.Points x261).bind fun x263 =>
      (idx x222.Points x261).bind fun x264 =>
      (F_etchhouseref3_numbers N [x263.X, x264.Y]).bind fun y266 =>
      (catS x260 y266).bind fun t267 =>
      (F_etchhouseref3_stepText_L4 N x221 kF_etchhouseref3_stepText_L3 x222 mF_etchhouseref3_stepText_L4) t267 (w64 (x261 + 1))
    else
      (catS x260 (⟨#[10]⟩)).bind fun t268 =>
      kF_etchhouseref3_stepText_L3 t268 (w64 (x221 + 1))
def F_etchhouseref3_stepText_L3 (N : Nat) (p0 : (List TPlotStep)) (rec : (List TPlotStep) → Option ByteArray) : Nat → ByteArray → Int → Option ByteArray
  | 0, _, _ => none
  | mF_etchhouseref3_stepText_L3 + 1, x220, x221 =>
    if (decide (x221 < (p0.length : Int))) then
      (idx p0 x221).bind fun x222 =>
      (F_etchhouseref3_numbers N [x222.At.X, x222.At.Y]).bind fun y226 =>
      if (x222.Kind == 1) then
        (catS x220 (⟨#[100, 97, 114, 107, 10]⟩)).bind fun t227 =>
        (F_etchhouseref3_stepText_L3 N p0 rec mF_etchhouseref3_stepText_L3) t227 (w64 (x221 + 1))
      else
        if (x222.Kind == 2) then
          (catS x220 (⟨#[99, 108, 101, 97, 114, 10]⟩)).bind fun t228 =>
          (F_etchhouseref3_stepText_L3 N p0 rec mF_etchhouseref3_stepText_L3) t228 (w64 (x221 + 1))
        else
          if (x222.Kind == 3) then
            (catS (⟨#[117, 115, 101, 32]⟩) x222.Name).bind fun t229 =>
            (catS t229 (⟨#[10]⟩)).bind fun t230 =>
            (catS x220 t230).bind fun t231 =>
            (F_etchhouseref3_stepText_L3 N p0 rec mF_etchhouseref3_stepText_L3) t231 (w64 (x221 + 1))
          else
            if (x222.Kind == 4) then
              (catS (⟨#[109, 111, 118, 101]⟩) y226).bind fun t232 =>
              (catS t232 (⟨#[10]⟩)).bind fun t233 =>
              (catS x220 t233).bind fun t234 =>
              (F_etchhouseref3_stepText_L3 N p0 rec mF_etchhouseref3_stepText_L3) t234 (w64 (x221 + 1))
            else
              if (x222.Kind == 5) then
                (catS (⟨#[102, 108, 97, 115, 104]⟩) y226).bind fun t235 =>
                (catS t235 (⟨#[10]⟩)).bind fun t236 =>
                (catS x220 t236).bind fun t237 =>
                (F_etchhouseref3_stepText_L3 N p0 rec mF_etchhouseref3_stepText_L3) t237 (w64 (x221 + 1))
              else
                if (x222.Kind == 6) then
                  (catS (⟨#[108, 105, 110, 101]⟩) y226).bind fun t238 =>
                  (catS t238 (⟨#[10]⟩)).bind fun t239 =>
                  (catS x220 t239).bind fun t240 =>
                  (F_etchhouseref3_stepText_L3 N p0 rec mF_etchhouseref3_stepText_L3) t240 (w64 (x221 + 1))
                else
                  if (x222.Kind == 7) then
                    (catS x220 (⟨#[97, 114, 101, 97]⟩)).bind fun t241 =>
                    F_etchhouseref3_stepText_L4 N x221 (F_etchhouseref3_stepText_L3 N p0 rec mF_etchhouseref3_stepText_L3) x222 N t241 0
                  else
                    if (x222.Kind == 8) then
                      (F_etchhouseref3_numbers N [x222.NX, x222.NY]).bind fun y271 =>
                      (catS (⟨#[114, 101, 112, 101, 97, 116]⟩) y271).bind fun t272 =>
                      (catS t272 y226).bind fun t273 =>
                      (catS t273 (⟨#[10]⟩)).bind fun t274 =>
                      (rec x222.Steps).bind fun y275 =>
                      (catS t274 y275).bind fun t276 =>
                      (catS t276 (⟨#[100, 111, 110, 101, 10]⟩)).bind fun t277 =>
                      (catS x220 t277).bind fun t278 =>
                      (F_etchhouseref3_stepText_L3 N p0 rec mF_etchhouseref3_stepText_L3) t278 (w64 (x221 + 1))
                    else
                      (F_etchhouseref3_stepText_L3 N p0 rec mF_etchhouseref3_stepText_L3) x220 (w64 (x221 + 1))
    else
      some x220
def F_etchhouseref3_stepText_b (N : Nat) (rec : (List TPlotStep) → Option ByteArray) (p0 : (List TPlotStep)) : Option ByteArray :=
  F_etchhouseref3_stepText_L3 N p0 rec N ByteArray.empty 0
def F_etchhouseref3_stepText : Nat → (List TPlotStep) → Option ByteArray
  | 0 => fun _ => none
  | N + 1 => F_etchhouseref3_stepText_b N (F_etchhouseref3_stepText N)

def F_etchhouseref3_Text_L4 (N : Nat) (p0 : TPlot) (x192 : Int) (kF_etchhouseref3_Text_L3 : ByteArray → Int → Option (ByteArray × Int)) : Nat → ByteArray → Int → Option (ByteArray × Int)
  | 0, _, _ => none
  | mF_etchhouseref3_Text_L4 + 1, x221, x222 =>
    (idx p0.Tools x192).bind fun x223 =>
    if (decide (x222 < (x223.Rects.length : Int))) then
      (idx p0.Tools x192).bind fun x225 =>
      (idx x225.Rects x222).bind fun x227 =>
      (F_etchhouseref3_numbers N [x227.X0, x227.Y0, x227.X1, x227.Y1]).bind fun y230 =>
      (catS x221 y230).bind fun t231 =>
      (F_etchhouseref3_Text_L4 N p0 x192 kF_etchhouseref3_Text_L3 mF_etchhouseref3_Text_L4) t231 (w64 (x222 + 1))
    else
      (catS x221 (⟨#[10]⟩)).bind fun t232 =>
      kF_etchhouseref3_Text_L3 t232 (w64 (x192 + 1))
def F_etchhouseref3_Text_L3 (N : Nat) (p0 : TPlot) : Nat → ByteArray → Int → Option (ByteArray × Int)
  | 0, _, _ => none
  | mF_etchhouseref3_Text_L3 + 1, x191, x192 =>
    if (decide (x192 < (p0.Tools.length : Int))) then
      (idx p0.Tools x192).bind fun x193 =>
      (catS (⟨#[116, 111, 111, 108, 32]⟩) x193.Name).bind fun t195 =>
      (catS x191 t195).bind fun t196 =>
      F_etchhouseref3_Text_L4 N p0 x192 (F_etchhouseref3_Text_L3 N p0 mF_etchhouseref3_Text_L3) N t196 0
    else
      (F_etchhouseref3_stepText N p0.Steps).bind fun y233 =>
      (catS x191 y233).bind fun t234 =>
      if (decide (200000 < (t234.size : Int))) then
        some (ByteArray.empty, 2)
      else
        some (t234, 0)
def F_etchhouseref3_Text (N : Nat) (p0 : TPlot) : Option (ByteArray × Int) :=
  (F_etchhouseref3_CheckPlot N p0).bind fun y101 =>
  if (y101 != 0) then
    some (ByteArray.empty, y101)
  else
    (itoaF p0.Unit).bind fun y102 =>
    (catS (⟨#[117, 110, 105, 116, 32]⟩) y102).bind fun t103 =>
    (catS t103 (⟨#[10]⟩)).bind fun t104 =>
    F_etchhouseref3_Text_L3 N p0 N t104 0


def F_etchhouselaw3_awake (N : Nat)  : Option Bool :=
  (F_plot_Text N (TPlot.mk 7 [] [])).bind fun y100 =>
  some ((y100.2 == 0) && (sEq y100.1 (⟨#[117, 110, 105, 116, 32, 55, 10]⟩)))


def F_etchhouselaw3_PlotsMatchSpec (N : Nat) (p0 : TPlot) : Option Bool :=
  (F_plot_Text N p0).bind fun y101 =>
  (F_etchhouseref3_Text N p0).bind fun y102 =>
  (F_plot_CheckPlot N p0).bind fun y103 =>
  (F_etchhouseref3_CheckPlot N p0).bind fun y104 =>
  (if (((y103 == y104) && (sEq y101.1 y102.1)) && (y101.2 == y102.2)) then 
    (F_etchhouselaw3_awake N).bind fun y107 =>
    some y107
   else some false).bind fun g106 =>
  some g106

end Go.Proofs.YtocjndhpgjccoaaDoor
