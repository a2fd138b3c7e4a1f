/- The plain functions: what each function of the program computes; none where it would panic. -/
import Derived.Test.YtocjndhpgjccoaaDoorXT
namespace Go.Proofs.YtocjndhpgjccoaaDoor
open Go.RowKit

def F_plot_within (p0 : Int) (p1 : Int) (p2 : Int) : Option Bool :=
  some ((decide (p1 ≤ p0)) && (decide (p0 ≤ p2)))

def F_plot_IsName_L1 (p0 : ByteArray) : Nat → Int → Option Bool
  | 0, _ => none
  | mF_plot_IsName_L1 + 1, x105 =>
    if (decide (x105 < (p0.size : Int))) then
      (strAt p0 x105).bind fun c106 =>
      if ((!(((decide (97 ≤ c106)) && (decide (c106 ≤ 122))) || ((decide (65 ≤ c106)) && (decide (c106 ≤ 90))))) && ((x105 == 0) || ((((decide (c106 < 48)) || (decide (57 < c106))) && (c106 != 95)) && (c106 != 45)))) then
        some false
      else
        (F_plot_IsName_L1 p0 mF_plot_IsName_L1) (w64 (x105 + 1))
    else
      some ((decide (1 ≤ (p0.size : Int))) && (decide ((p0.size : Int) ≤ 40)))
def F_plot_IsName (N : Nat) (p0 : ByteArray) : Option Bool :=
  F_plot_IsName_L1 p0 N 0


def F_plot_isAt (p0 : Int) (p1 : Int) : Option Bool :=
  (dv (-1000000) p1).bind fun q100 =>
  (dv 1000000 p1).bind fun q101 =>
  (F_plot_within p0 q100 q101).bind fun y102 =>
  some y102

def F_plot_checkTool_L1 (p1 : Int) : List TRect → Nat → Option Int
  | [], iF_plot_checkTool_L1 =>
    some 0
  | xF_plot_checkTool_L1 :: restF_plot_checkTool_L1, iF_plot_checkTool_L1 =>
    (F_plot_isAt xF_plot_checkTool_L1.X0 p1).bind fun y116 =>
    (if (!y116) then some true else 
      (F_plot_isAt xF_plot_checkTool_L1.Y0 p1).bind fun y119 =>
      some (!y119)
    ).bind fun g118 =>
    (if g118 then some true else 
      (F_plot_isAt xF_plot_checkTool_L1.X1 p1).bind fun y122 =>
      some (!y122)
    ).bind fun g121 =>
    (if g121 then some true else 
      (F_plot_isAt xF_plot_checkTool_L1.Y1 p1).bind fun y125 =>
      some (!y125)
    ).bind fun g124 =>
    if g124 then
      some 1
    else
      if ((decide (xF_plot_checkTool_L1.X1 ≤ xF_plot_checkTool_L1.X0)) || (decide (xF_plot_checkTool_L1.Y1 ≤ xF_plot_checkTool_L1.Y0))) then
        some 13
      else
        (F_plot_checkTool_L1 p1 restF_plot_checkTool_L1 (iF_plot_checkTool_L1 + 1))
def F_plot_checkTool (N : Nat) (p0 : TPlotTool) (p1 : Int) : Option Int :=
  (F_plot_IsName N p0.Name).bind fun y101 =>
  if (!y101) then
    some 5
  else
    if ((p0.Rects.length : Int) == 0) then
      some 9
    else
      if (decide (2000 < (p0.Rects.length : Int))) then
        some 2
      else
        F_plot_checkTool_L1 p1 p0.Rects 0


def F_plot_times_1 (p0 : Int) : Option Int :=
  (F_plot_within p0 1 100).bind fun y100 =>
  if y100 then
    some p0
  else
    some 1


def F_plot_times (p0 : TPlotStep) : Option Int :=
  (F_plot_times_1 p0.NX).bind fun y101 =>
  (F_plot_times_1 p0.NY).bind fun y102 =>
  some (w64 (y101 * y102))

def F_plot_count_J4 (kF_plot_count_L3 : Int → Option Int) (x131 : Int) : Option Int :=
  if (decide (3000 < x131)) then
    some 3001
  else
    kF_plot_count_L3 x131
def F_plot_count_L3 (rec : (List TPlotStep) → Option Int) : List TPlotStep → Nat → Int → Option Int
  | [], iF_plot_count_L3, x126 =>
    some x126
  | xF_plot_count_L3 :: restF_plot_count_L3, iF_plot_count_L3, x126 =>
    if (decide (0 < (xF_plot_count_L3.Steps.length : Int))) then
      (F_plot_times xF_plot_count_L3).bind fun y134 =>
      (rec xF_plot_count_L3.Steps).bind fun y135 =>
      F_plot_count_J4 (F_plot_count_L3 rec restF_plot_count_L3 (iF_plot_count_L3 + 1)) (w64 ((w64 (x126 + 1)) + (w64 (y134 * y135))))
    else
      F_plot_count_J4 (F_plot_count_L3 rec restF_plot_count_L3 (iF_plot_count_L3 + 1)) (w64 (x126 + 1))
def F_plot_count_b (N : Nat) (rec : (List TPlotStep) → Option Int) (p0 : (List TPlotStep)) : Option Int :=
  F_plot_count_L3 rec p0 0 0
def F_plot_count : Nat → (List TPlotStep) → Option Int
  | 0 => fun _ => none
  | N + 1 => F_plot_count_b N (F_plot_count N)

def F_plot_fieldsOf_J1 (p0 : Int) (x101 : Bool) : Option TFields :=
  if x101 then
    some (TFields.mk false true false false)
  else
    if (p0 == 7) then
      some (TFields.mk false false true false)
    else
      if (p0 == 8) then
        some (TFields.mk false true false true)
      else
        some (TFields.mk false false false false)
def F_plot_fieldsOf (p0 : Int) : Option TFields :=
  if (p0 == 3) then
    some (TFields.mk true false false false)
  else
    if (p0 == 4) then
      F_plot_fieldsOf_J1 p0 (p0 == 4)
    else
      if (p0 == 5) then
        F_plot_fieldsOf_J1 p0 (p0 == 5)
      else
        F_plot_fieldsOf_J1 p0 (p0 == 6)


def F_plot_toolAt_1 (p0 : TPlotTool) (q0 : ByteArray) : Option Bool :=
  some (sEq p0.Name q0)

def F_slices_IndexFunc_PlotTool__toolAt_1_L1 (q0 : ByteArray) : List TPlotTool → Nat → Option Int
  | [], iF_slices_IndexFunc_PlotTool__toolAt_1_L1 =>
    some (-1)
  | xF_slices_IndexFunc_PlotTool__toolAt_1_L1 :: restF_slices_IndexFunc_PlotTool__toolAt_1_L1, iF_slices_IndexFunc_PlotTool__toolAt_1_L1 =>
    (F_plot_toolAt_1 xF_slices_IndexFunc_PlotTool__toolAt_1_L1 q0).bind fun y105 =>
    if y105 then
      some (iF_slices_IndexFunc_PlotTool__toolAt_1_L1 : Int)
    else
      (F_slices_IndexFunc_PlotTool__toolAt_1_L1 q0 restF_slices_IndexFunc_PlotTool__toolAt_1_L1 (iF_slices_IndexFunc_PlotTool__toolAt_1_L1 + 1))
def F_slices_IndexFunc_PlotTool__toolAt_1 (p0 : (List TPlotTool)) (q0 : ByteArray) : Option Int :=
  F_slices_IndexFunc_PlotTool__toolAt_1_L1 q0 p0 0


def F_plot_toolAt (p0 : TPlot) (p1 : ByteArray) : Option Int :=
  (F_slices_IndexFunc_PlotTool__toolAt_1 p0.Tools p1).bind fun y102 =>
  some y102


def F_plot_isPoint (p0 : TPoint) (p1 : Int) : Option Bool :=
  (F_plot_isAt p0.X p1).bind fun y101 =>
  (if y101 then 
    (F_plot_isAt p0.Y p1).bind fun y104 =>
    some y104
   else some false).bind fun g103 =>
  some g103


def F_plot_checkStep_1 (p0 : TPoint) (q0 : TPlot) : Option Bool :=
  (F_plot_isPoint p0 q0.Unit).bind fun y101 =>
  some (!y101)

def F_slices_IndexFunc_Point_L1 (p1 : TPoint → Option Bool) : List TPoint → Nat → Option Int
  | [], iF_slices_IndexFunc_Point_L1 =>
    some (-1)
  | xF_slices_IndexFunc_Point_L1 :: restF_slices_IndexFunc_Point_L1, iF_slices_IndexFunc_Point_L1 =>
    (p1 xF_slices_IndexFunc_Point_L1).bind fun y103 =>
    if y103 then
      some (iF_slices_IndexFunc_Point_L1 : Int)
    else
      (F_slices_IndexFunc_Point_L1 p1 restF_slices_IndexFunc_Point_L1 (iF_slices_IndexFunc_Point_L1 + 1))
def F_slices_IndexFunc_Point (p0 : (List TPoint)) (p1 : TPoint → Option Bool) : Option Int :=
  F_slices_IndexFunc_Point_L1 p1 p0 0


def F_slices_ContainsFunc_Point (p0 : (List TPoint)) (p1 : TPoint → Option Bool) : Option Bool :=
  (F_slices_IndexFunc_Point p0 p1).bind fun y100 =>
  some (decide (0 ≤ y100))

def F_shape_IsRow_L1 (p0 : (List TPoint)) : List TPoint → Nat → Option Bool
  | [], iF_shape_IsRow_L1 =>
    some true
  | xF_shape_IsRow_L1 :: restF_shape_IsRow_L1, iF_shape_IsRow_L1 =>
    (md (w64 ((iF_shape_IsRow_L1 : Int) + 1)) (p0.length : Int)).bind fun q107 =>
    (idx p0 q107).bind fun x108 =>
    if ((xF_shape_IsRow_L1.X == x108.X) == (xF_shape_IsRow_L1.Y == x108.Y)) then
      some false
    else
      (F_shape_IsRow_L1 p0 restF_shape_IsRow_L1 (iF_shape_IsRow_L1 + 1))
def F_shape_IsRow (p0 : (List TPoint)) : Option Bool :=
  if (decide ((p0.length : Int) < 4)) then
    some false
  else
    F_shape_IsRow_L1 p0 p0 0

def F_plot_checkStep_J1 (p0 : TPlot) (p1 : TPlotStep) (p2 : Int) (y103 : TFields) (x105 : Bool) : Option Int :=
  if x105 then
    some 3
  else
    (if y103.name then 
      (F_plot_toolAt p0 p1.Name).bind fun y110 =>
      some (decide (y110 < 0))
     else some false).bind fun g109 =>
    if g109 then
      some 5
    else
      (F_plot_isPoint p1.At p0.Unit).bind fun y111 =>
      (if (!y111) then some true else 
        (F_slices_ContainsFunc_Point p1.Points (fun z0 => F_plot_checkStep_1 z0 p0)).bind fun y114 =>
        some y114
      ).bind fun g113 =>
      if g113 then
        some 1
      else
        if (decide (2000 < (p1.Points.length : Int))) then
          some 2
        else
          (if y103.points then 
            (F_shape_IsRow p1.Points).bind fun y117 =>
            some (!y117)
           else some false).bind fun g116 =>
          if g116 then
            some 3
          else
            if (!y103.repeat_) then
              some 0
            else
              (F_plot_within p1.NX 1 100).bind fun y118 =>
              (if (!y118) then some true else 
                (F_plot_within p1.NY 1 100).bind fun y121 =>
                some (!y121)
              ).bind fun g120 =>
              if g120 then
                some 1
              else
                if ((p1.Steps.length : Int) == 0) then
                  some 9
                else
                  if (decide (5 ≤ p2)) then
                    some 2
                  else
                    some 0
def F_plot_checkStep (p0 : TPlot) (p1 : TPlotStep) (p2 : Int) : Option Int :=
  (F_plot_within p1.Kind 1 8).bind fun y102 =>
  if (!y102) then
    some 4
  else
    (F_plot_fieldsOf p1.Kind).bind fun y103 =>
    if ((!y103.name) && (!sEq p1.Name ByteArray.empty)) then
      F_plot_checkStep_J1 p0 p1 p2 y103 ((!y103.name) && (!sEq p1.Name ByteArray.empty))
    else
      if ((!y103.at_) && (!(eqTPoint p1.At (TPoint.mk 0 0)))) then
        F_plot_checkStep_J1 p0 p1 p2 y103 ((!y103.at_) && (!(eqTPoint p1.At (TPoint.mk 0 0))))
      else
        if ((!y103.points) && (decide (0 < (p1.Points.length : Int)))) then
          F_plot_checkStep_J1 p0 p1 p2 y103 ((!y103.points) && (decide (0 < (p1.Points.length : Int))))
        else
          F_plot_checkStep_J1 p0 p1 p2 y103 ((!y103.repeat_) && (((p1.NX != 0) || (p1.NY != 0)) || (decide (0 < (p1.Steps.length : Int)))))

def F_plot_checkSteps_L1 (p0 : TPlot) (p2 : Int) (rec : TPlot → (List TPlotStep) → Int → Option Int) : List TPlotStep → Nat → Option Int
  | [], iF_plot_checkSteps_L1 =>
    some 0
  | xF_plot_checkSteps_L1 :: restF_plot_checkSteps_L1, iF_plot_checkSteps_L1 =>
    (F_plot_checkStep p0 xF_plot_checkSteps_L1 p2).bind fun y109 =>
    if (y109 != 0) then
      some y109
    else
      (rec p0 xF_plot_checkSteps_L1.Steps (w64 (p2 + 1))).bind fun y110 =>
      if (y110 != 0) then
        some y110
      else
        (F_plot_checkSteps_L1 p0 p2 rec restF_plot_checkSteps_L1 (iF_plot_checkSteps_L1 + 1))
def F_plot_checkSteps_b (N : Nat) (rec : TPlot → (List TPlotStep) → Int → Option Int) (p0 : TPlot) (p1 : (List TPlotStep)) (p2 : Int) : Option Int :=
  F_plot_checkSteps_L1 p0 p2 rec p1 0
def F_plot_checkSteps : Nat → TPlot → (List TPlotStep) → Int → Option Int
  | 0 => fun _ _ _ => none
  | N + 1 => F_plot_checkSteps_b N (F_plot_checkSteps N)

def F_plot_CheckPlot_L1 (N : Nat) (p0 : TPlot) : List TPlotTool → Nat → Option Int
  | [], iF_plot_CheckPlot_L1 =>
    (F_plot_count N p0.Steps).bind fun y112 =>
    if (decide (3000 < y112)) then
      some 2
    else
      (F_plot_checkSteps N p0 p0.Steps 0).bind fun y113 =>
      some y113
  | xF_plot_CheckPlot_L1 :: restF_plot_CheckPlot_L1, iF_plot_CheckPlot_L1 =>
    (F_plot_checkTool N xF_plot_CheckPlot_L1 p0.Unit).bind fun y116 =>
    if (y116 != 0) then
      some y116
    else
      (if (decide (0 < (iF_plot_CheckPlot_L1 : Int))) then 
        (idx p0.Tools (w64 ((iF_plot_CheckPlot_L1 : Int) - 1))).bind fun x120 =>
        some (sLt xF_plot_CheckPlot_L1.Name x120.Name || sEq xF_plot_CheckPlot_L1.Name x120.Name)
       else some false).bind fun g119 =>
      if g119 then
        some 8
      else
        (F_plot_CheckPlot_L1 N p0 restF_plot_CheckPlot_L1 (iF_plot_CheckPlot_L1 + 1))
def F_plot_CheckPlot (N : Nat) (p0 : TPlot) : Option Int :=
  (F_plot_within p0.Unit 1 1000).bind fun y101 =>
  if (!y101) then
    some 1
  else
    if (decide (200 < (p0.Tools.length : Int))) then
      some 2
    else
      F_plot_CheckPlot_L1 N p0 p0.Tools 0


def F_plot_scaled_1 (p0 : Int) (q0 : Bool) (q1 : TPlot) (q2 : Int) : Option (Int × Bool) :=
  (if q0 then 
    (md (w64 (p0 * q1.Unit)) q2).bind fun q102 =>
    some (q102 == 0)
   else some false).bind fun g101 =>
  (dv (w64 (p0 * q1.Unit)) q2).bind fun q103 =>
  some (q103, g101)

def F_disp_101 (N : Nat) (x : Nat) (p0 : Int) : Option Int :=
  if x = 86 then F_plot_times_1 p0 else
  none


def F_plot_changed_1 (N : Nat) (p0 : TPoint) (q0 : Nat) : Option TPoint :=
  (F_disp_101 N q0 p0.X).bind fun y102 =>
  (F_disp_101 N q0 p0.Y).bind fun y103 =>
  some (TPoint.mk y102 y103)


def F_plot_changed_2 (N : Nat) (p0 : TRect) (q0 : Nat) : Option TRect :=
  (F_disp_101 N q0 p0.X0).bind fun y102 =>
  (F_disp_101 N q0 p0.Y0).bind fun y103 =>
  (F_disp_101 N q0 p0.X1).bind fun y104 =>
  (F_disp_101 N q0 p0.Y1).bind fun y105 =>
  some (TRect.mk y102 y103 y104 y105)


def F_slices_Clone_PlotTool (p0 : (List TPlotTool)) : Option (List TPlotTool) :=
  (apd ([] : List TPlotTool) p0).bind fun l101 =>
  some l101


def F_slices_Clone_Rect (p0 : (List TRect)) : Option (List TRect) :=
  (apd ([] : List TRect) p0).bind fun l101 =>
  some l101

def F_plot_ownTools_L4 (p1 : TRect → Option TRect) (l184 : List TPlotTool) (x185 : Int) (kF_plot_ownTools_L3 : (List TPlotTool) → Int → Option (List TPlotTool)) (x190 : TPlotTool) : List TRect → Nat → List TRect → Option (List TPlotTool)
  | [], iF_plot_ownTools_L4, l211 =>
    kF_plot_ownTools_L3 ((l184).set (x185).toNat (TPlotTool.mk x190.Name l211)) (w64 (x185 + 1))
  | xF_plot_ownTools_L4 :: restF_plot_ownTools_L4, iF_plot_ownTools_L4, l211 =>
    (idx l211 (iF_plot_ownTools_L4 : Int)).bind fun x215 =>
    (idx l184 x185).bind fun x217 =>
    (p1 x215).bind fun y218 =>
    (idx l211 (iF_plot_ownTools_L4 : Int)).bind fun x219 =>
    (sets l211 (iF_plot_ownTools_L4 : Int) y218).bind fun l220 =>
    (F_plot_ownTools_L4 p1 l184 x185 kF_plot_ownTools_L3 x190 restF_plot_ownTools_L4 (iF_plot_ownTools_L4 + 1)) l220
def F_plot_ownTools_L3 (p1 : TRect → Option TRect) (y100 : (List TPlotTool)) : Nat → List TPlotTool → Int → Option (List TPlotTool)
  | 0, _, _ => none
  | mF_plot_ownTools_L3 + 1, l184, x185 =>
    if (decide (x185 < (y100.length : Int))) then
      (idx l184 x185).bind fun x186 =>
      (F_slices_Clone_Rect x186.Rects).bind fun y188 =>
      (idx l184 x185).bind fun x190 =>
      (idx l184 x185).bind fun x192 =>
      F_plot_ownTools_L4 p1 l184 x185 (F_plot_ownTools_L3 p1 y100 mF_plot_ownTools_L3) x190 y188 0 y188
    else
      some l184
def F_plot_ownTools (N : Nat) (p0 : (List TPlotTool)) (p1 : TRect → Option TRect) : Option (List TPlotTool) :=
  (F_slices_Clone_PlotTool p0).bind fun y100 =>
  F_plot_ownTools_L3 p1 y100 N y100 0


def F_slices_Clone_PlotStep (p0 : (List TPlotStep)) : Option (List TPlotStep) :=
  (apd ([] : List TPlotStep) p0).bind fun l101 =>
  some l101


def F_slices_Clone_Point (p0 : (List TPoint)) : Option (List TPoint) :=
  (apd ([] : List TPoint) p0).bind fun l101 =>
  some l101


def F_plot_changed_2__scaled_1 (p0 : TRect) (q1 : Bool) (q2 : TPlot) (q3 : Int) : Option (TRect × Bool) :=
  (F_plot_scaled_1 p0.X0 q1 q2 q3).bind fun y103 =>
  (F_plot_scaled_1 p0.Y0 y103.2 q2 q3).bind fun y105 =>
  (F_plot_scaled_1 p0.X1 y105.2 q2 q3).bind fun y107 =>
  (F_plot_scaled_1 p0.Y1 y107.2 q2 q3).bind fun y109 =>
  some ((TRect.mk y103.1 y105.1 y107.1 y109.1), y109.2)

def F_plot_ownTools__changed_2__scaled_1_L4 (q2 : TPlot) (q3 : Int) (l208 : List TPlotTool) (x209 : Int) (kF_plot_ownTools__changed_2__scaled_1_L3 : Bool → (List TPlotTool) → Int → Option ((List TPlotTool) × Bool)) (x214 : TPlotTool) : List TRect → Nat → Bool → List TRect → Option ((List TPlotTool) × Bool)
  | [], iF_plot_ownTools__changed_2__scaled_1_L4, x242, l243 =>
    kF_plot_ownTools__changed_2__scaled_1_L3 x242 ((l208).set (x209).toNat (TPlotTool.mk x214.Name l243)) (w64 (x209 + 1))
  | xF_plot_ownTools__changed_2__scaled_1_L4 :: restF_plot_ownTools__changed_2__scaled_1_L4, iF_plot_ownTools__changed_2__scaled_1_L4, x242, l243 =>
    (idx l243 (iF_plot_ownTools__changed_2__scaled_1_L4 : Int)).bind fun x247 =>
    (idx l208 x209).bind fun x250 =>
    (F_plot_changed_2__scaled_1 x247 x242 q2 q3).bind fun y251 =>
    (idx l243 (iF_plot_ownTools__changed_2__scaled_1_L4 : Int)).bind fun x253 =>
    (sets l243 (iF_plot_ownTools__changed_2__scaled_1_L4 : Int) y251.1).bind fun l254 =>
    (F_plot_ownTools__changed_2__scaled_1_L4 q2 q3 l208 x209 kF_plot_ownTools__changed_2__scaled_1_L3 x214 restF_plot_ownTools__changed_2__scaled_1_L4 (iF_plot_ownTools__changed_2__scaled_1_L4 + 1)) y251.2 l254
def F_plot_ownTools__changed_2__scaled_1_L3 (q2 : TPlot) (q3 : Int) (y100 : (List TPlotTool)) : Nat → Bool → List TPlotTool → Int → Option ((List TPlotTool) × Bool)
  | 0, _, _, _ => none
  | mF_plot_ownTools__changed_2__scaled_1_L3 + 1, x207, l208, x209 =>
    if (decide (x209 < (y100.length : Int))) then
      (idx l208 x209).bind fun x210 =>
      (F_slices_Clone_Rect x210.Rects).bind fun y212 =>
      (idx l208 x209).bind fun x214 =>
      (idx l208 x209).bind fun x216 =>
      F_plot_ownTools__changed_2__scaled_1_L4 q2 q3 l208 x209 (F_plot_ownTools__changed_2__scaled_1_L3 q2 q3 y100 mF_plot_ownTools__changed_2__scaled_1_L3) x214 y212 0 x207 y212
    else
      some (l208, x207)
def F_plot_ownTools__changed_2__scaled_1 (N : Nat) (p0 : (List TPlotTool)) (q1 : Bool) (q2 : TPlot) (q3 : Int) : Option ((List TPlotTool) × Bool) :=
  (F_slices_Clone_PlotTool p0).bind fun y100 =>
  F_plot_ownTools__changed_2__scaled_1_L3 q2 q3 y100 N q1 y100 0


def F_plot_changed_1__scaled_1 (p0 : TPoint) (q1 : Bool) (q2 : TPlot) (q3 : Int) : Option (TPoint × Bool) :=
  (F_plot_scaled_1 p0.X q1 q2 q3).bind fun y103 =>
  (F_plot_scaled_1 p0.Y y103.2 q2 q3).bind fun y105 =>
  some ((TPoint.mk y103.1 y105.1), y105.2)

def F_plot_changed_3__changed_1__scaled_1_L1 (q3 : TPlot) (q4 : Int) (y101 : (TPoint × Bool)) : List TPoint → Nat → Bool → List TPoint → Option (Int × Int × (List TPoint) × Bool)
  | [], iF_plot_changed_3__changed_1__scaled_1_L1, x124, l125 =>
    some (y101.1.X, y101.1.Y, l125, x124)
  | xF_plot_changed_3__changed_1__scaled_1_L1 :: restF_plot_changed_3__changed_1__scaled_1_L1, iF_plot_changed_3__changed_1__scaled_1_L1, x124, l125 =>
    (idx l125 (iF_plot_changed_3__changed_1__scaled_1_L1 : Int)).bind fun x127 =>
    (F_plot_changed_1__scaled_1 x127 x124 q3 q4).bind fun y128 =>
    (idx l125 (iF_plot_changed_3__changed_1__scaled_1_L1 : Int)).bind fun x130 =>
    (sets l125 (iF_plot_changed_3__changed_1__scaled_1_L1 : Int) y128.1).bind fun l131 =>
    (F_plot_changed_3__changed_1__scaled_1_L1 q3 q4 y101 restF_plot_changed_3__changed_1__scaled_1_L1 (iF_plot_changed_3__changed_1__scaled_1_L1 + 1)) y128.2 l131
def F_plot_changed_3__changed_1__scaled_1 (p0 : TPlotStep) (q2 : Bool) (q3 : TPlot) (q4 : Int) : Option (Int × Int × (List TPoint) × Bool) :=
  (F_plot_changed_1__scaled_1 p0.At q2 q3 q4).bind fun y101 =>
  F_plot_changed_3__changed_1__scaled_1_L1 q3 q4 y101 p0.Points 0 y101.2 p0.Points

def F_plot_own__changed_3__changed_1__scaled_1_L1 (q3 : TPlot) (q4 : Int) (rec : (List TPlotStep) → Bool → TPlot → Int → Option ((List TPlotStep) × Bool)) (y100 : (List TPlotStep)) : Nat → Bool → List TPlotStep → Int → Option ((List TPlotStep) × Bool)
  | 0, _, _, _ => none
  | mF_plot_own__changed_3__changed_1__scaled_1_L1 + 1, x157, l158, x159 =>
    if (decide (x159 < (y100.length : Int))) then
      (idx l158 x159).bind fun x160 =>
      (F_slices_Clone_Point x160.Points).bind fun y162 =>
      (idx l158 x159).bind fun x164 =>
      (idx l158 x159).bind fun x166 =>
      (rec x164.Steps x157 q3 q4).bind fun y167 =>
      (idx l158 x159).bind fun x169 =>
      (idx l158 x159).bind fun x170 =>
      (F_plot_changed_3__changed_1__scaled_1 (TPlotStep.mk x164.Kind x164.Name x164.At y162 x164.NX x164.NY y167.1) y167.2 q3 q4).bind fun y171 =>
      (F_plot_own__changed_3__changed_1__scaled_1_L1 q3 q4 rec y100 mF_plot_own__changed_3__changed_1__scaled_1_L1) y171.2.2.2 ((l158).set (x159).toNat (TPlotStep.mk x164.Kind x164.Name (TPoint.mk y171.1 y171.2.1) y171.2.2.1 x164.NX x164.NY y167.1)) (w64 (x159 + 1))
    else
      some (l158, x157)
def F_plot_own__changed_3__changed_1__scaled_1_b (N : Nat) (rec : (List TPlotStep) → Bool → TPlot → Int → Option ((List TPlotStep) × Bool)) (p0 : (List TPlotStep)) (q2 : Bool) (q3 : TPlot) (q4 : Int) : Option ((List TPlotStep) × Bool) :=
  (F_slices_Clone_PlotStep p0).bind fun y100 =>
  F_plot_own__changed_3__changed_1__scaled_1_L1 q3 q4 rec y100 N q2 y100 0
def F_plot_own__changed_3__changed_1__scaled_1 : Nat → (List TPlotStep) → Bool → TPlot → Int → Option ((List TPlotStep) × Bool)
  | 0 => fun _ _ _ _ => none
  | N + 1 => F_plot_own__changed_3__changed_1__scaled_1_b N (F_plot_own__changed_3__changed_1__scaled_1 N)


def F_plot_changed__scaled_1 (N : Nat) (p0 : TPlot) (q0 : Bool) (q1 : TPlot) (q2 : Int) : Option (TPlot × Bool) :=
  (F_plot_ownTools__changed_2__scaled_1 N p0.Tools q0 q1 q2).bind fun y104 =>
  (F_plot_own__changed_3__changed_1__scaled_1 N p0.Steps y104.2 q1 q2).bind fun y106 =>
  some ((TPlot.mk p0.Unit y104.1 y106.1), y106.2)


def F_plot_scaled (N : Nat) (p0 : TPlot) (p1 : Int) : Option (TPlot × Bool) :=
  (F_plot_changed__scaled_1 N p0 true p0 p1).bind fun y104 =>
  some ((TPlot.mk p1 y104.1.Tools y104.1.Steps), y104.2)


def F_plot_told (N : Nat) (p0 : TPlot) : Option (TPlot × Int) :=
  (F_plot_CheckPlot N p0).bind fun y102 =>
  if (y102 != 0) then
    some ((TPlot.mk 0 [] []), y102)
  else
    some (p0, 0)


def F_plot_Scaled (N : Nat) (p0 : TPlot) (p1 : Int) : Option (TPlot × Bool × Int) :=
  (F_plot_CheckPlot N p0).bind fun y102 =>
  if (y102 != 0) then
    some ((TPlot.mk 0 [] []), false, y102)
  else
    (F_plot_within p1 1 1000).bind fun y103 =>
    if (!y103) then
      some ((TPlot.mk 0 [] []), false, 1)
    else
      (F_plot_scaled N p0 p1).bind fun y104 =>
      if (!y104.2) then
        some ((TPlot.mk 0 [] []), false, 0)
      else
        (F_plot_told N y104.1).bind fun y111 =>
        some (y111.1, (y111.2 == 0), y111.2)


def F_etchhouseref3_within (p0 : Int) (p1 : Int) (p2 : Int) : Option Bool :=
  some ((decide (p1 ≤ p0)) && (decide (p0 ≤ p2)))

def F_etchhouseref3_IsName_L1 (p0 : ByteArray) : Nat → Int → Option Bool
  | 0, _ => none
  | mF_etchhouseref3_IsName_L1 + 1, x105 =>
    if (decide (x105 < (p0.size : Int))) then
      (strAt p0 x105).bind fun c106 =>
      if ((!(((decide (97 ≤ c106)) && (decide (c106 ≤ 122))) || ((decide (65 ≤ c106)) && (decide (c106 ≤ 90))))) && ((x105 == 0) || (((c106 != 95) && (c106 != 45)) && (!((decide (48 ≤ c106)) && (decide (c106 ≤ 57))))))) then
        some false
      else
        (F_etchhouseref3_IsName_L1 p0 mF_etchhouseref3_IsName_L1) (w64 (x105 + 1))
    else
      (F_etchhouseref3_within (p0.size : Int) 1 40).bind fun y107 =>
      some y107
def F_etchhouseref3_IsName (N : Nat) (p0 : ByteArray) : Option Bool :=
  F_etchhouseref3_IsName_L1 p0 N 0


def F_etchhouseref1_within (p0 : Int) (p1 : Int) (p2 : Int) : Option Bool :=
  some ((decide (p1 ≤ p0)) && (decide (p0 ≤ p2)))


def F_etchhouseref1_At (p0 : Int) : Option Bool :=
  (F_etchhouseref1_within p0 (-1000000) 1000000).bind fun y100 =>
  some y100


def F_etchhouseref3_fits (p0 : Int) (p1 : Int) : Option Bool :=
  (F_etchhouseref1_At p0).bind fun y100 =>
  (if y100 then 
    (F_etchhouseref1_At (w64 (p0 * p1))).bind fun y103 =>
    some y103
   else some false).bind fun g102 =>
  some g102

def F_etchhouseref3_checkToolRects_L1 (p0 : (List TRect)) (p1 : Int) : Nat → Int → Option Int
  | 0, _ => none
  | mF_etchhouseref3_checkToolRects_L1 + 1, x127 =>
    if (decide (x127 < (p0.length : Int))) then
      (idx p0 x127).bind fun x128 =>
      (F_etchhouseref3_fits x128.X0 p1).bind fun y130 =>
      (if (!y130) then some true else 
        (F_etchhouseref3_fits x128.Y0 p1).bind fun y133 =>
        some (!y133)
      ).bind fun g132 =>
      (if g132 then some true else 
        (F_etchhouseref3_fits x128.X1 p1).bind fun y136 =>
        some (!y136)
      ).bind fun g135 =>
      (if g135 then some true else 
        (F_etchhouseref3_fits x128.Y1 p1).bind fun y139 =>
        some (!y139)
      ).bind fun g138 =>
      if g138 then
        some 1
      else
        if ((decide (x128.X1 ≤ x128.X0)) || (decide (x128.Y1 ≤ x128.Y0))) then
          some 13
        else
          (F_etchhouseref3_checkToolRects_L1 p0 p1 mF_etchhouseref3_checkToolRects_L1) (w64 (x127 + 1))
    else
      some 0
def F_etchhouseref3_checkToolRects (N : Nat) (p0 : (List TRect)) (p1 : Int) : Option Int :=
  if ((p0.length : Int) == 0) then
    some 9
  else
    if (decide (2000 < (p0.length : Int))) then
      some 2
    else
      F_etchhouseref3_checkToolRects_L1 p0 p1 N 0

def F_etchhouseref3_count_J6 (p0 : (List TPlotStep)) (rec : (List TPlotStep) → Option Int) (x164 : Int) (x165 : Int) (kF_etchhouseref3_count_L5 : Int → Int → Option Int) (x171 : Int) (x179 : Int) : Option Int :=
  (idx p0 x165).bind fun x182 =>
  (rec x182.Steps).bind fun y184 =>
  kF_etchhouseref3_count_L5 (w64 ((w64 (x164 + 1)) + (w64 ((w64 (x171 * x179)) * y184)))) (w64 (x165 + 1))
def F_etchhouseref3_count_J7 (p0 : (List TPlotStep)) (rec : (List TPlotStep) → Option Int) (x164 : Int) (x165 : Int) (kF_etchhouseref3_count_L5 : Int → Int → Option Int) (x171 : Int) : Option Int :=
  (idx p0 x165).bind fun x185 =>
  (F_etchhouseref3_within x185.NY 1 100).bind fun y187 =>
  if y187 then
    (idx p0 x165).bind fun x188 =>
    F_etchhouseref3_count_J6 p0 rec x164 x165 kF_etchhouseref3_count_L5 x171 x188.NY
  else
    F_etchhouseref3_count_J6 p0 rec x164 x165 kF_etchhouseref3_count_L5 x171 1
def F_etchhouseref3_count_L5 (p0 : (List TPlotStep)) (rec : (List TPlotStep) → Option Int) : Nat → Int → Int → Option Int
  | 0, _, _ => none
  | mF_etchhouseref3_count_L5 + 1, x164, x165 =>
    if ((decide (x165 < (p0.length : Int))) && (decide (x164 ≤ 3000))) then
      (idx p0 x165).bind fun x190 =>
      (F_etchhouseref3_within x190.NX 1 100).bind fun y192 =>
      if y192 then
        (idx p0 x165).bind fun x193 =>
        F_etchhouseref3_count_J7 p0 rec x164 x165 (F_etchhouseref3_count_L5 p0 rec mF_etchhouseref3_count_L5) x193.NX
      else
        F_etchhouseref3_count_J7 p0 rec x164 x165 (F_etchhouseref3_count_L5 p0 rec mF_etchhouseref3_count_L5) 1
    else
      some (min x164 3001)
def F_etchhouseref3_count_b (N : Nat) (rec : (List TPlotStep) → Option Int) (p0 : (List TPlotStep)) : Option Int :=
  F_etchhouseref3_count_L5 p0 rec N 0 0
def F_etchhouseref3_count : Nat → (List TPlotStep) → Option Int
  | 0 => fun _ => none
  | N + 1 => F_etchhouseref3_count_b N (F_etchhouseref3_count N)

def F_etchhouseref3_fields_J2 (p0 : TPlotStep) (x104 : Bool) (x105 : Bool) (x106 : Bool) (x107 : Bool) : Option Bool :=
  some ((((x104 || (sEq p0.Name ByteArray.empty)) && (x105 || (eqTPoint p0.At (TPoint.mk 0 0)))) && (x106 || ((p0.Points.length : Int) == 0))) && (x107 || (((p0.NX == 0) && (p0.NY == 0)) && ((p0.Steps.length : Int) == 0))))
def F_etchhouseref3_fields_J3 (p0 : TPlotStep) (x110 : Bool) : Option Bool :=
  if x110 then
    F_etchhouseref3_fields_J2 p0 false true false false
  else
    if (p0.Kind == 7) then
      F_etchhouseref3_fields_J2 p0 false false true false
    else
      if (p0.Kind == 8) then
        F_etchhouseref3_fields_J2 p0 false true false true
      else
        F_etchhouseref3_fields_J2 p0 false false false false
def F_etchhouseref3_fields (p0 : TPlotStep) : Option Bool :=
  if (p0.Kind == 3) then
    F_etchhouseref3_fields_J2 p0 true false false false
  else
    if (p0.Kind == 4) then
      F_etchhouseref3_fields_J3 p0 (p0.Kind == 4)
    else
      if (p0.Kind == 5) then
        F_etchhouseref3_fields_J3 p0 (p0.Kind == 5)
      else
        F_etchhouseref3_fields_J3 p0 (p0.Kind == 6)

def F_etchhouseref3_tool_L1 (p0 : TPlot) (p1 : ByteArray) : Nat → Int → Option Int
  | 0, _ => none
  | mF_etchhouseref3_tool_L1 + 1, x108 =>
    if (decide (x108 < (p0.Tools.length : Int))) then
      (idx p0.Tools x108).bind fun x109 =>
      if (sEq x109.Name p1) then
        some x108
      else
        (F_etchhouseref3_tool_L1 p0 p1 mF_etchhouseref3_tool_L1) (w64 (x108 + 1))
    else
      some (-1)
def F_etchhouseref3_tool (N : Nat) (p0 : TPlot) (p1 : ByteArray) : Option Int :=
  F_etchhouseref3_tool_L1 p0 p1 N 0


def F_etchhouseref3_pointFits (p0 : TPoint) (p1 : Int) : Option Bool :=
  (F_etchhouseref3_fits p0.X p1).bind fun y101 =>
  (if y101 then 
    (F_etchhouseref3_fits p0.Y p1).bind fun y104 =>
    some y104
   else some false).bind fun g103 =>
  some g103

def F_etchhouseref3_checkArea_L2 (p0 : (List TPoint)) : Nat → Int → Option Int
  | 0, _ => none
  | mF_etchhouseref3_checkArea_L2 + 1, x127 =>
    if (decide (x127 < (p0.length : Int))) then
      (idx p0 x127).bind fun x129 =>
      (md (w64 (x127 + 1)) (p0.length : Int)).bind fun q130 =>
      (idx p0 q130).bind fun x131 =>
      if ((x129.X == x131.X) == (x129.Y == x131.Y)) then
        some 3
      else
        (F_etchhouseref3_checkArea_L2 p0 mF_etchhouseref3_checkArea_L2) (w64 (x127 + 1))
    else
      some 0
def F_etchhouseref3_checkArea_L1 (N : Nat) (p0 : (List TPoint)) (p1 : Int) : Nat → Int → Option Int
  | 0, _ => none
  | mF_etchhouseref3_checkArea_L1 + 1, x107 =>
    if (decide (x107 < (p0.length : Int))) then
      (idx p0 x107).bind fun x108 =>
      (F_etchhouseref3_pointFits x108 p1).bind fun y109 =>
      if (!y109) then
        some 1
      else
        (F_etchhouseref3_checkArea_L1 N p0 p1 mF_etchhouseref3_checkArea_L1) (w64 (x107 + 1))
    else
      if (decide (2000 < (p0.length : Int))) then
        some 2
      else
        if (decide ((p0.length : Int) < 4)) then
          some 3
        else
          F_etchhouseref3_checkArea_L2 p0 N 0
def F_etchhouseref3_checkArea (N : Nat) (p0 : (List TPoint)) (p1 : Int) : Option Int :=
  F_etchhouseref3_checkArea_L1 N p0 p1 N 0

def F_etchhouseref3_checkStep_J1 : Option Int :=
  some 0
def F_etchhouseref3_checkStep (N : Nat) (p0 : TPlot) (p1 : TPlotStep) (p2 : Int) : Option Int :=
  (F_etchhouseref3_within p1.Kind 1 8).bind fun y102 =>
  if (!y102) then
    some 4
  else
    (F_etchhouseref3_fields p1).bind fun y103 =>
    if (!y103) then
      some 3
    else
      (if (p1.Kind == 3) then 
        (F_etchhouseref3_tool N p0 p1.Name).bind fun y106 =>
        some (decide (y106 < 0))
       else some false).bind fun g105 =>
      if g105 then
        some 5
      else
        (F_etchhouseref3_pointFits p1.At p0.Unit).bind fun y107 =>
        if (!y107) then
          some 1
        else
          if (p1.Kind == 7) then
            (F_etchhouseref3_checkArea N p1.Points p0.Unit).bind fun y108 =>
            some y108
          else
            if (p1.Kind == 8) then
              (F_etchhouseref3_within p1.NX 1 100).bind fun y115 =>
              (if (!y115) then some true else 
                (F_etchhouseref3_within p1.NY 1 100).bind fun y118 =>
                some (!y118)
              ).bind fun g117 =>
              if g117 then
                some 1
              else
                if ((p1.Steps.length : Int) == 0) then
                  some 9
                else
                  if (decide (5 ≤ p2)) then
                    some 2
                  else
                    F_etchhouseref3_checkStep_J1
            else
              F_etchhouseref3_checkStep_J1

def F_etchhouseref3_checkSteps_L1 (N : Nat) (p0 : TPlot) (p1 : (List TPlotStep)) (p2 : Int) (rec : TPlot → (List TPlotStep) → Int → Option Int) : Nat → Int → Option Int
  | 0, _ => none
  | mF_etchhouseref3_checkSteps_L1 + 1, x116 =>
    if (decide (x116 < (p1.length : Int))) then
      (idx p1 x116).bind fun x117 =>
      (F_etchhouseref3_checkStep N p0 x117 p2).bind fun y119 =>
      if (y119 != 0) then
        some y119
      else
        (idx p1 x116).bind fun x120 =>
        (rec p0 x120.Steps (w64 (p2 + 1))).bind fun y122 =>
        if (y122 != 0) then
          some y122
        else
          (F_etchhouseref3_checkSteps_L1 N p0 p1 p2 rec mF_etchhouseref3_checkSteps_L1) (w64 (x116 + 1))
    else
      some 0
def F_etchhouseref3_checkSteps_b (N : Nat) (rec : TPlot → (List TPlotStep) → Int → Option Int) (p0 : TPlot) (p1 : (List TPlotStep)) (p2 : Int) : Option Int :=
  F_etchhouseref3_checkSteps_L1 N p0 p1 p2 rec N 0
def F_etchhouseref3_checkSteps : Nat → TPlot → (List TPlotStep) → Int → Option Int
  | 0 => fun _ _ _ => none
  | N + 1 => F_etchhouseref3_checkSteps_b N (F_etchhouseref3_checkSteps N)

def F_etchhouseref3_CheckPlot_L1 (N : Nat) (p0 : TPlot) : Nat → Int → Option Int
  | 0, _ => none
  | mF_etchhouseref3_CheckPlot_L1 + 1, x125 =>
    if (decide (x125 < (p0.Tools.length : Int))) then
      (idx p0.Tools x125).bind fun x126 =>
      (F_etchhouseref3_IsName N x126.Name).bind fun y129 =>
      if (!y129) then
        some 5
      else
        (F_etchhouseref3_checkToolRects N x126.Rects p0.Unit).bind fun y130 =>
        if (y130 != 0) then
          some y130
        else
          (if (decide (0 < x125)) then 
            (idx p0.Tools (w64 (x125 - 1))).bind fun x134 =>
            some (sLt x126.Name x134.Name || sEq x126.Name x134.Name)
           else some false).bind fun g133 =>
          if g133 then
            some 8
          else
            (F_etchhouseref3_CheckPlot_L1 N p0 mF_etchhouseref3_CheckPlot_L1) (w64 (x125 + 1))
    else
      (F_etchhouseref3_count N p0.Steps).bind fun y136 =>
      if (decide (3000 < y136)) then
        some 2
      else
        (F_etchhouseref3_checkSteps N p0 p0.Steps 0).bind fun y137 =>
        some y137
def F_etchhouseref3_CheckPlot (N : Nat) (p0 : TPlot) : Option Int :=
  (F_etchhouseref3_within p0.Unit 1 1000).bind fun y101 =>
  if (!y101) then
    some 1
  else
    if (decide (200 < (p0.Tools.length : Int))) then
      some 2
    else
      F_etchhouseref3_CheckPlot_L1 N p0 N 0


def F_etchhouseref3_scale (p0 : Int) (p1 : Int) (p2 : Int) : Option (Int × Bool) :=
  (dv (w64 (p0 * p1)) p2).bind fun q100 =>
  (md (w64 (p0 * p1)) p2).bind fun q101 =>
  some (q100, (q101 == 0))


def F_etchhouseref3_scalePoint (p0 : TPoint) (p1 : Int) (p2 : Int) : Option (TPoint × Bool) :=
  (F_etchhouseref3_scale p0.X p1 p2).bind fun y102 =>
  (F_etchhouseref3_scale p0.Y p1 p2).bind fun y103 =>
  some ((TPoint.mk y102.1 y103.1), (y102.2 && y103.2))

def F_etchhouseref3_scaleSteps_L4 (p0 : (List TPlotStep)) (p1 : Int) (p2 : Int) (l213 : List TPlotStep) (x215 : Int) (kF_etchhouseref3_scaleSteps_L3 : (List TPlotStep) → Bool → Int → Option ((List TPlotStep) × Bool)) (x216 : TPlotStep) (y219 : (TPoint × Bool)) (y221 : ((List TPlotStep) × Bool)) : Nat → List TPoint → Bool → Int → Option ((List TPlotStep) × Bool)
  | 0, _, _, _ => none
  | mF_etchhouseref3_scaleSteps_L4 + 1, l250, x251, x252 =>
    (idx p0 x215).bind fun x253 =>
    if (decide (x252 < (x253.Points.length : Int))) then
      (idx p0 x215).bind fun x255 =>
      (idx x255.Points x252).bind fun x257 =>
      (F_etchhouseref3_scalePoint x257 p1 p2).bind fun y258 =>
      (apd l250 [y258.1]).bind fun l261 =>
      (F_etchhouseref3_scaleSteps_L4 p0 p1 p2 l213 x215 kF_etchhouseref3_scaleSteps_L3 x216 y219 y221 mF_etchhouseref3_scaleSteps_L4) l261 (x251 && y258.2) (w64 (x252 + 1))
    else
      (apd l213 [(TPlotStep.mk x216.Kind x216.Name y219.1 l250 x216.NX x216.NY y221.1)]).bind fun l267 =>
      kF_etchhouseref3_scaleSteps_L3 l267 x251 (w64 (x215 + 1))
def F_etchhouseref3_scaleSteps_L3 (N : Nat) (p0 : (List TPlotStep)) (p1 : Int) (p2 : Int) (rec : (List TPlotStep) → Int → Int → Option ((List TPlotStep) × Bool)) : Nat → List TPlotStep → Bool → Int → Option ((List TPlotStep) × Bool)
  | 0, _, _, _ => none
  | mF_etchhouseref3_scaleSteps_L3 + 1, l213, x214, x215 =>
    if (decide (x215 < (p0.length : Int))) then
      (idx p0 x215).bind fun x216 =>
      (F_etchhouseref3_scalePoint x216.At p1 p2).bind fun y219 =>
      (rec x216.Steps p1 p2).bind fun y221 =>
      F_etchhouseref3_scaleSteps_L4 p0 p1 p2 l213 x215 (F_etchhouseref3_scaleSteps_L3 N p0 p1 p2 rec mF_etchhouseref3_scaleSteps_L3) x216 y219 y221 N ([] : List TPoint) ((x214 && y219.2) && y221.2) 0
    else
      some (l213, x214)
def F_etchhouseref3_scaleSteps_b (N : Nat) (rec : (List TPlotStep) → Int → Int → Option ((List TPlotStep) × Bool)) (p0 : (List TPlotStep)) (p1 : Int) (p2 : Int) : Option ((List TPlotStep) × Bool) :=
  F_etchhouseref3_scaleSteps_L3 N p0 p1 p2 rec N ([] : List TPlotStep) true 0
def F_etchhouseref3_scaleSteps : Nat → (List TPlotStep) → Int → Int → Option ((List TPlotStep) × Bool)
  | 0 => fun _ _ _ => none
  | N + 1 => F_etchhouseref3_scaleSteps_b N (F_etchhouseref3_scaleSteps N)

def F_etchhouseref3_scaled_L4 (p0 : TPlot) (p1 : Int) (l222 : List TPlotTool) (x224 : Int) (kF_etchhouseref3_scaled_L3 : (List TPlotTool) → Bool → Int → Option (TPlot × Bool)) (x225 : TPlotTool) : Nat → List TRect → Bool → Int → Option (TPlot × Bool)
  | 0, _, _, _ => none
  | mF_etchhouseref3_scaled_L4 + 1, l261, x262, x263 =>
    (idx p0.Tools x224).bind fun x264 =>
    if (decide (x263 < (x264.Rects.length : Int))) then
      (idx p0.Tools x224).bind fun x266 =>
      (idx x266.Rects x263).bind fun x268 =>
      (F_etchhouseref3_scalePoint (TPoint.mk x268.X0 x268.Y0) p0.Unit p1).bind fun y270 =>
      (F_etchhouseref3_scalePoint (TPoint.mk x268.X1 x268.Y1) p0.Unit p1).bind fun y272 =>
      (apd l261 [(TRect.mk y270.1.X y270.1.Y y272.1.X y272.1.Y)]).bind fun l275 =>
      (F_etchhouseref3_scaled_L4 p0 p1 l222 x224 kF_etchhouseref3_scaled_L3 x225 mF_etchhouseref3_scaled_L4) l275 ((x262 && y270.2) && y272.2) (w64 (x263 + 1))
    else
      (apd l222 [(TPlotTool.mk x225.Name l261)]).bind fun l279 =>
      kF_etchhouseref3_scaled_L3 l279 x262 (w64 (x224 + 1))
def F_etchhouseref3_scaled_L3 (N : Nat) (p0 : TPlot) (p1 : Int) : Nat → List TPlotTool → Bool → Int → Option (TPlot × Bool)
  | 0, _, _, _ => none
  | mF_etchhouseref3_scaled_L3 + 1, l222, x223, x224 =>
    if (decide (x224 < (p0.Tools.length : Int))) then
      (idx p0.Tools x224).bind fun x225 =>
      F_etchhouseref3_scaled_L4 p0 p1 l222 x224 (F_etchhouseref3_scaled_L3 N p0 p1 mF_etchhouseref3_scaled_L3) x225 N ([] : List TRect) x223 0
    else
      (F_etchhouseref3_scaleSteps N p0.Steps p0.Unit p1).bind fun y280 =>
      some ((TPlot.mk p1 l222 y280.1), (x223 && y280.2))
def F_etchhouseref3_scaled (N : Nat) (p0 : TPlot) (p1 : Int) : Option (TPlot × Bool) :=
  F_etchhouseref3_scaled_L3 N p0 p1 N ([] : List TPlotTool) true 0


def F_etchhouseref3_Scaled (N : Nat) (p0 : TPlot) (p1 : Int) : Option (TPlot × Bool × Int) :=
  (F_etchhouseref3_CheckPlot N p0).bind fun y102 =>
  if (y102 != 0) then
    some ((TPlot.mk 0 [] []), false, y102)
  else
    (F_etchhouseref3_within p1 1 1000).bind fun y103 =>
    if (!y103) then
      some ((TPlot.mk 0 [] []), false, 1)
    else
      (F_etchhouseref3_scaled N p0 p1).bind fun y104 =>
      if (!y104.2) then
        some ((TPlot.mk 0 [] []), false, 0)
      else
        (F_etchhouseref3_CheckPlot N y104.1).bind fun y107 =>
        if (y107 != 0) then
          some ((TPlot.mk 0 [] []), false, y107)
        else
          some (y104.1, true, 0)

def F_etchhouseref3_samePoints_L1 (p0 : (List TPoint)) (p1 : (List TPoint)) : Nat → Int → Option Bool
  | 0, _ => none
  | mF_etchhouseref3_samePoints_L1 + 1, x107 =>
    if (decide (x107 < (p0.length : Int))) then
      (idx p0 x107).bind fun x108 =>
      (idx p1 x107).bind fun x109 =>
      if (!(eqTPoint x108 x109)) then
        some false
      else
        (F_etchhouseref3_samePoints_L1 p0 p1 mF_etchhouseref3_samePoints_L1) (w64 (x107 + 1))
    else
      some true
def F_etchhouseref3_samePoints (N : Nat) (p0 : (List TPoint)) (p1 : (List TPoint)) : Option Bool :=
  if ((p0.length : Int) != (p1.length : Int)) then
    some false
  else
    F_etchhouseref3_samePoints_L1 p0 p1 N 0

def F_etchhouseref3_sameSteps_L1 (N : Nat) (p0 : (List TPlotStep)) (p1 : (List TPlotStep)) (rec : (List TPlotStep) → (List TPlotStep) → Option Bool) : Nat → Int → Option Bool
  | 0, _ => none
  | mF_etchhouseref3_sameSteps_L1 + 1, x131 =>
    if (decide (x131 < (p0.length : Int))) then
      (idx p0 x131).bind fun x133 =>
      (idx p1 x131).bind fun x135 =>
      (if (((((x133.Kind != x135.Kind) || (!sEq x133.Name x135.Name)) || (!(eqTPoint x133.At x135.At))) || (x133.NX != x135.NX)) || (x133.NY != x135.NY)) then some true else 
        (F_etchhouseref3_samePoints N x133.Points x135.Points).bind fun y141 =>
        some (!y141)
      ).bind fun g140 =>
      (if g140 then some true else 
        (rec x133.Steps x135.Steps).bind fun y144 =>
        some (!y144)
      ).bind fun g143 =>
      if g143 then
        some false
      else
        (F_etchhouseref3_sameSteps_L1 N p0 p1 rec mF_etchhouseref3_sameSteps_L1) (w64 (x131 + 1))
    else
      some true
def F_etchhouseref3_sameSteps_b (N : Nat) (rec : (List TPlotStep) → (List TPlotStep) → Option Bool) (p0 : (List TPlotStep)) (p1 : (List TPlotStep)) : Option Bool :=
  if ((p0.length : Int) != (p1.length : Int)) then
    some false
  else
    F_etchhouseref3_sameSteps_L1 N p0 p1 rec N 0
def F_etchhouseref3_sameSteps : Nat → (List TPlotStep) → (List TPlotStep) → Option Bool
  | 0 => fun _ _ => none
  | N + 1 => F_etchhouseref3_sameSteps_b N (F_etchhouseref3_sameSteps N)

def F_etchhouseref1_SameRects_L1 (p0 : (List TRect)) (p1 : (List TRect)) : Nat → Int → Option Bool
  | 0, _ => none
  | mF_etchhouseref1_SameRects_L1 + 1, x107 =>
    if (decide (x107 < (p0.length : Int))) then
      (idx p0 x107).bind fun x108 =>
      (idx p1 x107).bind fun x109 =>
      if (!(eqTRect x108 x109)) then
        some false
      else
        (F_etchhouseref1_SameRects_L1 p0 p1 mF_etchhouseref1_SameRects_L1) (w64 (x107 + 1))
    else
      some true
def F_etchhouseref1_SameRects (N : Nat) (p0 : (List TRect)) (p1 : (List TRect)) : Option Bool :=
  if ((p0.length : Int) != (p1.length : Int)) then
    some false
  else
    F_etchhouseref1_SameRects_L1 p0 p1 N 0

def F_etchhouseref3_SamePlot_L1 (N : Nat) (p0 : TPlot) (p1 : TPlot) : Nat → Int → Option Bool
  | 0, _ => none
  | mF_etchhouseref3_SamePlot_L1 + 1, x138 =>
    if (decide (x138 < (p0.Tools.length : Int))) then
      (idx p0.Tools x138).bind fun x139 =>
      (idx p1.Tools x138).bind fun x141 =>
      (if (!sEq x139.Name x141.Name) then some true else 
        (idx p0.Tools x138).bind fun x149 =>
        (idx p1.Tools x138).bind fun x151 =>
        (F_etchhouseref1_SameRects N x149.Rects x151.Rects).bind fun y153 =>
        some (!y153)
      ).bind fun g148 =>
      if g148 then
        some false
      else
        (F_etchhouseref3_SamePlot_L1 N p0 p1 mF_etchhouseref3_SamePlot_L1) (w64 (x138 + 1))
    else
      some true
def F_etchhouseref3_SamePlot (N : Nat) (p0 : TPlot) (p1 : TPlot) : Option Bool :=
  (if ((p0.Unit != p1.Unit) || ((p0.Tools.length : Int) != (p1.Tools.length : Int))) then some true else 
    (F_etchhouseref3_sameSteps N p0.Steps p1.Steps).bind fun y104 =>
    some (!y104)
  ).bind fun g103 =>
  if g103 then
    some false
  else
    F_etchhouseref3_SamePlot_L1 N p0 p1 N 0



def F_plot_points_L1 : List TPoint → Nat → ByteArray → Option ByteArray
  | [], iF_plot_points_L1, x122 =>
    some x122
  | xF_plot_points_L1 :: restF_plot_points_L1, iF_plot_points_L1, x122 =>
    (itoaS xF_plot_points_L1.X).bind fun y124 =>
    (catS (⟨#[32]⟩) y124).bind fun t125 =>
    (catS t125 (⟨#[32]⟩)).bind fun t126 =>
    (itoaS xF_plot_points_L1.Y).bind fun y127 =>
    (catS t126 y127).bind fun t128 =>
    (catS x122 t128).bind fun t129 =>
    (F_plot_points_L1 restF_plot_points_L1 (iF_plot_points_L1 + 1)) t129
def F_plot_points (p0 : (List TPoint)) : Option ByteArray :=
  F_plot_points_L1 p0 0 ByteArray.empty

def F_plot_writeSteps_L1 (rec : ByteArray → (List TPlotStep) → Option ByteArray) : List TPlotStep → Nat → ByteArray → Option ByteArray
  | [], iF_plot_writeSteps_L1, m194 =>
    some m194
  | xF_plot_writeSteps_L1 :: restF_plot_writeSteps_L1, iF_plot_writeSteps_L1, m194 =>
    if (xF_plot_writeSteps_L1.Kind == 1) then
      (sbW m194 (⟨#[100, 97, 114, 107, 10]⟩)).bind fun y197 =>
      (F_plot_writeSteps_L1 rec restF_plot_writeSteps_L1 (iF_plot_writeSteps_L1 + 1)) y197
    else
      if (xF_plot_writeSteps_L1.Kind == 2) then
        (sbW m194 (⟨#[99, 108, 101, 97, 114, 10]⟩)).bind fun y199 =>
        (F_plot_writeSteps_L1 rec restF_plot_writeSteps_L1 (iF_plot_writeSteps_L1 + 1)) y199
      else
        if (xF_plot_writeSteps_L1.Kind == 3) then
          (catS (⟨#[117, 115, 101, 32]⟩) xF_plot_writeSteps_L1.Name).bind fun t201 =>
          (catS t201 (⟨#[10]⟩)).bind fun t202 =>
          (sbW m194 t202).bind fun y203 =>
          (F_plot_writeSteps_L1 rec restF_plot_writeSteps_L1 (iF_plot_writeSteps_L1 + 1)) y203
        else
          if (xF_plot_writeSteps_L1.Kind == 4) then
            (F_plot_points [xF_plot_writeSteps_L1.At]).bind fun y206 =>
            (catS (⟨#[109, 111, 118, 101]⟩) y206).bind fun t207 =>
            (catS t207 (⟨#[10]⟩)).bind fun t208 =>
            (sbW m194 t208).bind fun y209 =>
            (F_plot_writeSteps_L1 rec restF_plot_writeSteps_L1 (iF_plot_writeSteps_L1 + 1)) y209
          else
            if (xF_plot_writeSteps_L1.Kind == 5) then
              (F_plot_points [xF_plot_writeSteps_L1.At]).bind fun y212 =>
              (catS (⟨#[102, 108, 97, 115, 104]⟩) y212).bind fun t213 =>
              (catS t213 (⟨#[10]⟩)).bind fun t214 =>
              (sbW m194 t214).bind fun y215 =>
              (F_plot_writeSteps_L1 rec restF_plot_writeSteps_L1 (iF_plot_writeSteps_L1 + 1)) y215
            else
              if (xF_plot_writeSteps_L1.Kind == 6) then
                (F_plot_points [xF_plot_writeSteps_L1.At]).bind fun y218 =>
                (catS (⟨#[108, 105, 110, 101]⟩) y218).bind fun t219 =>
                (catS t219 (⟨#[10]⟩)).bind fun t220 =>
                (sbW m194 t220).bind fun y221 =>
                (F_plot_writeSteps_L1 rec restF_plot_writeSteps_L1 (iF_plot_writeSteps_L1 + 1)) y221
              else
                if (xF_plot_writeSteps_L1.Kind == 7) then
                  (F_plot_points xF_plot_writeSteps_L1.Points).bind fun y223 =>
                  (catS (⟨#[97, 114, 101, 97]⟩) y223).bind fun t224 =>
                  (catS t224 (⟨#[10]⟩)).bind fun t225 =>
                  (sbW m194 t225).bind fun y226 =>
                  (F_plot_writeSteps_L1 rec restF_plot_writeSteps_L1 (iF_plot_writeSteps_L1 + 1)) y226
                else
                  if (xF_plot_writeSteps_L1.Kind == 8) then
                    (F_plot_points [(TPoint.mk xF_plot_writeSteps_L1.NX xF_plot_writeSteps_L1.NY), xF_plot_writeSteps_L1.At]).bind fun y229 =>
                    (catS (⟨#[114, 101, 112, 101, 97, 116]⟩) y229).bind fun t230 =>
                    (catS t230 (⟨#[10]⟩)).bind fun t231 =>
                    (sbW m194 t231).bind fun y232 =>
                    (rec y232 xF_plot_writeSteps_L1.Steps).bind fun y234 =>
                    (sbW y234 (⟨#[100, 111, 110, 101, 10]⟩)).bind fun y236 =>
                    (F_plot_writeSteps_L1 rec restF_plot_writeSteps_L1 (iF_plot_writeSteps_L1 + 1)) y236
                  else
                    (F_plot_writeSteps_L1 rec restF_plot_writeSteps_L1 (iF_plot_writeSteps_L1 + 1)) m194
def F_plot_writeSteps_b (N : Nat) (rec : ByteArray → (List TPlotStep) → Option ByteArray) (p0 : ByteArray) (p1 : (List TPlotStep)) : Option ByteArray :=
  F_plot_writeSteps_L1 rec p1 0 p0
def F_plot_writeSteps : Nat → ByteArray → (List TPlotStep) → Option ByteArray
  | 0 => fun _ _ => none
  | N + 1 => F_plot_writeSteps_b N (F_plot_writeSteps N)



def F_plot_Text_L4 (kF_plot_Text_L3 : ByteArray → Option (ByteArray × Int)) : List TRect → Nat → ByteArray → Option (ByteArray × Int)
  | [], iF_plot_Text_L4, m208 =>
    (sbW m208 (⟨#[10]⟩)).bind fun y209 =>
    kF_plot_Text_L3 y209
  | xF_plot_Text_L4 :: restF_plot_Text_L4, iF_plot_Text_L4, m208 =>
    (F_plot_points [(TPoint.mk xF_plot_Text_L4.X0 xF_plot_Text_L4.Y0), (TPoint.mk xF_plot_Text_L4.X1 xF_plot_Text_L4.Y1)]).bind fun y213 =>
    (sbW m208 y213).bind fun y214 =>
    (F_plot_Text_L4 kF_plot_Text_L3 restF_plot_Text_L4 (iF_plot_Text_L4 + 1)) y214
def F_plot_Text_L3 (N : Nat) (p0 : TPlot) : List TPlotTool → Nat → ByteArray → Option (ByteArray × Int)
  | [], iF_plot_Text_L3, m178 =>
    (F_plot_writeSteps N m178 p0.Steps).bind fun y179 =>
    (sbL y179).bind fun y181 =>
    if (decide (200000 < y181.1)) then
      some (ByteArray.empty, 2)
    else
      (sbS y181.2).bind fun y183 =>
      some (y183.1, 0)
  | xF_plot_Text_L3 :: restF_plot_Text_L3, iF_plot_Text_L3, m178 =>
    (catS (⟨#[116, 111, 111, 108, 32]⟩) xF_plot_Text_L3.Name).bind fun t187 =>
    (sbW m178 t187).bind fun y188 =>
    F_plot_Text_L4 (F_plot_Text_L3 N p0 restF_plot_Text_L3 (iF_plot_Text_L3 + 1)) xF_plot_Text_L3.Rects 0 y188
def F_plot_Text (N : Nat) (p0 : TPlot) : Option (ByteArray × Int) :=
  (F_plot_CheckPlot N p0).bind fun y101 =>
  if (y101 != 0) then
    some (ByteArray.empty, y101)
  else
    (itoaS p0.Unit).bind fun y103 =>
    (catS (⟨#[117, 110, 105, 116, 32]⟩) y103).bind fun t104 =>
    (catS t104 (⟨#[10]⟩)).bind fun t105 =>
    (sbW ByteArray.empty t105).bind fun y106 =>
    F_plot_Text_L3 N p0 p0.Tools 0 y106


def F_etchhouselaw3_awake (N : Nat)  : Option Bool :=
  (F_plot_Text N (TPlot.mk 7 [] [])).bind fun y100 =>
  some ((y100.2 == 0) && (sEq y100.1 (⟨#[117, 110, 105, 116, 32, 55, 10]⟩)))


def F_etchhouselaw3_PlotsScaledMatchSpec (N : Nat) (p0 : TPlot) (p1 : Int) : Option Bool :=
  (F_plot_Scaled N p0 p1).bind fun y101 =>
  (F_etchhouseref3_Scaled N p0 p1).bind fun y104 =>
  (F_etchhouseref3_SamePlot N y101.1 y104.1).bind fun y107 =>
  (if ((y107 && (y101.2.1 == y104.2.1)) && (y101.2.2 == y104.2.2)) then 
    (F_etchhouselaw3_awake N).bind fun y110 =>
    some y110
   else some false).bind fun g109 =>
  some g109

end Go.Proofs.YtocjndhpgjccoaaDoor
