/- The plain functions: what each function of the program computes; none where it would panic. -/
import Derived.Test.YtneghcpnehiffaaDoorXT
namespace Go.Proofs.YtneghcpnehiffaaDoor
open Go.RowKit

def F_plot_within (p0 : Int) (p1 : Int) (p2 : Int) : Option Bool :=
  some ((decide (p1 ≤ p0)) && (decide (p0 ≤ p2)))

def F_plot_IsName_L1 (p0 : ByteArray) : Nat → Int → Option Bool
  | 0, _ => none
  | mL1 + 1, x105 =>
    if (decide (x105 < (p0.size : Int))) then
      (strAt p0 x105).bind fun c106 =>
      if ((!(((decide (97 ≤ c106)) && (decide (c106 ≤ 122))) || ((decide (65 ≤ c106)) && (decide (c106 ≤ 90))))) && ((x105 == 0) || ((((decide (c106 < 48)) || (decide (57 < c106))) && (c106 != 95)) && (c106 != 45)))) then
        some false
      else
        (F_plot_IsName_L1 p0 mL1) (w64 (x105 + 1))
    else
      some ((decide (1 ≤ (p0.size : Int))) && (decide ((p0.size : Int) ≤ 40)))
def F_plot_IsName (N : Nat) (p0 : ByteArray) : Option Bool :=
  F_plot_IsName_L1 p0 N 0


def F_plot_isAt (p0 : Int) (p1 : Int) : Option Bool :=
  (dv (-1000000) p1).bind fun q100 =>
  (dv 1000000 p1).bind fun q101 =>
  (F_plot_within p0 q100 q101).bind fun y102 =>
  some y102

def F_plot_checkTool_L1 (p1 : Int) : List TRect → Nat → Option Int
  | [], iL1 =>
    some 0
  | xL1 :: restL1, iL1 =>
    (F_plot_isAt xL1.X0 p1).bind fun y116 =>
    (if (!y116) then some true else 
      (F_plot_isAt xL1.Y0 p1).bind fun y119 =>
      some (!y119)
    ).bind fun g118 =>
    (if g118 then some true else 
      (F_plot_isAt xL1.X1 p1).bind fun y122 =>
      some (!y122)
    ).bind fun g121 =>
    (if g121 then some true else 
      (F_plot_isAt xL1.Y1 p1).bind fun y125 =>
      some (!y125)
    ).bind fun g124 =>
    if g124 then
      some 1
    else
      if ((decide (xL1.X1 ≤ xL1.X0)) || (decide (xL1.Y1 ≤ xL1.Y0))) then
        some 13
      else
        (F_plot_checkTool_L1 p1 restL1 (iL1 + 1))
def F_plot_checkTool (N : Nat) (p0 : TPlotTool) (p1 : Int) : Option Int :=
  (F_plot_IsName N p0.Name).bind fun y101 =>
  if (!y101) then
    some 5
  else
    if ((p0.Rects.length : Int) == 0) then
      some 9
    else
      if (decide (2000 < (p0.Rects.length : Int))) then
        some 2
      else
        F_plot_checkTool_L1 p1 p0.Rects 0


def F_plot_times_1 (p0 : Int) : Option Int :=
  (F_plot_within p0 1 100).bind fun y100 =>
  if y100 then
    some p0
  else
    some 1


def F_plot_times (p0 : TPlotStep) : Option Int :=
  (F_plot_times_1 p0.NX).bind fun y101 =>
  (F_plot_times_1 p0.NY).bind fun y102 =>
  some (w64 (y101 * y102))

def F_plot_count_J4 (kL3 : Int → Option Int) (x131 : Int) : Option Int :=
  if (decide (3000 < x131)) then
    some 3001
  else
    kL3 x131
def F_plot_count_L3 (rec : (List TPlotStep) → Option Int) : List TPlotStep → Nat → Int → Option Int
  | [], iL3, x126 =>
    some x126
  | xL3 :: restL3, iL3, x126 =>
    if (decide (0 < (xL3.Steps.length : Int))) then
      (F_plot_times xL3).bind fun y134 =>
      (rec xL3.Steps).bind fun y135 =>
      F_plot_count_J4 (F_plot_count_L3 rec restL3 (iL3 + 1)) (w64 ((w64 (x126 + 1)) + (w64 (y134 * y135))))
    else
      F_plot_count_J4 (F_plot_count_L3 rec restL3 (iL3 + 1)) (w64 (x126 + 1))
def F_plot_count_b (N : Nat) (rec : (List TPlotStep) → Option Int) (p0 : (List TPlotStep)) : Option Int :=
  F_plot_count_L3 rec p0 0 0
def F_plot_count : Nat → (List TPlotStep) → Option Int
  | 0 => fun _ => none
  | N + 1 => F_plot_count_b N (F_plot_count N)

def F_plot_fieldsOf_J1 (p0 : Int) (x101 : Bool) : Option TFields :=
  if x101 then
    some (TFields.mk false true false false)
  else
    if (p0 == 7) then
      some (TFields.mk false false true false)
    else
      if (p0 == 8) then
        some (TFields.mk false true false true)
      else
        some (TFields.mk false false false false)
def F_plot_fieldsOf (p0 : Int) : Option TFields :=
  if (p0 == 3) then
    some (TFields.mk true false false false)
  else
    if (p0 == 4) then
      F_plot_fieldsOf_J1 p0 (p0 == 4)
    else
      if (p0 == 5) then
        F_plot_fieldsOf_J1 p0 (p0 == 5)
      else
        F_plot_fieldsOf_J1 p0 (p0 == 6)


def F_plot_toolAt_1 (p0 : TPlotTool) (q0 : ByteArray) : Option Bool :=
  some (sEq p0.Name q0)

def F_slices_IndexFunc_PlotTool__toolAt_1_L1 (q0 : ByteArray) : List TPlotTool → Nat → Option Int
  | [], iL1 =>
    some (-1)
  | xL1 :: restL1, iL1 =>
    (F_plot_toolAt_1 xL1 q0).bind fun y105 =>
    if y105 then
      some (iL1 : Int)
    else
      (F_slices_IndexFunc_PlotTool__toolAt_1_L1 q0 restL1 (iL1 + 1))
def F_slices_IndexFunc_PlotTool__toolAt_1 (p0 : (List TPlotTool)) (q0 : ByteArray) : Option Int :=
  F_slices_IndexFunc_PlotTool__toolAt_1_L1 q0 p0 0


def F_plot_toolAt (p0 : TPlot) (p1 : ByteArray) : Option Int :=
  (F_slices_IndexFunc_PlotTool__toolAt_1 p0.Tools p1).bind fun y102 =>
  some y102


def F_plot_isPoint (p0 : TPoint) (p1 : Int) : Option Bool :=
  (F_plot_isAt p0.X p1).bind fun y101 =>
  (if y101 then 
    (F_plot_isAt p0.Y p1).bind fun y104 =>
    some y104
   else some false).bind fun g103 =>
  some g103


def F_plot_checkStep_1 (p0 : TPoint) (q0 : TPlot) : Option Bool :=
  (F_plot_isPoint p0 q0.Unit).bind fun y101 =>
  some (!y101)

def F_slices_IndexFunc_Point_L1 (p1 : TPoint → Option Bool) : List TPoint → Nat → Option Int
  | [], iL1 =>
    some (-1)
  | xL1 :: restL1, iL1 =>
    (p1 xL1).bind fun y103 =>
    if y103 then
      some (iL1 : Int)
    else
      (F_slices_IndexFunc_Point_L1 p1 restL1 (iL1 + 1))
def F_slices_IndexFunc_Point (p0 : (List TPoint)) (p1 : TPoint → Option Bool) : Option Int :=
  F_slices_IndexFunc_Point_L1 p1 p0 0


def F_slices_ContainsFunc_Point (p0 : (List TPoint)) (p1 : TPoint → Option Bool) : Option Bool :=
  (F_slices_IndexFunc_Point p0 p1).bind fun y100 =>
  some (decide (0 ≤ y100))

def F_shape_IsRow_L1 (p0 : (List TPoint)) : List TPoint → Nat → Option Bool
  | [], iL1 =>
    some true
  | xL1 :: restL1, iL1 =>
    (md (w64 ((iL1 : Int) + 1)) (p0.length : Int)).bind fun q107 =>
    (idx p0 q107).bind fun x108 =>
    if ((xL1.X == x108.X) == (xL1.Y == x108.Y)) then
      some false
    else
      (F_shape_IsRow_L1 p0 restL1 (iL1 + 1))
def F_shape_IsRow (p0 : (List TPoint)) : Option Bool :=
  if (decide ((p0.length : Int) < 4)) then
    some false
  else
    F_shape_IsRow_L1 p0 p0 0

def F_plot_checkStep_J1 (p0 : TPlot) (p1 : TPlotStep) (p2 : Int) (y103 : TFields) (x105 : Bool) : Option Int :=
  if x105 then
    some 3
  else
    (if y103.name then 
      (F_plot_toolAt p0 p1.Name).bind fun y110 =>
      some (decide (y110 < 0))
     else some false).bind fun g109 =>
    if g109 then
      some 5
    else
      (F_plot_isPoint p1.At p0.Unit).bind fun y111 =>
      (if (!y111) then some true else 
        (F_slices_ContainsFunc_Point p1.Points (fun z0 => F_plot_checkStep_1 z0 p0)).bind fun y114 =>
        some y114
      ).bind fun g113 =>
      if g113 then
        some 1
      else
        if (decide (2000 < (p1.Points.length : Int))) then
          some 2
        else
          (if y103.points then 
            (F_shape_IsRow p1.Points).bind fun y117 =>
            some (!y117)
           else some false).bind fun g116 =>
          if g116 then
            some 3
          else
            if (!y103.repeat_) then
              some 0
            else
              (F_plot_within p1.NX 1 100).bind fun y118 =>
              (if (!y118) then some true else 
                (F_plot_within p1.NY 1 100).bind fun y121 =>
                some (!y121)
              ).bind fun g120 =>
              if g120 then
                some 1
              else
                if ((p1.Steps.length : Int) == 0) then
                  some 9
                else
                  if (decide (5 ≤ p2)) then
                    some 2
                  else
                    some 0
def F_plot_checkStep (p0 : TPlot) (p1 : TPlotStep) (p2 : Int) : Option Int :=
  (F_plot_within p1.Kind 1 8).bind fun y102 =>
  if (!y102) then
    some 4
  else
    (F_plot_fieldsOf p1.Kind).bind fun y103 =>
    if ((!y103.name) && (!sEq p1.Name ByteArray.empty)) then
      F_plot_checkStep_J1 p0 p1 p2 y103 ((!y103.name) && (!sEq p1.Name ByteArray.empty))
    else
      if ((!y103.at_) && (!(eqTPoint p1.At (TPoint.mk 0 0)))) then
        F_plot_checkStep_J1 p0 p1 p2 y103 ((!y103.at_) && (!(eqTPoint p1.At (TPoint.mk 0 0))))
      else
        if ((!y103.points) && (decide (0 < (p1.Points.length : Int)))) then
          F_plot_checkStep_J1 p0 p1 p2 y103 ((!y103.points) && (decide (0 < (p1.Points.length : Int))))
        else
          F_plot_checkStep_J1 p0 p1 p2 y103 ((!y103.repeat_) && (((p1.NX != 0) || (p1.NY != 0)) || (decide (0 < (p1.Steps.length : Int)))))

def F_plot_checkSteps_L1 (p0 : TPlot) (p2 : Int) (rec : TPlot → (List TPlotStep) → Int → Option Int) : List TPlotStep → Nat → Option Int
  | [], iL1 =>
    some 0
  | xL1 :: restL1, iL1 =>
    (F_plot_checkStep p0 xL1 p2).bind fun y109 =>
    if (y109 != 0) then
      some y109
    else
      (rec p0 xL1.Steps (w64 (p2 + 1))).bind fun y110 =>
      if (y110 != 0) then
        some y110
      else
        (F_plot_checkSteps_L1 p0 p2 rec restL1 (iL1 + 1))
def F_plot_checkSteps_b (N : Nat) (rec : TPlot → (List TPlotStep) → Int → Option Int) (p0 : TPlot) (p1 : (List TPlotStep)) (p2 : Int) : Option Int :=
  F_plot_checkSteps_L1 p0 p2 rec p1 0
def F_plot_checkSteps : Nat → TPlot → (List TPlotStep) → Int → Option Int
  | 0 => fun _ _ _ => none
  | N + 1 => F_plot_checkSteps_b N (F_plot_checkSteps N)

def F_plot_CheckPlot_L1 (N : Nat) (p0 : TPlot) : List TPlotTool → Nat → Option Int
  | [], iL1 =>
    (F_plot_count N p0.Steps).bind fun y112 =>
    if (decide (3000 < y112)) then
      some 2
    else
      (F_plot_checkSteps N p0 p0.Steps 0).bind fun y113 =>
      some y113
  | xL1 :: restL1, iL1 =>
    (F_plot_checkTool N xL1 p0.Unit).bind fun y116 =>
    if (y116 != 0) then
      some y116
    else
      (if (decide (0 < (iL1 : Int))) then 
        (idx p0.Tools (w64 ((iL1 : Int) - 1))).bind fun x120 =>
        some (sLt xL1.Name x120.Name || sEq xL1.Name x120.Name)
       else some false).bind fun g119 =>
      if g119 then
        some 8
      else
        (F_plot_CheckPlot_L1 N p0 restL1 (iL1 + 1))
def F_plot_CheckPlot (N : Nat) (p0 : TPlot) : Option Int :=
  (F_plot_within p0.Unit 1 1000).bind fun y101 =>
  if (!y101) then
    some 1
  else
    if (decide (200 < (p0.Tools.length : Int))) then
      some 2
    else
      F_plot_CheckPlot_L1 N p0 p0.Tools 0


def F_shape_within (p0 : Int) (p1 : Int) (p2 : Int) : Option Bool :=
  some ((decide (p1 ≤ p0)) && (decide (p0 ≤ p2)))


def F_shape_IsAt (p0 : Int) : Option Bool :=
  (F_shape_within p0 (-1000000) 1000000).bind fun y100 =>
  some y100


def F_shape_IsPoint (p0 : TPoint) : Option Bool :=
  (F_shape_IsAt p0.X).bind fun y101 =>
  (if y101 then 
    (F_shape_IsAt p0.Y).bind fun y104 =>
    some y104
   else some false).bind fun g103 =>
  some g103

def F_plot_Moved_1_L1 (q0 : Int) (q1 : Int) (x101 : Int) (x102 : Int) : List TPoint → Nat → List TPoint → Option (Int × Int × (List TPoint))
  | [], iL1, l123 =>
    some (x101, x102, l123)
  | xL1 :: restL1, iL1, l123 =>
    (idx l123 (iL1 : Int)).bind fun x124 =>
    (idx l123 (iL1 : Int)).bind fun x125 =>
    (sets l123 (iL1 : Int) (TPoint.mk (w64 (x124.X + q0)) x125.Y)).bind fun l126 =>
    (idx l126 (iL1 : Int)).bind fun x127 =>
    (idx l126 (iL1 : Int)).bind fun x128 =>
    (sets l126 (iL1 : Int) (TPoint.mk x128.X (w64 (x127.Y + q1)))).bind fun l129 =>
    (F_plot_Moved_1_L1 q0 q1 x101 x102 restL1 (iL1 + 1)) l129
def F_plot_Moved_1_J2 (p0 : TPlotStep) (q0 : Int) (q1 : Int) (x101 : Int) (x102 : Int) : Option (Int × Int × (List TPoint)) :=
  F_plot_Moved_1_L1 q0 q1 x101 x102 p0.Points 0 p0.Points
def F_plot_Moved_1 (p0 : TPlotStep) (q0 : Int) (q1 : Int) : Option (Int × Int × (List TPoint)) :=
  (F_plot_fieldsOf p0.Kind).bind fun y130 =>
  if (y130.at_ && (p0.Kind != 8)) then
    F_plot_Moved_1_J2 p0 q0 q1 (w64 (p0.At.X + q0)) (w64 (p0.At.Y + q1))
  else
    F_plot_Moved_1_J2 p0 q0 q1 p0.At.X p0.At.Y


def F_slices_Clone_PlotStep (p0 : (List TPlotStep)) : Option (List TPlotStep) :=
  (apd ([] : List TPlotStep) p0).bind fun l101 =>
  some l101


def F_slices_Clone_Point (p0 : (List TPoint)) : Option (List TPoint) :=
  (apd ([] : List TPoint) p0).bind fun l101 =>
  some l101


def F_slices_Clone_PlotTool (p0 : (List TPlotTool)) : Option (List TPlotTool) :=
  (apd ([] : List TPlotTool) p0).bind fun l101 =>
  some l101


def F_slices_Clone_Rect (p0 : (List TRect)) : Option (List TRect) :=
  (apd ([] : List TRect) p0).bind fun l101 =>
  some l101

def F_plot_ownTools_L4 (p1 : TRect → Option TRect) (l184 : List TPlotTool) (x185 : Int) (kL3 : (List TPlotTool) → Int → Option (List TPlotTool)) (x190 : TPlotTool) : List TRect → Nat → List TRect → Option (List TPlotTool)
  | [], iL4, l211 =>
    kL3 ((l184).set (x185).toNat (TPlotTool.mk x190.Name l211)) (w64 (x185 + 1))
  | xL4 :: restL4, iL4, l211 =>
    (idx l211 (iL4 : Int)).bind fun x215 =>
    (idx l184 x185).bind fun x217 =>
    (p1 x215).bind fun y218 =>
    (idx l211 (iL4 : Int)).bind fun x219 =>
    (sets l211 (iL4 : Int) y218).bind fun l220 =>
    (F_plot_ownTools_L4 p1 l184 x185 kL3 x190 restL4 (iL4 + 1)) l220
def F_plot_ownTools_L3 (p1 : TRect → Option TRect) (y100 : (List TPlotTool)) : Nat → List TPlotTool → Int → Option (List TPlotTool)
  | 0, _, _ => none
  | mL3 + 1, l184, x185 =>
    if (decide (x185 < (y100.length : Int))) then
      (idx l184 x185).bind fun x186 =>
      (F_slices_Clone_Rect x186.Rects).bind fun y188 =>
      (idx l184 x185).bind fun x190 =>
      (idx l184 x185).bind fun x192 =>
      F_plot_ownTools_L4 p1 l184 x185 (F_plot_ownTools_L3 p1 y100 mL3) x190 y188 0 y188
    else
      some l184
def F_plot_ownTools (N : Nat) (p0 : (List TPlotTool)) (p1 : TRect → Option TRect) : Option (List TPlotTool) :=
  (F_slices_Clone_PlotTool p0).bind fun y100 =>
  F_plot_ownTools_L3 p1 y100 N y100 0


def F_plot_asItIs (p0 : TRect) : Option TRect :=
  some p0


def F_plot_told (N : Nat) (p0 : TPlot) : Option (TPlot × Int) :=
  (F_plot_CheckPlot N p0).bind fun y102 =>
  if (y102 != 0) then
    some ((TPlot.mk 0 [] []), y102)
  else
    some (p0, 0)

def F_plot_own__Moved_1_L1 (q0 : Int) (q1 : Int) (rec : (List TPlotStep) → Int → Int → Option (List TPlotStep)) (y100 : (List TPlotStep)) : Nat → List TPlotStep → Int → Option (List TPlotStep)
  | 0, _, _ => none
  | mL1 + 1, l154, x155 =>
    if (decide (x155 < (y100.length : Int))) then
      (idx l154 x155).bind fun x156 =>
      (F_slices_Clone_Point x156.Points).bind fun y158 =>
      (idx l154 x155).bind fun x160 =>
      (idx l154 x155).bind fun x162 =>
      (rec x160.Steps q0 q1).bind fun y163 =>
      (idx l154 x155).bind fun x165 =>
      (idx l154 x155).bind fun x166 =>
      (F_plot_Moved_1 (TPlotStep.mk x160.Kind x160.Name x160.At y158 x160.NX x160.NY y163) q0 q1).bind fun y167 =>
      (F_plot_own__Moved_1_L1 q0 q1 rec y100 mL1) ((l154).set (x155).toNat (TPlotStep.mk x160.Kind x160.Name (TPoint.mk y167.1 y167.2.1) y167.2.2 x160.NX x160.NY y163)) (w64 (x155 + 1))
    else
      some l154
def F_plot_own__Moved_1_b (N : Nat) (rec : (List TPlotStep) → Int → Int → Option (List TPlotStep)) (p0 : (List TPlotStep)) (q0 : Int) (q1 : Int) : Option (List TPlotStep) :=
  (F_slices_Clone_PlotStep p0).bind fun y100 =>
  F_plot_own__Moved_1_L1 q0 q1 rec y100 N y100 0
def F_plot_own__Moved_1 : Nat → (List TPlotStep) → Int → Int → Option (List TPlotStep)
  | 0 => fun _ _ _ => none
  | N + 1 => F_plot_own__Moved_1_b N (F_plot_own__Moved_1 N)


def F_plot_Moved (N : Nat) (p0 : TPlot) (p1 : TPoint) : Option (TPlot × Int) :=
  (F_plot_CheckPlot N p0).bind fun y103 =>
  if (y103 != 0) then
    some ((TPlot.mk 0 [] []), y103)
  else
    (F_shape_IsPoint p1).bind fun y104 =>
    if (!y104) then
      some ((TPlot.mk 0 [] []), 1)
    else
      (md p1.X p0.Unit).bind fun q105 =>
      (if (q105 != 0) then some true else 
        (md p1.Y p0.Unit).bind fun q108 =>
        some (q108 != 0)
      ).bind fun g107 =>
      if g107 then
        some ((TPlot.mk 0 [] []), 3)
      else
        (dv p1.X p0.Unit).bind fun q110 =>
        (dv p1.Y p0.Unit).bind fun q111 =>
        (F_plot_own__Moved_1 N p0.Steps q110 q111).bind fun y114 =>
        (F_plot_ownTools N p0.Tools (fun z0 => F_plot_asItIs z0)).bind fun y117 =>
        (F_plot_told N (TPlot.mk p0.Unit y117 y114)).bind fun y123 =>
        some (y123.1, y123.2)


def F_etchhouseref3_within (p0 : Int) (p1 : Int) (p2 : Int) : Option Bool :=
  some ((decide (p1 ≤ p0)) && (decide (p0 ≤ p2)))

def F_etchhouseref3_IsName_L1 (p0 : ByteArray) : Nat → Int → Option Bool
  | 0, _ => none
  | mL1 + 1, x105 =>
    if (decide (x105 < (p0.size : Int))) then
      (strAt p0 x105).bind fun c106 =>
      if ((!(((decide (97 ≤ c106)) && (decide (c106 ≤ 122))) || ((decide (65 ≤ c106)) && (decide (c106 ≤ 90))))) && ((x105 == 0) || (((c106 != 95) && (c106 != 45)) && (!((decide (48 ≤ c106)) && (decide (c106 ≤ 57))))))) then
        some false
      else
        (F_etchhouseref3_IsName_L1 p0 mL1) (w64 (x105 + 1))
    else
      (F_etchhouseref3_within (p0.size : Int) 1 40).bind fun y107 =>
      some y107
def F_etchhouseref3_IsName (N : Nat) (p0 : ByteArray) : Option Bool :=
  F_etchhouseref3_IsName_L1 p0 N 0


def F_etchhouseref1_within (p0 : Int) (p1 : Int) (p2 : Int) : Option Bool :=
  some ((decide (p1 ≤ p0)) && (decide (p0 ≤ p2)))


def F_etchhouseref1_At (p0 : Int) : Option Bool :=
  (F_etchhouseref1_within p0 (-1000000) 1000000).bind fun y100 =>
  some y100


def F_etchhouseref3_fits (p0 : Int) (p1 : Int) : Option Bool :=
  (F_etchhouseref1_At p0).bind fun y100 =>
  (if y100 then 
    (F_etchhouseref1_At (w64 (p0 * p1))).bind fun y103 =>
    some y103
   else some false).bind fun g102 =>
  some g102

def F_etchhouseref3_checkToolRects_L1 (p0 : (List TRect)) (p1 : Int) : Nat → Int → Option Int
  | 0, _ => none
  | mL1 + 1, x127 =>
    if (decide (x127 < (p0.length : Int))) then
      (idx p0 x127).bind fun x128 =>
      (F_etchhouseref3_fits x128.X0 p1).bind fun y130 =>
      (if (!y130) then some true else 
        (F_etchhouseref3_fits x128.Y0 p1).bind fun y133 =>
        some (!y133)
      ).bind fun g132 =>
      (if g132 then some true else 
        (F_etchhouseref3_fits x128.X1 p1).bind fun y136 =>
        some (!y136)
      ).bind fun g135 =>
      (if g135 then some true else 
        (F_etchhouseref3_fits x128.Y1 p1).bind fun y139 =>
        some (!y139)
      ).bind fun g138 =>
      if g138 then
        some 1
      else
        if ((decide (x128.X1 ≤ x128.X0)) || (decide (x128.Y1 ≤ x128.Y0))) then
          some 13
        else
          (F_etchhouseref3_checkToolRects_L1 p0 p1 mL1) (w64 (x127 + 1))
    else
      some 0
def F_etchhouseref3_checkToolRects (N : Nat) (p0 : (List TRect)) (p1 : Int) : Option Int :=
  if ((p0.length : Int) == 0) then
    some 9
  else
    if (decide (2000 < (p0.length : Int))) then
      some 2
    else
      F_etchhouseref3_checkToolRects_L1 p0 p1 N 0

def F_etchhouseref3_count_J6 (p0 : (List TPlotStep)) (rec : (List TPlotStep) → Option Int) (x164 : Int) (x165 : Int) (kL5 : Int → Int → Option Int) (x171 : Int) (x179 : Int) : Option Int :=
  (idx p0 x165).bind fun x182 =>
  (rec x182.Steps).bind fun y184 =>
  kL5 (w64 ((w64 (x164 + 1)) + (w64 ((w64 (x171 * x179)) * y184)))) (w64 (x165 + 1))
def F_etchhouseref3_count_J7 (p0 : (List TPlotStep)) (rec : (List TPlotStep) → Option Int) (x164 : Int) (x165 : Int) (kL5 : Int → Int → Option Int) (x171 : Int) : Option Int :=
  (idx p0 x165).bind fun x185 =>
  (F_etchhouseref3_within x185.NY 1 100).bind fun y187 =>
  if y187 then
    (idx p0 x165).bind fun x188 =>
    F_etchhouseref3_count_J6 p0 rec x164 x165 kL5 x171 x188.NY
  else
    F_etchhouseref3_count_J6 p0 rec x164 x165 kL5 x171 1
def F_etchhouseref3_count_L5 (p0 : (List TPlotStep)) (rec : (List TPlotStep) → Option Int) : Nat → Int → Int → Option Int
  | 0, _, _ => none
  | mL5 + 1, x164, x165 =>
    if ((decide (x165 < (p0.length : Int))) && (decide (x164 ≤ 3000))) then
      (idx p0 x165).bind fun x190 =>
      (F_etchhouseref3_within x190.NX 1 100).bind fun y192 =>
      if y192 then
        (idx p0 x165).bind fun x193 =>
        F_etchhouseref3_count_J7 p0 rec x164 x165 (F_etchhouseref3_count_L5 p0 rec mL5) x193.NX
      else
        F_etchhouseref3_count_J7 p0 rec x164 x165 (F_etchhouseref3_count_L5 p0 rec mL5) 1
    else
      some (min x164 3001)
def F_etchhouseref3_count_b (N : Nat) (rec : (List TPlotStep) → Option Int) (p0 : (List TPlotStep)) : Option Int :=
  F_etchhouseref3_count_L5 p0 rec N 0 0
def F_etchhouseref3_count : Nat → (List TPlotStep) → Option Int
  | 0 => fun _ => none
  | N + 1 => F_etchhouseref3_count_b N (F_etchhouseref3_count N)

def F_etchhouseref3_fields_J2 (p0 : TPlotStep) (x104 : Bool) (x105 : Bool) (x106 : Bool) (x107 : Bool) : Option Bool :=
  some ((((x104 || (sEq p0.Name ByteArray.empty)) && (x105 || (eqTPoint p0.At (TPoint.mk 0 0)))) && (x106 || ((p0.Points.length : Int) == 0))) && (x107 || (((p0.NX == 0) && (p0.NY == 0)) && ((p0.Steps.length : Int) == 0))))
def F_etchhouseref3_fields_J3 (p0 : TPlotStep) (x110 : Bool) : Option Bool :=
  if x110 then
    F_etchhouseref3_fields_J2 p0 false true false false
  else
    if (p0.Kind == 7) then
      F_etchhouseref3_fields_J2 p0 false false true false
    else
      if (p0.Kind == 8) then
        F_etchhouseref3_fields_J2 p0 false true false true
      else
        F_etchhouseref3_fields_J2 p0 false false false false
def F_etchhouseref3_fields (p0 : TPlotStep) : Option Bool :=
  if (p0.Kind == 3) then
    F_etchhouseref3_fields_J2 p0 true false false false
  else
    if (p0.Kind == 4) then
      F_etchhouseref3_fields_J3 p0 (p0.Kind == 4)
    else
      if (p0.Kind == 5) then
        F_etchhouseref3_fields_J3 p0 (p0.Kind == 5)
      else
        F_etchhouseref3_fields_J3 p0 (p0.Kind == 6)

def F_etchhouseref3_tool_L1 (p0 : TPlot) (p1 : ByteArray) : Nat → Int → Option Int
  | 0, _ => none
  | mL1 + 1, x108 =>
    if (decide (x108 < (p0.Tools.length : Int))) then
      (idx p0.Tools x108).bind fun x109 =>
      if (sEq x109.Name p1) then
        some x108
      else
        (F_etchhouseref3_tool_L1 p0 p1 mL1) (w64 (x108 + 1))
    else
      some (-1)
def F_etchhouseref3_tool (N : Nat) (p0 : TPlot) (p1 : ByteArray) : Option Int :=
  F_etchhouseref3_tool_L1 p0 p1 N 0


def F_etchhouseref3_pointFits (p0 : TPoint) (p1 : Int) : Option Bool :=
  (F_etchhouseref3_fits p0.X p1).bind fun y101 =>
  (if y101 then 
    (F_etchhouseref3_fits p0.Y p1).bind fun y104 =>
    some y104
   else some false).bind fun g103 =>
  some g103

def F_etchhouseref3_checkArea_L2 (p0 : (List TPoint)) : Nat → Int → Option Int
  | 0, _ => none
  | mL2 + 1, x127 =>
    if (decide (x127 < (p0.length : Int))) then
      (idx p0 x127).bind fun x129 =>
      (md (w64 (x127 + 1)) (p0.length : Int)).bind fun q130 =>
      (idx p0 q130).bind fun x131 =>
      if ((x129.X == x131.X) == (x129.Y == x131.Y)) then
        some 3
      else
        (F_etchhouseref3_checkArea_L2 p0 mL2) (w64 (x127 + 1))
    else
      some 0
def F_etchhouseref3_checkArea_L1 (N : Nat) (p0 : (List TPoint)) (p1 : Int) : Nat → Int → Option Int
  | 0, _ => none
  | mL1 + 1, x107 =>
    if (decide (x107 < (p0.length : Int))) then
      (idx p0 x107).bind fun x108 =>
      (F_etchhouseref3_pointFits x108 p1).bind fun y109 =>
      if (!y109) then
        some 1
      else
        (F_etchhouseref3_checkArea_L1 N p0 p1 mL1) (w64 (x107 + 1))
    else
      if (decide (2000 < (p0.length : Int))) then
        some 2
      else
        if (decide ((p0.length : Int) < 4)) then
          some 3
        else
          F_etchhouseref3_checkArea_L2 p0 N 0
def F_etchhouseref3_checkArea (N : Nat) (p0 : (List TPoint)) (p1 : Int) : Option Int :=
  F_etchhouseref3_checkArea_L1 N p0 p1 N 0

def F_etchhouseref3_checkStep_J1 : Option Int :=
  some 0
def F_etchhouseref3_checkStep (N : Nat) (p0 : TPlot) (p1 : TPlotStep) (p2 : Int) : Option Int :=
  (F_etchhouseref3_within p1.Kind 1 8).bind fun y102 =>
  if (!y102) then
    some 4
  else
    (F_etchhouseref3_fields p1).bind fun y103 =>
    if (!y103) then
      some 3
    else
      (if (p1.Kind == 3) then 
        (F_etchhouseref3_tool N p0 p1.Name).bind fun y106 =>
        some (decide (y106 < 0))
       else some false).bind fun g105 =>
      if g105 then
        some 5
      else
        (F_etchhouseref3_pointFits p1.At p0.Unit).bind fun y107 =>
        if (!y107) then
          some 1
        else
          if (p1.Kind == 7) then
            (F_etchhouseref3_checkArea N p1.Points p0.Unit).bind fun y108 =>
            some y108
          else
            if (p1.Kind == 8) then
              (F_etchhouseref3_within p1.NX 1 100).bind fun y115 =>
              (if (!y115) then some true else 
                (F_etchhouseref3_within p1.NY 1 100).bind fun y118 =>
                some (!y118)
              ).bind fun g117 =>
              if g117 then
                some 1
              else
                if ((p1.Steps.length : Int) == 0) then
                  some 9
                else
                  if (decide (5 ≤ p2)) then
                    some 2
                  else
                    F_etchhouseref3_checkStep_J1
            else
              F_etchhouseref3_checkStep_J1

def F_etchhouseref3_checkSteps_L1 (N : Nat) (p0 : TPlot) (p1 : (List TPlotStep)) (p2 : Int) (rec : TPlot → (List TPlotStep) → Int → Option Int) : Nat → Int → Option Int
  | 0, _ => none
  | mL1 + 1, x116 =>
    if (decide (x116 < (p1.length : Int))) then
      (idx p1 x116).bind fun x117 =>
      (F_etchhouseref3_checkStep N p0 x117 p2).bind fun y119 =>
      if (y119 != 0) then
        some y119
      else
        (idx p1 x116).bind fun x120 =>
        (rec p0 x120.Steps (w64 (p2 + 1))).bind fun y122 =>
        if (y122 != 0) then
          some y122
        else
          (F_etchhouseref3_checkSteps_L1 N p0 p1 p2 rec mL1) (w64 (x116 + 1))
    else
      some 0
def F_etchhouseref3_checkSteps_b (N : Nat) (rec : TPlot → (List TPlotStep) → Int → Option Int) (p0 : TPlot) (p1 : (List TPlotStep)) (p2 : Int) : Option Int :=
  F_etchhouseref3_checkSteps_L1 N p0 p1 p2 rec N 0
def F_etchhouseref3_checkSteps : Nat → TPlot → (List TPlotStep) → Int → Option Int
  | 0 => fun _ _ _ => none
  | N + 1 => F_etchhouseref3_checkSteps_b N (F_etchhouseref3_checkSteps N)

def F_etchhouseref3_CheckPlot_L1 (N : Nat) (p0 : TPlot) : Nat → Int → Option Int
  | 0, _ => none
  | mL1 + 1, x125 =>
    if (decide (x125 < (p0.Tools.length : Int))) then
      (idx p0.Tools x125).bind fun x126 =>
      (F_etchhouseref3_IsName N x126.Name).bind fun y129 =>
      if (!y129) then
        some 5
      else
        (F_etchhouseref3_checkToolRects N x126.Rects p0.Unit).bind fun y130 =>
        if (y130 != 0) then
          some y130
        else
          (if (decide (0 < x125)) then 
            (idx p0.Tools (w64 (x125 - 1))).bind fun x134 =>
            some (sLt x126.Name x134.Name || sEq x126.Name x134.Name)
           else some false).bind fun g133 =>
          if g133 then
            some 8
          else
            (F_etchhouseref3_CheckPlot_L1 N p0 mL1) (w64 (x125 + 1))
    else
      (F_etchhouseref3_count N p0.Steps).bind fun y136 =>
      if (decide (3000 < y136)) then
        some 2
      else
        (F_etchhouseref3_checkSteps N p0 p0.Steps 0).bind fun y137 =>
        some y137
def F_etchhouseref3_CheckPlot (N : Nat) (p0 : TPlot) : Option Int :=
  (F_etchhouseref3_within p0.Unit 1 1000).bind fun y101 =>
  if (!y101) then
    some 1
  else
    if (decide (200 < (p0.Tools.length : Int))) then
      some 2
    else
      F_etchhouseref3_CheckPlot_L1 N p0 N 0


def F_etchhouseref1_IsPoint (p0 : TPoint) : Option Bool :=
  (F_etchhouseref1_At p0.X).bind fun y101 =>
  (if y101 then 
    (F_etchhouseref1_At p0.Y).bind fun y104 =>
    some y104
   else some false).bind fun g103 =>
  some g103


def F_etchhouseref3_scale (p0 : Int) (p1 : Int) (p2 : Int) : Option (Int × Bool) :=
  (dv (w64 (p0 * p1)) p2).bind fun q100 =>
  (md (w64 (p0 * p1)) p2).bind fun q101 =>
  some (q100, (q101 == 0))


def F_etchhouseref3_scalePoint (p0 : TPoint) (p1 : Int) (p2 : Int) : Option (TPoint × Bool) :=
  (F_etchhouseref3_scale p0.X p1 p2).bind fun y102 =>
  (F_etchhouseref3_scale p0.Y p1 p2).bind fun y103 =>
  some ((TPoint.mk y102.1 y103.1), (y102.2 && y103.2))


def F_etchhouseref3_inUnits (p0 : TPoint) (p1 : Int) : Option (TPoint × Bool) :=
  (F_etchhouseref3_scalePoint p0 1 p1).bind fun y102 =>
  some (y102.1, y102.2)


def F_etchhouseref3_places (p0 : TPlotStep) : Option Bool :=
  some (((p0.Kind == 4) || (p0.Kind == 5)) || (p0.Kind == 6))

def F_etchhouseref3_moved_L1 (p0 : TPlotStep) (p1 : TPoint) (x104 : Int) (x105 : Int) : Nat → List TPoint → Int → Option TPlotStep
  | 0, _, _ => none
  | mL1 + 1, l122, x123 =>
    if (decide (x123 < (p0.Points.length : Int))) then
      (idx p0.Points x123).bind fun x125 =>
      (idx p0.Points x123).bind fun x126 =>
      (apd l122 [(TPoint.mk (w64 (x125.X + p1.X)) (w64 (x126.Y + p1.Y)))]).bind fun l127 =>
      (F_etchhouseref3_moved_L1 p0 p1 x104 x105 mL1) l127 (w64 (x123 + 1))
    else
      some (TPlotStep.mk p0.Kind p0.Name (TPoint.mk x104 x105) l122 p0.NX p0.NY p0.Steps)
def F_etchhouseref3_moved_J2 (N : Nat) (p0 : TPlotStep) (p1 : TPoint) (x104 : Int) (x105 : Int) : Option TPlotStep :=
  F_etchhouseref3_moved_L1 p0 p1 x104 x105 N ([] : List TPoint) 0
def F_etchhouseref3_moved (N : Nat) (p0 : TPlotStep) (p1 : TPoint) : Option TPlotStep :=
  (F_etchhouseref3_places p0).bind fun y128 =>
  if y128 then
    F_etchhouseref3_moved_J2 N p0 p1 (w64 (p0.At.X + p1.X)) (w64 (p0.At.Y + p1.Y))
  else
    F_etchhouseref3_moved_J2 N p0 p1 p0.At.X p0.At.Y

def F_etchhouseref3_movedSteps_L1 (N : Nat) (p0 : (List TPlotStep)) (p1 : TPoint) (rec : (List TPlotStep) → TPoint → Option (List TPlotStep)) : Nat → List TPlotStep → Int → Option (List TPlotStep)
  | 0, _, _ => none
  | mL1 + 1, l141, x142 =>
    if (decide (x142 < (p0.length : Int))) then
      (idx p0 x142).bind fun x144 =>
      (F_etchhouseref3_moved N x144 p1).bind fun y146 =>
      (idx p0 x142).bind fun x149 =>
      (rec x149.Steps p1).bind fun y151 =>
      (apd l141 [(TPlotStep.mk y146.Kind y146.Name y146.At y146.Points y146.NX y146.NY y151)]).bind fun l158 =>
      (F_etchhouseref3_movedSteps_L1 N p0 p1 rec mL1) l158 (w64 (x142 + 1))
    else
      some l141
def F_etchhouseref3_movedSteps_b (N : Nat) (rec : (List TPlotStep) → TPoint → Option (List TPlotStep)) (p0 : (List TPlotStep)) (p1 : TPoint) : Option (List TPlotStep) :=
  F_etchhouseref3_movedSteps_L1 N p0 p1 rec N ([] : List TPlotStep) 0
def F_etchhouseref3_movedSteps : Nat → (List TPlotStep) → TPoint → Option (List TPlotStep)
  | 0 => fun _ _ => none
  | N + 1 => F_etchhouseref3_movedSteps_b N (F_etchhouseref3_movedSteps N)


def F_etchhouseref3_right (N : Nat) (p0 : TPlot) : Option (TPlot × Int) :=
  (F_etchhouseref3_CheckPlot N p0).bind fun y102 =>
  if (y102 != 0) then
    some ((TPlot.mk 0 [] []), y102)
  else
    some (p0, 0)


def F_etchhouseref3_Moved (N : Nat) (p0 : TPlot) (p1 : TPoint) : Option (TPlot × Int) :=
  (F_etchhouseref3_CheckPlot N p0).bind fun y103 =>
  if (y103 != 0) then
    some ((TPlot.mk 0 [] []), y103)
  else
    (F_etchhouseref1_IsPoint p1).bind fun y104 =>
    if (!y104) then
      some ((TPlot.mk 0 [] []), 1)
    else
      (F_etchhouseref3_inUnits p1 p0.Unit).bind fun y105 =>
      if (!y105.2) then
        some ((TPlot.mk 0 [] []), 3)
      else
        (F_etchhouseref3_movedSteps N p0.Steps y105.1).bind fun y107 =>
        (F_etchhouseref3_right N (TPlot.mk p0.Unit p0.Tools y107)).bind fun y111 =>
        some (y111.1, y111.2)


def F_shape_CheckTurn (p0 : TTurn) : Option Int :=
  (F_shape_within p0.Quarters 0 3).bind fun y101 =>
  (if (!y101) then some true else 
    (F_shape_IsPoint p0.At).bind fun y104 =>
    some (!y104)
  ).bind fun g103 =>
  if g103 then
    some 1
  else
    some 0

def F_plot_flat_L26 (p1 : TPoint) (m459 : List TPlotStep) (kL21 : (List TPlotStep) → Option (List TPlotStep)) (xL21 : TPlotStep) (x531 : Int) (x532 : Int) (y535 : (List TPoint)) : Nat → List TPoint → Int → Option (List TPlotStep)
  | 0, _, _ => none
  | mL26 + 1, l555, x556 =>
    if (decide (x556 < (y535.length : Int))) then
      (idx l555 x556).bind fun x557 =>
      (idx l555 x556).bind fun x558 =>
      (sets l555 x556 (TPoint.mk (w64 (x557.X + p1.X)) x558.Y)).bind fun l559 =>
      (idx l559 x556).bind fun x560 =>
      (idx l559 x556).bind fun x561 =>
      (sets l559 x556 (TPoint.mk x561.X (w64 (x560.Y + p1.Y)))).bind fun l562 =>
      (F_plot_flat_L26 p1 m459 kL21 xL21 x531 x532 y535 mL26) l562 (w64 (x556 + 1))
    else
      (apd m459 [(TPlotStep.mk xL21.Kind xL21.Name (TPoint.mk x531 x532) l555 xL21.NX xL21.NY xL21.Steps)]).bind fun l564 =>
      kL21 l564
def F_plot_flat_J27 (N : Nat) (p1 : TPoint) (m459 : List TPlotStep) (kL21 : (List TPlotStep) → Option (List TPlotStep)) (xL21 : TPlotStep) (x531 : Int) (x532 : Int) : Option (List TPlotStep) :=
  (F_slices_Clone_Point xL21.Points).bind fun y535 =>
  F_plot_flat_L26 p1 m459 kL21 xL21 x531 x532 y535 N y535 0
def F_plot_flat_L31 (p1 : TPoint) (rec : (List TPlotStep) → TPoint → Option (List TPlotStep)) (xL21 : TPlotStep) (x613 : Int) (kL30 : (List TPlotStep) → Int → Option (List TPlotStep)) : Nat → List TPlotStep → Int → Option (List TPlotStep)
  | 0, _, _ => none
  | mL31 + 1, m628, x629 =>
    if (decide (x629 < xL21.NX)) then
      (rec xL21.Steps (TPoint.mk (w64 (p1.X + (w64 (x629 * xL21.At.X)))) (w64 (p1.Y + (w64 (x613 * xL21.At.Y)))))).bind fun y630 =>
      (apd m628 y630).bind fun l632 =>
      (F_plot_flat_L31 p1 rec xL21 x613 kL30 mL31) l632 (w64 (x629 + 1))
    else
      kL30 m628 (w64 (x613 + 1))
def F_plot_flat_L30 (N : Nat) (p1 : TPoint) (rec : (List TPlotStep) → TPoint → Option (List TPlotStep)) (kL21 : (List TPlotStep) → Option (List TPlotStep)) (xL21 : TPlotStep) : Nat → List TPlotStep → Int → Option (List TPlotStep)
  | 0, _, _ => none
  | mL30 + 1, m612, x613 =>
    if (decide (x613 < xL21.NY)) then
      F_plot_flat_L31 p1 rec xL21 x613 (F_plot_flat_L30 N p1 rec kL21 xL21 mL30) N m612 0
    else
      kL21 m612
def F_plot_flat_L21 (N : Nat) (p1 : TPoint) (rec : (List TPlotStep) → TPoint → Option (List TPlotStep)) : List TPlotStep → Nat → List TPlotStep → Option (List TPlotStep)
  | [], iL21, m459 =>
    some m459
  | xL21 :: restL21, iL21, m459 =>
    if (xL21.Kind == 8) then
      F_plot_flat_L30 N p1 rec (F_plot_flat_L21 N p1 rec restL21 (iL21 + 1)) xL21 N m459 0
    else
      (F_plot_fieldsOf xL21.Kind).bind fun y634 =>
      if y634.at_ then
        F_plot_flat_J27 N p1 m459 (F_plot_flat_L21 N p1 rec restL21 (iL21 + 1)) xL21 (w64 (xL21.At.X + p1.X)) (w64 (xL21.At.Y + p1.Y))
      else
        F_plot_flat_J27 N p1 m459 (F_plot_flat_L21 N p1 rec restL21 (iL21 + 1)) xL21 xL21.At.X xL21.At.Y
def F_plot_flat_b (N : Nat) (rec : (List TPlotStep) → TPoint → Option (List TPlotStep)) (p0 : (List TPlotStep)) (p1 : TPoint) : Option (List TPlotStep) :=
  F_plot_flat_L21 N p1 rec p0 0 ([] : List TPlotStep)
def F_plot_flat : Nat → (List TPlotStep) → TPoint → Option (List TPlotStep)
  | 0 => fun _ _ => none
  | N + 1 => F_plot_flat_b N (F_plot_flat N)


def F_plot_flatPlot (N : Nat) (p0 : TPlot) : Option TPlot :=
  (F_plot_ownTools N p0.Tools (fun z0 => F_plot_asItIs z0)).bind fun y103 =>
  (F_plot_flat N p0.Steps (TPoint.mk 0 0)).bind fun y105 =>
  some (TPlot.mk p0.Unit y103 y105)

def F_shape_TurnPoint_L1 (p1 : TTurn) : Nat → Int → Int → Int → Option TPoint
  | 0, _, _, _ => none
  | mL1 + 1, x115, x116, x117 =>
    if (decide (x117 < p1.Quarters)) then
      (F_shape_TurnPoint_L1 p1 mL1) (w64 (0 - x116)) x115 (w64 (x117 + 1))
    else
      some (TPoint.mk (w64 (x115 + p1.At.X)) (w64 (x116 + p1.At.Y)))
def F_shape_TurnPoint_J2 (N : Nat) (p0 : TPoint) (p1 : TTurn) (x103 : Int) : Option TPoint :=
  F_shape_TurnPoint_L1 p1 N x103 p0.Y 0
def F_shape_TurnPoint (N : Nat) (p0 : TPoint) (p1 : TTurn) : Option TPoint :=
  if p1.Flip then
    F_shape_TurnPoint_J2 N p0 p1 (w64 (0 - p0.X))
  else
    F_shape_TurnPoint_J2 N p0 p1 p0.X


def F_shape_TurnRect (N : Nat) (p0 : TRect) (p1 : TTurn) : Option TRect :=
  (F_shape_TurnPoint N (TPoint.mk p0.X0 p0.Y0) p1).bind fun y104 =>
  (F_shape_TurnPoint N (TPoint.mk p0.X1 p0.Y1) p1).bind fun y105 =>
  some (TRect.mk (min y104.X y105.X) (min y104.Y y105.Y) (max y104.X y105.X) (max y104.Y y105.Y))


def F_plot_TurnedPlot_1 (N : Nat) (p0 : TRect) (q0 : TTurn) : Option TRect :=
  (F_shape_TurnRect N p0 q0).bind fun y102 =>
  some y102

def F_plot_TurnedPlot_L6 (N : Nat) (p1 : TTurn) (q117 : Int) (q118 : Int) (m193 : List TPlotStep) (kL5 : (List TPlotStep) → Option (TPlot × Int)) (iL5 : Nat) (x200 : TPlotStep) (x204 : Int) (x205 : Int) : List TPoint → Nat → List TPoint → Option (TPlot × Int)
  | [], iL6, l224 =>
    kL5 (List.set m193 ((iL5 : Int)).toNat (TPlotStep.mk x200.Kind x200.Name (TPoint.mk x204 x205) l224 x200.NX x200.NY x200.Steps))
  | xL6 :: restL6, iL6, l224 =>
    (idx l224 (iL6 : Int)).bind fun x226 =>
    (F_shape_TurnPoint N x226 (TTurn.mk p1.Flip p1.Quarters (TPoint.mk q117 q118))).bind fun y228 =>
    (idx l224 (iL6 : Int)).bind fun x229 =>
    (sets l224 (iL6 : Int) y228).bind fun l230 =>
    (F_plot_TurnedPlot_L6 N p1 q117 q118 m193 kL5 iL5 x200 x204 x205 restL6 (iL6 + 1)) l230
def F_plot_TurnedPlot_J7 (N : Nat) (p1 : TTurn) (q117 : Int) (q118 : Int) (m193 : List TPlotStep) (kL5 : (List TPlotStep) → Option (TPlot × Int)) (iL5 : Nat) (x200 : TPlotStep) (x204 : Int) (x205 : Int) : Option (TPlot × Int) :=
  F_plot_TurnedPlot_L6 N p1 q117 q118 m193 kL5 iL5 x200 x204 x205 x200.Points 0 x200.Points
def F_plot_TurnedPlot_L5 (N : Nat) (p1 : TTurn) (y109 : TPlot) (y115 : (List TPlotTool)) (q117 : Int) (q118 : Int) : List TPlotStep → Nat → List TPlotStep → Option (TPlot × Int)
  | [], iL5, m193 =>
    (F_plot_told N (TPlot.mk y109.Unit y115 m193)).bind fun y198 =>
    some (y198.1, y198.2)
  | xL5 :: restL5, iL5, m193 =>
    (idx m193 (iL5 : Int)).bind fun x200 =>
    (F_plot_fieldsOf x200.Kind).bind fun y231 =>
    if y231.at_ then
      (F_shape_TurnPoint N x200.At (TTurn.mk p1.Flip p1.Quarters (TPoint.mk q117 q118))).bind fun y232 =>
      F_plot_TurnedPlot_J7 N p1 q117 q118 m193 (F_plot_TurnedPlot_L5 N p1 y109 y115 q117 q118 restL5 (iL5 + 1)) iL5 x200 y232.X y232.Y
    else
      F_plot_TurnedPlot_J7 N p1 q117 q118 m193 (F_plot_TurnedPlot_L5 N p1 y109 y115 q117 q118 restL5 (iL5 + 1)) iL5 x200 x200.At.X x200.At.Y
def F_plot_TurnedPlot (N : Nat) (p0 : TPlot) (p1 : TTurn) : Option (TPlot × Int) :=
  (F_plot_CheckPlot N p0).bind fun y103 =>
  if (y103 != 0) then
    some ((TPlot.mk 0 [] []), y103)
  else
    (F_shape_CheckTurn p1).bind fun y104 =>
    if (y104 != 0) then
      some ((TPlot.mk 0 [] []), y104)
    else
      (md p1.At.X p0.Unit).bind fun q105 =>
      (if (q105 != 0) then some true else 
        (md p1.At.Y p0.Unit).bind fun q108 =>
        some (q108 != 0)
      ).bind fun g107 =>
      if g107 then
        some ((TPlot.mk 0 [] []), 3)
      else
        (F_plot_flatPlot N p0).bind fun y109 =>
        (F_plot_ownTools N y109.Tools (fun z0 => F_plot_TurnedPlot_1 N z0 (TTurn.mk p1.Flip p1.Quarters (TPoint.mk 0 0)))).bind fun y115 =>
        (dv p1.At.X p0.Unit).bind fun q117 =>
        (dv p1.At.Y p0.Unit).bind fun q118 =>
        F_plot_TurnedPlot_L5 N p1 y109 y115 q117 q118 y109.Steps 0 y109.Steps


def F_etchhouseref1_CheckTurn (p0 : TTurn) : Option Int :=
  (F_etchhouseref1_within p0.Quarters 0 3).bind fun y101 =>
  (if (!y101) then some true else 
    (F_etchhouseref1_IsPoint p0.At).bind fun y104 =>
    some (!y104)
  ).bind fun g103 =>
  if g103 then
    some 1
  else
    some 0

def F_etchhouseref1_around_L1 (p1 : TTurn) : Nat → Int → Int → Int → Option TPoint
  | 0, _, _, _ => none
  | mL1 + 1, x115, x116, x117 =>
    if (decide (x117 < p1.Quarters)) then
      (F_etchhouseref1_around_L1 p1 mL1) (w64 (0 - x116)) x115 (w64 (x117 + 1))
    else
      some (TPoint.mk x115 x116)
def F_etchhouseref1_around_J2 (N : Nat) (p0 : TPoint) (p1 : TTurn) (x103 : Int) : Option TPoint :=
  F_etchhouseref1_around_L1 p1 N x103 p0.Y 0
def F_etchhouseref1_around (N : Nat) (p0 : TPoint) (p1 : TTurn) : Option TPoint :=
  if p1.Flip then
    F_etchhouseref1_around_J2 N p0 p1 (w64 (0 - p0.X))
  else
    F_etchhouseref1_around_J2 N p0 p1 p0.X


def F_etchhouseref1_TurnPoint (N : Nat) (p0 : TPoint) (p1 : TTurn) : Option TPoint :=
  (F_etchhouseref1_around N p0 p1).bind fun y103 =>
  some (TPoint.mk (w64 (y103.X + p1.At.X)) (w64 (y103.Y + p1.At.Y)))


def F_etchhouseref1_TurnRect (N : Nat) (p0 : TRect) (p1 : TTurn) : Option TRect :=
  (F_etchhouseref1_TurnPoint N (TPoint.mk p0.X0 p0.Y0) p1).bind fun y104 =>
  (F_etchhouseref1_TurnPoint N (TPoint.mk p0.X1 p0.Y1) p1).bind fun y105 =>
  some (TRect.mk (min y104.X y105.X) (min y104.Y y105.Y) (max y104.X y105.X) (max y104.Y y105.Y))

def F_etchhouseref3_flat_L13 (p1 : TPoint) (rec : (List TPlotStep) → TPoint → Option (List TPlotStep)) (x261 : TPlotStep) (x311 : Int) (kL12 : (List TPlotStep) → Int → Option (List TPlotStep)) : Nat → List TPlotStep → Int → Option (List TPlotStep)
  | 0, _, _ => none
  | mL13 + 1, m326, x327 =>
    if (decide (x327 < x261.NX)) then
      (rec x261.Steps (TPoint.mk (w64 (p1.X + (w64 (x327 * x261.At.X)))) (w64 (p1.Y + (w64 (x311 * x261.At.Y)))))).bind fun y328 =>
      (apd m326 y328).bind fun l330 =>
      (F_etchhouseref3_flat_L13 p1 rec x261 x311 kL12 mL13) l330 (w64 (x327 + 1))
    else
      kL12 m326 (w64 (x311 + 1))
def F_etchhouseref3_flat_L12 (N : Nat) (p1 : TPoint) (rec : (List TPlotStep) → TPoint → Option (List TPlotStep)) (x260 : Int) (kL9 : (List TPlotStep) → Int → Option (List TPlotStep)) (x261 : TPlotStep) : Nat → List TPlotStep → Int → Option (List TPlotStep)
  | 0, _, _ => none
  | mL12 + 1, m310, x311 =>
    if (decide (x311 < x261.NY)) then
      F_etchhouseref3_flat_L13 p1 rec x261 x311 (F_etchhouseref3_flat_L12 N p1 rec x260 kL9 x261 mL12) N m310 0
    else
      kL9 m310 (w64 (x260 + 1))
def F_etchhouseref3_flat_L9 (N : Nat) (p0 : (List TPlotStep)) (p1 : TPoint) (rec : (List TPlotStep) → TPoint → Option (List TPlotStep)) : Nat → List TPlotStep → Int → Option (List TPlotStep)
  | 0, _, _ => none
  | mL9 + 1, m259, x260 =>
    if (decide (x260 < (p0.length : Int))) then
      (idx p0 x260).bind fun x261 =>
      if (x261.Kind == 8) then
        F_etchhouseref3_flat_L12 N p1 rec x260 (F_etchhouseref3_flat_L9 N p0 p1 rec mL9) x261 N m259 0
      else
        (F_etchhouseref3_moved N x261 p1).bind fun y332 =>
        (apd m259 [y332]).bind fun l335 =>
        (F_etchhouseref3_flat_L9 N p0 p1 rec mL9) l335 (w64 (x260 + 1))
    else
      some m259
def F_etchhouseref3_flat_b (N : Nat) (rec : (List TPlotStep) → TPoint → Option (List TPlotStep)) (p0 : (List TPlotStep)) (p1 : TPoint) : Option (List TPlotStep) :=
  F_etchhouseref3_flat_L9 N p0 p1 rec N ([] : List TPlotStep) 0
def F_etchhouseref3_flat : Nat → (List TPlotStep) → TPoint → Option (List TPlotStep)
  | 0 => fun _ _ => none
  | N + 1 => F_etchhouseref3_flat_b N (F_etchhouseref3_flat N)

def F_etchhouseref3_TurnedPlot_L4 (N : Nat) (p0 : TPlot) (p1 : TTurn) (l194 : List TPlotTool) (x195 : Int) (kL3 : (List TPlotTool) → Int → Option (TPlot × Int)) (x196 : TPlotTool) : Nat → List TRect → Int → Option (TPlot × Int)
  | 0, _, _ => none
  | mL4 + 1, l221, x222 =>
    (idx p0.Tools x195).bind fun x223 =>
    if (decide (x222 < (x223.Rects.length : Int))) then
      (idx p0.Tools x195).bind fun x226 =>
      (idx x226.Rects x222).bind fun x228 =>
      (F_etchhouseref1_TurnRect N x228 (TTurn.mk p1.Flip p1.Quarters (TPoint.mk 0 0))).bind fun y229 =>
      (apd l221 [y229]).bind fun l230 =>
      (F_etchhouseref3_TurnedPlot_L4 N p0 p1 l194 x195 kL3 x196 mL4) l230 (w64 (x222 + 1))
    else
      (apd l194 [(TPlotTool.mk x196.Name l221)]).bind fun l234 =>
      kL3 l234 (w64 (x195 + 1))
def F_etchhouseref3_TurnedPlot_L10 (N : Nat) (p1 : TTurn) (y105 : (TPoint × Bool)) (x340 : Int) (kL9 : (List TPlotStep) → Int → Option (TPlot × Int)) : Nat → List TPlotStep → Int → Option (TPlot × Int)
  | 0, _, _ => none
  | mL10 + 1, m372, x373 =>
    (idx m372 x340).bind fun x374 =>
    if (decide (x373 < (x374.Points.length : Int))) then
      (idx x374.Points x373).bind fun x376 =>
      (F_etchhouseref1_TurnPoint N x376 (TTurn.mk p1.Flip p1.Quarters y105.1)).bind fun y377 =>
      (idx x374.Points x373).bind fun x378 =>
      (sets x374.Points x373 y377).bind fun l379 =>
      (F_etchhouseref3_TurnedPlot_L10 N p1 y105 x340 kL9 mL10) (List.set m372 (x340).toNat (TPlotStep.mk x374.Kind x374.Name x374.At l379 x374.NX x374.NY x374.Steps)) (w64 (x373 + 1))
    else
      kL9 (List.set m372 (x340).toNat x374) (w64 (x340 + 1))
def F_etchhouseref3_TurnedPlot_J11 (N : Nat) (p1 : TTurn) (y105 : (TPoint × Bool)) (x340 : Int) (kL9 : (List TPlotStep) → Int → Option (TPlot × Int)) (m347 : List TPlotStep) : Option (TPlot × Int) :=
  F_etchhouseref3_TurnedPlot_L10 N p1 y105 x340 kL9 N m347 0
def F_etchhouseref3_TurnedPlot_L9 (N : Nat) (p0 : TPlot) (p1 : TTurn) (y105 : (TPoint × Bool)) (l194 : List TPlotTool) : Nat → List TPlotStep → Int → Option (TPlot × Int)
  | 0, _, _ => none
  | mL9 + 1, m339, x340 =>
    if (decide (x340 < (m339.length : Int))) then
      (idx m339 x340).bind fun x382 =>
      (F_etchhouseref3_places x382).bind fun y384 =>
      if y384 then
        (F_etchhouseref1_TurnPoint N x382.At (TTurn.mk p1.Flip p1.Quarters y105.1)).bind fun y385 =>
        F_etchhouseref3_TurnedPlot_J11 N p1 y105 x340 (F_etchhouseref3_TurnedPlot_L9 N p0 p1 y105 l194 mL9) (List.set m339 (x340).toNat (TPlotStep.mk x382.Kind x382.Name y385 x382.Points x382.NX x382.NY x382.Steps))
      else
        F_etchhouseref3_TurnedPlot_J11 N p1 y105 x340 (F_etchhouseref3_TurnedPlot_L9 N p0 p1 y105 l194 mL9) (List.set m339 (x340).toNat x382)
    else
      (F_etchhouseref3_right N (TPlot.mk p0.Unit l194 m339)).bind fun y392 =>
      some (y392.1, y392.2)
def F_etchhouseref3_TurnedPlot_L3 (N : Nat) (p0 : TPlot) (p1 : TTurn) (y105 : (TPoint × Bool)) : Nat → List TPlotTool → Int → Option (TPlot × Int)
  | 0, _, _ => none
  | mL3 + 1, l194, x195 =>
    if (decide (x195 < (p0.Tools.length : Int))) then
      (idx p0.Tools x195).bind fun x196 =>
      F_etchhouseref3_TurnedPlot_L4 N p0 p1 l194 x195 (F_etchhouseref3_TurnedPlot_L3 N p0 p1 y105 mL3) x196 N ([] : List TRect) 0
    else
      (F_etchhouseref3_flat N p0.Steps (TPoint.mk 0 0)).bind fun y235 =>
      F_etchhouseref3_TurnedPlot_L9 N p0 p1 y105 l194 N y235 0
def F_etchhouseref3_TurnedPlot (N : Nat) (p0 : TPlot) (p1 : TTurn) : Option (TPlot × Int) :=
  (F_etchhouseref3_CheckPlot N p0).bind fun y103 =>
  if (y103 != 0) then
    some ((TPlot.mk 0 [] []), y103)
  else
    (F_etchhouseref1_CheckTurn p1).bind fun y104 =>
    if (y104 != 0) then
      some ((TPlot.mk 0 [] []), y104)
    else
      (F_etchhouseref3_inUnits p1.At p0.Unit).bind fun y105 =>
      if (!y105.2) then
        some ((TPlot.mk 0 [] []), 3)
      else
        F_etchhouseref3_TurnedPlot_L3 N p0 p1 y105 N ([] : List TPlotTool) 0

def F_etchhouseref3_samePoints_L1 (p0 : (List TPoint)) (p1 : (List TPoint)) : Nat → Int → Option Bool
  | 0, _ => none
  | mL1 + 1, x107 =>
    if (decide (x107 < (p0.length : Int))) then
      (idx p0 x107).bind fun x108 =>
      (idx p1 x107).bind fun x109 =>
      if (!(eqTPoint x108 x109)) then
        some false
      else
        (F_etchhouseref3_samePoints_L1 p0 p1 mL1) (w64 (x107 + 1))
    else
      some true
def F_etchhouseref3_samePoints (N : Nat) (p0 : (List TPoint)) (p1 : (List TPoint)) : Option Bool :=
  if ((p0.length : Int) != (p1.length : Int)) then
    some false
  else
    F_etchhouseref3_samePoints_L1 p0 p1 N 0

def F_etchhouseref3_sameSteps_L1 (N : Nat) (p0 : (List TPlotStep)) (p1 : (List TPlotStep)) (rec : (List TPlotStep) → (List TPlotStep) → Option Bool) : Nat → Int → Option Bool
  | 0, _ => none
  | mL1 + 1, x131 =>
    if (decide (x131 < (p0.length : Int))) then
      (idx p0 x131).bind fun x133 =>
      (idx p1 x131).bind fun x135 =>
      (if (((((x133.Kind != x135.Kind) || (!sEq x133.Name x135.Name)) || (!(eqTPoint x133.At x135.At))) || (x133.NX != x135.NX)) || (x133.NY != x135.NY)) then some true else 
        (F_etchhouseref3_samePoints N x133.Points x135.Points).bind fun y141 =>
        some (!y141)
      ).bind fun g140 =>
      (if g140 then some true else 
        (rec x133.Steps x135.Steps).bind fun y144 =>
        some (!y144)
      ).bind fun g143 =>
      if g143 then
        some false
      else
        (F_etchhouseref3_sameSteps_L1 N p0 p1 rec mL1) (w64 (x131 + 1))
    else
      some true
def F_etchhouseref3_sameSteps_b (N : Nat) (rec : (List TPlotStep) → (List TPlotStep) → Option Bool) (p0 : (List TPlotStep)) (p1 : (List TPlotStep)) : Option Bool :=
  if ((p0.length : Int) != (p1.length : Int)) then
    some false
  else
    F_etchhouseref3_sameSteps_L1 N p0 p1 rec N 0
def F_etchhouseref3_sameSteps : Nat → (List TPlotStep) → (List TPlotStep) → Option Bool
  | 0 => fun _ _ => none
  | N + 1 => F_etchhouseref3_sameSteps_b N (F_etchhouseref3_sameSteps N)

def F_etchhouseref1_SameRects_L1 (p0 : (List TRect)) (p1 : (List TRect)) : Nat → Int → Option Bool
  | 0, _ => none
  | mL1 + 1, x107 =>
    if (decide (x107 < (p0.length : Int))) then
      (idx p0 x107).bind fun x108 =>
      (idx p1 x107).bind fun x109 =>
      if (!(eqTRect x108 x109)) then
        some false
      else
        (F_etchhouseref1_SameRects_L1 p0 p1 mL1) (w64 (x107 + 1))
    else
      some true
def F_etchhouseref1_SameRects (N : Nat) (p0 : (List TRect)) (p1 : (List TRect)) : Option Bool :=
  if ((p0.length : Int) != (p1.length : Int)) then
    some false
  else
    F_etchhouseref1_SameRects_L1 p0 p1 N 0

def F_etchhouseref3_SamePlot_L1 (N : Nat) (p0 : TPlot) (p1 : TPlot) : Nat → Int → Option Bool
  | 0, _ => none
  | mL1 + 1, x138 =>
    if (decide (x138 < (p0.Tools.length : Int))) then
      (idx p0.Tools x138).bind fun x139 =>
      (idx p1.Tools x138).bind fun x141 =>
      (if (!sEq x139.Name x141.Name) then some true else 
        (idx p0.Tools x138).bind fun x149 =>
        (idx p1.Tools x138).bind fun x151 =>
        (F_etchhouseref1_SameRects N x149.Rects x151.Rects).bind fun y153 =>
        some (!y153)
      ).bind fun g148 =>
      if g148 then
        some false
      else
        (F_etchhouseref3_SamePlot_L1 N p0 p1 mL1) (w64 (x138 + 1))
    else
      some true
def F_etchhouseref3_SamePlot (N : Nat) (p0 : TPlot) (p1 : TPlot) : Option Bool :=
  (if ((p0.Unit != p1.Unit) || ((p0.Tools.length : Int) != (p1.Tools.length : Int))) then some true else 
    (F_etchhouseref3_sameSteps N p0.Steps p1.Steps).bind fun y104 =>
    some (!y104)
  ).bind fun g103 =>
  if g103 then
    some false
  else
    F_etchhouseref3_SamePlot_L1 N p0 p1 N 0



def F_plot_points_L1 : List TPoint → Nat → ByteArray → Option ByteArray
  | [], iL1, x122 =>
    some x122
  | xL1 :: restL1, iL1, x122 =>
    (itoaS xL1.X).bind fun y124 =>
    (catS (⟨#[32]⟩) y124).bind fun t125 =>
    (catS t125 (⟨#[32]⟩)).bind fun t126 =>
    (itoaS xL1.Y).bind fun y127 =>
    (catS t126 y127).bind fun t128 =>
    (catS x122 t128).bind fun t129 =>
    (F_plot_points_L1 restL1 (iL1 + 1)) t129
def F_plot_points (p0 : (List TPoint)) : Option ByteArray :=
  F_plot_points_L1 p0 0 ByteArray.empty

def F_plot_writeSteps_L1 (rec : ByteArray → (List TPlotStep) → Option ByteArray) : List TPlotStep → Nat → ByteArray → Option ByteArray
  | [], iL1, m194 =>
    some m194
  | xL1 :: restL1, iL1, m194 =>
    if (xL1.Kind == 1) then
      (sbW m194 (⟨#[100, 97, 114, 107, 10]⟩)).bind fun y197 =>
      (F_plot_writeSteps_L1 rec restL1 (iL1 + 1)) y197
    else
      if (xL1.Kind == 2) then
        (sbW m194 (⟨#[99, 108, 101, 97, 114, 10]⟩)).bind fun y199 =>
        (F_plot_writeSteps_L1 rec restL1 (iL1 + 1)) y199
      else
        if (xL1.Kind == 3) then
          (catS (⟨#[117, 115, 101, 32]⟩) xL1.Name).bind fun t201 =>
          (catS t201 (⟨#[10]⟩)).bind fun t202 =>
          (sbW m194 t202).bind fun y203 =>
          (F_plot_writeSteps_L1 rec restL1 (iL1 + 1)) y203
        else
          if (xL1.Kind == 4) then
            (F_plot_points [xL1.At]).bind fun y206 =>
            (catS (⟨#[109, 111, 118, 101]⟩) y206).bind fun t207 =>
            (catS t207 (⟨#[10]⟩)).bind fun t208 =>
            (sbW m194 t208).bind fun y209 =>
            (F_plot_writeSteps_L1 rec restL1 (iL1 + 1)) y209
          else
            if (xL1.Kind == 5) then
              (F_plot_points [xL1.At]).bind fun y212 =>
              (catS (⟨#[102, 108, 97, 115, 104]⟩) y212).bind fun t213 =>
              (catS t213 (⟨#[10]⟩)).bind fun t214 =>
              (sbW m194 t214).bind fun y215 =>
              (F_plot_writeSteps_L1 rec restL1 (iL1 + 1)) y215
            else
              if (xL1.Kind == 6) then
                (F_plot_points [xL1.At]).bind fun y218 =>
                (catS (⟨#[108, 105, 110, 101]⟩) y218).bind fun t219 =>
                (catS t219 (⟨#[10]⟩)).bind fun t220 =>
                (sbW m194 t220).bind fun y221 =>
                (F_plot_writeSteps_L1 rec restL1 (iL1 + 1)) y221
              else
                if (xL1.Kind == 7) then
                  (F_plot_points xL1.Points).bind fun y223 =>
                  (catS (⟨#[97, 114, 101, 97]⟩) y223).bind fun t224 =>
                  (catS t224 (⟨#[10]⟩)).bind fun t225 =>
                  (sbW m194 t225).bind fun y226 =>
                  (F_plot_writeSteps_L1 rec restL1 (iL1 + 1)) y226
                else
                  if (xL1.Kind == 8) then
                    (F_plot_points [(TPoint.mk xL1.NX xL1.NY), xL1.At]).bind fun y229 =>
                    (catS (⟨#[114, 101, 112, 101, 97, 116]⟩) y229).bind fun t230 =>
                    (catS t230 (⟨#[10]⟩)).bind fun t231 =>
                    (sbW m194 t231).bind fun y232 =>
                    (rec y232 xL1.Steps).bind fun y234 =>
                    (sbW y234 (⟨#[100, 111, 110, 101, 10]⟩)).bind fun y236 =>
                    (F_plot_writeSteps_L1 rec restL1 (iL1 + 1)) y236
                  else
                    (F_plot_writeSteps_L1 rec restL1 (iL1 + 1)) m194
def F_plot_writeSteps_b (N : Nat) (rec : ByteArray → (List TPlotStep) → Option ByteArray) (p0 : ByteArray) (p1 : (List TPlotStep)) : Option ByteArray :=
  F_plot_writeSteps_L1 rec p1 0 p0
def F_plot_writeSteps : Nat → ByteArray → (List TPlotStep) → Option ByteArray
  | 0 => fun _ _ => none
  | N + 1 => F_plot_writeSteps_b N (F_plot_writeSteps N)



def F_plot_Text_L4 (kL3 : ByteArray → Option (ByteArray × Int)) : List TRect → Nat → ByteArray → Option (ByteArray × Int)
  | [], iL4, m208 =>
    (sbW m208 (⟨#[10]⟩)).bind fun y209 =>
    kL3 y209
  | xL4 :: restL4, iL4, m208 =>
    (F_plot_points [(TPoint.mk xL4.X0 xL4.Y0), (TPoint.mk xL4.X1 xL4.Y1)]).bind fun y213 =>
    (sbW m208 y213).bind fun y214 =>
    (F_plot_Text_L4 kL3 restL4 (iL4 + 1)) y214
def F_plot_Text_L3 (N : Nat) (p0 : TPlot) : List TPlotTool → Nat → ByteArray → Option (ByteArray × Int)
  | [], iL3, m178 =>
    (F_plot_writeSteps N m178 p0.Steps).bind fun y179 =>
    (sbL y179).bind fun y181 =>
    if (decide (200000 < y181.1)) then
      some (ByteArray.empty, 2)
    else
      (sbS y181.2).bind fun y183 =>
      some (y183.1, 0)
  | xL3 :: restL3, iL3, m178 =>
    (catS (⟨#[116, 111, 111, 108, 32]⟩) xL3.Name).bind fun t187 =>
    (sbW m178 t187).bind fun y188 =>
    F_plot_Text_L4 (F_plot_Text_L3 N p0 restL3 (iL3 + 1)) xL3.Rects 0 y188
def F_plot_Text (N : Nat) (p0 : TPlot) : Option (ByteArray × Int) :=
  (F_plot_CheckPlot N p0).bind fun y101 =>
  if (y101 != 0) then
    some (ByteArray.empty, y101)
  else
    (itoaS p0.Unit).bind fun y103 =>
    (catS (⟨#[117, 110, 105, 116, 32]⟩) y103).bind fun t104 =>
    (catS t104 (⟨#[10]⟩)).bind fun t105 =>
    (sbW ByteArray.empty t105).bind fun y106 =>
    F_plot_Text_L3 N p0 p0.Tools 0 y106


def F_etchhouselaw3_awake (N : Nat)  : Option Bool :=
  (F_plot_Text N (TPlot.mk 7 [] [])).bind fun y100 =>
  some ((y100.2 == 0) && (sEq y100.1 (⟨#[117, 110, 105, 116, 32, 55, 10]⟩)))


def F_etchhouselaw3_PlotsMovedMatchSpec (N : Nat) (p0 : TPlot) (p1 : TPoint) (p2 : TTurn) : Option Bool :=
  (F_plot_Moved N p0 p1).bind fun y103 =>
  (F_etchhouseref3_Moved N p0 p1).bind fun y106 =>
  (F_plot_TurnedPlot N p0 p2).bind fun y109 =>
  (F_etchhouseref3_TurnedPlot N p0 p2).bind fun y112 =>
  (F_etchhouseref3_SamePlot N y103.1 y106.1).bind fun y115 =>
  (if (y115 && (y103.2 == y106.2)) then 
    (F_etchhouseref3_SamePlot N y109.1 y112.1).bind fun y118 =>
    some y118
   else some false).bind fun g117 =>
  (if (g117 && (y109.2 == y112.2)) then 
    (F_etchhouselaw3_awake N).bind fun y121 =>
    some y121
   else some false).bind fun g120 =>
  some g120

end Go.Proofs.YtneghcpnehiffaaDoor
