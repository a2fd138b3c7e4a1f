/- The plain functions: what each function of the program computes; none where it would panic. -/
import Derived.Test.YtoageaoknnnfbaaGreatDoorXT
namespace Go.Proofs.YtoageaoknnnfbaaGreatDoor
open Go.RowKit

def F_plot_within (p0 : Int) (p1 : Int) (p2 : Int) : Option Bool :=
  some ((decide (p1 ≤ p0)) && (decide (p0 ≤ p2)))

def F_plot_IsName_L1 (p0 : ByteArray) : Nat → Int → Option Bool
  | 0, _ => none
  | mL1 + 1, x105 =>
    if (decide (x105 < (p0.size : Int))) then
      (strAt p0 x105).bind fun c106 =>
      if ((!(((decide (97 ≤ c106)) && (decide (c106 ≤ 122))) || ((decide (65 ≤ c106)) && (decide (c106 ≤ 90))))) && ((x105 == 0) || ((((decide (c106 < 48)) || (decide (57 < c106))) && (c106 != 95)) && (c106 != 45)))) then
        some false
      else
        (F_plot_IsName_L1 p0 mL1) (w64 (x105 + 1))
    else
      some ((decide (1 ≤ (p0.size : Int))) && (decide ((p0.size : Int) ≤ 40)))
def F_plot_IsName (N : Nat) (p0 : ByteArray) : Option Bool :=
  F_plot_IsName_L1 p0 N 0


def F_plot_isAt (p0 : Int) (p1 : Int) : Option Bool :=
  (dv (-1000000) p1).bind fun q100 =>
  (dv 1000000 p1).bind fun q101 =>
  (F_plot_within p0 q100 q101).bind fun y102 =>
  some y102

def F_plot_checkTool_L1 (p1 : Int) : List zR → Nat → Option Int
  | [], iL1 =>
    some 0
  | xL1 :: restL1, iL1 =>
    (F_plot_isAt xL1.X0 p1).bind fun y116 =>
    (if (!y116) then some true else 
      (F_plot_isAt xL1.Y0 p1).bind fun y119 =>
      some (!y119)
    ).bind fun g118 =>
    (if g118 then some true else 
      (F_plot_isAt xL1.X1 p1).bind fun y122 =>
      some (!y122)
    ).bind fun g121 =>
    (if g121 then some true else 
      (F_plot_isAt xL1.Y1 p1).bind fun y125 =>
      some (!y125)
    ).bind fun g124 =>
    if g124 then
      some 1
    else
      if ((decide (xL1.X1 ≤ xL1.X0)) || (decide (xL1.Y1 ≤ xL1.Y0))) then
        some 13
      else
        (F_plot_checkTool_L1 p1 restL1 (iL1 + 1))
def F_plot_checkTool (N : Nat) (p0 : zAF) (p1 : Int) : Option Int :=
  (F_plot_IsName N p0.Name).bind fun y101 =>
  if (!y101) then
    some 5
  else
    if ((p0.Rects.length : Int) == 0) then
      some 9
    else
      if (decide (2000 < (p0.Rects.length : Int))) then
        some 2
      else
        F_plot_checkTool_L1 p1 p0.Rects 0


def F_plot_times_1 (p0 : Int) : Option Int :=
  (F_plot_within p0 1 100).bind fun y100 =>
  if y100 then
    some p0
  else
    some 1


def F_plot_times (p0 : zD) : Option Int :=
  (F_plot_times_1 p0.NX).bind fun y101 =>
  (F_plot_times_1 p0.NY).bind fun y102 =>
  some (w64 (y101 * y102))

def F_plot_count_J4 (kL3 : Int → Option Int) (x131 : Int) : Option Int :=
  if (decide (3000 < x131)) then
    some 3001
  else
    kL3 x131
def F_plot_count_L3 (rec : (List zD) → Option Int) : List zD → Nat → Int → Option Int
  | [], iL3, x126 =>
    some x126
  | xL3 :: restL3, iL3, x126 =>
    if (decide (0 < (xL3.Steps.length : Int))) then
      (F_plot_times xL3).bind fun y134 =>
      (rec xL3.Steps).bind fun y135 =>
      F_plot_count_J4 (F_plot_count_L3 rec restL3 (iL3 + 1)) (w64 ((w64 (x126 + 1)) + (w64 (y134 * y135))))
    else
      F_plot_count_J4 (F_plot_count_L3 rec restL3 (iL3 + 1)) (w64 (x126 + 1))
def F_plot_count_b (N : Nat) (rec : (List zD) → Option Int) (p0 : (List zD)) : Option Int :=
  F_plot_count_L3 rec p0 0 0
def F_plot_count : Nat → (List zD) → Option Int
  | 0 => fun _ => none
  | N + 1 => F_plot_count_b N (F_plot_count N)

def F_plot_fieldsOf_J1 (p0 : Int) (x101 : Bool) : Option TFields :=
  if x101 then
    some (TFields.mk false true false false)
  else
    if (p0 == 7) then
      some (TFields.mk false false true false)
    else
      if (p0 == 8) then
        some (TFields.mk false true false true)
      else
        some (TFields.mk false false false false)
def F_plot_fieldsOf (p0 : Int) : Option TFields :=
  if (p0 == 3) then
    some (TFields.mk true false false false)
  else
    if (p0 == 4) then
      F_plot_fieldsOf_J1 p0 (p0 == 4)
    else
      if (p0 == 5) then
        F_plot_fieldsOf_J1 p0 (p0 == 5)
      else
        F_plot_fieldsOf_J1 p0 (p0 == 6)


def F_plot_toolAt_1 (p0 : zAF) (q0 : ByteArray) : Option Bool :=
  some (sEq p0.Name q0)

def zi (q0 : ByteArray) : List zAF → Nat → Option Int
  | [], iL1 =>
    some (-1)
  | xL1 :: restL1, iL1 =>
    (F_plot_toolAt_1 xL1 q0).bind fun y105 =>
    if y105 then
      some (iL1 : Int)
    else
      (zi q0 restL1 (iL1 + 1))
def F_slices_IndexFunc_PlotTool__toolAt_1 (p0 : (List zAF)) (q0 : ByteArray) : Option Int :=
  zi q0 p0 0


def F_plot_toolAt (p0 : TPlot) (p1 : ByteArray) : Option Int :=
  (F_slices_IndexFunc_PlotTool__toolAt_1 p0.Tools p1).bind fun y102 =>
  some y102


def F_plot_isPoint (p0 : zJ) (p1 : Int) : Option Bool :=
  (F_plot_isAt p0.X p1).bind fun y101 =>
  (if y101 then 
    (F_plot_isAt p0.Y p1).bind fun y104 =>
    some y104
   else some false).bind fun g103 =>
  some g103


def F_plot_checkStep_1 (p0 : zJ) (q0 : TPlot) : Option Bool :=
  (F_plot_isPoint p0 q0.Unit).bind fun y101 =>
  some (!y101)

def zx (p1 : zJ → Option Bool) : List zJ → Nat → Option Int
  | [], iL1 =>
    some (-1)
  | xL1 :: restL1, iL1 =>
    (p1 xL1).bind fun y103 =>
    if y103 then
      some (iL1 : Int)
    else
      (zx p1 restL1 (iL1 + 1))
def F_slices_IndexFunc_Point (p0 : (List zJ)) (p1 : zJ → Option Bool) : Option Int :=
  zx p1 p0 0


def zAP (p0 : (List zJ)) (p1 : zJ → Option Bool) : Option Bool :=
  (F_slices_IndexFunc_Point p0 p1).bind fun y100 =>
  some (decide (0 ≤ y100))

def F_shape_IsRow_L1 (p0 : (List zJ)) : List zJ → Nat → Option Bool
  | [], iL1 =>
    some true
  | xL1 :: restL1, iL1 =>
    (md (w64 ((iL1 : Int) + 1)) (p0.length : Int)).bind fun q107 =>
    (idx p0 q107).bind fun x108 =>
    if ((xL1.X == x108.X) == (xL1.Y == x108.Y)) then
      some false
    else
      (F_shape_IsRow_L1 p0 restL1 (iL1 + 1))
def F_shape_IsRow (p0 : (List zJ)) : Option Bool :=
  if (decide ((p0.length : Int) < 4)) then
    some false
  else
    F_shape_IsRow_L1 p0 p0 0

def zAJ (p0 : TPlot) (p1 : zD) (p2 : Int) (y103 : TFields) (x105 : Bool) : Option Int :=
  if x105 then
    some 3
  else
    (if y103.name then 
      (F_plot_toolAt p0 p1.Name).bind fun y110 =>
      some (decide (y110 < 0))
     else some false).bind fun g109 =>
    if g109 then
      some 5
    else
      (F_plot_isPoint p1.At p0.Unit).bind fun y111 =>
      (if (!y111) then some true else 
        (zAP p1.Points (fun z0 => F_plot_checkStep_1 z0 p0)).bind fun y114 =>
        some y114
      ).bind fun g113 =>
      if g113 then
        some 1
      else
        if (decide (2000 < (p1.Points.length : Int))) then
          some 2
        else
          (if y103.points then 
            (F_shape_IsRow p1.Points).bind fun y117 =>
            some (!y117)
           else some false).bind fun g116 =>
          if g116 then
            some 3
          else
            if (!y103.repeat_) then
              some 0
            else
              (F_plot_within p1.NX 1 100).bind fun y118 =>
              (if (!y118) then some true else 
                (F_plot_within p1.NY 1 100).bind fun y121 =>
                some (!y121)
              ).bind fun g120 =>
              if g120 then
                some 1
              else
                if ((p1.Steps.length : Int) == 0) then
                  some 9
                else
                  if (decide (5 ≤ p2)) then
                    some 2
                  else
                    some 0
def F_plot_checkStep (p0 : TPlot) (p1 : zD) (p2 : Int) : Option Int :=
  (F_plot_within p1.Kind 1 8).bind fun y102 =>
  if (!y102) then
    some 4
  else
    (F_plot_fieldsOf p1.Kind).bind fun y103 =>
    if ((!y103.name) && (!sEq p1.Name ByteArray.empty)) then
      zAJ p0 p1 p2 y103 ((!y103.name) && (!sEq p1.Name ByteArray.empty))
    else
      if ((!y103.at_) && (!(eqTPoint p1.At (zJ.mk 0 0)))) then
        zAJ p0 p1 p2 y103 ((!y103.at_) && (!(eqTPoint p1.At (zJ.mk 0 0))))
      else
        if ((!y103.points) && (decide (0 < (p1.Points.length : Int)))) then
          zAJ p0 p1 p2 y103 ((!y103.points) && (decide (0 < (p1.Points.length : Int))))
        else
          zAJ p0 p1 p2 y103 ((!y103.repeat_) && (((p1.NX != 0) || (p1.NY != 0)) || (decide (0 < (p1.Steps.length : Int)))))

def F_plot_checkSteps_L1 (p0 : TPlot) (p2 : Int) (rec : TPlot → (List zD) → Int → Option Int) : List zD → Nat → Option Int
  | [], iL1 =>
    some 0
  | xL1 :: restL1, iL1 =>
    (F_plot_checkStep p0 xL1 p2).bind fun y109 =>
    if (y109 != 0) then
      some y109
    else
      (rec p0 xL1.Steps (w64 (p2 + 1))).bind fun y110 =>
      if (y110 != 0) then
        some y110
      else
        (F_plot_checkSteps_L1 p0 p2 rec restL1 (iL1 + 1))
def F_plot_checkSteps_b (N : Nat) (rec : TPlot → (List zD) → Int → Option Int) (p0 : TPlot) (p1 : (List zD)) (p2 : Int) : Option Int :=
  F_plot_checkSteps_L1 p0 p2 rec p1 0
def F_plot_checkSteps : Nat → TPlot → (List zD) → Int → Option Int
  | 0 => fun _ _ _ => none
  | N + 1 => F_plot_checkSteps_b N (F_plot_checkSteps N)

def F_plot_CheckPlot_L1 (N : Nat) (p0 : TPlot) : List zAF → Nat → Option Int
  | [], iL1 =>
    (F_plot_count N p0.Steps).bind fun y112 =>
    if (decide (3000 < y112)) then
      some 2
    else
      (F_plot_checkSteps N p0 p0.Steps 0).bind fun y113 =>
      some y113
  | xL1 :: restL1, iL1 =>
    (F_plot_checkTool N xL1 p0.Unit).bind fun y116 =>
    if (y116 != 0) then
      some y116
    else
      (if (decide (0 < (iL1 : Int))) then 
        (idx p0.Tools (w64 ((iL1 : Int) - 1))).bind fun x120 =>
        some (sLt xL1.Name x120.Name || sEq xL1.Name x120.Name)
       else some false).bind fun g119 =>
      if g119 then
        some 8
      else
        (F_plot_CheckPlot_L1 N p0 restL1 (iL1 + 1))
def F_plot_CheckPlot (N : Nat) (p0 : TPlot) : Option Int :=
  (F_plot_within p0.Unit 1 1000).bind fun y101 =>
  if (!y101) then
    some 1
  else
    if (decide (200 < (p0.Tools.length : Int))) then
      some 2
    else
      F_plot_CheckPlot_L1 N p0 p0.Tools 0


def F_slices_Clone_Rect (p0 : (List zR)) : Option (List zR) :=
  (apd ([] : List zR) p0).bind fun l101 =>
  some l101



def F_shape_SetOf_1 (p0 : zR) (p1 : zR) : Option Int :=
  some (w64 (p0.Y0 - p1.Y0))




def F_shape_SetOf_2 (p0 : zR) (q0 : (List Int)) (q1 : Int) : Option Bool :=
  (idx q0 q1).bind fun x101 =>
  some (decide (p0.Y1 ≤ x101))

def F_slices_IndexFunc_Rect_L1 (p1 : zR → Option Bool) : List zR → Nat → Option Int
  | [], iL1 =>
    some (-1)
  | xL1 :: restL1, iL1 =>
    (p1 xL1).bind fun y103 =>
    if y103 then
      some (iL1 : Int)
    else
      (F_slices_IndexFunc_Rect_L1 p1 restL1 (iL1 + 1))
def F_slices_IndexFunc_Rect (p0 : (List zR)) (p1 : zR → Option Bool) : Option Int :=
  F_slices_IndexFunc_Rect_L1 p1 p0 0

def zAB (p1 : zR → Option Bool) : Nat → List zR → Int → Int → Option (List zR)
  | 0, _, _, _ => none
  | mL1 + 1, l120, x121, x122 =>
    if (decide (x122 < (l120.length : Int))) then
      (idx l120 x122).bind fun x123 =>
      (p1 x123).bind fun y125 =>
      if (!y125) then
        (idx l120 x121).bind fun x126 =>
        (sets l120 x121 x123).bind fun l127 =>
        (zAB p1 mL1) l127 (w64 (x121 + 1)) (w64 (x122 + 1))
      else
        (zAB p1 mL1) l120 x121 (w64 (x122 + 1))
    else
      (cut l120 x121 (l120.length : Int)).bind fun l128 =>
      (pre (clr l120 x121 (l128).length (zR.mk 0 0 0 0)) x121).bind fun l129 =>
      some l129
def F_slices_DeleteFunc_Rect (N : Nat) (p0 : (List zR)) (p1 : zR → Option Bool) : Option (List zR) :=
  (F_slices_IndexFunc_Rect p0 p1).bind fun y100 =>
  if (y100 == (-1)) then
    some p0
  else
    zAB p1 N p0 y100 (w64 (y100 + 1))


def F_shape_stretches_1 (p0 : zR) (p1 : zR) : Option Int :=
  some (w64 (p0.X0 - p1.X0))

def F_shape_stretches_L1 (y100 : (List zR)) : List zR → Nat → List Int → Option ((List Int) × (List zR))
  | [], iL1, l128 =>
    some (l128, y100)
  | xL1 :: restL1, iL1, l128 =>
    (if (decide (0 ≤ (w64 ((l128.length : Int) - 1)))) then 
      (idx l128 (w64 ((l128.length : Int) - 1))).bind fun x132 =>
      some (decide (xL1.X0 ≤ x132))
     else some false).bind fun g131 =>
    if g131 then
      (idx l128 (w64 ((l128.length : Int) - 1))).bind fun x133 =>
      (idx l128 (w64 ((l128.length : Int) - 1))).bind fun x134 =>
      (sets l128 (w64 ((l128.length : Int) - 1)) (max x133 xL1.X1)).bind fun l135 =>
      (F_shape_stretches_L1 y100 restL1 (iL1 + 1)) l135
    else
      (apd l128 [xL1.X0, xL1.X1]).bind fun l137 =>
      (F_shape_stretches_L1 y100 restL1 (iL1 + 1)) l137
noncomputable def F_shape_stretches (p0 : (List zR)) : Option ((List Int) × (List zR)) :=
  (srtF p0 (fun z0 z1 => F_shape_stretches_1 z0 z1)).bind fun y100 =>
  F_shape_stretches_L1 y100 y100 0 ([] : List Int)

def F_slices_Equal_int_L1 (p1 : (List Int)) : List Int → Nat → Option Bool
  | [], iL1 =>
    some true
  | xL1 :: restL1, iL1 =>
    (idx p1 (iL1 : Int)).bind fun x103 =>
    if (xL1 != x103) then
      some false
    else
      (F_slices_Equal_int_L1 p1 restL1 (iL1 + 1))
def F_slices_Equal_int (p0 : (List Int)) (p1 : (List Int)) : Option Bool :=
  if ((p0.length : Int) != (p1.length : Int)) then
    some false
  else
    F_slices_Equal_int_L1 p1 p0 0


def F_shape_Set__push (p0 : (List zS)) (p1 : zS) : Option (List zS) :=
  if (((p1.Xs.length : Int) == 0) || (decide (p1.Y1 ≤ p1.Y0))) then
    some p0
  else
    (if (decide (0 ≤ (w64 ((p0.length : Int) - 1)))) then 
      (idx p0 (w64 ((p0.length : Int) - 1))).bind fun x103 =>
      some (x103.Y1 == p1.Y0)
     else some false).bind fun g102 =>
    (if g102 then 
      (idx p0 (w64 ((p0.length : Int) - 1))).bind fun x108 =>
      (F_slices_Equal_int x108.Xs p1.Xs).bind fun y110 =>
      some y110
     else some false).bind fun g107 =>
    if g107 then
      (idx p0 (w64 ((p0.length : Int) - 1))).bind fun x111 =>
      (sets p0 (w64 ((p0.length : Int) - 1)) (zS.mk x111.Y0 p1.Y1 x111.Xs)).bind fun l112 =>
      some l112
    else
      (apd p0 [p1]).bind fun l114 =>
      some l114

noncomputable def F_shape_SetOf_L5 (y102 : (List zR)) (y122 : (List Int)) (x229 : Int) (l230 : List zS) (kL4 : Int → (List zS) → (List zR) → Int → Option (List zS)) : Nat → List zR → Int → Option (List zS)
  | 0, _, _ => none
  | mL5 + 1, l257, x258 =>
    (if (decide (x258 < (y102.length : Int))) then 
      (idx y102 x258).bind fun x262 =>
      (idx y122 x229).bind fun x263 =>
      some (decide (x262.Y0 ≤ x263))
     else some false).bind fun g261 =>
    if g261 then
      (idx y102 x258).bind fun x264 =>
      (apd l257 [x264]).bind fun l266 =>
      (F_shape_SetOf_L5 y102 y122 x229 l230 kL4 mL5) l266 (w64 (x258 + 1))
    else
      (idx y122 x229).bind fun x268 =>
      (idx y122 (w64 (x229 + 1))).bind fun x269 =>
      (F_shape_stretches l257).bind fun y270 =>
      (F_shape_Set__push l230 (zS.mk x268 x269 y270.1)).bind fun y274 =>
      kL4 (w64 (x229 + 1)) y274 y270.2 x258
noncomputable def F_shape_SetOf_L4 (N : Nat) (y102 : (List zR)) (y122 : (List Int)) : Nat → Int → List zS → List zR → Int → Option (List zS)
  | 0, _, _, _, _ => none
  | mL4 + 1, x229, l230, l231, x232 =>
    if (decide ((w64 (x229 + 1)) < (y122.length : Int))) then
      (F_slices_DeleteFunc_Rect N l231 (fun z0 => F_shape_SetOf_2 z0 y122 x229)).bind fun y233 =>
      F_shape_SetOf_L5 y102 y122 x229 l230 (F_shape_SetOf_L4 N y102 y122 mL4) N y233 x232
    else
      some l230
noncomputable def F_shape_SetOf_L1 (N : Nat) (y102 : (List zR)) : List zR → Nat → List Int → Option (List zS)
  | [], iL1, l119 =>
    (srtI l119).bind fun y120 =>
    (cpI y120).bind fun y122 =>
    F_shape_SetOf_L4 N y102 y122 N 0 ([] : List zS) ([] : List zR) 0
  | xL1 :: restL1, iL1, l119 =>
    (apd l119 [xL1.Y0, xL1.Y1]).bind fun l279 =>
    (F_shape_SetOf_L1 N y102 restL1 (iL1 + 1)) l279
noncomputable def F_shape_SetOf (N : Nat) (p0 : (List zR)) : Option (List zS) :=
  (F_slices_Clone_Rect p0).bind fun y100 =>
  (srtF y100 (fun z0 z1 => F_shape_SetOf_1 z0 z1)).bind fun y102 =>
  F_shape_SetOf_L1 N y102 y102 0 ([] : List Int)

noncomputable def F_plot_newMachine_L4 (N : Nat) (p0 : TPlot) (l164 : List (List zS)) (kL3 : (List (List zS)) → Option zo) : List zR → Nat → List zR → Option zo
  | [], iL4, l181 =>
    (F_shape_SetOf N l181).bind fun y183 =>
    (apd l164 [y183]).bind fun l188 =>
    kL3 l188
  | xL4 :: restL4, iL4, l181 =>
    (apd l181 [(zR.mk (w64 (xL4.X0 * p0.Unit)) (w64 (xL4.Y0 * p0.Unit)) (w64 (xL4.X1 * p0.Unit)) (w64 (xL4.Y1 * p0.Unit)))]).bind fun l191 =>
    (F_plot_newMachine_L4 N p0 l164 kL3 restL4 (iL4 + 1)) l191
noncomputable def zAM (N : Nat) (p0 : TPlot) : List zAF → Nat → List (List zS) → Option zo
  | [], iL3, l164 =>
    some (zo.mk p0 l164 [] false (-1) (zJ.mk 0 0) false 0 0)
  | xL3 :: restL3, iL3, l164 =>
    F_plot_newMachine_L4 N p0 l164 (zAM N p0 restL3 (iL3 + 1)) xL3.Rects 0 ([] : List zR)
noncomputable def F_plot_newMachine (N : Nat) (p0 : TPlot) : Option zo :=
  zAM N p0 p0.Tools 0 ([] : List (List zS))


def F_plot_machine__moved (p0 : zo) (p1 : zJ) (p2 : zJ) : Option zJ :=
  some (zJ.mk (w64 ((w64 (p1.X * p0.p.Unit)) + p2.X)) (w64 ((w64 (p1.Y * p0.p.Unit)) + p2.Y)))


def F_shape_within (p0 : Int) (p1 : Int) (p2 : Int) : Option Bool :=
  some ((decide (p1 ≤ p0)) && (decide (p0 ≤ p2)))


def F_shape_IsAt (p0 : Int) : Option Bool :=
  (F_shape_within p0 (-1000000) 1000000).bind fun y100 =>
  some y100


def F_shape_IsPoint (p0 : zJ) : Option Bool :=
  (F_shape_IsAt p0.X).bind fun y101 =>
  (if y101 then 
    (F_shape_IsAt p0.Y).bind fun y104 =>
    some y104
   else some false).bind fun g103 =>
  some g103


def F_plot_far (p0 : zJ) (p1 : zJ) : Option Int :=
  some (w64 ((max (w64 (p0.X - p1.X)) (w64 (p1.X - p0.X))) + (max (w64 (p0.Y - p1.Y)) (w64 (p1.Y - p0.Y)))))

def F_shape_Set__Rects_L4 (kL3 : (List zR) → Option (List zR)) (xL3 : zS) : Nat → List zR → Int → Option (List zR)
  | 0, _, _ => none
  | mL4 + 1, l169, x170 =>
    if (decide (x170 < (xL3.Xs.length : Int))) then
      (idx xL3.Xs x170).bind fun x172 =>
      (idx xL3.Xs (w64 (x170 + 1))).bind fun x173 =>
      (apd l169 [(zR.mk x172 xL3.Y0 x173 xL3.Y1)]).bind fun l174 =>
      (F_shape_Set__Rects_L4 kL3 xL3 mL4) l174 (w64 (x170 + 2))
    else
      kL3 l169
def zAG (N : Nat) : List zS → Nat → List zR → Option (List zR)
  | [], iL3, l152 =>
    some l152
  | xL3 :: restL3, iL3, l152 =>
    F_shape_Set__Rects_L4 (zAG N restL3 (iL3 + 1)) xL3 N l152 0
def F_shape_Set__Rects (N : Nat) (p0 : (List zS)) : Option (List zR) :=
  zAG N p0 0 ([] : List zR)

noncomputable def F_shape_Set__Spread_L1 (N : Nat) (p1 : Int) (p2 : Int) (p3 : Int) (p4 : Int) (y100 : (List zR)) : Nat → List zR → Int → Option (List zS)
  | 0, _, _ => none
  | mL1 + 1, l116, x117 =>
    if (decide (x117 < (y100.length : Int))) then
      (idx l116 x117).bind fun x118 =>
      (idx l116 x117).bind fun x120 =>
      (sets l116 x117 (zR.mk (w64 (x118.X0 - p1)) (w64 (x118.Y0 - p3)) (w64 (x118.X1 + p2)) (w64 (x118.Y1 + p4)))).bind fun l121 =>
      (F_shape_Set__Spread_L1 N p1 p2 p3 p4 y100 mL1) l121 (w64 (x117 + 1))
    else
      (F_shape_SetOf N l116).bind fun y122 =>
      some y122
noncomputable def F_shape_Set__Spread (N : Nat) (p0 : (List zS)) (p1 : Int) (p2 : Int) (p3 : Int) (p4 : Int) : Option (List zS) :=
  (F_shape_Set__Rects N p0).bind fun y100 =>
  F_shape_Set__Spread_L1 N p1 p2 p3 p4 y100 N y100 0


noncomputable def F_plot_swept (N : Nat) (p0 : (List zS)) (p1 : zJ) (p2 : zJ) : Option (List zS) :=
  (F_shape_Set__Spread N p0 (w64 (0 - (min p1.X p2.X))) (max p1.X p2.X) (w64 (0 - (min p1.Y p2.Y))) (max p1.Y p2.Y)).bind fun y102 =>
  some y102

def F_shape_Set__Around_L1 (x105 : zS) (x110 : zS) : List zS → Nat → Int → Int → Option zR
  | [], iL1, x133, x134 =>
    some (zR.mk x133 x105.Y0 x134 x110.Y1)
  | xL1 :: restL1, iL1, x133, x134 =>
    (idx xL1.Xs 0).bind fun x138 =>
    (idx xL1.Xs (w64 ((xL1.Xs.length : Int) - 1))).bind fun x139 =>
    (F_shape_Set__Around_L1 x105 x110 restL1 (iL1 + 1)) (min x133 x138) (max x134 x139)
def F_shape_Set__Around (p0 : (List zS)) : Option zR :=
  (idx p0 0).bind fun x102 =>
  (idx x102.Xs 0).bind fun x104 =>
  (idx p0 0).bind fun x105 =>
  (idx p0 0).bind fun x107 =>
  (idx x107.Xs 1).bind fun x109 =>
  (idx p0 (w64 ((p0.length : Int) - 1))).bind fun x110 =>
  F_shape_Set__Around_L1 x105 x110 p0 0 x104 x109


def F_shape_isRect (p0 : zR) : Option Bool :=
  (F_shape_IsAt p0.X0).bind fun y101 =>
  (if y101 then 
    (F_shape_IsAt p0.Y0).bind fun y104 =>
    some y104
   else some false).bind fun g103 =>
  (if g103 then 
    (F_shape_IsAt p0.X1).bind fun y107 =>
    some y107
   else some false).bind fun g106 =>
  (if g106 then 
    (F_shape_IsAt p0.Y1).bind fun y110 =>
    some y110
   else some false).bind fun g109 =>
  some g109


def F_shape_Set__Fits (p0 : (List zS)) : Option Bool :=
  (if ((p0.length : Int) == 0) then some true else 
    (F_shape_Set__Around p0).bind fun y103 =>
    (F_shape_isRect y103).bind fun y104 =>
    some y104
  ).bind fun g102 =>
  some g102


def F_shape_Set__at (p0 : (List zS)) (p1 : Int) (p2 : Int) : Option ((List Int) × Int) :=
  if ((p0.length : Int) == 0) then
    some (([] : List Int), p2)
  else
    (idx p0 0).bind fun x102 =>
    if (decide (p1 < x102.Y0)) then
      (idx p0 0).bind fun x104 =>
      some ([], (min p2 x104.Y0))
    else
      (idx p0 0).bind fun x106 =>
      (idx p0 0).bind fun x108 =>
      some (x106.Xs, (min p2 x108.Y1))

def F_shape_line_J8 (p2 : Bool → Bool → Option Bool) (l232 : List Int) (x235 : Bool) (kL7 : (List Int) → (List Int) → (List Int) → Bool → Bool → Bool → Option (List Int)) (x249 : Int) (l256 : List Int) (x257 : Bool) (l264 : List Int) (x265 : Bool) : Option (List Int) :=
  (p2 x257 x265).bind fun y268 =>
  if (y268 != x235) then
    (apd l232 [x249]).bind fun l270 =>
    kL7 l256 l264 l270 x257 x265 y268
  else
    kL7 l256 l264 l232 x257 x265 x235
def F_shape_line_J9 (p2 : Bool → Bool → Option Bool) (l231 : List Int) (l232 : List Int) (x234 : Bool) (x235 : Bool) (kL7 : (List Int) → (List Int) → (List Int) → Bool → Bool → Bool → Option (List Int)) (x249 : Int) (l256 : List Int) (x257 : Bool) : Option (List Int) :=
  (if (decide (0 < (l231.length : Int))) then 
    (idx l231 0).bind fun x273 =>
    some (x273 == x249)
   else some false).bind fun g272 =>
  if g272 then
    (cut l231 1 (l231.length : Int)).bind fun l274 =>
    F_shape_line_J8 p2 l232 x235 kL7 x249 l256 x257 l274 (!x234)
  else
    F_shape_line_J8 p2 l232 x235 kL7 x249 l256 x257 l231 x234
def F_shape_line_J10 (p2 : Bool → Bool → Option Bool) (l230 : List Int) (l231 : List Int) (l232 : List Int) (x233 : Bool) (x234 : Bool) (x235 : Bool) (kL7 : (List Int) → (List Int) → (List Int) → Bool → Bool → Bool → Option (List Int)) (x249 : Int) : Option (List Int) :=
  (if (decide (0 < (l230.length : Int))) then 
    (idx l230 0).bind fun x277 =>
    some (x277 == x249)
   else some false).bind fun g276 =>
  if g276 then
    (cut l230 1 (l230.length : Int)).bind fun l278 =>
    F_shape_line_J9 p2 l231 l232 x234 x235 kL7 x249 l278 (!x233)
  else
    F_shape_line_J9 p2 l231 l232 x234 x235 kL7 x249 l230 x233
def zAD (p2 : Bool → Bool → Option Bool) : Nat → List Int → List Int → List Int → Bool → Bool → Bool → Option (List Int)
  | 0, _, _, _, _, _, _ => none
  | mL7 + 1, l230, l231, l232, x233, x234, x235 =>
    if ((decide (0 < (l230.length : Int))) || (decide (0 < (l231.length : Int)))) then
      (if ((l231.length : Int) == 0) then some true else 
        (if (decide (0 < (l230.length : Int))) then 
          (idx l230 0).bind fun x288 =>
          (idx l231 0).bind fun x289 =>
          some (decide (x288 ≤ x289))
         else some false).bind fun g287 =>
        some g287
      ).bind fun g284 =>
      if g284 then
        (idx l230 0).bind fun x290 =>
        F_shape_line_J10 p2 l230 l231 l232 x233 x234 x235 (zAD p2 mL7) x290
      else
        (idx l231 0).bind fun x291 =>
        F_shape_line_J10 p2 l230 l231 l232 x233 x234 x235 (zAD p2 mL7) x291
    else
      some l232
def F_shape_line (N : Nat) (p0 : (List Int)) (p1 : (List Int)) (p2 : Bool → Bool → Option Bool) : Option (List Int) :=
  zAD p2 N p0 p1 ([] : List Int) false false false

def F_shape_Merge_J4 (l152 : List (List zS)) (x153 : Int) (kL3 : Int → Int → (List (List zS)) → Int → Option (List zS)) (x154 : (List zS)) (x160 : Int) (x161 : Int) : Option (List zS) :=
  (idx x154 0).bind fun x164 =>
  (idx x154 (w64 ((x154.length : Int) - 1))).bind fun x166 =>
  kL3 (min x160 x164.Y0) (max x161 x166.Y1) l152 (w64 (x153 + 1))
def F_shape_Merge_L11 (N : Nat) (p2 : Bool → Bool → Option Bool) (x151 : Int) (l294 : List zS) (x295 : Int) (kL9 : (List zS) → (List zS) → (List zS) → Int → Option (List zS)) (l311 : List zS) : Nat → List zS → Option (List zS)
  | 0, _ => none
  | mL11 + 1, l333 =>
    (if (decide (0 < (l333.length : Int))) then 
      (idx l333 0).bind fun x337 =>
      some (decide (x337.Y1 ≤ x295))
     else some false).bind fun g336 =>
    if g336 then
      (cut l333 1 (l333.length : Int)).bind fun l339 =>
      (F_shape_Merge_L11 N p2 x151 l294 x295 kL9 l311 mL11) l339
    else
      (F_shape_Set__at l311 x295 x151).bind fun y340 =>
      (F_shape_Set__at l333 x295 x151).bind fun y342 =>
      (F_shape_line N y340.1 y342.1 p2).bind fun y344 =>
      (F_shape_Set__push l294 (zS.mk x295 (min y340.2 y342.2) y344)).bind fun y348 =>
      kL9 l311 l333 y348 (min y340.2 y342.2)
def F_shape_Merge_L10 (N : Nat) (p2 : Bool → Bool → Option Bool) (x151 : Int) (l293 : List zS) (l294 : List zS) (x295 : Int) (kL9 : (List zS) → (List zS) → (List zS) → Int → Option (List zS)) : Nat → List zS → Option (List zS)
  | 0, _ => none
  | mL10 + 1, l311 =>
    (if (decide (0 < (l311.length : Int))) then 
      (idx l311 0).bind fun x315 =>
      some (decide (x315.Y1 ≤ x295))
     else some false).bind fun g314 =>
    if g314 then
      (cut l311 1 (l311.length : Int)).bind fun l317 =>
      (F_shape_Merge_L10 N p2 x151 l293 l294 x295 kL9 mL10) l317
    else
      F_shape_Merge_L11 N p2 x151 l294 x295 kL9 l311 N l293
def F_shape_Merge_L9 (N : Nat) (p2 : Bool → Bool → Option Bool) (x151 : Int) : Nat → List zS → List zS → List zS → Int → Option (List zS)
  | 0, _, _, _, _ => none
  | mL9 + 1, l292, l293, l294, x295 =>
    if (decide (x295 < x151)) then
      F_shape_Merge_L10 N p2 x151 l293 l294 x295 (F_shape_Merge_L9 N p2 x151 mL9) N l292
    else
      some l294
def zz (N : Nat) (p0 : (List zS)) (p1 : (List zS)) (p2 : Bool → Bool → Option Bool) : Nat → Int → Int → List (List zS) → Int → Option (List zS)
  | 0, _, _, _, _ => none
  | mL3 + 1, x150, x151, l152, x153 =>
    if (decide (x153 < 2)) then
      (idx l152 x153).bind fun x154 =>
      if (decide (0 < (x154.length : Int))) then
        if ((x153 == 0) || ((p0.length : Int) == 0)) then
          (idx x154 0).bind fun x168 =>
          (idx x154 (w64 ((x154.length : Int) - 1))).bind fun x170 =>
          F_shape_Merge_J4 l152 x153 (zz N p0 p1 p2 mL3) x154 x168.Y0 x170.Y1
        else
          F_shape_Merge_J4 l152 x153 (zz N p0 p1 p2 mL3) x154 x150 x151
      else
        (zz N p0 p1 p2 mL3) x150 x151 l152 (w64 (x153 + 1))
    else
      F_shape_Merge_L9 N p2 x151 N p0 p1 ([] : List zS) x150
def F_shape_Merge (N : Nat) (p0 : (List zS)) (p1 : (List zS)) (p2 : Bool → Bool → Option Bool) : Option (List zS) :=
  if ((w64 ((p0.length : Int) + (p1.length : Int))) == 0) then
    some ([] : List zS)
  else
    zz N p0 p1 p2 N 0 0 [p0, p1] 0


def F_shape_Set__Less_1 (p0 : Bool) (p1 : Bool) : Option Bool :=
  some (p0 && (!p1))


def F_shape_Set__Less (N : Nat) (p0 : (List zS)) (p1 : (List zS)) : Option (List zS) :=
  (F_shape_Merge N p0 p1 (fun z0 z1 => F_shape_Set__Less_1 z0 z1)).bind fun y100 =>
  some y100


def F_shape_Set__Or_1 (p0 : Bool) (p1 : Bool) : Option Bool :=
  some (p0 || p1)


def F_shape_Set__Or (N : Nat) (p0 : (List zS)) (p1 : (List zS)) : Option (List zS) :=
  (F_shape_Merge N p0 p1 (fun z0 z1 => F_shape_Set__Or_1 z0 z1)).bind fun y100 =>
  some y100

def F_shape_Set__Many_L1 : List zS → Nat → Int → Option Int
  | [], iL1, x112 =>
    some x112
  | xL1 :: restL1, iL1, x112 =>
    (F_shape_Set__Many_L1 restL1 (iL1 + 1)) (w64 (x112 + (w64 (Int.tdiv (xL1.Xs.length : Int) 2))))
def F_shape_Set__Many (p0 : (List zS)) : Option Int :=
  F_shape_Set__Many_L1 p0 0 0

def F_plot_machine__draw_J1 (l109 : List zS) : Option (Int × (List zS)) :=
  (F_shape_Set__Many l109).bind fun y112 =>
  if (decide (2000 < y112)) then
    some (2, l109)
  else
    some (0, l109)
def F_plot_machine__draw (N : Nat) (p0 : zo) (p1 : (List zS)) : Option (Int × (List zS)) :=
  (F_shape_Set__Fits p1).bind fun y113 =>
  if (!y113) then
    some (1, p0.image)
  else
    if p0.clear then
      (F_shape_Set__Less N p0.image p1).bind fun y116 =>
      F_plot_machine__draw_J1 y116
    else
      (F_shape_Set__Or N p0.image p1).bind fun y120 =>
      F_plot_machine__draw_J1 y120

def F_plot_machine__set__f0_10_J1 (p1 : zJ) (x103 : Int) : Option (Int × Int × Int × Bool × Int) :=
  some (0, p1.X, p1.Y, true, x103)
def F_plot_machine__set__f0_10 (p0 : zo) (p1 : zJ) : Option (Int × Int × Int × Bool × Int) :=
  (F_shape_IsPoint p1).bind fun y101 =>
  if (!y101) then
    some (1, p0.place.X, p0.place.Y, p0.placed, p0.off)
  else
    if p0.placed then
      (F_plot_far p0.place p1).bind fun y106 =>
      F_plot_machine__set__f0_10_J1 p1 (w64 (p0.off + y106))
    else
      F_plot_machine__set__f0_10_J1 p1 p0.off


noncomputable def F_plot_machine__flash (N : Nat) (p0 : zo) (p1 : zJ) : Option (Int × Int × Int × Bool × Int × (List zS)) :=
  if (decide (p0.tool < 0)) then
    some (11, p0.place.X, p0.place.Y, p0.placed, p0.off, p0.image)
  else
    (F_plot_machine__set__f0_10 p0 p1).bind fun y101 =>
    if (y101.1 != 0) then
      some (y101.1, y101.2.1, y101.2.2.1, y101.2.2.2.1, y101.2.2.2.2, p0.image)
    else
      (idx p0.tools p0.tool).bind fun x104 =>
      (F_plot_swept N x104 p1 p1).bind fun y106 =>
      (F_plot_machine__draw N (zo.mk p0.p p0.tools p0.image p0.clear p0.tool (zJ.mk y101.2.1 y101.2.2.1) y101.2.2.2.1 y101.2.2.2.2 p0.on) y106).bind fun y110 =>
      some (y110.1, y101.2.1, y101.2.2.1, y101.2.2.2.1, y101.2.2.2.2, y110.2)

def F_plot_machine__set__f0_11_J1 (p1 : zJ) (x103 : Int) : Option (Int × Int × Int × Bool × Int) :=
  some (0, p1.X, p1.Y, true, x103)
def F_plot_machine__set__f0_11 (p0 : zo) (p1 : zJ) : Option (Int × Int × Int × Bool × Int) :=
  (F_shape_IsPoint p1).bind fun y101 =>
  if (!y101) then
    some (1, p0.place.X, p0.place.Y, p0.placed, p0.on)
  else
    if p0.placed then
      (F_plot_far p0.place p1).bind fun y106 =>
      F_plot_machine__set__f0_11_J1 p1 (w64 (p0.on + y106))
    else
      F_plot_machine__set__f0_11_J1 p1 p0.on


noncomputable def F_plot_machine__line (N : Nat) (p0 : zo) (p1 : zJ) : Option (Int × Int × Int × Bool × Int × (List zS)) :=
  if ((decide (p0.tool < 0)) || (!p0.placed)) then
    some (11, p0.place.X, p0.place.Y, p0.placed, p0.on, p0.image)
  else
    if ((p1.X != p0.place.X) && (p1.Y != p0.place.Y)) then
      some (3, p0.place.X, p0.place.Y, p0.placed, p0.on, p0.image)
    else
      (F_plot_machine__set__f0_11 p0 p1).bind fun y102 =>
      if (y102.1 != 0) then
        some (y102.1, y102.2.1, y102.2.2.1, y102.2.2.2.1, y102.2.2.2.2, p0.image)
      else
        (idx p0.tools p0.tool).bind fun x105 =>
        (F_plot_swept N x105 p0.place p1).bind fun y107 =>
        (F_plot_machine__draw N (zo.mk p0.p p0.tools p0.image p0.clear p0.tool (zJ.mk y102.2.1 y102.2.2.1) y102.2.2.2.1 p0.off y102.2.2.2.2) y107).bind fun y111 =>
        some (y111.1, y102.2.1, y102.2.2.1, y102.2.2.2.1, y102.2.2.2.2, y111.2)


def F_shape_Around_1 (p0 : zR) (p1 : zR) : Option Int :=
  some (w64 (p0.X0 - p1.X0))

def F_shape_Around_L7 (y191 : (List Int)) (l297 : List zS) (x298 : Int) (kL6 : (List zS) → Int → Option (List zS)) : List zR → Nat → List Int → Option (List zS)
  | [], iL7, l329 =>
    (idx y191 x298).bind fun x330 =>
    (idx y191 (w64 (x298 + 1))).bind fun x331 =>
    (F_shape_Set__push l297 (zS.mk x330 x331 l329)).bind fun y334 =>
    kL6 y334 (w64 (x298 + 1))
  | xL7 :: restL7, iL7, l329 =>
    (idx y191 x298).bind fun x337 =>
    (if (decide (x337 < xL7.Y0)) then some true else 
      (idx y191 x298).bind fun x340 =>
      some (decide (xL7.Y1 ≤ x340))
    ).bind fun g339 =>
    if g339 then
      (F_shape_Around_L7 y191 l297 x298 kL6 restL7 (iL7 + 1)) l329
    else
      (if (decide (0 < (l329.length : Int))) then 
        (idx l329 (w64 ((l329.length : Int) - 1))).bind fun x343 =>
        some (x343 == xL7.X0)
       else some false).bind fun g342 =>
      if g342 then
        (pre l329 (w64 ((l329.length : Int) - 1))).bind fun l344 =>
        (F_shape_Around_L7 y191 l297 x298 kL6 restL7 (iL7 + 1)) l344
      else
        (apd l329 [xL7.X0]).bind fun l346 =>
        (F_shape_Around_L7 y191 l297 x298 kL6 restL7 (iL7 + 1)) l346
def F_shape_Around_L6 (y191 : (List Int)) (y193 : (List zR)) : Nat → List zS → Int → Option (List zS)
  | 0, _, _ => none
  | mL6 + 1, l297, x298 =>
    if (decide ((w64 (x298 + 1)) < (y191.length : Int))) then
      F_shape_Around_L7 y191 l297 x298 (F_shape_Around_L6 y191 y193 mL6) y193 0 ([] : List Int)
    else
      some l297
def F_shape_Around_L8 (kL3 : (List Int) → (List zR) → Option (List zS)) (xL3 : (List zJ)) : List zJ → Nat → List Int → List zR → Option (List zS)
  | [], iL8, l375, l376 =>
    kL3 l375 l376
  | xL8 :: restL8, iL8, l375, l376 =>
    (md (w64 ((iL8 : Int) + 1)) (xL3.length : Int)).bind fun q378 =>
    (idx xL3 q378).bind fun x379 =>
    (apd l375 [xL8.Y]).bind fun l382 =>
    if (xL8.X == x379.X) then
      (apd l376 [(zR.mk xL8.X (min xL8.Y x379.Y) 0 (max xL8.Y x379.Y))]).bind fun l384 =>
      (F_shape_Around_L8 kL3 xL3 restL8 (iL8 + 1)) l382 l384
    else
      (F_shape_Around_L8 kL3 xL3 restL8 (iL8 + 1)) l382 l376
noncomputable def F_shape_Around_L3 (N : Nat) : List (List zJ) → Nat → List Int → List zR → Option (List zS)
  | [], iL3, l187, l188 =>
    (srtI l187).bind fun y189 =>
    (cpI y189).bind fun y191 =>
    (srtF l188 (fun z0 z1 => F_shape_Around_1 z0 z1)).bind fun y193 =>
    F_shape_Around_L6 y191 y193 N ([] : List zS) 0
  | xL3 :: restL3, iL3, l187, l188 =>
    F_shape_Around_L8 (F_shape_Around_L3 N restL3 (iL3 + 1)) xL3 xL3 0 l187 l188
noncomputable def F_shape_Around (N : Nat) (p0 : (List (List zJ))) : Option (List zS) :=
  F_shape_Around_L3 N p0 0 ([] : List Int) ([] : List zR)


def F_plot_machine__area_1 (p0 : zJ) : Option Bool :=
  (F_shape_IsPoint p0).bind fun y101 =>
  some (!y101)

noncomputable def zAO (N : Nat) (p0 : zo) (p2 : zJ) : List zJ → Nat → List zJ → Option (Int × (List zS))
  | [], iL1, l117 =>
    (F_shape_Around N [l117]).bind fun y121 =>
    (F_shape_Set__Many y121).bind fun y123 =>
    if (decide (2000 < y123)) then
      some (2, p0.image)
    else
      (zAP l117 (fun z0 => F_plot_machine__area_1 z0)).bind fun y124 =>
      if y124 then
        some (1, p0.image)
      else
        (F_plot_machine__draw N p0 y121).bind fun y127 =>
        some (y127.1, y127.2)
  | xL1 :: restL1, iL1, l117 =>
    (F_plot_machine__moved p0 xL1 p2).bind fun y130 =>
    (apd l117 [y130]).bind fun l132 =>
    (zAO N p0 p2 restL1 (iL1 + 1)) l132
noncomputable def F_plot_machine__area (N : Nat) (p0 : zo) (p1 : (List zJ)) (p2 : zJ) : Option (Int × (List zS)) :=
  zAO N p0 p2 p1 0 ([] : List zJ)

def zAN (l287 : List zS) (x288 : Bool) (x289 : Int) (x290 : Int) (x291 : Int) (x292 : Bool) (x293 : Int) (x294 : Int) : Option (Int × Bool × Int × Int × Int × Bool × Int × Int × (List zS)) :=
  some (0, x288, x289, x290, x291, x292, x293, x294, l287)
def F_plot_machine__step_L10 (p0 : zo) (p1 : zD) (p2 : zJ) (rec : zo → (List zD) → zJ → Option (Int × Bool × Int × Int × Int × Bool × Int × Int × (List zS))) (x434 : Int) (kL9 : (List zS) → Bool → Int → Int → Int → Bool → Int → Int → Int → Option (Int × Bool × Int × Int × Int × Bool × Int × Int × (List zS))) : Nat → List zS → Bool → Int → Int → Int → Bool → Int → Int → Int → Option (Int × Bool × Int × Int × Int × Bool × Int × Int × (List zS))
  | 0, _, _, _, _, _, _, _, _, _ => none
  | mL10 + 1, l468, x469, x470, x471, x472, x473, x474, x475, x476 =>
    if (decide (x476 < p1.NX)) then
      (rec (zo.mk p0.p p0.tools l468 x469 x470 (zJ.mk x471 x472) x473 x474 x475) p1.Steps (zJ.mk (w64 (p2.X + (w64 ((w64 (x476 * p1.At.X)) * p0.p.Unit)))) (w64 (p2.Y + (w64 ((w64 (x434 * p1.At.Y)) * p0.p.Unit)))))).bind fun y478 =>
      if (y478.1 != 0) then
        some (y478.1, y478.2.1, y478.2.2.1, y478.2.2.2.1, y478.2.2.2.2.1, y478.2.2.2.2.2.1, y478.2.2.2.2.2.2.1, y478.2.2.2.2.2.2.2.1, y478.2.2.2.2.2.2.2.2)
      else
        (F_plot_machine__step_L10 p0 p1 p2 rec x434 kL9 mL10) y478.2.2.2.2.2.2.2.2 y478.2.1 y478.2.2.1 y478.2.2.2.1 y478.2.2.2.2.1 y478.2.2.2.2.2.1 y478.2.2.2.2.2.2.1 y478.2.2.2.2.2.2.2.1 (w64 (x476 + 1))
    else
      kL9 l468 x469 x470 x471 x472 x473 x474 x475 (w64 (x434 + 1))
def zAE (N : Nat) (p0 : zo) (p1 : zD) (p2 : zJ) (rec : zo → (List zD) → zJ → Option (Int × Bool × Int × Int × Int × Bool × Int × Int × (List zS))) : Nat → List zS → Bool → Int → Int → Int → Bool → Int → Int → Int → Option (Int × Bool × Int × Int × Int × Bool × Int × Int × (List zS))
  | 0, _, _, _, _, _, _, _, _, _ => none
  | mL9 + 1, l426, x427, x428, x429, x430, x431, x432, x433, x434 =>
    if (decide (x434 < p1.NY)) then
      F_plot_machine__step_L10 p0 p1 p2 rec x434 (zAE N p0 p1 p2 rec mL9) N l426 x427 x428 x429 x430 x431 x432 x433 0
    else
      zAN l426 x427 x428 x429 x430 x431 x432 x433
noncomputable def F_plot_machine__step_J11 (N : Nat) (p0 : zo) (p1 : zD) (p2 : zJ) (rec : zo → (List zD) → zJ → Option (Int × Bool × Int × Int × Int × Bool × Int × Int × (List zS))) (y102 : zJ) (x297 : Bool) : Option (Int × Bool × Int × Int × Int × Bool × Int × Int × (List zS)) :=
  if x297 then
    zAN p0.image (p1.Kind == 2) p0.tool p0.place.X p0.place.Y p0.placed p0.off p0.on
  else
    if (p1.Kind == 3) then
      (F_plot_toolAt p0.p p1.Name).bind fun y300 =>
      zAN p0.image p0.clear y300 p0.place.X p0.place.Y p0.placed p0.off p0.on
    else
      if (p1.Kind == 4) then
        (F_plot_machine__set__f0_10 p0 y102).bind fun y301 =>
        some (y301.1, p0.clear, p0.tool, y301.2.1, y301.2.2.1, y301.2.2.2.1, y301.2.2.2.2, p0.on, p0.image)
      else
        if (p1.Kind == 5) then
          (F_plot_machine__flash N p0 y102).bind fun y303 =>
          some (y303.1, p0.clear, p0.tool, y303.2.1, y303.2.2.1, y303.2.2.2.1, y303.2.2.2.2.1, p0.on, y303.2.2.2.2.2)
        else
          if (p1.Kind == 6) then
            (F_plot_machine__line N p0 y102).bind fun y305 =>
            some (y305.1, p0.clear, p0.tool, y305.2.1, y305.2.2.1, y305.2.2.2.1, p0.off, y305.2.2.2.2.1, y305.2.2.2.2.2)
          else
            if (p1.Kind == 7) then
              (F_plot_machine__area N p0 p1.Points p2).bind fun y307 =>
              some (y307.1, p0.clear, p0.tool, p0.place.X, p0.place.Y, p0.placed, p0.off, p0.on, y307.2)
            else
              if (p1.Kind == 8) then
                zAE N p0 p1 p2 rec N p0.image p0.clear p0.tool p0.place.X p0.place.Y p0.placed p0.off p0.on 0
              else
                zAN p0.image p0.clear p0.tool p0.place.X p0.place.Y p0.placed p0.off p0.on
noncomputable def F_plot_machine__step (rec : zo → (List zD) → zJ → Option (Int × Bool × Int × Int × Int × Bool × Int × Int × (List zS))) (N : Nat) (p0 : zo) (p1 : zD) (p2 : zJ) : Option (Int × Bool × Int × Int × Int × Bool × Int × Int × (List zS)) :=
  (F_plot_machine__moved p0 p1.At p2).bind fun y102 =>
  if (p1.Kind == 1) then
    F_plot_machine__step_J11 N p0 p1 p2 rec y102 (p1.Kind == 1)
  else
    F_plot_machine__step_J11 N p0 p1 p2 rec y102 (p1.Kind == 2)

noncomputable def F_plot_machine__run_L1 (N : Nat) (p0 : zo) (p2 : zJ) (rec : zo → (List zD) → zJ → Option (Int × Bool × Int × Int × Int × Bool × Int × Int × (List zS))) : List zD → Nat → List zS → Bool → Int → Int → Int → Bool → Int → Int → Option (Int × Bool × Int × Int × Int × Bool × Int × Int × (List zS))
  | [], iL1, l138, x139, x140, x141, x142, x143, x144, x145 =>
    some (0, x139, x140, x141, x142, x143, x144, x145, l138)
  | xL1 :: restL1, iL1, l138, x139, x140, x141, x142, x143, x144, x145 =>
    (F_plot_machine__step rec N (zo.mk p0.p p0.tools l138 x139 x140 (zJ.mk x141 x142) x143 x144 x145) xL1 p2).bind fun y148 =>
    if (y148.1 != 0) then
      some (y148.1, y148.2.1, y148.2.2.1, y148.2.2.2.1, y148.2.2.2.2.1, y148.2.2.2.2.2.1, y148.2.2.2.2.2.2.1, y148.2.2.2.2.2.2.2.1, y148.2.2.2.2.2.2.2.2)
    else
      (F_plot_machine__run_L1 N p0 p2 rec restL1 (iL1 + 1)) y148.2.2.2.2.2.2.2.2 y148.2.1 y148.2.2.1 y148.2.2.2.1 y148.2.2.2.2.1 y148.2.2.2.2.2.1 y148.2.2.2.2.2.2.1 y148.2.2.2.2.2.2.2.1
noncomputable def F_plot_machine__run_b (N : Nat) (rec : zo → (List zD) → zJ → Option (Int × Bool × Int × Int × Int × Bool × Int × Int × (List zS))) (p0 : zo) (p1 : (List zD)) (p2 : zJ) : Option (Int × Bool × Int × Int × Int × Bool × Int × Int × (List zS)) :=
  F_plot_machine__run_L1 N p0 p2 rec p1 0 p0.image p0.clear p0.tool p0.place.X p0.place.Y p0.placed p0.off p0.on
noncomputable def F_plot_machine__run : Nat → zo → (List zD) → zJ → Option (Int × Bool × Int × Int × Int × Bool × Int × Int × (List zS))
  | 0 => fun _ _ _ => none
  | N + 1 => F_plot_machine__run_b N (F_plot_machine__run N)


noncomputable def F_plot_drawn (N : Nat) (p0 : TPlot) : Option (zo × Int) :=
  (F_plot_newMachine N p0).bind fun y101 =>
  (F_plot_machine__run N y101 p0.Steps (zJ.mk 0 0)).bind fun y103 =>
  some ((zo.mk y101.p y101.tools y103.2.2.2.2.2.2.2.2 y103.2.1 y103.2.2.1 (zJ.mk y103.2.2.2.1 y103.2.2.2.2.1) y103.2.2.2.2.2.1 y103.2.2.2.2.2.2.1 y103.2.2.2.2.2.2.2.1), y103.1)


noncomputable def F_plot_ImageOf (N : Nat) (p0 : TPlot) : Option ((List zS) × Int) :=
  (F_plot_CheckPlot N p0).bind fun y101 =>
  if (y101 != 0) then
    some (([] : List zS), y101)
  else
    (F_plot_drawn N p0).bind fun y102 =>
    if (y102.2 != 0) then
      some (([] : List zS), y102.2)
    else
      some (y102.1.image, 0)


noncomputable def F_plot_Image (N : Nat) (p0 : TPlot) : Option ((List zR) × Int) :=
  (F_plot_ImageOf N p0).bind fun y101 =>
  (F_shape_Set__Rects N y101.1).bind fun y103 =>
  some (y103, y101.2)


def F_plot_draws (p0 : Int) : Option Bool :=
  some ((((p0 == 5) || (p0 == 6)) || (p0 == 7)) || (p0 == 8))

def zk (rec : zD → Option Bool) : List zD → Nat → Option Int
  | [], iL1 =>
    some (-1)
  | xL1 :: restL1, iL1 =>
    (rec xL1).bind fun y105 =>
    if y105 then
      some (iL1 : Int)
    else
      (zk rec restL1 (iL1 + 1))
def F_slices_IndexFunc_PlotStep__drawsAny (rec : zD → Option Bool) (p0 : (List zD)) : Option Int :=
  zk rec p0 0


def zAL (rec : zD → Option Bool) (p0 : (List zD)) : Option Bool :=
  (F_slices_IndexFunc_PlotStep__drawsAny rec p0).bind fun y100 =>
  some (decide (0 ≤ y100))


def F_plot_drawsAny_b (N : Nat) (rec : zD → Option Bool) (p0 : zD) : Option Bool :=
  (F_plot_draws p0.Kind).bind fun y101 =>
  (if y101 then 
    (if (p0.Kind != 8) then some true else 
      (zAL rec p0.Steps).bind fun y108 =>
      some y108
    ).bind fun g107 =>
    some g107
   else some false).bind fun g105 =>
  some g105
def F_plot_drawsAny : Nat → zD → Option Bool
  | 0 => fun _ => none
  | N + 1 => F_plot_drawsAny_b N (F_plot_drawsAny N)


def zAQ : List (List zD) → Nat → List zD → Option (List zD)
  | [], iL2, l125 =>
    some l125
  | xL2 :: restL2, iL2, l125 =>
    (apd l125 xL2).bind fun l127 =>
    (zAQ restL2 (iL2 + 1)) l127
def zAC (p0 : (List (List zD))) : List (List zD) → Nat → Int → Option (List zD)
  | [], iL1, x110 =>
    (grN x110).bind fun y111 =>
    zAQ p0 0 y111
  | xL1 :: restL1, iL1, x110 =>
    if (decide ((w64 (x110 + (xL1.length : Int))) < 0)) then
      none
    else
      (zAC p0 restL1 (iL1 + 1)) (w64 (x110 + (xL1.length : Int)))
def F_slices_Concat_PlotStep (p0 : (List (List zD))) : Option (List zD) :=
  zAC p0 p0 0 0

def F_slices_Equal_Rect_L1 (p1 : (List zR)) : List zR → Nat → Option Bool
  | [], iL1 =>
    some true
  | xL1 :: restL1, iL1 =>
    (idx p1 (iL1 : Int)).bind fun x103 =>
    if (!(eqTRect xL1 x103)) then
      some false
    else
      (F_slices_Equal_Rect_L1 p1 restL1 (iL1 + 1))
def F_slices_Equal_Rect (p0 : (List zR)) (p1 : (List zR)) : Option Bool :=
  if ((p0.length : Int) != (p1.length : Int)) then
    some false
  else
    F_slices_Equal_Rect_L1 p1 p0 0

noncomputable def F_plot_Needless_L1 (N : Nat) (p0 : TPlot) (y101 : ((List zR) × Int)) : List zD → Nat → List Int → Option ((List Int) × Int)
  | [], iL1, l163 =>
    some (l163, 0)
  | xL1 :: restL1, iL1, l163 =>
    (F_plot_drawsAny N xL1).bind fun y166 =>
    if (!y166) then
      (F_plot_Needless_L1 N p0 y101 restL1 (iL1 + 1)) l163
    else
      (pre p0.Steps (iL1 : Int)).bind fun l168 =>
      (cut p0.Steps (w64 ((iL1 : Int) + 1)) (p0.Steps.length : Int)).bind fun l169 =>
      (F_slices_Concat_PlotStep [l168, l169]).bind fun y173 =>
      (F_plot_drawn N (TPlot.mk p0.Unit p0.Tools y173)).bind fun y178 =>
      (if (y178.2 == 0) then 
        (F_shape_Set__Rects N y178.1.image).bind fun y184 =>
        (F_slices_Equal_Rect y184 y101.1).bind fun y186 =>
        some y186
       else some false).bind fun g183 =>
      if g183 then
        (apd l163 [(iL1 : Int)]).bind fun l188 =>
        (F_plot_Needless_L1 N p0 y101 restL1 (iL1 + 1)) l188
      else
        (F_plot_Needless_L1 N p0 y101 restL1 (iL1 + 1)) l163
noncomputable def F_plot_Needless (N : Nat) (p0 : TPlot) : Option ((List Int) × Int) :=
  (F_plot_Image N p0).bind fun y101 =>
  if (y101.2 != 0) then
    some (([] : List Int), y101.2)
  else
    F_plot_Needless_L1 N p0 y101 p0.Steps 0 ([] : List Int)



def F_plot_points_L1 : List zJ → Nat → ByteArray → Option ByteArray
  | [], iL1, x122 =>
    some x122
  | xL1 :: restL1, iL1, x122 =>
    (itoaS xL1.X).bind fun y124 =>
    (catS (⟨#[32]⟩) y124).bind fun t125 =>
    (catS t125 (⟨#[32]⟩)).bind fun t126 =>
    (itoaS xL1.Y).bind fun y127 =>
    (catS t126 y127).bind fun t128 =>
    (catS x122 t128).bind fun t129 =>
    (F_plot_points_L1 restL1 (iL1 + 1)) t129
def F_plot_points (p0 : (List zJ)) : Option ByteArray :=
  F_plot_points_L1 p0 0 ByteArray.empty

def zy (rec : ByteArray → (List zD) → Option ByteArray) : List zD → Nat → ByteArray → Option ByteArray
  | [], iL1, m194 =>
    some m194
  | xL1 :: restL1, iL1, m194 =>
    if (xL1.Kind == 1) then
      (sbW m194 (⟨#[100, 97, 114, 107, 10]⟩)).bind fun y197 =>
      (zy rec restL1 (iL1 + 1)) y197
    else
      if (xL1.Kind == 2) then
        (sbW m194 (⟨#[99, 108, 101, 97, 114, 10]⟩)).bind fun y199 =>
        (zy rec restL1 (iL1 + 1)) y199
      else
        if (xL1.Kind == 3) then
          (catS (⟨#[117, 115, 101, 32]⟩) xL1.Name).bind fun t201 =>
          (catS t201 (⟨#[10]⟩)).bind fun t202 =>
          (sbW m194 t202).bind fun y203 =>
          (zy rec restL1 (iL1 + 1)) y203
        else
          if (xL1.Kind == 4) then
            (F_plot_points [xL1.At]).bind fun y206 =>
            (catS (⟨#[109, 111, 118, 101]⟩) y206).bind fun t207 =>
            (catS t207 (⟨#[10]⟩)).bind fun t208 =>
            (sbW m194 t208).bind fun y209 =>
            (zy rec restL1 (iL1 + 1)) y209
          else
            if (xL1.Kind == 5) then
              (F_plot_points [xL1.At]).bind fun y212 =>
              (catS (⟨#[102, 108, 97, 115, 104]⟩) y212).bind fun t213 =>
              (catS t213 (⟨#[10]⟩)).bind fun t214 =>
              (sbW m194 t214).bind fun y215 =>
              (zy rec restL1 (iL1 + 1)) y215
            else
              if (xL1.Kind == 6) then
                (F_plot_points [xL1.At]).bind fun y218 =>
                (catS (⟨#[108, 105, 110, 101]⟩) y218).bind fun t219 =>
                (catS t219 (⟨#[10]⟩)).bind fun t220 =>
                (sbW m194 t220).bind fun y221 =>
                (zy rec restL1 (iL1 + 1)) y221
              else
                if (xL1.Kind == 7) then
                  (F_plot_points xL1.Points).bind fun y223 =>
                  (catS (⟨#[97, 114, 101, 97]⟩) y223).bind fun t224 =>
                  (catS t224 (⟨#[10]⟩)).bind fun t225 =>
                  (sbW m194 t225).bind fun y226 =>
                  (zy rec restL1 (iL1 + 1)) y226
                else
                  if (xL1.Kind == 8) then
                    (F_plot_points [(zJ.mk xL1.NX xL1.NY), xL1.At]).bind fun y229 =>
                    (catS (⟨#[114, 101, 112, 101, 97, 116]⟩) y229).bind fun t230 =>
                    (catS t230 (⟨#[10]⟩)).bind fun t231 =>
                    (sbW m194 t231).bind fun y232 =>
                    (rec y232 xL1.Steps).bind fun y234 =>
                    (sbW y234 (⟨#[100, 111, 110, 101, 10]⟩)).bind fun y236 =>
                    (zy rec restL1 (iL1 + 1)) y236
                  else
                    (zy rec restL1 (iL1 + 1)) m194
def F_plot_writeSteps_b (N : Nat) (rec : ByteArray → (List zD) → Option ByteArray) (p0 : ByteArray) (p1 : (List zD)) : Option ByteArray :=
  zy rec p1 0 p0
def F_plot_writeSteps : Nat → ByteArray → (List zD) → Option ByteArray
  | 0 => fun _ _ => none
  | N + 1 => F_plot_writeSteps_b N (F_plot_writeSteps N)



def F_plot_Text_L4 (kL3 : ByteArray → Option (ByteArray × Int)) : List zR → Nat → ByteArray → Option (ByteArray × Int)
  | [], iL4, m208 =>
    (sbW m208 (⟨#[10]⟩)).bind fun y209 =>
    kL3 y209
  | xL4 :: restL4, iL4, m208 =>
    (F_plot_points [(zJ.mk xL4.X0 xL4.Y0), (zJ.mk xL4.X1 xL4.Y1)]).bind fun y213 =>
    (sbW m208 y213).bind fun y214 =>
    (F_plot_Text_L4 kL3 restL4 (iL4 + 1)) y214
def F_plot_Text_L3 (N : Nat) (p0 : TPlot) : List zAF → Nat → ByteArray → Option (ByteArray × Int)
  | [], iL3, m178 =>
    (F_plot_writeSteps N m178 p0.Steps).bind fun y179 =>
    (sbL y179).bind fun y181 =>
    if (decide (200000 < y181.1)) then
      some (ByteArray.empty, 2)
    else
      (sbS y181.2).bind fun y183 =>
      some (y183.1, 0)
  | xL3 :: restL3, iL3, m178 =>
    (catS (⟨#[116, 111, 111, 108, 32]⟩) xL3.Name).bind fun t187 =>
    (sbW m178 t187).bind fun y188 =>
    F_plot_Text_L4 (F_plot_Text_L3 N p0 restL3 (iL3 + 1)) xL3.Rects 0 y188
def F_plot_Text (N : Nat) (p0 : TPlot) : Option (ByteArray × Int) :=
  (F_plot_CheckPlot N p0).bind fun y101 =>
  if (y101 != 0) then
    some (ByteArray.empty, y101)
  else
    (itoaS p0.Unit).bind fun y103 =>
    (catS (⟨#[117, 110, 105, 116, 32]⟩) y103).bind fun t104 =>
    (catS t104 (⟨#[10]⟩)).bind fun t105 =>
    (sbW ByteArray.empty t105).bind fun y106 =>
    F_plot_Text_L3 N p0 p0.Tools 0 y106


def F_etchhouselaw3_awake (N : Nat)  : Option Bool :=
  (F_plot_Text N (TPlot.mk 7 [] [])).bind fun y100 =>
  some ((y100.2 == 0) && (sEq y100.1 (⟨#[117, 110, 105, 116, 32, 55, 10]⟩)))


def F_slices_Clone_PlotStep (p0 : (List zD)) : Option (List zD) :=
  (apd ([] : List zD) p0).bind fun l101 =>
  some l101


def F_slices_Delete_PlotStep (p0 : (List zD)) (p1 : Int) (p2 : Int) : Option (List zD) :=
  (cut p0 p1 p2).bind fun l100 =>
  if (p1 == p2) then
    some p0
  else
    (pre p0 p1).bind fun l101 =>
    (cut p0 p2 (p0.length : Int)).bind fun l102 =>
    (leO p1 p2).bind fun z103 =>
    (cut (shf l101 l102 p0) ((l101 ++ l102).length : Int) (p0.length : Int)).bind fun l104 =>
    some (l101 ++ l102)


noncomputable def F_plot_Same (N : Nat) (p0 : TPlot) (p1 : TPlot) : Option (Bool × Int) :=
  (F_plot_CheckPlot N p0).bind fun y102 =>
  if (y102 != 0) then
    some (false, y102)
  else
    (F_plot_CheckPlot N p1).bind fun y103 =>
    if (y103 != 0) then
      some (false, y103)
    else
      (F_plot_Image N p0).bind fun y104 =>
      if (y104.2 != 0) then
        some (false, y104.2)
      else
        (F_plot_Image N p1).bind fun y106 =>
        if (y106.2 != 0) then
          some (false, y106.2)
        else
          (F_slices_Equal_Rect y104.1 y106.1).bind fun y108 =>
          some (y108, 0)


noncomputable def F_etchhouselaw3_PlotsNeedlessCanGo (N : Nat) (p0 : TPlot) (p1 : Int) : Option Bool :=
  (F_plot_Needless N p0).bind fun y101 =>
  if (((y101.2 != 0) || (decide (p1 < 0))) || (decide ((y101.1.length : Int) ≤ p1))) then
    (if ((y101.2 == 0) || ((y101.1.length : Int) == 0)) then 
      (F_etchhouselaw3_awake N).bind fun y105 =>
      some y105
     else some false).bind fun g104 =>
    some g104
  else
    (idx y101.1 p1).bind fun x106 =>
    (if (decide (x106 < 0)) then some true else 
      (idx y101.1 p1).bind fun x109 =>
      some (decide ((p0.Steps.length : Int) ≤ x109))
    ).bind fun g108 =>
    if g108 then
      some false
    else
      (idx y101.1 p1).bind fun x112 =>
      (idx y101.1 p1).bind fun x113 =>
      (F_slices_Clone_PlotStep p0.Steps).bind fun y114 =>
      (F_slices_Delete_PlotStep y114 x112 (w64 (x113 + 1))).bind fun y116 =>
      (F_plot_Same N p0 (TPlot.mk p0.Unit p0.Tools y116)).bind fun y120 =>
      (if ((y120.2 == 0) && y120.1) then 
        (F_etchhouselaw3_awake N).bind fun y123 =>
        some y123
       else some false).bind fun g122 =>
      some g122

end Go.Proofs.YtoageaoknnnfbaaGreatDoor
