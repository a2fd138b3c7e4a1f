/- The plain functions: what each function of the program computes; none where it would panic. -/
import Derived.Test.YtoageaoknnnfbaaGreatDoorXT
namespace Go.Proofs.YtoageaoknnnfbaaGreatDoor
open Go.RowKit

def F_plot_within (p0 : Int) (p1 : Int) (p2 : Int) : Option Bool :=
  some ((decide (p1 ≤ p0)) && (decide (p0 ≤ p2)))

def F_plot_IsName_L1 (p0 : ByteArray) : Nat → Int → Option Bool
  | 0, _ => none
  | mL1 + 1, x105 =>
    if (decide (x105 < (p0.size : Int))) then
      (strAt p0 x105).bind fun c106 =>
      if ((!(((decide (97 ≤ c106)) && (decide (c106 ≤ 122))) || ((decide (65 ≤ c106)) && (decide (c106 ≤ 90))))) && ((x105 == 0) || ((((decide (c106 < 48)) || (decide (57 < c106))) && (c106 != 95)) && (c106 != 45)))) then
        some false
      else
        (F_plot_IsName_L1 p0 mL1) (w64 (x105 + 1))
    else
      some ((decide (1 ≤ (p0.size : Int))) && (decide ((p0.size : Int) ≤ 40)))
def F_plot_IsName (N : Nat) (p0 : ByteArray) : Option Bool :=
  F_plot_IsName_L1 p0 N 0


def F_plot_isAt (p0 : Int) (p1 : Int) : Option Bool :=
  (dv (-1000000) p1).bind fun q100 =>
  (dv 1000000 p1).bind fun q101 =>
  (F_plot_within p0 q100 q101).bind fun y102 =>
  some y102

def F_plot_checkTool_L1 (p1 : Int) : List zT → Nat → Option Int
  | [], iL1 =>
    some 0
  | xL1 :: restL1, iL1 =>
    (F_plot_isAt xL1.X0 p1).bind fun y116 =>
    (if (!y116) then some true else 
      (F_plot_isAt xL1.Y0 p1).bind fun y119 =>
      some (!y119)
    ).bind fun g118 =>
    (if g118 then some true else 
      (F_plot_isAt xL1.X1 p1).bind fun y122 =>
      some (!y122)
    ).bind fun g121 =>
    (if g121 then some true else 
      (F_plot_isAt xL1.Y1 p1).bind fun y125 =>
      some (!y125)
    ).bind fun g124 =>
    if g124 then
      some 1
    else
      if ((decide (xL1.X1 ≤ xL1.X0)) || (decide (xL1.Y1 ≤ xL1.Y0))) then
        some 13
      else
        (F_plot_checkTool_L1 p1 restL1 (iL1 + 1))
def F_plot_checkTool (N : Nat) (p0 : zS) (p1 : Int) : Option Int :=
  (F_plot_IsName N p0.Name).bind fun y101 =>
  if (!y101) then
    some 5
  else
    if ((p0.Rects.length : Int) == 0) then
      some 9
    else
      if (decide (2000 < (p0.Rects.length : Int))) then
        some 2
      else
        F_plot_checkTool_L1 p1 p0.Rects 0


def F_plot_times_1 (p0 : Int) : Option Int :=
  (F_plot_within p0 1 100).bind fun y100 =>
  if y100 then
    some p0
  else
    some 1


def F_plot_times (p0 : zD) : Option Int :=
  (F_plot_times_1 p0.NX).bind fun y101 =>
  (F_plot_times_1 p0.NY).bind fun y102 =>
  some (w64 (y101 * y102))

def F_plot_count_J4 (kL3 : Int → Option Int) (x131 : Int) : Option Int :=
  if (decide (3000 < x131)) then
    some 3001
  else
    kL3 x131
def F_plot_count_L3 (rec : (List zD) → Option Int) : List zD → Nat → Int → Option Int
  | [], iL3, x126 =>
    some x126
  | xL3 :: restL3, iL3, x126 =>
    if (decide (0 < (xL3.Steps.length : Int))) then
      (F_plot_times xL3).bind fun y134 =>
      (rec xL3.Steps).bind fun y135 =>
      F_plot_count_J4 (F_plot_count_L3 rec restL3 (iL3 + 1)) (w64 ((w64 (x126 + 1)) + (w64 (y134 * y135))))
    else
      F_plot_count_J4 (F_plot_count_L3 rec restL3 (iL3 + 1)) (w64 (x126 + 1))
def F_plot_count_b (N : Nat) (rec : (List zD) → Option Int) (p0 : (List zD)) : Option Int :=
  F_plot_count_L3 rec p0 0 0
def F_plot_count : Nat → (List zD) → Option Int
  | 0 => fun _ => none
  | N + 1 => F_plot_count_b N (F_plot_count N)

def F_plot_fieldsOf_J1 (p0 : Int) (x101 : Bool) : Option TFields :=
  if x101 then
    some (TFields.mk false true false false)
  else
    if (p0 == 7) then
      some (TFields.mk false false true false)
    else
      if (p0 == 8) then
        some (TFields.mk false true false true)
      else
        some (TFields.mk false false false false)
def F_plot_fieldsOf (p0 : Int) : Option TFields :=
  if (p0 == 3) then
    some (TFields.mk true false false false)
  else
    if (p0 == 4) then
      F_plot_fieldsOf_J1 p0 (p0 == 4)
    else
      if (p0 == 5) then
        F_plot_fieldsOf_J1 p0 (p0 == 5)
      else
        F_plot_fieldsOf_J1 p0 (p0 == 6)


def F_plot_toolAt_1 (p0 : zS) (q0 : ByteArray) : Option Bool :=
  some (sEq p0.Name q0)

def zw (q0 : ByteArray) : List zS → Nat → Option Int
  | [], iL1 =>
    some (-1)
  | xL1 :: restL1, iL1 =>
    (F_plot_toolAt_1 xL1 q0).bind fun y105 =>
    if y105 then
      some (iL1 : Int)
    else
      (zw q0 restL1 (iL1 + 1))
def F_slices_IndexFunc_PlotTool__toolAt_1 (p0 : (List zS)) (q0 : ByteArray) : Option Int :=
  zw q0 p0 0


def F_plot_toolAt (p0 : zt) (p1 : ByteArray) : Option Int :=
  (F_slices_IndexFunc_PlotTool__toolAt_1 p0.Tools p1).bind fun y102 =>
  some y102


def F_plot_isPoint (p0 : zI) (p1 : Int) : Option Bool :=
  (F_plot_isAt p0.X p1).bind fun y101 =>
  (if y101 then 
    (F_plot_isAt p0.Y p1).bind fun y104 =>
    some y104
   else some false).bind fun g103 =>
  some g103


def F_plot_checkStep_1 (p0 : zI) (q0 : zt) : Option Bool :=
  (F_plot_isPoint p0 q0.Unit).bind fun y101 =>
  some (!y101)

def zAD (p1 : zI → Option Bool) : List zI → Nat → Option Int
  | [], iL1 =>
    some (-1)
  | xL1 :: restL1, iL1 =>
    (p1 xL1).bind fun y103 =>
    if y103 then
      some (iL1 : Int)
    else
      (zAD p1 restL1 (iL1 + 1))
def F_slices_IndexFunc_Point (p0 : (List zI)) (p1 : zI → Option Bool) : Option Int :=
  zAD p1 p0 0


def F_slices_ContainsFunc_Point (p0 : (List zI)) (p1 : zI → Option Bool) : Option Bool :=
  (F_slices_IndexFunc_Point p0 p1).bind fun y100 =>
  some (decide (0 ≤ y100))

def F_shape_IsRow_L1 (p0 : (List zI)) : List zI → Nat → Option Bool
  | [], iL1 =>
    some true
  | xL1 :: restL1, iL1 =>
    (md (w64 ((iL1 : Int) + 1)) (p0.length : Int)).bind fun q107 =>
    (idx p0 q107).bind fun x108 =>
    if ((xL1.X == x108.X) == (xL1.Y == x108.Y)) then
      some false
    else
      (F_shape_IsRow_L1 p0 restL1 (iL1 + 1))
def F_shape_IsRow (p0 : (List zI)) : Option Bool :=
  if (decide ((p0.length : Int) < 4)) then
    some false
  else
    F_shape_IsRow_L1 p0 p0 0

def zAP (p0 : zt) (p1 : zD) (p2 : Int) (y103 : TFields) (x105 : Bool) : Option Int :=
  if x105 then
    some 3
  else
    (if y103.name then 
      (F_plot_toolAt p0 p1.Name).bind fun y110 =>
      some (decide (y110 < 0))
     else some false).bind fun g109 =>
    if g109 then
      some 5
    else
      (F_plot_isPoint p1.At p0.Unit).bind fun y111 =>
      (if (!y111) then some true else 
        (F_slices_ContainsFunc_Point p1.Points (fun z0 => F_plot_checkStep_1 z0 p0)).bind fun y114 =>
        some y114
      ).bind fun g113 =>
      if g113 then
        some 1
      else
        if (decide (2000 < (p1.Points.length : Int))) then
          some 2
        else
          (if y103.points then 
            (F_shape_IsRow p1.Points).bind fun y117 =>
            some (!y117)
           else some false).bind fun g116 =>
          if g116 then
            some 3
          else
            if (!y103.repeat_) then
              some 0
            else
              (F_plot_within p1.NX 1 100).bind fun y118 =>
              (if (!y118) then some true else 
                (F_plot_within p1.NY 1 100).bind fun y121 =>
                some (!y121)
              ).bind fun g120 =>
              if g120 then
                some 1
              else
                if ((p1.Steps.length : Int) == 0) then
                  some 9
                else
                  if (decide (5 ≤ p2)) then
                    some 2
                  else
                    some 0
def F_plot_checkStep (p0 : zt) (p1 : zD) (p2 : Int) : Option Int :=
  (F_plot_within p1.Kind 1 8).bind fun y102 =>
  if (!y102) then
    some 4
  else
    (F_plot_fieldsOf p1.Kind).bind fun y103 =>
    if ((!y103.name) && (!sEq p1.Name ByteArray.empty)) then
      zAP p0 p1 p2 y103 ((!y103.name) && (!sEq p1.Name ByteArray.empty))
    else
      if ((!y103.at_) && (!(eqTPoint p1.At (zI.mk 0 0)))) then
        zAP p0 p1 p2 y103 ((!y103.at_) && (!(eqTPoint p1.At (zI.mk 0 0))))
      else
        if ((!y103.points) && (decide (0 < (p1.Points.length : Int)))) then
          zAP p0 p1 p2 y103 ((!y103.points) && (decide (0 < (p1.Points.length : Int))))
        else
          zAP p0 p1 p2 y103 ((!y103.repeat_) && (((p1.NX != 0) || (p1.NY != 0)) || (decide (0 < (p1.Steps.length : Int)))))

def F_plot_checkSteps_L1 (p0 : zt) (p2 : Int) (rec : zt → (List zD) → Int → Option Int) : List zD → Nat → Option Int
  | [], iL1 =>
    some 0
  | xL1 :: restL1, iL1 =>
    (F_plot_checkStep p0 xL1 p2).bind fun y109 =>
    if (y109 != 0) then
      some y109
    else
      (rec p0 xL1.Steps (w64 (p2 + 1))).bind fun y110 =>
      if (y110 != 0) then
        some y110
      else
        (F_plot_checkSteps_L1 p0 p2 rec restL1 (iL1 + 1))
def F_plot_checkSteps_b (N : Nat) (rec : zt → (List zD) → Int → Option Int) (p0 : zt) (p1 : (List zD)) (p2 : Int) : Option Int :=
  F_plot_checkSteps_L1 p0 p2 rec p1 0
def F_plot_checkSteps : Nat → zt → (List zD) → Int → Option Int
  | 0 => fun _ _ _ => none
  | N + 1 => F_plot_checkSteps_b N (F_plot_checkSteps N)

def F_plot_CheckPlot_L1 (N : Nat) (p0 : zt) : List zS → Nat → Option Int
  | [], iL1 =>
    (F_plot_count N p0.Steps).bind fun y112 =>
    if (decide (3000 < y112)) then
      some 2
    else
      (F_plot_checkSteps N p0 p0.Steps 0).bind fun y113 =>
      some y113
  | xL1 :: restL1, iL1 =>
    (F_plot_checkTool N xL1 p0.Unit).bind fun y116 =>
    if (y116 != 0) then
      some y116
    else
      (if (decide (0 < (iL1 : Int))) then 
        (idx p0.Tools (w64 ((iL1 : Int) - 1))).bind fun x120 =>
        some (sLt xL1.Name x120.Name || sEq xL1.Name x120.Name)
       else some false).bind fun g119 =>
      if g119 then
        some 8
      else
        (F_plot_CheckPlot_L1 N p0 restL1 (iL1 + 1))
def F_plot_CheckPlot (N : Nat) (p0 : zt) : Option Int :=
  (F_plot_within p0.Unit 1 1000).bind fun y101 =>
  if (!y101) then
    some 1
  else
    if (decide (200 < (p0.Tools.length : Int))) then
      some 2
    else
      F_plot_CheckPlot_L1 N p0 p0.Tools 0


def F_plot_scaled_1 (p0 : Int) (q0 : Bool) (q1 : zt) (q2 : Int) : Option (Int × Bool) :=
  (if q0 then 
    (md (w64 (p0 * q1.Unit)) q2).bind fun q102 =>
    some (q102 == 0)
   else some false).bind fun g101 =>
  (dv (w64 (p0 * q1.Unit)) q2).bind fun q103 =>
  some (q103, g101)

def F_disp_88 (N : Nat) (x : Nat) (p0 : Int) : Option Int :=
  if x = 95 then F_plot_times_1 p0 else
  none


def F_plot_changed_1 (N : Nat) (p0 : zI) (q0 : Nat) : Option zI :=
  (F_disp_88 N q0 p0.X).bind fun y102 =>
  (F_disp_88 N q0 p0.Y).bind fun y103 =>
  some (zI.mk y102 y103)


def F_plot_changed_2 (N : Nat) (p0 : zT) (q0 : Nat) : Option zT :=
  (F_disp_88 N q0 p0.X0).bind fun y102 =>
  (F_disp_88 N q0 p0.Y0).bind fun y103 =>
  (F_disp_88 N q0 p0.X1).bind fun y104 =>
  (F_disp_88 N q0 p0.Y1).bind fun y105 =>
  some (zT.mk y102 y103 y104 y105)


def F_slices_Clone_PlotTool (p0 : (List zS)) : Option (List zS) :=
  (apd ([] : List zS) p0).bind fun l101 =>
  some l101


def F_slices_Clone_Rect (p0 : (List zT)) : Option (List zT) :=
  (apd ([] : List zT) p0).bind fun l101 =>
  some l101

def F_plot_ownTools_L4 (p1 : zT → Option zT) (l184 : List zS) (x185 : Int) (kL3 : (List zS) → Int → Option (List zS)) (x190 : zS) : List zT → Nat → List zT → Option (List zS)
  | [], iL4, l211 =>
    kL3 ((l184).set (x185).toNat (zS.mk x190.Name l211)) (w64 (x185 + 1))
  | xL4 :: restL4, iL4, l211 =>
    (idx l211 (iL4 : Int)).bind fun x215 =>
    (idx l184 x185).bind fun x217 =>
    (p1 x215).bind fun y218 =>
    (idx l211 (iL4 : Int)).bind fun x219 =>
    (sets l211 (iL4 : Int) y218).bind fun l220 =>
    (F_plot_ownTools_L4 p1 l184 x185 kL3 x190 restL4 (iL4 + 1)) l220
def F_plot_ownTools_L3 (p1 : zT → Option zT) (y100 : (List zS)) : Nat → List zS → Int → Option (List zS)
  | 0, _, _ => none
  | mL3 + 1, l184, x185 =>
    if (decide (x185 < (y100.length : Int))) then
      (idx l184 x185).bind fun x186 =>
      (F_slices_Clone_Rect x186.Rects).bind fun y188 =>
      (idx l184 x185).bind fun x190 =>
      (idx l184 x185).bind fun x192 =>
      F_plot_ownTools_L4 p1 l184 x185 (F_plot_ownTools_L3 p1 y100 mL3) x190 y188 0 y188
    else
      some l184
def F_plot_ownTools (N : Nat) (p0 : (List zS)) (p1 : zT → Option zT) : Option (List zS) :=
  (F_slices_Clone_PlotTool p0).bind fun y100 =>
  F_plot_ownTools_L3 p1 y100 N y100 0


def F_slices_Clone_PlotStep (p0 : (List zD)) : Option (List zD) :=
  (apd ([] : List zD) p0).bind fun l101 =>
  some l101


def F_slices_Clone_Point (p0 : (List zI)) : Option (List zI) :=
  (apd ([] : List zI) p0).bind fun l101 =>
  some l101


def F_plot_changed_2__scaled_1 (p0 : zT) (q1 : Bool) (q2 : zt) (q3 : Int) : Option (zT × Bool) :=
  (F_plot_scaled_1 p0.X0 q1 q2 q3).bind fun y103 =>
  (F_plot_scaled_1 p0.Y0 y103.2 q2 q3).bind fun y105 =>
  (F_plot_scaled_1 p0.X1 y105.2 q2 q3).bind fun y107 =>
  (F_plot_scaled_1 p0.Y1 y107.2 q2 q3).bind fun y109 =>
  some ((zT.mk y103.1 y105.1 y107.1 y109.1), y109.2)

def zm (q2 : zt) (q3 : Int) (l208 : List zS) (x209 : Int) (kL3 : Bool → (List zS) → Int → Option ((List zS) × Bool)) (x214 : zS) : List zT → Nat → Bool → List zT → Option ((List zS) × Bool)
  | [], iL4, x242, l243 =>
    kL3 x242 ((l208).set (x209).toNat (zS.mk x214.Name l243)) (w64 (x209 + 1))
  | xL4 :: restL4, iL4, x242, l243 =>
    (idx l243 (iL4 : Int)).bind fun x247 =>
    (idx l208 x209).bind fun x250 =>
    (F_plot_changed_2__scaled_1 x247 x242 q2 q3).bind fun y251 =>
    (idx l243 (iL4 : Int)).bind fun x253 =>
    (sets l243 (iL4 : Int) y251.1).bind fun l254 =>
    (zm q2 q3 l208 x209 kL3 x214 restL4 (iL4 + 1)) y251.2 l254
def za (q2 : zt) (q3 : Int) (y100 : (List zS)) : Nat → Bool → List zS → Int → Option ((List zS) × Bool)
  | 0, _, _, _ => none
  | mL3 + 1, x207, l208, x209 =>
    if (decide (x209 < (y100.length : Int))) then
      (idx l208 x209).bind fun x210 =>
      (F_slices_Clone_Rect x210.Rects).bind fun y212 =>
      (idx l208 x209).bind fun x214 =>
      (idx l208 x209).bind fun x216 =>
      zm q2 q3 l208 x209 (za q2 q3 y100 mL3) x214 y212 0 x207 y212
    else
      some (l208, x207)
def F_plot_ownTools__changed_2__scaled_1 (N : Nat) (p0 : (List zS)) (q1 : Bool) (q2 : zt) (q3 : Int) : Option ((List zS) × Bool) :=
  (F_slices_Clone_PlotTool p0).bind fun y100 =>
  za q2 q3 y100 N q1 y100 0


def F_plot_changed_1__scaled_1 (p0 : zI) (q1 : Bool) (q2 : zt) (q3 : Int) : Option (zI × Bool) :=
  (F_plot_scaled_1 p0.X q1 q2 q3).bind fun y103 =>
  (F_plot_scaled_1 p0.Y y103.2 q2 q3).bind fun y105 =>
  some ((zI.mk y103.1 y105.1), y105.2)

def zl (q3 : zt) (q4 : Int) (y101 : (zI × Bool)) : List zI → Nat → Bool → List zI → Option (Int × Int × (List zI) × Bool)
  | [], iL1, x124, l125 =>
    some (y101.1.X, y101.1.Y, l125, x124)
  | xL1 :: restL1, iL1, x124, l125 =>
    (idx l125 (iL1 : Int)).bind fun x127 =>
    (F_plot_changed_1__scaled_1 x127 x124 q3 q4).bind fun y128 =>
    (idx l125 (iL1 : Int)).bind fun x130 =>
    (sets l125 (iL1 : Int) y128.1).bind fun l131 =>
    (zl q3 q4 y101 restL1 (iL1 + 1)) y128.2 l131
def F_plot_changed_3__changed_1__scaled_1 (p0 : zD) (q2 : Bool) (q3 : zt) (q4 : Int) : Option (Int × Int × (List zI) × Bool) :=
  (F_plot_changed_1__scaled_1 p0.At q2 q3 q4).bind fun y101 =>
  zl q3 q4 y101 p0.Points 0 y101.2 p0.Points

def zk (q3 : zt) (q4 : Int) (rec : (List zD) → Bool → zt → Int → Option ((List zD) × Bool)) (y100 : (List zD)) : Nat → Bool → List zD → Int → Option ((List zD) × Bool)
  | 0, _, _, _ => none
  | mL1 + 1, x157, l158, x159 =>
    if (decide (x159 < (y100.length : Int))) then
      (idx l158 x159).bind fun x160 =>
      (F_slices_Clone_Point x160.Points).bind fun y162 =>
      (idx l158 x159).bind fun x164 =>
      (idx l158 x159).bind fun x166 =>
      (rec x164.Steps x157 q3 q4).bind fun y167 =>
      (idx l158 x159).bind fun x169 =>
      (idx l158 x159).bind fun x170 =>
      (F_plot_changed_3__changed_1__scaled_1 (zD.mk x164.Kind x164.Name x164.At y162 x164.NX x164.NY y167.1) y167.2 q3 q4).bind fun y171 =>
      (zk q3 q4 rec y100 mL1) y171.2.2.2 ((l158).set (x159).toNat (zD.mk x164.Kind x164.Name (zI.mk y171.1 y171.2.1) y171.2.2.1 x164.NX x164.NY y167.1)) (w64 (x159 + 1))
    else
      some (l158, x157)
def zAG (N : Nat) (rec : (List zD) → Bool → zt → Int → Option ((List zD) × Bool)) (p0 : (List zD)) (q2 : Bool) (q3 : zt) (q4 : Int) : Option ((List zD) × Bool) :=
  (F_slices_Clone_PlotStep p0).bind fun y100 =>
  zk q3 q4 rec y100 N q2 y100 0
def zAL : Nat → (List zD) → Bool → zt → Int → Option ((List zD) × Bool)
  | 0 => fun _ _ _ _ => none
  | N + 1 => zAG N (zAL N)


def F_plot_changed__scaled_1 (N : Nat) (p0 : zt) (q0 : Bool) (q1 : zt) (q2 : Int) : Option (zt × Bool) :=
  (F_plot_ownTools__changed_2__scaled_1 N p0.Tools q0 q1 q2).bind fun y104 =>
  (zAL N p0.Steps y104.2 q1 q2).bind fun y106 =>
  some ((zt.mk p0.Unit y104.1 y106.1), y106.2)


def F_plot_scaled (N : Nat) (p0 : zt) (p1 : Int) : Option (zt × Bool) :=
  (F_plot_changed__scaled_1 N p0 true p0 p1).bind fun y104 =>
  some ((zt.mk p1 y104.1.Tools y104.1.Steps), y104.2)


def F_plot_told (N : Nat) (p0 : zt) : Option (zt × Int) :=
  (F_plot_CheckPlot N p0).bind fun y102 =>
  if (y102 != 0) then
    some ((zt.mk 0 [] []), y102)
  else
    some (p0, 0)


def F_plot_Scaled (N : Nat) (p0 : zt) (p1 : Int) : Option (zt × Bool × Int) :=
  (F_plot_CheckPlot N p0).bind fun y102 =>
  if (y102 != 0) then
    some ((zt.mk 0 [] []), false, y102)
  else
    (F_plot_within p1 1 1000).bind fun y103 =>
    if (!y103) then
      some ((zt.mk 0 [] []), false, 1)
    else
      (F_plot_scaled N p0 p1).bind fun y104 =>
      if (!y104.2) then
        some ((zt.mk 0 [] []), false, 0)
      else
        (F_plot_told N y104.1).bind fun y111 =>
        some (y111.1, (y111.2 == 0), y111.2)



def F_plot_points_L1 : List zI → Nat → ByteArray → Option ByteArray
  | [], iL1, x122 =>
    some x122
  | xL1 :: restL1, iL1, x122 =>
    (itoaS xL1.X).bind fun y124 =>
    (catS (⟨#[32]⟩) y124).bind fun t125 =>
    (catS t125 (⟨#[32]⟩)).bind fun t126 =>
    (itoaS xL1.Y).bind fun y127 =>
    (catS t126 y127).bind fun t128 =>
    (catS x122 t128).bind fun t129 =>
    (F_plot_points_L1 restL1 (iL1 + 1)) t129
def F_plot_points (p0 : (List zI)) : Option ByteArray :=
  F_plot_points_L1 p0 0 ByteArray.empty

def zAE (rec : ByteArray → (List zD) → Option ByteArray) : List zD → Nat → ByteArray → Option ByteArray
  | [], iL1, m194 =>
    some m194
  | xL1 :: restL1, iL1, m194 =>
    if (xL1.Kind == 1) then
      (sbW m194 (⟨#[100, 97, 114, 107, 10]⟩)).bind fun y197 =>
      (zAE rec restL1 (iL1 + 1)) y197
    else
      if (xL1.Kind == 2) then
        (sbW m194 (⟨#[99, 108, 101, 97, 114, 10]⟩)).bind fun y199 =>
        (zAE rec restL1 (iL1 + 1)) y199
      else
        if (xL1.Kind == 3) then
          (catS (⟨#[117, 115, 101, 32]⟩) xL1.Name).bind fun t201 =>
          (catS t201 (⟨#[10]⟩)).bind fun t202 =>
          (sbW m194 t202).bind fun y203 =>
          (zAE rec restL1 (iL1 + 1)) y203
        else
          if (xL1.Kind == 4) then
            (F_plot_points [xL1.At]).bind fun y206 =>
            (catS (⟨#[109, 111, 118, 101]⟩) y206).bind fun t207 =>
            (catS t207 (⟨#[10]⟩)).bind fun t208 =>
            (sbW m194 t208).bind fun y209 =>
            (zAE rec restL1 (iL1 + 1)) y209
          else
            if (xL1.Kind == 5) then
              (F_plot_points [xL1.At]).bind fun y212 =>
              (catS (⟨#[102, 108, 97, 115, 104]⟩) y212).bind fun t213 =>
              (catS t213 (⟨#[10]⟩)).bind fun t214 =>
              (sbW m194 t214).bind fun y215 =>
              (zAE rec restL1 (iL1 + 1)) y215
            else
              if (xL1.Kind == 6) then
                (F_plot_points [xL1.At]).bind fun y218 =>
                (catS (⟨#[108, 105, 110, 101]⟩) y218).bind fun t219 =>
                (catS t219 (⟨#[10]⟩)).bind fun t220 =>
                (sbW m194 t220).bind fun y221 =>
                (zAE rec restL1 (iL1 + 1)) y221
              else
                if (xL1.Kind == 7) then
                  (F_plot_points xL1.Points).bind fun y223 =>
                  (catS (⟨#[97, 114, 101, 97]⟩) y223).bind fun t224 =>
                  (catS t224 (⟨#[10]⟩)).bind fun t225 =>
                  (sbW m194 t225).bind fun y226 =>
                  (zAE rec restL1 (iL1 + 1)) y226
                else
                  if (xL1.Kind == 8) then
                    (F_plot_points [(zI.mk xL1.NX xL1.NY), xL1.At]).bind fun y229 =>
                    (catS (⟨#[114, 101, 112, 101, 97, 116]⟩) y229).bind fun t230 =>
                    (catS t230 (⟨#[10]⟩)).bind fun t231 =>
                    (sbW m194 t231).bind fun y232 =>
                    (rec y232 xL1.Steps).bind fun y234 =>
                    (sbW y234 (⟨#[100, 111, 110, 101, 10]⟩)).bind fun y236 =>
                    (zAE rec restL1 (iL1 + 1)) y236
                  else
                    (zAE rec restL1 (iL1 + 1)) m194
def F_plot_writeSteps_b (N : Nat) (rec : ByteArray → (List zD) → Option ByteArray) (p0 : ByteArray) (p1 : (List zD)) : Option ByteArray :=
  zAE rec p1 0 p0
def F_plot_writeSteps : Nat → ByteArray → (List zD) → Option ByteArray
  | 0 => fun _ _ => none
  | N + 1 => F_plot_writeSteps_b N (F_plot_writeSteps N)



def F_plot_Text_L4 (kL3 : ByteArray → Option (ByteArray × Int)) : List zT → Nat → ByteArray → Option (ByteArray × Int)
  | [], iL4, m208 =>
    (sbW m208 (⟨#[10]⟩)).bind fun y209 =>
    kL3 y209
  | xL4 :: restL4, iL4, m208 =>
    (F_plot_points [(zI.mk xL4.X0 xL4.Y0), (zI.mk xL4.X1 xL4.Y1)]).bind fun y213 =>
    (sbW m208 y213).bind fun y214 =>
    (F_plot_Text_L4 kL3 restL4 (iL4 + 1)) y214
def F_plot_Text_L3 (N : Nat) (p0 : zt) : List zS → Nat → ByteArray → Option (ByteArray × Int)
  | [], iL3, m178 =>
    (F_plot_writeSteps N m178 p0.Steps).bind fun y179 =>
    (sbL y179).bind fun y181 =>
    if (decide (200000 < y181.1)) then
      some (ByteArray.empty, 2)
    else
      (sbS y181.2).bind fun y183 =>
      some (y183.1, 0)
  | xL3 :: restL3, iL3, m178 =>
    (catS (⟨#[116, 111, 111, 108, 32]⟩) xL3.Name).bind fun t187 =>
    (sbW m178 t187).bind fun y188 =>
    F_plot_Text_L4 (F_plot_Text_L3 N p0 restL3 (iL3 + 1)) xL3.Rects 0 y188
def F_plot_Text (N : Nat) (p0 : zt) : Option (ByteArray × Int) :=
  (F_plot_CheckPlot N p0).bind fun y101 =>
  if (y101 != 0) then
    some (ByteArray.empty, y101)
  else
    (itoaS p0.Unit).bind fun y103 =>
    (catS (⟨#[117, 110, 105, 116, 32]⟩) y103).bind fun t104 =>
    (catS t104 (⟨#[10]⟩)).bind fun t105 =>
    (sbW ByteArray.empty t105).bind fun y106 =>
    F_plot_Text_L3 N p0 p0.Tools 0 y106


def F_etchhouselaw3_awake (N : Nat)  : Option Bool :=
  (F_plot_Text N (zt.mk 7 [] [])).bind fun y100 =>
  some ((y100.2 == 0) && (sEq y100.1 (⟨#[117, 110, 105, 116, 32, 55, 10]⟩)))

def zAM (p0 : (List zI)) (p1 : (List zI)) : Nat → Int → Option Bool
  | 0, _ => none
  | mL1 + 1, x107 =>
    if (decide (x107 < (p0.length : Int))) then
      (idx p0 x107).bind fun x108 =>
      (idx p1 x107).bind fun x109 =>
      if (!(eqTPoint x108 x109)) then
        some false
      else
        (zAM p0 p1 mL1) (w64 (x107 + 1))
    else
      some true
def F_etchhouseref3_samePoints (N : Nat) (p0 : (List zI)) (p1 : (List zI)) : Option Bool :=
  if ((p0.length : Int) != (p1.length : Int)) then
    some false
  else
    zAM p0 p1 N 0

def zAN (N : Nat) (p0 : (List zD)) (p1 : (List zD)) (rec : (List zD) → (List zD) → Option Bool) : Nat → Int → Option Bool
  | 0, _ => none
  | mL1 + 1, x131 =>
    if (decide (x131 < (p0.length : Int))) then
      (idx p0 x131).bind fun x133 =>
      (idx p1 x131).bind fun x135 =>
      (if (((((x133.Kind != x135.Kind) || (!sEq x133.Name x135.Name)) || (!(eqTPoint x133.At x135.At))) || (x133.NX != x135.NX)) || (x133.NY != x135.NY)) then some true else 
        (F_etchhouseref3_samePoints N x133.Points x135.Points).bind fun y141 =>
        some (!y141)
      ).bind fun g140 =>
      (if g140 then some true else 
        (rec x133.Steps x135.Steps).bind fun y144 =>
        some (!y144)
      ).bind fun g143 =>
      if g143 then
        some false
      else
        (zAN N p0 p1 rec mL1) (w64 (x131 + 1))
    else
      some true
def F_etchhouseref3_sameSteps_b (N : Nat) (rec : (List zD) → (List zD) → Option Bool) (p0 : (List zD)) (p1 : (List zD)) : Option Bool :=
  if ((p0.length : Int) != (p1.length : Int)) then
    some false
  else
    zAN N p0 p1 rec N 0
def F_etchhouseref3_sameSteps : Nat → (List zD) → (List zD) → Option Bool
  | 0 => fun _ _ => none
  | N + 1 => F_etchhouseref3_sameSteps_b N (F_etchhouseref3_sameSteps N)

def zAO (p0 : (List zT)) (p1 : (List zT)) : Nat → Int → Option Bool
  | 0, _ => none
  | mL1 + 1, x107 =>
    if (decide (x107 < (p0.length : Int))) then
      (idx p0 x107).bind fun x108 =>
      (idx p1 x107).bind fun x109 =>
      if (!(eqTRect x108 x109)) then
        some false
      else
        (zAO p0 p1 mL1) (w64 (x107 + 1))
    else
      some true
def F_etchhouseref1_SameRects (N : Nat) (p0 : (List zT)) (p1 : (List zT)) : Option Bool :=
  if ((p0.length : Int) != (p1.length : Int)) then
    some false
  else
    zAO p0 p1 N 0

def F_etchhouseref3_SamePlot_L1 (N : Nat) (p0 : zt) (p1 : zt) : Nat → Int → Option Bool
  | 0, _ => none
  | mL1 + 1, x138 =>
    if (decide (x138 < (p0.Tools.length : Int))) then
      (idx p0.Tools x138).bind fun x139 =>
      (idx p1.Tools x138).bind fun x141 =>
      (if (!sEq x139.Name x141.Name) then some true else 
        (idx p0.Tools x138).bind fun x149 =>
        (idx p1.Tools x138).bind fun x151 =>
        (F_etchhouseref1_SameRects N x149.Rects x151.Rects).bind fun y153 =>
        some (!y153)
      ).bind fun g148 =>
      if g148 then
        some false
      else
        (F_etchhouseref3_SamePlot_L1 N p0 p1 mL1) (w64 (x138 + 1))
    else
      some true
def F_etchhouseref3_SamePlot (N : Nat) (p0 : zt) (p1 : zt) : Option Bool :=
  (if ((p0.Unit != p1.Unit) || ((p0.Tools.length : Int) != (p1.Tools.length : Int))) then some true else 
    (F_etchhouseref3_sameSteps N p0.Steps p1.Steps).bind fun y104 =>
    some (!y104)
  ).bind fun g103 =>
  if g103 then
    some false
  else
    F_etchhouseref3_SamePlot_L1 N p0 p1 N 0



def F_shape_SetOf_1 (p0 : zT) (p1 : zT) : Option Int :=
  some (w64 (p0.Y0 - p1.Y0))




def F_shape_SetOf_2 (p0 : zT) (q0 : (List Int)) (q1 : Int) : Option Bool :=
  (idx q0 q1).bind fun x101 =>
  some (decide (p0.Y1 ≤ x101))

def F_slices_IndexFunc_Rect_L1 (p1 : zT → Option Bool) : List zT → Nat → Option Int
  | [], iL1 =>
    some (-1)
  | xL1 :: restL1, iL1 =>
    (p1 xL1).bind fun y103 =>
    if y103 then
      some (iL1 : Int)
    else
      (F_slices_IndexFunc_Rect_L1 p1 restL1 (iL1 + 1))
def F_slices_IndexFunc_Rect (p0 : (List zT)) (p1 : zT → Option Bool) : Option Int :=
  F_slices_IndexFunc_Rect_L1 p1 p0 0

def zAH (p1 : zT → Option Bool) : Nat → List zT → Int → Int → Option (List zT)
  | 0, _, _, _ => none
  | mL1 + 1, l120, x121, x122 =>
    if (decide (x122 < (l120.length : Int))) then
      (idx l120 x122).bind fun x123 =>
      (p1 x123).bind fun y125 =>
      if (!y125) then
        (idx l120 x121).bind fun x126 =>
        (sets l120 x121 x123).bind fun l127 =>
        (zAH p1 mL1) l127 (w64 (x121 + 1)) (w64 (x122 + 1))
      else
        (zAH p1 mL1) l120 x121 (w64 (x122 + 1))
    else
      (cut l120 x121 (l120.length : Int)).bind fun l128 =>
      (pre (clr l120 x121 (l128).length (zT.mk 0 0 0 0)) x121).bind fun l129 =>
      some l129
def F_slices_DeleteFunc_Rect (N : Nat) (p0 : (List zT)) (p1 : zT → Option Bool) : Option (List zT) :=
  (F_slices_IndexFunc_Rect p0 p1).bind fun y100 =>
  if (y100 == (-1)) then
    some p0
  else
    zAH p1 N p0 y100 (w64 (y100 + 1))


def F_shape_stretches_1 (p0 : zT) (p1 : zT) : Option Int :=
  some (w64 (p0.X0 - p1.X0))

def F_shape_stretches_L1 (y100 : (List zT)) : List zT → Nat → List Int → Option ((List Int) × (List zT))
  | [], iL1, l128 =>
    some (l128, y100)
  | xL1 :: restL1, iL1, l128 =>
    (if (decide (0 ≤ (w64 ((l128.length : Int) - 1)))) then 
      (idx l128 (w64 ((l128.length : Int) - 1))).bind fun x132 =>
      some (decide (xL1.X0 ≤ x132))
     else some false).bind fun g131 =>
    if g131 then
      (idx l128 (w64 ((l128.length : Int) - 1))).bind fun x133 =>
      (idx l128 (w64 ((l128.length : Int) - 1))).bind fun x134 =>
      (sets l128 (w64 ((l128.length : Int) - 1)) (max x133 xL1.X1)).bind fun l135 =>
      (F_shape_stretches_L1 y100 restL1 (iL1 + 1)) l135
    else
      (apd l128 [xL1.X0, xL1.X1]).bind fun l137 =>
      (F_shape_stretches_L1 y100 restL1 (iL1 + 1)) l137
noncomputable def F_shape_stretches (p0 : (List zT)) : Option ((List Int) × (List zT)) :=
  (srtF p0 (fun z0 z1 => F_shape_stretches_1 z0 z1)).bind fun y100 =>
  F_shape_stretches_L1 y100 y100 0 ([] : List Int)

def F_slices_Equal_int_L1 (p1 : (List Int)) : List Int → Nat → Option Bool
  | [], iL1 =>
    some true
  | xL1 :: restL1, iL1 =>
    (idx p1 (iL1 : Int)).bind fun x103 =>
    if (xL1 != x103) then
      some false
    else
      (F_slices_Equal_int_L1 p1 restL1 (iL1 + 1))
def F_slices_Equal_int (p0 : (List Int)) (p1 : (List Int)) : Option Bool :=
  if ((p0.length : Int) != (p1.length : Int)) then
    some false
  else
    F_slices_Equal_int_L1 p1 p0 0


def F_shape_Set__push (p0 : (List zV)) (p1 : zV) : Option (List zV) :=
  if (((p1.Xs.length : Int) == 0) || (decide (p1.Y1 ≤ p1.Y0))) then
    some p0
  else
    (if (decide (0 ≤ (w64 ((p0.length : Int) - 1)))) then 
      (idx p0 (w64 ((p0.length : Int) - 1))).bind fun x103 =>
      some (x103.Y1 == p1.Y0)
     else some false).bind fun g102 =>
    (if g102 then 
      (idx p0 (w64 ((p0.length : Int) - 1))).bind fun x108 =>
      (F_slices_Equal_int x108.Xs p1.Xs).bind fun y110 =>
      some y110
     else some false).bind fun g107 =>
    if g107 then
      (idx p0 (w64 ((p0.length : Int) - 1))).bind fun x111 =>
      (sets p0 (w64 ((p0.length : Int) - 1)) (zV.mk x111.Y0 p1.Y1 x111.Xs)).bind fun l112 =>
      some l112
    else
      (apd p0 [p1]).bind fun l114 =>
      some l114

noncomputable def F_shape_SetOf_L5 (y102 : (List zT)) (y122 : (List Int)) (x229 : Int) (l230 : List zV) (kL4 : Int → (List zV) → (List zT) → Int → Option (List zV)) : Nat → List zT → Int → Option (List zV)
  | 0, _, _ => none
  | mL5 + 1, l257, x258 =>
    (if (decide (x258 < (y102.length : Int))) then 
      (idx y102 x258).bind fun x262 =>
      (idx y122 x229).bind fun x263 =>
      some (decide (x262.Y0 ≤ x263))
     else some false).bind fun g261 =>
    if g261 then
      (idx y102 x258).bind fun x264 =>
      (apd l257 [x264]).bind fun l266 =>
      (F_shape_SetOf_L5 y102 y122 x229 l230 kL4 mL5) l266 (w64 (x258 + 1))
    else
      (idx y122 x229).bind fun x268 =>
      (idx y122 (w64 (x229 + 1))).bind fun x269 =>
      (F_shape_stretches l257).bind fun y270 =>
      (F_shape_Set__push l230 (zV.mk x268 x269 y270.1)).bind fun y274 =>
      kL4 (w64 (x229 + 1)) y274 y270.2 x258
noncomputable def F_shape_SetOf_L4 (N : Nat) (y102 : (List zT)) (y122 : (List Int)) : Nat → Int → List zV → List zT → Int → Option (List zV)
  | 0, _, _, _, _ => none
  | mL4 + 1, x229, l230, l231, x232 =>
    if (decide ((w64 (x229 + 1)) < (y122.length : Int))) then
      (F_slices_DeleteFunc_Rect N l231 (fun z0 => F_shape_SetOf_2 z0 y122 x229)).bind fun y233 =>
      F_shape_SetOf_L5 y102 y122 x229 l230 (F_shape_SetOf_L4 N y102 y122 mL4) N y233 x232
    else
      some l230
noncomputable def F_shape_SetOf_L1 (N : Nat) (y102 : (List zT)) : List zT → Nat → List Int → Option (List zV)
  | [], iL1, l119 =>
    (srtI l119).bind fun y120 =>
    (cpI y120).bind fun y122 =>
    F_shape_SetOf_L4 N y102 y122 N 0 ([] : List zV) ([] : List zT) 0
  | xL1 :: restL1, iL1, l119 =>
    (apd l119 [xL1.Y0, xL1.Y1]).bind fun l279 =>
    (F_shape_SetOf_L1 N y102 restL1 (iL1 + 1)) l279
noncomputable def F_shape_SetOf (N : Nat) (p0 : (List zT)) : Option (List zV) :=
  (F_slices_Clone_Rect p0).bind fun y100 =>
  (srtF y100 (fun z0 z1 => F_shape_SetOf_1 z0 z1)).bind fun y102 =>
  F_shape_SetOf_L1 N y102 y102 0 ([] : List Int)

noncomputable def F_plot_newMachine_L4 (N : Nat) (p0 : zt) (l164 : List (List zV)) (kL3 : (List (List zV)) → Option zAA) : List zT → Nat → List zT → Option zAA
  | [], iL4, l181 =>
    (F_shape_SetOf N l181).bind fun y183 =>
    (apd l164 [y183]).bind fun l188 =>
    kL3 l188
  | xL4 :: restL4, iL4, l181 =>
    (apd l181 [(zT.mk (w64 (xL4.X0 * p0.Unit)) (w64 (xL4.Y0 * p0.Unit)) (w64 (xL4.X1 * p0.Unit)) (w64 (xL4.Y1 * p0.Unit)))]).bind fun l191 =>
    (F_plot_newMachine_L4 N p0 l164 kL3 restL4 (iL4 + 1)) l191
noncomputable def zAQ (N : Nat) (p0 : zt) : List zS → Nat → List (List zV) → Option zAA
  | [], iL3, l164 =>
    some (zAA.mk p0 l164 [] false (-1) (zI.mk 0 0) false 0 0)
  | xL3 :: restL3, iL3, l164 =>
    F_plot_newMachine_L4 N p0 l164 (zAQ N p0 restL3 (iL3 + 1)) xL3.Rects 0 ([] : List zT)
noncomputable def F_plot_newMachine (N : Nat) (p0 : zt) : Option zAA :=
  zAQ N p0 p0.Tools 0 ([] : List (List zV))


def F_plot_machine__moved (p0 : zAA) (p1 : zI) (p2 : zI) : Option zI :=
  some (zI.mk (w64 ((w64 (p1.X * p0.p.Unit)) + p2.X)) (w64 ((w64 (p1.Y * p0.p.Unit)) + p2.Y)))


def F_shape_within (p0 : Int) (p1 : Int) (p2 : Int) : Option Bool :=
  some ((decide (p1 ≤ p0)) && (decide (p0 ≤ p2)))


def F_shape_IsAt (p0 : Int) : Option Bool :=
  (F_shape_within p0 (-1000000) 1000000).bind fun y100 =>
  some y100


def F_shape_IsPoint (p0 : zI) : Option Bool :=
  (F_shape_IsAt p0.X).bind fun y101 =>
  (if y101 then 
    (F_shape_IsAt p0.Y).bind fun y104 =>
    some y104
   else some false).bind fun g103 =>
  some g103


def F_plot_far (p0 : zI) (p1 : zI) : Option Int :=
  some (w64 ((max (w64 (p0.X - p1.X)) (w64 (p1.X - p0.X))) + (max (w64 (p0.Y - p1.Y)) (w64 (p1.Y - p0.Y)))))

def F_shape_Set__Rects_L4 (kL3 : (List zT) → Option (List zT)) (xL3 : zV) : Nat → List zT → Int → Option (List zT)
  | 0, _, _ => none
  | mL4 + 1, l169, x170 =>
    if (decide (x170 < (xL3.Xs.length : Int))) then
      (idx xL3.Xs x170).bind fun x172 =>
      (idx xL3.Xs (w64 (x170 + 1))).bind fun x173 =>
      (apd l169 [(zT.mk x172 xL3.Y0 x173 xL3.Y1)]).bind fun l174 =>
      (F_shape_Set__Rects_L4 kL3 xL3 mL4) l174 (w64 (x170 + 2))
    else
      kL3 l169
def zAK (N : Nat) : List zV → Nat → List zT → Option (List zT)
  | [], iL3, l152 =>
    some l152
  | xL3 :: restL3, iL3, l152 =>
    F_shape_Set__Rects_L4 (zAK N restL3 (iL3 + 1)) xL3 N l152 0
def F_shape_Set__Rects (N : Nat) (p0 : (List zV)) : Option (List zT) :=
  zAK N p0 0 ([] : List zT)

noncomputable def F_shape_Set__Spread_L1 (N : Nat) (p1 : Int) (p2 : Int) (p3 : Int) (p4 : Int) (y100 : (List zT)) : Nat → List zT → Int → Option (List zV)
  | 0, _, _ => none
  | mL1 + 1, l116, x117 =>
    if (decide (x117 < (y100.length : Int))) then
      (idx l116 x117).bind fun x118 =>
      (idx l116 x117).bind fun x120 =>
      (sets l116 x117 (zT.mk (w64 (x118.X0 - p1)) (w64 (x118.Y0 - p3)) (w64 (x118.X1 + p2)) (w64 (x118.Y1 + p4)))).bind fun l121 =>
      (F_shape_Set__Spread_L1 N p1 p2 p3 p4 y100 mL1) l121 (w64 (x117 + 1))
    else
      (F_shape_SetOf N l116).bind fun y122 =>
      some y122
noncomputable def F_shape_Set__Spread (N : Nat) (p0 : (List zV)) (p1 : Int) (p2 : Int) (p3 : Int) (p4 : Int) : Option (List zV) :=
  (F_shape_Set__Rects N p0).bind fun y100 =>
  F_shape_Set__Spread_L1 N p1 p2 p3 p4 y100 N y100 0


noncomputable def F_plot_swept (N : Nat) (p0 : (List zV)) (p1 : zI) (p2 : zI) : Option (List zV) :=
  (F_shape_Set__Spread N p0 (w64 (0 - (min p1.X p2.X))) (max p1.X p2.X) (w64 (0 - (min p1.Y p2.Y))) (max p1.Y p2.Y)).bind fun y102 =>
  some y102

def F_shape_Set__Around_L1 (x105 : zV) (x110 : zV) : List zV → Nat → Int → Int → Option zT
  | [], iL1, x133, x134 =>
    some (zT.mk x133 x105.Y0 x134 x110.Y1)
  | xL1 :: restL1, iL1, x133, x134 =>
    (idx xL1.Xs 0).bind fun x138 =>
    (idx xL1.Xs (w64 ((xL1.Xs.length : Int) - 1))).bind fun x139 =>
    (F_shape_Set__Around_L1 x105 x110 restL1 (iL1 + 1)) (min x133 x138) (max x134 x139)
def F_shape_Set__Around (p0 : (List zV)) : Option zT :=
  (idx p0 0).bind fun x102 =>
  (idx x102.Xs 0).bind fun x104 =>
  (idx p0 0).bind fun x105 =>
  (idx p0 0).bind fun x107 =>
  (idx x107.Xs 1).bind fun x109 =>
  (idx p0 (w64 ((p0.length : Int) - 1))).bind fun x110 =>
  F_shape_Set__Around_L1 x105 x110 p0 0 x104 x109


def F_shape_isRect (p0 : zT) : Option Bool :=
  (F_shape_IsAt p0.X0).bind fun y101 =>
  (if y101 then 
    (F_shape_IsAt p0.Y0).bind fun y104 =>
    some y104
   else some false).bind fun g103 =>
  (if g103 then 
    (F_shape_IsAt p0.X1).bind fun y107 =>
    some y107
   else some false).bind fun g106 =>
  (if g106 then 
    (F_shape_IsAt p0.Y1).bind fun y110 =>
    some y110
   else some false).bind fun g109 =>
  some g109


def F_shape_Set__Fits (p0 : (List zV)) : Option Bool :=
  (if ((p0.length : Int) == 0) then some true else 
    (F_shape_Set__Around p0).bind fun y103 =>
    (F_shape_isRect y103).bind fun y104 =>
    some y104
  ).bind fun g102 =>
  some g102


def F_shape_Set__at (p0 : (List zV)) (p1 : Int) (p2 : Int) : Option ((List Int) × Int) :=
  if ((p0.length : Int) == 0) then
    some (([] : List Int), p2)
  else
    (idx p0 0).bind fun x102 =>
    if (decide (p1 < x102.Y0)) then
      (idx p0 0).bind fun x104 =>
      some ([], (min p2 x104.Y0))
    else
      (idx p0 0).bind fun x106 =>
      (idx p0 0).bind fun x108 =>
      some (x106.Xs, (min p2 x108.Y1))

def F_shape_line_J8 (p2 : Bool → Bool → Option Bool) (l232 : List Int) (x235 : Bool) (kL7 : (List Int) → (List Int) → (List Int) → Bool → Bool → Bool → Option (List Int)) (x249 : Int) (l256 : List Int) (x257 : Bool) (l264 : List Int) (x265 : Bool) : Option (List Int) :=
  (p2 x257 x265).bind fun y268 =>
  if (y268 != x235) then
    (apd l232 [x249]).bind fun l270 =>
    kL7 l256 l264 l270 x257 x265 y268
  else
    kL7 l256 l264 l232 x257 x265 x235
def F_shape_line_J9 (p2 : Bool → Bool → Option Bool) (l231 : List Int) (l232 : List Int) (x234 : Bool) (x235 : Bool) (kL7 : (List Int) → (List Int) → (List Int) → Bool → Bool → Bool → Option (List Int)) (x249 : Int) (l256 : List Int) (x257 : Bool) : Option (List Int) :=
  (if (decide (0 < (l231.length : Int))) then 
    (idx l231 0).bind fun x273 =>
    some (x273 == x249)
   else some false).bind fun g272 =>
  if g272 then
    (cut l231 1 (l231.length : Int)).bind fun l274 =>
    F_shape_line_J8 p2 l232 x235 kL7 x249 l256 x257 l274 (!x234)
  else
    F_shape_line_J8 p2 l232 x235 kL7 x249 l256 x257 l231 x234
def F_shape_line_J10 (p2 : Bool → Bool → Option Bool) (l230 : List Int) (l231 : List Int) (l232 : List Int) (x233 : Bool) (x234 : Bool) (x235 : Bool) (kL7 : (List Int) → (List Int) → (List Int) → Bool → Bool → Bool → Option (List Int)) (x249 : Int) : Option (List Int) :=
  (if (decide (0 < (l230.length : Int))) then 
    (idx l230 0).bind fun x277 =>
    some (x277 == x249)
   else some false).bind fun g276 =>
  if g276 then
    (cut l230 1 (l230.length : Int)).bind fun l278 =>
    F_shape_line_J9 p2 l231 l232 x234 x235 kL7 x249 l278 (!x233)
  else
    F_shape_line_J9 p2 l231 l232 x234 x235 kL7 x249 l230 x233
def zAI (p2 : Bool → Bool → Option Bool) : Nat → List Int → List Int → List Int → Bool → Bool → Bool → Option (List Int)
  | 0, _, _, _, _, _, _ => none
  | mL7 + 1, l230, l231, l232, x233, x234, x235 =>
    if ((decide (0 < (l230.length : Int))) || (decide (0 < (l231.length : Int)))) then
      (if ((l231.length : Int) == 0) then some true else 
        (if (decide (0 < (l230.length : Int))) then 
          (idx l230 0).bind fun x288 =>
          (idx l231 0).bind fun x289 =>
          some (decide (x288 ≤ x289))
         else some false).bind fun g287 =>
        some g287
      ).bind fun g284 =>
      if g284 then
        (idx l230 0).bind fun x290 =>
        F_shape_line_J10 p2 l230 l231 l232 x233 x234 x235 (zAI p2 mL7) x290
      else
        (idx l231 0).bind fun x291 =>
        F_shape_line_J10 p2 l230 l231 l232 x233 x234 x235 (zAI p2 mL7) x291
    else
      some l232
def F_shape_line (N : Nat) (p0 : (List Int)) (p1 : (List Int)) (p2 : Bool → Bool → Option Bool) : Option (List Int) :=
  zAI p2 N p0 p1 ([] : List Int) false false false

def F_shape_Merge_J4 (l152 : List (List zV)) (x153 : Int) (kL3 : Int → Int → (List (List zV)) → Int → Option (List zV)) (x154 : (List zV)) (x160 : Int) (x161 : Int) : Option (List zV) :=
  (idx x154 0).bind fun x164 =>
  (idx x154 (w64 ((x154.length : Int) - 1))).bind fun x166 =>
  kL3 (min x160 x164.Y0) (max x161 x166.Y1) l152 (w64 (x153 + 1))
def F_shape_Merge_L11 (N : Nat) (p2 : Bool → Bool → Option Bool) (x151 : Int) (l294 : List zV) (x295 : Int) (kL9 : (List zV) → (List zV) → (List zV) → Int → Option (List zV)) (l311 : List zV) : Nat → List zV → Option (List zV)
  | 0, _ => none
  | mL11 + 1, l333 =>
    (if (decide (0 < (l333.length : Int))) then 
      (idx l333 0).bind fun x337 =>
      some (decide (x337.Y1 ≤ x295))
     else some false).bind fun g336 =>
    if g336 then
      (cut l333 1 (l333.length : Int)).bind fun l339 =>
      (F_shape_Merge_L11 N p2 x151 l294 x295 kL9 l311 mL11) l339
    else
      (F_shape_Set__at l311 x295 x151).bind fun y340 =>
      (F_shape_Set__at l333 x295 x151).bind fun y342 =>
      (F_shape_line N y340.1 y342.1 p2).bind fun y344 =>
      (F_shape_Set__push l294 (zV.mk x295 (min y340.2 y342.2) y344)).bind fun y348 =>
      kL9 l311 l333 y348 (min y340.2 y342.2)
def F_shape_Merge_L10 (N : Nat) (p2 : Bool → Bool → Option Bool) (x151 : Int) (l293 : List zV) (l294 : List zV) (x295 : Int) (kL9 : (List zV) → (List zV) → (List zV) → Int → Option (List zV)) : Nat → List zV → Option (List zV)
  | 0, _ => none
  | mL10 + 1, l311 =>
    (if (decide (0 < (l311.length : Int))) then 
      (idx l311 0).bind fun x315 =>
      some (decide (x315.Y1 ≤ x295))
     else some false).bind fun g314 =>
    if g314 then
      (cut l311 1 (l311.length : Int)).bind fun l317 =>
      (F_shape_Merge_L10 N p2 x151 l293 l294 x295 kL9 mL10) l317
    else
      F_shape_Merge_L11 N p2 x151 l294 x295 kL9 l311 N l293
def F_shape_Merge_L9 (N : Nat) (p2 : Bool → Bool → Option Bool) (x151 : Int) : Nat → List zV → List zV → List zV → Int → Option (List zV)
  | 0, _, _, _, _ => none
  | mL9 + 1, l292, l293, l294, x295 =>
    if (decide (x295 < x151)) then
      F_shape_Merge_L10 N p2 x151 l293 l294 x295 (F_shape_Merge_L9 N p2 x151 mL9) N l292
    else
      some l294
def zAF (N : Nat) (p0 : (List zV)) (p1 : (List zV)) (p2 : Bool → Bool → Option Bool) : Nat → Int → Int → List (List zV) → Int → Option (List zV)
  | 0, _, _, _, _ => none
  | mL3 + 1, x150, x151, l152, x153 =>
    if (decide (x153 < 2)) then
      (idx l152 x153).bind fun x154 =>
      if (decide (0 < (x154.length : Int))) then
        if ((x153 == 0) || ((p0.length : Int) == 0)) then
          (idx x154 0).bind fun x168 =>
          (idx x154 (w64 ((x154.length : Int) - 1))).bind fun x170 =>
          F_shape_Merge_J4 l152 x153 (zAF N p0 p1 p2 mL3) x154 x168.Y0 x170.Y1
        else
          F_shape_Merge_J4 l152 x153 (zAF N p0 p1 p2 mL3) x154 x150 x151
      else
        (zAF N p0 p1 p2 mL3) x150 x151 l152 (w64 (x153 + 1))
    else
      F_shape_Merge_L9 N p2 x151 N p0 p1 ([] : List zV) x150
def F_shape_Merge (N : Nat) (p0 : (List zV)) (p1 : (List zV)) (p2 : Bool → Bool → Option Bool) : Option (List zV) :=
  if ((w64 ((p0.length : Int) + (p1.length : Int))) == 0) then
    some ([] : List zV)
  else
    zAF N p0 p1 p2 N 0 0 [p0, p1] 0


def F_shape_Set__Less_1 (p0 : Bool) (p1 : Bool) : Option Bool :=
  some (p0 && (!p1))


def F_shape_Set__Less (N : Nat) (p0 : (List zV)) (p1 : (List zV)) : Option (List zV) :=
  (F_shape_Merge N p0 p1 (fun z0 z1 => F_shape_Set__Less_1 z0 z1)).bind fun y100 =>
  some y100


def F_shape_Set__Or_1 (p0 : Bool) (p1 : Bool) : Option Bool :=
  some (p0 || p1)


def F_shape_Set__Or (N : Nat) (p0 : (List zV)) (p1 : (List zV)) : Option (List zV) :=
  (F_shape_Merge N p0 p1 (fun z0 z1 => F_shape_Set__Or_1 z0 z1)).bind fun y100 =>
  some y100

def F_shape_Set__Many_L1 : List zV → Nat → Int → Option Int
  | [], iL1, x112 =>
    some x112
  | xL1 :: restL1, iL1, x112 =>
    (F_shape_Set__Many_L1 restL1 (iL1 + 1)) (w64 (x112 + (w64 (Int.tdiv (xL1.Xs.length : Int) 2))))
def F_shape_Set__Many (p0 : (List zV)) : Option Int :=
  F_shape_Set__Many_L1 p0 0 0

def F_plot_machine__draw_J1 (l109 : List zV) : Option (Int × (List zV)) :=
  (F_shape_Set__Many l109).bind fun y112 =>
  if (decide (2000 < y112)) then
    some (2, l109)
  else
    some (0, l109)
def F_plot_machine__draw (N : Nat) (p0 : zAA) (p1 : (List zV)) : Option (Int × (List zV)) :=
  (F_shape_Set__Fits p1).bind fun y113 =>
  if (!y113) then
    some (1, p0.image)
  else
    if p0.clear then
      (F_shape_Set__Less N p0.image p1).bind fun y116 =>
      F_plot_machine__draw_J1 y116
    else
      (F_shape_Set__Or N p0.image p1).bind fun y120 =>
      F_plot_machine__draw_J1 y120

def F_plot_machine__set__f0_10_J1 (p1 : zI) (x103 : Int) : Option (Int × Int × Int × Bool × Int) :=
  some (0, p1.X, p1.Y, true, x103)
def F_plot_machine__set__f0_10 (p0 : zAA) (p1 : zI) : Option (Int × Int × Int × Bool × Int) :=
  (F_shape_IsPoint p1).bind fun y101 =>
  if (!y101) then
    some (1, p0.place.X, p0.place.Y, p0.placed, p0.off)
  else
    if p0.placed then
      (F_plot_far p0.place p1).bind fun y106 =>
      F_plot_machine__set__f0_10_J1 p1 (w64 (p0.off + y106))
    else
      F_plot_machine__set__f0_10_J1 p1 p0.off


noncomputable def F_plot_machine__flash (N : Nat) (p0 : zAA) (p1 : zI) : Option (Int × Int × Int × Bool × Int × (List zV)) :=
  if (decide (p0.tool < 0)) then
    some (11, p0.place.X, p0.place.Y, p0.placed, p0.off, p0.image)
  else
    (F_plot_machine__set__f0_10 p0 p1).bind fun y101 =>
    if (y101.1 != 0) then
      some (y101.1, y101.2.1, y101.2.2.1, y101.2.2.2.1, y101.2.2.2.2, p0.image)
    else
      (idx p0.tools p0.tool).bind fun x104 =>
      (F_plot_swept N x104 p1 p1).bind fun y106 =>
      (F_plot_machine__draw N (zAA.mk p0.p p0.tools p0.image p0.clear p0.tool (zI.mk y101.2.1 y101.2.2.1) y101.2.2.2.1 y101.2.2.2.2 p0.on) y106).bind fun y110 =>
      some (y110.1, y101.2.1, y101.2.2.1, y101.2.2.2.1, y101.2.2.2.2, y110.2)

def F_plot_machine__set__f0_11_J1 (p1 : zI) (x103 : Int) : Option (Int × Int × Int × Bool × Int) :=
  some (0, p1.X, p1.Y, true, x103)
def F_plot_machine__set__f0_11 (p0 : zAA) (p1 : zI) : Option (Int × Int × Int × Bool × Int) :=
  (F_shape_IsPoint p1).bind fun y101 =>
  if (!y101) then
    some (1, p0.place.X, p0.place.Y, p0.placed, p0.on)
  else
    if p0.placed then
      (F_plot_far p0.place p1).bind fun y106 =>
      F_plot_machine__set__f0_11_J1 p1 (w64 (p0.on + y106))
    else
      F_plot_machine__set__f0_11_J1 p1 p0.on


noncomputable def F_plot_machine__line (N : Nat) (p0 : zAA) (p1 : zI) : Option (Int × Int × Int × Bool × Int × (List zV)) :=
  if ((decide (p0.tool < 0)) || (!p0.placed)) then
    some (11, p0.place.X, p0.place.Y, p0.placed, p0.on, p0.image)
  else
    if ((p1.X != p0.place.X) && (p1.Y != p0.place.Y)) then
      some (3, p0.place.X, p0.place.Y, p0.placed, p0.on, p0.image)
    else
      (F_plot_machine__set__f0_11 p0 p1).bind fun y102 =>
      if (y102.1 != 0) then
        some (y102.1, y102.2.1, y102.2.2.1, y102.2.2.2.1, y102.2.2.2.2, p0.image)
      else
        (idx p0.tools p0.tool).bind fun x105 =>
        (F_plot_swept N x105 p0.place p1).bind fun y107 =>
        (F_plot_machine__draw N (zAA.mk p0.p p0.tools p0.image p0.clear p0.tool (zI.mk y102.2.1 y102.2.2.1) y102.2.2.2.1 p0.off y102.2.2.2.2) y107).bind fun y111 =>
        some (y111.1, y102.2.1, y102.2.2.1, y102.2.2.2.1, y102.2.2.2.2, y111.2)


def F_shape_Around_1 (p0 : zT) (p1 : zT) : Option Int :=
  some (w64 (p0.X0 - p1.X0))

def F_shape_Around_L7 (y191 : (List Int)) (l297 : List zV) (x298 : Int) (kL6 : (List zV) → Int → Option (List zV)) : List zT → Nat → List Int → Option (List zV)
  | [], iL7, l329 =>
    (idx y191 x298).bind fun x330 =>
    (idx y191 (w64 (x298 + 1))).bind fun x331 =>
    (F_shape_Set__push l297 (zV.mk x330 x331 l329)).bind fun y334 =>
    kL6 y334 (w64 (x298 + 1))
  | xL7 :: restL7, iL7, l329 =>
    (idx y191 x298).bind fun x337 =>
    (if (decide (x337 < xL7.Y0)) then some true else 
      (idx y191 x298).bind fun x340 =>
      some (decide (xL7.Y1 ≤ x340))
    ).bind fun g339 =>
    if g339 then
      (F_shape_Around_L7 y191 l297 x298 kL6 restL7 (iL7 + 1)) l329
    else
      (if (decide (0 < (l329.length : Int))) then 
        (idx l329 (w64 ((l329.length : Int) - 1))).bind fun x343 =>
        some (x343 == xL7.X0)
       else some false).bind fun g342 =>
      if g342 then
        (pre l329 (w64 ((l329.length : Int) - 1))).bind fun l344 =>
        (F_shape_Around_L7 y191 l297 x298 kL6 restL7 (iL7 + 1)) l344
      else
        (apd l329 [xL7.X0]).bind fun l346 =>
        (F_shape_Around_L7 y191 l297 x298 kL6 restL7 (iL7 + 1)) l346
def F_shape_Around_L6 (y191 : (List Int)) (y193 : (List zT)) : Nat → List zV → Int → Option (List zV)
  | 0, _, _ => none
  | mL6 + 1, l297, x298 =>
    if (decide ((w64 (x298 + 1)) < (y191.length : Int))) then
      F_shape_Around_L7 y191 l297 x298 (F_shape_Around_L6 y191 y193 mL6) y193 0 ([] : List Int)
    else
      some l297
def F_shape_Around_L8 (kL3 : (List Int) → (List zT) → Option (List zV)) (xL3 : (List zI)) : List zI → Nat → List Int → List zT → Option (List zV)
  | [], iL8, l375, l376 =>
    kL3 l375 l376
  | xL8 :: restL8, iL8, l375, l376 =>
    (md (w64 ((iL8 : Int) + 1)) (xL3.length : Int)).bind fun q378 =>
    (idx xL3 q378).bind fun x379 =>
    (apd l375 [xL8.Y]).bind fun l382 =>
    if (xL8.X == x379.X) then
      (apd l376 [(zT.mk xL8.X (min xL8.Y x379.Y) 0 (max xL8.Y x379.Y))]).bind fun l384 =>
      (F_shape_Around_L8 kL3 xL3 restL8 (iL8 + 1)) l382 l384
    else
      (F_shape_Around_L8 kL3 xL3 restL8 (iL8 + 1)) l382 l376
noncomputable def F_shape_Around_L3 (N : Nat) : List (List zI) → Nat → List Int → List zT → Option (List zV)
  | [], iL3, l187, l188 =>
    (srtI l187).bind fun y189 =>
    (cpI y189).bind fun y191 =>
    (srtF l188 (fun z0 z1 => F_shape_Around_1 z0 z1)).bind fun y193 =>
    F_shape_Around_L6 y191 y193 N ([] : List zV) 0
  | xL3 :: restL3, iL3, l187, l188 =>
    F_shape_Around_L8 (F_shape_Around_L3 N restL3 (iL3 + 1)) xL3 xL3 0 l187 l188
noncomputable def F_shape_Around (N : Nat) (p0 : (List (List zI))) : Option (List zV) :=
  F_shape_Around_L3 N p0 0 ([] : List Int) ([] : List zT)


def F_plot_machine__area_1 (p0 : zI) : Option Bool :=
  (F_shape_IsPoint p0).bind fun y101 =>
  some (!y101)

noncomputable def F_plot_machine__area_L1 (N : Nat) (p0 : zAA) (p2 : zI) : List zI → Nat → List zI → Option (Int × (List zV))
  | [], iL1, l117 =>
    (F_shape_Around N [l117]).bind fun y121 =>
    (F_shape_Set__Many y121).bind fun y123 =>
    if (decide (2000 < y123)) then
      some (2, p0.image)
    else
      (F_slices_ContainsFunc_Point l117 (fun z0 => F_plot_machine__area_1 z0)).bind fun y124 =>
      if y124 then
        some (1, p0.image)
      else
        (F_plot_machine__draw N p0 y121).bind fun y127 =>
        some (y127.1, y127.2)
  | xL1 :: restL1, iL1, l117 =>
    (F_plot_machine__moved p0 xL1 p2).bind fun y130 =>
    (apd l117 [y130]).bind fun l132 =>
    (F_plot_machine__area_L1 N p0 p2 restL1 (iL1 + 1)) l132
noncomputable def F_plot_machine__area (N : Nat) (p0 : zAA) (p1 : (List zI)) (p2 : zI) : Option (Int × (List zV)) :=
  F_plot_machine__area_L1 N p0 p2 p1 0 ([] : List zI)

def F_plot_machine__step_J6 (l287 : List zV) (x288 : Bool) (x289 : Int) (x290 : Int) (x291 : Int) (x292 : Bool) (x293 : Int) (x294 : Int) : Option (Int × Bool × Int × Int × Int × Bool × Int × Int × (List zV)) :=
  some (0, x288, x289, x290, x291, x292, x293, x294, l287)
def F_plot_machine__step_L10 (p0 : zAA) (p1 : zD) (p2 : zI) (rec : zAA → (List zD) → zI → Option (Int × Bool × Int × Int × Int × Bool × Int × Int × (List zV))) (x434 : Int) (kL9 : (List zV) → Bool → Int → Int → Int → Bool → Int → Int → Int → Option (Int × Bool × Int × Int × Int × Bool × Int × Int × (List zV))) : Nat → List zV → Bool → Int → Int → Int → Bool → Int → Int → Int → Option (Int × Bool × Int × Int × Int × Bool × Int × Int × (List zV))
  | 0, _, _, _, _, _, _, _, _, _ => none
  | mL10 + 1, l468, x469, x470, x471, x472, x473, x474, x475, x476 =>
    if (decide (x476 < p1.NX)) then
      (rec (zAA.mk p0.p p0.tools l468 x469 x470 (zI.mk x471 x472) x473 x474 x475) p1.Steps (zI.mk (w64 (p2.X + (w64 ((w64 (x476 * p1.At.X)) * p0.p.Unit)))) (w64 (p2.Y + (w64 ((w64 (x434 * p1.At.Y)) * p0.p.Unit)))))).bind fun y478 =>
      if (y478.1 != 0) then
        some (y478.1, y478.2.1, y478.2.2.1, y478.2.2.2.1, y478.2.2.2.2.1, y478.2.2.2.2.2.1, y478.2.2.2.2.2.2.1, y478.2.2.2.2.2.2.2.1, y478.2.2.2.2.2.2.2.2)
      else
        (F_plot_machine__step_L10 p0 p1 p2 rec x434 kL9 mL10) y478.2.2.2.2.2.2.2.2 y478.2.1 y478.2.2.1 y478.2.2.2.1 y478.2.2.2.2.1 y478.2.2.2.2.2.1 y478.2.2.2.2.2.2.1 y478.2.2.2.2.2.2.2.1 (w64 (x476 + 1))
    else
      kL9 l468 x469 x470 x471 x472 x473 x474 x475 (w64 (x434 + 1))
def zAJ (N : Nat) (p0 : zAA) (p1 : zD) (p2 : zI) (rec : zAA → (List zD) → zI → Option (Int × Bool × Int × Int × Int × Bool × Int × Int × (List zV))) : Nat → List zV → Bool → Int → Int → Int → Bool → Int → Int → Int → Option (Int × Bool × Int × Int × Int × Bool × Int × Int × (List zV))
  | 0, _, _, _, _, _, _, _, _, _ => none
  | mL9 + 1, l426, x427, x428, x429, x430, x431, x432, x433, x434 =>
    if (decide (x434 < p1.NY)) then
      F_plot_machine__step_L10 p0 p1 p2 rec x434 (zAJ N p0 p1 p2 rec mL9) N l426 x427 x428 x429 x430 x431 x432 x433 0
    else
      F_plot_machine__step_J6 l426 x427 x428 x429 x430 x431 x432 x433
noncomputable def F_plot_machine__step_J11 (N : Nat) (p0 : zAA) (p1 : zD) (p2 : zI) (rec : zAA → (List zD) → zI → Option (Int × Bool × Int × Int × Int × Bool × Int × Int × (List zV))) (y102 : zI) (x297 : Bool) : Option (Int × Bool × Int × Int × Int × Bool × Int × Int × (List zV)) :=
  if x297 then
    F_plot_machine__step_J6 p0.image (p1.Kind == 2) p0.tool p0.place.X p0.place.Y p0.placed p0.off p0.on
  else
    if (p1.Kind == 3) then
      (F_plot_toolAt p0.p p1.Name).bind fun y300 =>
      F_plot_machine__step_J6 p0.image p0.clear y300 p0.place.X p0.place.Y p0.placed p0.off p0.on
    else
      if (p1.Kind == 4) then
        (F_plot_machine__set__f0_10 p0 y102).bind fun y301 =>
        some (y301.1, p0.clear, p0.tool, y301.2.1, y301.2.2.1, y301.2.2.2.1, y301.2.2.2.2, p0.on, p0.image)
      else
        if (p1.Kind == 5) then
          (F_plot_machine__flash N p0 y102).bind fun y303 =>
          some (y303.1, p0.clear, p0.tool, y303.2.1, y303.2.2.1, y303.2.2.2.1, y303.2.2.2.2.1, p0.on, y303.2.2.2.2.2)
        else
          if (p1.Kind == 6) then
            (F_plot_machine__line N p0 y102).bind fun y305 =>
            some (y305.1, p0.clear, p0.tool, y305.2.1, y305.2.2.1, y305.2.2.2.1, p0.off, y305.2.2.2.2.1, y305.2.2.2.2.2)
          else
            if (p1.Kind == 7) then
              (F_plot_machine__area N p0 p1.Points p2).bind fun y307 =>
              some (y307.1, p0.clear, p0.tool, p0.place.X, p0.place.Y, p0.placed, p0.off, p0.on, y307.2)
            else
              if (p1.Kind == 8) then
                zAJ N p0 p1 p2 rec N p0.image p0.clear p0.tool p0.place.X p0.place.Y p0.placed p0.off p0.on 0
              else
                F_plot_machine__step_J6 p0.image p0.clear p0.tool p0.place.X p0.place.Y p0.placed p0.off p0.on
noncomputable def F_plot_machine__step (rec : zAA → (List zD) → zI → Option (Int × Bool × Int × Int × Int × Bool × Int × Int × (List zV))) (N : Nat) (p0 : zAA) (p1 : zD) (p2 : zI) : Option (Int × Bool × Int × Int × Int × Bool × Int × Int × (List zV)) :=
  (F_plot_machine__moved p0 p1.At p2).bind fun y102 =>
  if (p1.Kind == 1) then
    F_plot_machine__step_J11 N p0 p1 p2 rec y102 (p1.Kind == 1)
  else
    F_plot_machine__step_J11 N p0 p1 p2 rec y102 (p1.Kind == 2)

noncomputable def F_plot_machine__run_L1 (N : Nat) (p0 : zAA) (p2 : zI) (rec : zAA → (List zD) → zI → Option (Int × Bool × Int × Int × Int × Bool × Int × Int × (List zV))) : List zD → Nat → List zV → Bool → Int → Int → Int → Bool → Int → Int → Option (Int × Bool × Int × Int × Int × Bool × Int × Int × (List zV))
  | [], iL1, l138, x139, x140, x141, x142, x143, x144, x145 =>
    some (0, x139, x140, x141, x142, x143, x144, x145, l138)
  | xL1 :: restL1, iL1, l138, x139, x140, x141, x142, x143, x144, x145 =>
    (F_plot_machine__step rec N (zAA.mk p0.p p0.tools l138 x139 x140 (zI.mk x141 x142) x143 x144 x145) xL1 p2).bind fun y148 =>
    if (y148.1 != 0) then
      some (y148.1, y148.2.1, y148.2.2.1, y148.2.2.2.1, y148.2.2.2.2.1, y148.2.2.2.2.2.1, y148.2.2.2.2.2.2.1, y148.2.2.2.2.2.2.2.1, y148.2.2.2.2.2.2.2.2)
    else
      (F_plot_machine__run_L1 N p0 p2 rec restL1 (iL1 + 1)) y148.2.2.2.2.2.2.2.2 y148.2.1 y148.2.2.1 y148.2.2.2.1 y148.2.2.2.2.1 y148.2.2.2.2.2.1 y148.2.2.2.2.2.2.1 y148.2.2.2.2.2.2.2.1
noncomputable def F_plot_machine__run_b (N : Nat) (rec : zAA → (List zD) → zI → Option (Int × Bool × Int × Int × Int × Bool × Int × Int × (List zV))) (p0 : zAA) (p1 : (List zD)) (p2 : zI) : Option (Int × Bool × Int × Int × Int × Bool × Int × Int × (List zV)) :=
  F_plot_machine__run_L1 N p0 p2 rec p1 0 p0.image p0.clear p0.tool p0.place.X p0.place.Y p0.placed p0.off p0.on
noncomputable def F_plot_machine__run : Nat → zAA → (List zD) → zI → Option (Int × Bool × Int × Int × Int × Bool × Int × Int × (List zV))
  | 0 => fun _ _ _ => none
  | N + 1 => F_plot_machine__run_b N (F_plot_machine__run N)


noncomputable def F_plot_drawn (N : Nat) (p0 : zt) : Option (zAA × Int) :=
  (F_plot_newMachine N p0).bind fun y101 =>
  (F_plot_machine__run N y101 p0.Steps (zI.mk 0 0)).bind fun y103 =>
  some ((zAA.mk y101.p y101.tools y103.2.2.2.2.2.2.2.2 y103.2.1 y103.2.2.1 (zI.mk y103.2.2.2.1 y103.2.2.2.2.1) y103.2.2.2.2.2.1 y103.2.2.2.2.2.2.1 y103.2.2.2.2.2.2.2.1), y103.1)


noncomputable def F_plot_ImageOf (N : Nat) (p0 : zt) : Option ((List zV) × Int) :=
  (F_plot_CheckPlot N p0).bind fun y101 =>
  if (y101 != 0) then
    some (([] : List zV), y101)
  else
    (F_plot_drawn N p0).bind fun y102 =>
    if (y102.2 != 0) then
      some (([] : List zV), y102.2)
    else
      some (y102.1.image, 0)


noncomputable def F_plot_Image (N : Nat) (p0 : zt) : Option ((List zT) × Int) :=
  (F_plot_ImageOf N p0).bind fun y101 =>
  (F_shape_Set__Rects N y101.1).bind fun y103 =>
  some (y103, y101.2)

def F_slices_Equal_Rect_L1 (p1 : (List zT)) : List zT → Nat → Option Bool
  | [], iL1 =>
    some true
  | xL1 :: restL1, iL1 =>
    (idx p1 (iL1 : Int)).bind fun x103 =>
    if (!(eqTRect xL1 x103)) then
      some false
    else
      (F_slices_Equal_Rect_L1 p1 restL1 (iL1 + 1))
def F_slices_Equal_Rect (p0 : (List zT)) (p1 : (List zT)) : Option Bool :=
  if ((p0.length : Int) != (p1.length : Int)) then
    some false
  else
    F_slices_Equal_Rect_L1 p1 p0 0


noncomputable def F_etchhouselaw3_PlotsScaledDrawSame (N : Nat) (p0 : zt) (p1 : Int) : Option Bool :=
  (F_plot_Scaled N p0 p1).bind fun y101 =>
  if ((y101.2.2 != 0) || (!y101.2.1)) then
    (if (y101.1.Unit == 0) then 
      (F_etchhouselaw3_awake N).bind fun y106 =>
      some y106
     else some false).bind fun g105 =>
    some g105
  else
    (F_plot_Scaled N y101.1 p0.Unit).bind fun y107 =>
    (if ((y107.2.2 != 0) || (!y107.2.1)) then some true else 
      (F_etchhouseref3_SamePlot N y107.1 p0).bind fun y112 =>
      some (!y112)
    ).bind fun g111 =>
    if g111 then
      some false
    else
      (F_plot_Image N p0).bind fun y113 =>
      (F_plot_Image N y101.1).bind fun y115 =>
      (if (y113.2 == y115.2) then 
        (F_slices_Equal_Rect y113.1 y115.1).bind fun y119 =>
        some y119
       else some false).bind fun g118 =>
      (if g118 then 
        (F_etchhouselaw3_awake N).bind fun y122 =>
        some y122
       else some false).bind fun g121 =>
      some g121

end Go.Proofs.YtoageaoknnnfbaaGreatDoor
