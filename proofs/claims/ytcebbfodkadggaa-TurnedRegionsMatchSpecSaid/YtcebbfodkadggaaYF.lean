/- The plain functions: what each function of the program computes; none where it would panic. -/
import Derived.Test.YtcebbfodkadggaaYT
namespace Go.Proofs.Ytcebbfodkadggaa
open Go.RowKit

def F_shape_within (p0 : Int) (p1 : Int) (p2 : Int) : Option Bool :=
  some ((decide (p1 ≤ p0)) && (decide (p0 ≤ p2)))


def F_shape_IsAt (p0 : Int) : Option Bool :=
  (F_shape_within p0 (-1000000) 1000000).bind fun y100 =>
  some y100


def F_shape_isRect (p0 : TRect) : Option Bool :=
  (F_shape_IsAt p0.X0).bind fun y101 =>
  (if y101 then 
    (F_shape_IsAt p0.Y0).bind fun y104 =>
    some y104
   else some false).bind fun g103 =>
  (if g103 then 
    (F_shape_IsAt p0.X1).bind fun y107 =>
    some y107
   else some false).bind fun g106 =>
  (if g106 then 
    (F_shape_IsAt p0.Y1).bind fun y110 =>
    some y110
   else some false).bind fun g109 =>
  some g109

def F_shape_CheckRects_L1 : List TRect → Nat → Option Int
  | [], iF_shape_CheckRects_L1 =>
    some 0
  | xF_shape_CheckRects_L1 :: restF_shape_CheckRects_L1, iF_shape_CheckRects_L1 =>
    (F_shape_isRect xF_shape_CheckRects_L1).bind fun y105 =>
    if (!y105) then
      some 1
    else
      if ((decide (xF_shape_CheckRects_L1.X1 ≤ xF_shape_CheckRects_L1.X0)) || (decide (xF_shape_CheckRects_L1.Y1 ≤ xF_shape_CheckRects_L1.Y0))) then
        some 13
      else
        (F_shape_CheckRects_L1 restF_shape_CheckRects_L1 (iF_shape_CheckRects_L1 + 1))
def F_shape_CheckRects (p0 : (List TRect)) : Option Int :=
  if (decide (2000 < (p0.length : Int))) then
    some 2
  else
    F_shape_CheckRects_L1 p0 0


def F_slices_Clone_Rect (p0 : (List TRect)) : Option (List TRect) :=
  (apd ([] : List TRect) p0).bind fun l101 =>
  some l101



def F_shape_SetOf_1 (p0 : TRect) (p1 : TRect) : Option Int :=
  some (w64 (p0.Y0 - p1.Y0))




def F_shape_SetOf_2 (p0 : TRect) (q0 : (List Int)) (q1 : Int) : Option Bool :=
  (idx q0 q1).bind fun x101 =>
  some (decide (p0.Y1 ≤ x101))

def F_slices_IndexFunc_Rect_L1 (p1 : TRect → Option Bool) : List TRect → Nat → Option Int
  | [], iF_slices_IndexFunc_Rect_L1 =>
    some (-1)
  | xF_slices_IndexFunc_Rect_L1 :: restF_slices_IndexFunc_Rect_L1, iF_slices_IndexFunc_Rect_L1 =>
    (p1 xF_slices_IndexFunc_Rect_L1).bind fun y103 =>
    if y103 then
      some (iF_slices_IndexFunc_Rect_L1 : Int)
    else
      (F_slices_IndexFunc_Rect_L1 p1 restF_slices_IndexFunc_Rect_L1 (iF_slices_IndexFunc_Rect_L1 + 1))
def F_slices_IndexFunc_Rect (p0 : (List TRect)) (p1 : TRect → Option Bool) : Option Int :=
  F_slices_IndexFunc_Rect_L1 p1 p0 0

def F_slices_DeleteFunc_Rect_L1 (p1 : TRect → Option Bool) : Nat → List TRect → Int → Int → Option (List TRect)
  | 0, _, _, _ => none
  | mF_slices_DeleteFunc_Rect_L1 + 1, l120, x121, x122 =>
    if (decide (x122 < (l120.length : Int))) then
      (idx l120 x122).bind fun x123 =>
      (p1 x123).bind fun y125 =>
      if (!y125) then
        (idx l120 x121).bind fun x126 =>
        (sets l120 x121 x123).bind fun l127 =>
        (F_slices_DeleteFunc_Rect_L1 p1 mF_slices_DeleteFunc_Rect_L1) l127 (w64 (x121 + 1)) (w64 (x122 + 1))
      else
        (F_slices_DeleteFunc_Rect_L1 p1 mF_slices_DeleteFunc_Rect_L1) l120 x121 (w64 (x122 + 1))
    else
      (cut l120 x121 (l120.length : Int)).bind fun l128 =>
      (pre (clr l120 x121 (l128).length (TRect.mk 0 0 0 0)) x121).bind fun l129 =>
      some l129
def F_slices_DeleteFunc_Rect (N : Nat) (p0 : (List TRect)) (p1 : TRect → Option Bool) : Option (List TRect) :=
  (F_slices_IndexFunc_Rect p0 p1).bind fun y100 =>
  if (y100 == (-1)) then
    some p0
  else
    F_slices_DeleteFunc_Rect_L1 p1 N p0 y100 (w64 (y100 + 1))


def F_shape_stretches_1 (p0 : TRect) (p1 : TRect) : Option Int :=
  some (w64 (p0.X0 - p1.X0))

def F_shape_stretches_L1 (y100 : (List TRect)) : List TRect → Nat → List Int → Option ((List Int) × (List TRect))
  | [], iF_shape_stretches_L1, l128 =>
    some (l128, y100)
  | xF_shape_stretches_L1 :: restF_shape_stretches_L1, iF_shape_stretches_L1, l128 =>
    (if (decide (0 ≤ (w64 ((l128.length : Int) - 1)))) then 
      (idx l128 (w64 ((l128.length : Int) - 1))).bind fun x132 =>
      some (decide (xF_shape_stretches_L1.X0 ≤ x132))
     else some false).bind fun g131 =>
    if g131 then
      (idx l128 (w64 ((l128.length : Int) - 1))).bind fun x133 =>
      (idx l128 (w64 ((l128.length : Int) - 1))).bind fun x134 =>
      (sets l128 (w64 ((l128.length : Int) - 1)) (max x133 xF_shape_stretches_L1.X1)).bind fun l135 =>
      (F_shape_stretches_L1 y100 restF_shape_stretches_L1 (iF_shape_stretches_L1 + 1)) l135
    else
      (apd l128 [xF_shape_stretches_L1.X0, xF_shape_stretches_L1.X1]).bind fun l137 =>
      (F_shape_stretches_L1 y100 restF_shape_stretches_L1 (iF_shape_stretches_L1 + 1)) l137
noncomputable def F_shape_stretches (p0 : (List TRect)) : Option ((List Int) × (List TRect)) :=
  (srtF p0 (fun z0 z1 => F_shape_stretches_1 z0 z1)).bind fun y100 =>
  F_shape_stretches_L1 y100 y100 0 ([] : List Int)

def F_slices_Equal_int_L1 (p1 : (List Int)) : List Int → Nat → Option Bool
  | [], iF_slices_Equal_int_L1 =>
    some true
  | xF_slices_Equal_int_L1 :: restF_slices_Equal_int_L1, iF_slices_Equal_int_L1 =>
    (idx p1 (iF_slices_Equal_int_L1 : Int)).bind fun x103 =>
    if (xF_slices_Equal_int_L1 != x103) then
      some false
    else
      (F_slices_Equal_int_L1 p1 restF_slices_Equal_int_L1 (iF_slices_Equal_int_L1 + 1))
def F_slices_Equal_int (p0 : (List Int)) (p1 : (List Int)) : Option Bool :=
  if ((p0.length : Int) != (p1.length : Int)) then
    some false
  else
    F_slices_Equal_int_L1 p1 p0 0


def F_shape_Set__push (p0 : (List TBand)) (p1 : TBand) : Option (List TBand) :=
  if (((p1.Xs.length : Int) == 0) || (decide (p1.Y1 ≤ p1.Y0))) then
    some p0
  else
    (if (decide (0 ≤ (w64 ((p0.length : Int) - 1)))) then 
      (idx p0 (w64 ((p0.length : Int) - 1))).bind fun x103 =>
      some (x103.Y1 == p1.Y0)
     else some false).bind fun g102 =>
    (if g102 then 
      (idx p0 (w64 ((p0.length : Int) - 1))).bind fun x108 =>
      (F_slices_Equal_int x108.Xs p1.Xs).bind fun y110 =>
      some y110
     else some false).bind fun g107 =>
    if g107 then
      (idx p0 (w64 ((p0.length : Int) - 1))).bind fun x111 =>
      (sets p0 (w64 ((p0.length : Int) - 1)) (TBand.mk x111.Y0 p1.Y1 x111.Xs)).bind fun l112 =>
      some l112
    else
      (apd p0 [p1]).bind fun l114 =>
      some l114

noncomputable def F_shape_SetOf_L5 (y102 : (List TRect)) (y122 : (List Int)) (x229 : Int) (l230 : List TBand) (kF_shape_SetOf_L4 : Int → (List TBand) → (List TRect) → Int → Option (List TBand)) : Nat → List TRect → Int → Option (List TBand)
  | 0, _, _ => none
  | mF_shape_SetOf_L5 + 1, l257, x258 =>
    (if (decide (x258 < (y102.length : Int))) then 
      (idx y102 x258).bind fun x262 =>
      (idx y122 x229).bind fun x263 =>
      some (decide (x262.Y0 ≤ x263))
     else some false).bind fun g261 =>
    if g261 then
      (idx y102 x258).bind fun x264 =>
      (apd l257 [x264]).bind fun l266 =>
      (F_shape_SetOf_L5 y102 y122 x229 l230 kF_shape_SetOf_L4 mF_shape_SetOf_L5) l266 (w64 (x258 + 1))
    else
      (idx y122 x229).bind fun x268 =>
      (idx y122 (w64 (x229 + 1))).bind fun x269 =>
      (F_shape_stretches l257).bind fun y270 =>
      (F_shape_Set__push l230 (TBand.mk x268 x269 y270.1)).bind fun y274 =>
      kF_shape_SetOf_L4 (w64 (x229 + 1)) y274 y270.2 x258
noncomputable def F_shape_SetOf_L4 (N : Nat) (y102 : (List TRect)) (y122 : (List Int)) : Nat → Int → List TBand → List TRect → Int → Option (List TBand)
  | 0, _, _, _, _ => none
  | mF_shape_SetOf_L4 + 1, x229, l230, l231, x232 =>
    if (decide ((w64 (x229 + 1)) < (y122.length : Int))) then
      (F_slices_DeleteFunc_Rect N l231 (fun z0 => F_shape_SetOf_2 z0 y122 x229)).bind fun y233 =>
      F_shape_SetOf_L5 y102 y122 x229 l230 (F_shape_SetOf_L4 N y102 y122 mF_shape_SetOf_L4) N y233 x232
    else
      some l230
noncomputable def F_shape_SetOf_L1 (N : Nat) (y102 : (List TRect)) : List TRect → Nat → List Int → Option (List TBand)
  | [], iF_shape_SetOf_L1, l119 =>
    (srtI l119).bind fun y120 =>
    (cpI y120).bind fun y122 =>
    F_shape_SetOf_L4 N y102 y122 N 0 ([] : List TBand) ([] : List TRect) 0
  | xF_shape_SetOf_L1 :: restF_shape_SetOf_L1, iF_shape_SetOf_L1, l119 =>
    (apd l119 [xF_shape_SetOf_L1.Y0, xF_shape_SetOf_L1.Y1]).bind fun l279 =>
    (F_shape_SetOf_L1 N y102 restF_shape_SetOf_L1 (iF_shape_SetOf_L1 + 1)) l279
noncomputable def F_shape_SetOf (N : Nat) (p0 : (List TRect)) : Option (List TBand) :=
  (F_slices_Clone_Rect p0).bind fun y100 =>
  (srtF y100 (fun z0 z1 => F_shape_SetOf_1 z0 z1)).bind fun y102 =>
  F_shape_SetOf_L1 N y102 y102 0 ([] : List Int)

def F_shape_Set__Rects_L4 (kF_shape_Set__Rects_L3 : (List TRect) → Option (List TRect)) (xF_shape_Set__Rects_L3 : TBand) : Nat → List TRect → Int → Option (List TRect)
  | 0, _, _ => none
  | mF_shape_Set__Rects_L4 + 1, l169, x170 =>
    if (decide (x170 < (xF_shape_Set__Rects_L3.Xs.length : Int))) then
      (idx xF_shape_Set__Rects_L3.Xs x170).bind fun x172 =>
      (idx xF_shape_Set__Rects_L3.Xs (w64 (x170 + 1))).bind fun x173 =>
      (apd l169 [(TRect.mk x172 xF_shape_Set__Rects_L3.Y0 x173 xF_shape_Set__Rects_L3.Y1)]).bind fun l174 =>
      (F_shape_Set__Rects_L4 kF_shape_Set__Rects_L3 xF_shape_Set__Rects_L3 mF_shape_Set__Rects_L4) l174 (w64 (x170 + 2))
    else
      kF_shape_Set__Rects_L3 l169
def F_shape_Set__Rects_L3 (N : Nat) : List TBand → Nat → List TRect → Option (List TRect)
  | [], iF_shape_Set__Rects_L3, l152 =>
    some l152
  | xF_shape_Set__Rects_L3 :: restF_shape_Set__Rects_L3, iF_shape_Set__Rects_L3, l152 =>
    F_shape_Set__Rects_L4 (F_shape_Set__Rects_L3 N restF_shape_Set__Rects_L3 (iF_shape_Set__Rects_L3 + 1)) xF_shape_Set__Rects_L3 N l152 0
def F_shape_Set__Rects (N : Nat) (p0 : (List TBand)) : Option (List TRect) :=
  F_shape_Set__Rects_L3 N p0 0 ([] : List TRect)

def F_slices_Equal_Rect_L1 (p1 : (List TRect)) : List TRect → Nat → Option Bool
  | [], iF_slices_Equal_Rect_L1 =>
    some true
  | xF_slices_Equal_Rect_L1 :: restF_slices_Equal_Rect_L1, iF_slices_Equal_Rect_L1 =>
    (idx p1 (iF_slices_Equal_Rect_L1 : Int)).bind fun x103 =>
    if (!(eqTRect xF_slices_Equal_Rect_L1 x103)) then
      some false
    else
      (F_slices_Equal_Rect_L1 p1 restF_slices_Equal_Rect_L1 (iF_slices_Equal_Rect_L1 + 1))
def F_slices_Equal_Rect (p0 : (List TRect)) (p1 : (List TRect)) : Option Bool :=
  if ((p0.length : Int) != (p1.length : Int)) then
    some false
  else
    F_slices_Equal_Rect_L1 p1 p0 0

noncomputable def F_shape_CheckRegion_L1 (N : Nat) (p0 : (List TRect)) : Nat → Int → Option Int
  | 0, _ => none
  | mF_shape_CheckRegion_L1 + 1, x116 =>
    if (decide (x116 < (p0.length : Int))) then
      (idx p0 (w64 (x116 - 1))).bind fun x118 =>
      (idx p0 x116).bind fun x119 =>
      if ((decide (x119.Y0 < x118.Y0)) || ((x119.Y0 == x118.Y0) && (decide (x119.X0 ≤ x118.X0)))) then
        some 8
      else
        (F_shape_CheckRegion_L1 N p0 mF_shape_CheckRegion_L1) (w64 (x116 + 1))
    else
      (F_shape_SetOf N p0).bind fun y123 =>
      (F_shape_Set__Rects N y123).bind fun y125 =>
      (F_slices_Equal_Rect y125 p0).bind fun y127 =>
      if (!y127) then
        some 3
      else
        some 0
noncomputable def F_shape_CheckRegion (N : Nat) (p0 : (List TRect)) : Option Int :=
  (F_shape_CheckRects p0).bind fun y100 =>
  if (y100 != 0) then
    some y100
  else
    F_shape_CheckRegion_L1 N p0 N 1


def F_shape_IsPoint (p0 : TPoint) : Option Bool :=
  (F_shape_IsAt p0.X).bind fun y101 =>
  (if y101 then 
    (F_shape_IsAt p0.Y).bind fun y104 =>
    some y104
   else some false).bind fun g103 =>
  some g103


def F_shape_CheckTurn (p0 : TTurn) : Option Int :=
  (F_shape_within p0.Quarters 0 3).bind fun y101 =>
  (if (!y101) then some true else 
    (F_shape_IsPoint p0.At).bind fun y104 =>
    some (!y104)
  ).bind fun g103 =>
  if g103 then
    some 1
  else
    some 0

def F_shape_TurnPoint_L1 (p1 : TTurn) : Nat → Int → Int → Int → Option TPoint
  | 0, _, _, _ => none
  | mF_shape_TurnPoint_L1 + 1, x115, x116, x117 =>
    if (decide (x117 < p1.Quarters)) then
      (F_shape_TurnPoint_L1 p1 mF_shape_TurnPoint_L1) (w64 (0 - x116)) x115 (w64 (x117 + 1))
    else
      some (TPoint.mk (w64 (x115 + p1.At.X)) (w64 (x116 + p1.At.Y)))
def F_shape_TurnPoint_J2 (N : Nat) (p0 : TPoint) (p1 : TTurn) (x103 : Int) : Option TPoint :=
  F_shape_TurnPoint_L1 p1 N x103 p0.Y 0
def F_shape_TurnPoint (N : Nat) (p0 : TPoint) (p1 : TTurn) : Option TPoint :=
  if p1.Flip then
    F_shape_TurnPoint_J2 N p0 p1 (w64 (0 - p0.X))
  else
    F_shape_TurnPoint_J2 N p0 p1 p0.X


def F_shape_TurnRect (N : Nat) (p0 : TRect) (p1 : TTurn) : Option TRect :=
  (F_shape_TurnPoint N (TPoint.mk p0.X0 p0.Y0) p1).bind fun y104 =>
  (F_shape_TurnPoint N (TPoint.mk p0.X1 p0.Y1) p1).bind fun y105 =>
  some (TRect.mk (min y104.X y105.X) (min y104.Y y105.Y) (max y104.X y105.X) (max y104.Y y105.Y))

noncomputable def F_shape_Set__TurnSet_L1 (N : Nat) (p1 : TTurn) (y101 : (List TRect)) : Nat → List TRect → Int → Option (List TBand)
  | 0, _, _ => none
  | mF_shape_Set__TurnSet_L1 + 1, l117, x118 =>
    if (decide (x118 < (y101.length : Int))) then
      (idx l117 x118).bind fun x119 =>
      (F_shape_TurnRect N x119 p1).bind fun y120 =>
      (idx l117 x118).bind fun x121 =>
      (sets l117 x118 y120).bind fun l122 =>
      (F_shape_Set__TurnSet_L1 N p1 y101 mF_shape_Set__TurnSet_L1) l122 (w64 (x118 + 1))
    else
      (F_shape_SetOf N l117).bind fun y123 =>
      some y123
noncomputable def F_shape_Set__TurnSet (N : Nat) (p0 : (List TBand)) (p1 : TTurn) : Option (List TBand) :=
  (F_shape_Set__Rects N p0).bind fun y101 =>
  F_shape_Set__TurnSet_L1 N p1 y101 N y101 0

def F_shape_Set__Around_L1 (x105 : TBand) (x110 : TBand) : List TBand → Nat → Int → Int → Option TRect
  | [], iF_shape_Set__Around_L1, x133, x134 =>
    some (TRect.mk x133 x105.Y0 x134 x110.Y1)
  | xF_shape_Set__Around_L1 :: restF_shape_Set__Around_L1, iF_shape_Set__Around_L1, x133, x134 =>
    (idx xF_shape_Set__Around_L1.Xs 0).bind fun x138 =>
    (idx xF_shape_Set__Around_L1.Xs (w64 ((xF_shape_Set__Around_L1.Xs.length : Int) - 1))).bind fun x139 =>
    (F_shape_Set__Around_L1 x105 x110 restF_shape_Set__Around_L1 (iF_shape_Set__Around_L1 + 1)) (min x133 x138) (max x134 x139)
def F_shape_Set__Around (p0 : (List TBand)) : Option TRect :=
  (idx p0 0).bind fun x102 =>
  (idx x102.Xs 0).bind fun x104 =>
  (idx p0 0).bind fun x105 =>
  (idx p0 0).bind fun x107 =>
  (idx x107.Xs 1).bind fun x109 =>
  (idx p0 (w64 ((p0.length : Int) - 1))).bind fun x110 =>
  F_shape_Set__Around_L1 x105 x110 p0 0 x104 x109


def F_shape_Set__Fits (p0 : (List TBand)) : Option Bool :=
  (if ((p0.length : Int) == 0) then some true else 
    (F_shape_Set__Around p0).bind fun y103 =>
    (F_shape_isRect y103).bind fun y104 =>
    some y104
  ).bind fun g102 =>
  some g102

def F_shape_Set__Many_L1 : List TBand → Nat → Int → Option Int
  | [], iF_shape_Set__Many_L1, x112 =>
    some x112
  | xF_shape_Set__Many_L1 :: restF_shape_Set__Many_L1, iF_shape_Set__Many_L1, x112 =>
    (F_shape_Set__Many_L1 restF_shape_Set__Many_L1 (iF_shape_Set__Many_L1 + 1)) (w64 (x112 + (w64 (Int.tdiv (xF_shape_Set__Many_L1.Xs.length : Int) 2))))
def F_shape_Set__Many (p0 : (List TBand)) : Option Int :=
  F_shape_Set__Many_L1 p0 0 0


def F_shape_Set__Told (N : Nat) (p0 : (List TBand)) : Option ((List TRect) × Int) :=
  (F_shape_Set__Many p0).bind fun y100 =>
  if (decide (2000 < y100)) then
    some (([] : List TRect), 2)
  else
    (F_shape_Set__Rects N p0).bind fun y101 =>
    some (y101, 0)


noncomputable def F_shape_TurnedRegion (N : Nat) (p0 : (List TRect)) (p1 : TTurn) : Option ((List TRect) × Int) :=
  (F_shape_CheckRegion N p0).bind fun y101 =>
  if (y101 != 0) then
    some (([] : List TRect), y101)
  else
    (F_shape_CheckTurn p1).bind fun y102 =>
    if (y102 != 0) then
      some (([] : List TRect), y102)
    else
      (F_shape_SetOf N p0).bind fun y104 =>
      (F_shape_Set__TurnSet N y104 p1).bind fun y106 =>
      (F_shape_Set__Fits y106).bind fun y108 =>
      if (!y108) then
        some (([] : List TRect), 1)
      else
        (F_shape_Set__Told N y106).bind fun y109 =>
        some (y109.1, y109.2)


def F_etchhouseref1_within (p0 : Int) (p1 : Int) (p2 : Int) : Option Bool :=
  some ((decide (p1 ≤ p0)) && (decide (p0 ≤ p2)))


def F_etchhouseref1_At (p0 : Int) : Option Bool :=
  (F_etchhouseref1_within p0 (-1000000) 1000000).bind fun y100 =>
  some y100

def F_etchhouseref1_CheckRects_L1 (p0 : (List TRect)) : Nat → Int → Option Int
  | 0, _ => none
  | mF_etchhouseref1_CheckRects_L1 + 1, x127 =>
    if (decide (x127 < (p0.length : Int))) then
      (idx p0 x127).bind fun x128 =>
      (F_etchhouseref1_At x128.X0).bind fun y130 =>
      (if (!y130) then some true else 
        (F_etchhouseref1_At x128.Y0).bind fun y133 =>
        some (!y133)
      ).bind fun g132 =>
      (if g132 then some true else 
        (F_etchhouseref1_At x128.X1).bind fun y136 =>
        some (!y136)
      ).bind fun g135 =>
      (if g135 then some true else 
        (F_etchhouseref1_At x128.Y1).bind fun y139 =>
        some (!y139)
      ).bind fun g138 =>
      if g138 then
        some 1
      else
        if ((decide (x128.X1 ≤ x128.X0)) || (decide (x128.Y1 ≤ x128.Y0))) then
          some 13
        else
          (F_etchhouseref1_CheckRects_L1 p0 mF_etchhouseref1_CheckRects_L1) (w64 (x127 + 1))
    else
      some 0
def F_etchhouseref1_CheckRects (N : Nat) (p0 : (List TRect)) : Option Int :=
  if (decide (2000 < (p0.length : Int))) then
    some 2
  else
    F_etchhouseref1_CheckRects_L1 p0 N 0


def F_etchhouseref1_before (p0 : TRect) (p1 : TRect) : Option Bool :=
  some ((decide (p0.Y0 < p1.Y0)) || ((p0.Y0 == p1.Y0) && (decide (p0.X0 < p1.X0))))

def F_etchhouseref1_put_L1 (p0 : (List Int)) (p1 : Int) : Nat → Int → Int → Option (List Int)
  | 0, _, _ => none
  | mF_etchhouseref1_put_L1 + 1, x108, x109 =>
    if (decide (x108 < x109)) then
      (idx p0 (w64 (Int.tdiv (w64 (x108 + x109)) 2))).bind fun x110 =>
      if (decide (x110 < p1)) then
        (F_etchhouseref1_put_L1 p0 p1 mF_etchhouseref1_put_L1) (w64 ((w64 (Int.tdiv (w64 (x108 + x109)) 2)) + 1)) x109
      else
        (F_etchhouseref1_put_L1 p0 p1 mF_etchhouseref1_put_L1) x108 (w64 (Int.tdiv (w64 (x108 + x109)) 2))
    else
      (if (decide (x108 < (p0.length : Int))) then 
        (idx p0 x108).bind fun x113 =>
        some (x113 == p1)
       else some false).bind fun g112 =>
      if g112 then
        some p0
      else
        (pre p0 x108).bind fun l114 =>
        (apd ([] : List Int) l114).bind fun l115 =>
        (apd l115 [p1]).bind fun l117 =>
        (cut p0 x108 (p0.length : Int)).bind fun l118 =>
        (apd l117 l118).bind fun l119 =>
        some l119
def F_etchhouseref1_put (N : Nat) (p0 : (List Int)) (p1 : Int) : Option (List Int) :=
  F_etchhouseref1_put_L1 p0 p1 N 0 (p0.length : Int)

def F_etchhouseref1_heights_L1 (N : Nat) (p0 : (List TRect)) : Nat → List Int → Int → Option (List Int)
  | 0, _, _ => none
  | mF_etchhouseref1_heights_L1 + 1, l122, x123 =>
    if (decide (x123 < (p0.length : Int))) then
      (idx p0 x123).bind fun x127 =>
      (idx p0 x123).bind fun x128 =>
      (F_etchhouseref1_put N l122 x127.Y0).bind fun y129 =>
      (F_etchhouseref1_put N y129 x128.Y1).bind fun y131 =>
      (F_etchhouseref1_heights_L1 N p0 mF_etchhouseref1_heights_L1) y131 (w64 (x123 + 1))
    else
      some l122
def F_etchhouseref1_heights (N : Nat) (p0 : (List TRect)) : Option (List Int) :=
  F_etchhouseref1_heights_L1 N p0 N ([] : List Int) 0

def F_etchhouseref1_joined_L2 (p0 : (List TSpan)) (l119 : List TSpan) : Nat → Int → Int → Int → Option (List TSpan)
  | 0, _, _, _ => none
  | mF_etchhouseref1_joined_L2 + 1, x148, x149, x150 =>
    (if (decide (x150 < (p0.length : Int))) then 
      (idx p0 x150).bind fun x153 =>
      some (decide (x153.from_ ≤ x149))
     else some false).bind fun g152 =>
    if g152 then
      (idx p0 x150).bind fun x155 =>
      (idx p0 x150).bind fun x156 =>
      (F_etchhouseref1_joined_L2 p0 l119 mF_etchhouseref1_joined_L2) (min x148 x155.from_) (max x149 x156.to_) (w64 (x150 + 1))
    else
      (apd l119 [(TSpan.mk x148 x149)]).bind fun l158 =>
      (cut p0 x150 (p0.length : Int)).bind fun l159 =>
      (apd l158 l159).bind fun l160 =>
      some l160
def F_etchhouseref1_joined_L1 (N : Nat) (p0 : (List TSpan)) (p1 : TSpan) : Nat → List TSpan → Int → Option (List TSpan)
  | 0, _, _ => none
  | mF_etchhouseref1_joined_L1 + 1, l119, x120 =>
    (if (decide (x120 < (p0.length : Int))) then 
      (idx p0 x120).bind fun x123 =>
      some (decide (x123.to_ < p1.from_))
     else some false).bind fun g122 =>
    if g122 then
      (idx p0 x120).bind fun x124 =>
      (apd l119 [x124]).bind fun l126 =>
      (F_etchhouseref1_joined_L1 N p0 p1 mF_etchhouseref1_joined_L1) l126 (w64 (x120 + 1))
    else
      F_etchhouseref1_joined_L2 p0 l119 N p1.from_ p1.to_ x120
def F_etchhouseref1_joined (N : Nat) (p0 : (List TSpan)) (p1 : TSpan) : Option (List TSpan) :=
  F_etchhouseref1_joined_L1 N p0 p1 N ([] : List TSpan) 0

def F_etchhouseref1_row_L1 (N : Nat) (p0 : (List TRect)) (p1 : Int) : Nat → List TSpan → Int → Option (List TSpan)
  | 0, _, _ => none
  | mF_etchhouseref1_row_L1 + 1, l122, x123 =>
    if (decide (x123 < (p0.length : Int))) then
      (idx p0 x123).bind fun x124 =>
      (if (decide (x124.Y0 ≤ p1)) then 
        (idx p0 x123).bind fun x127 =>
        some (decide (p1 < x127.Y1))
       else some false).bind fun g126 =>
      if g126 then
        (idx p0 x123).bind fun x128 =>
        (idx p0 x123).bind fun x129 =>
        (F_etchhouseref1_joined N l122 (TSpan.mk x128.X0 x129.X1)).bind fun y130 =>
        (F_etchhouseref1_row_L1 N p0 p1 mF_etchhouseref1_row_L1) y130 (w64 (x123 + 1))
      else
        (F_etchhouseref1_row_L1 N p0 p1 mF_etchhouseref1_row_L1) l122 (w64 (x123 + 1))
    else
      some l122
def F_etchhouseref1_row (N : Nat) (p0 : (List TRect)) (p1 : Int) : Option (List TSpan) :=
  F_etchhouseref1_row_L1 N p0 p1 N ([] : List TSpan) 0

def F_etchhouseref1_sameSpans_L1 (p0 : (List TSpan)) (p1 : (List TSpan)) : Nat → Int → Option Bool
  | 0, _ => none
  | mF_etchhouseref1_sameSpans_L1 + 1, x107 =>
    if (decide (x107 < (p0.length : Int))) then
      (idx p0 x107).bind fun x108 =>
      (idx p1 x107).bind fun x109 =>
      if (!(eqTSpan x108 x109)) then
        some false
      else
        (F_etchhouseref1_sameSpans_L1 p0 p1 mF_etchhouseref1_sameSpans_L1) (w64 (x107 + 1))
    else
      some true
def F_etchhouseref1_sameSpans (N : Nat) (p0 : (List TSpan)) (p1 : (List TSpan)) : Option Bool :=
  if ((p0.length : Int) != (p1.length : Int)) then
    some false
  else
    F_etchhouseref1_sameSpans_L1 p0 p1 N 0


def F_etchhouseref1_stacked (N : Nat) (p0 : (List Tetchhouseref1Band)) (p1 : Tetchhouseref1Band) : Option (List Tetchhouseref1Band) :=
  if ((p1.spans.length : Int) == 0) then
    some p0
  else
    (if (decide (0 < (p0.length : Int))) then 
      (idx p0 (w64 ((p0.length : Int) - 1))).bind fun x103 =>
      some (x103.to_ == p1.from_)
     else some false).bind fun g102 =>
    (if g102 then 
      (idx p0 (w64 ((p0.length : Int) - 1))).bind fun x108 =>
      (F_etchhouseref1_sameSpans N x108.spans p1.spans).bind fun y110 =>
      some y110
     else some false).bind fun g107 =>
    if g107 then
      (idx p0 (w64 ((p0.length : Int) - 1))).bind fun x111 =>
      (sets p0 (w64 ((p0.length : Int) - 1)) (Tetchhouseref1Band.mk x111.from_ p1.to_ x111.spans)).bind fun l112 =>
      some l112
    else
      (apd p0 [p1]).bind fun l114 =>
      some l114

def F_etchhouseref1_told_L4 (p0 : (List Tetchhouseref1Band)) (x207 : Int) (kF_etchhouseref1_told_L3 : (List TRect) → Int → Option (List TRect)) : Nat → List TRect → Int → Option (List TRect)
  | 0, _, _ => none
  | mF_etchhouseref1_told_L4 + 1, l242, x243 =>
    (idx p0 x207).bind fun x244 =>
    if (decide (x243 < (x244.spans.length : Int))) then
      (idx p0 x207).bind fun x247 =>
      (idx x247.spans x243).bind fun x249 =>
      (idx p0 x207).bind fun x250 =>
      (idx p0 x207).bind fun x252 =>
      (idx x252.spans x243).bind fun x254 =>
      (idx p0 x207).bind fun x255 =>
      (apd l242 [(TRect.mk x249.from_ x250.from_ x254.to_ x255.to_)]).bind fun l257 =>
      (F_etchhouseref1_told_L4 p0 x207 kF_etchhouseref1_told_L3 mF_etchhouseref1_told_L4) l257 (w64 (x243 + 1))
    else
      kF_etchhouseref1_told_L3 l242 (w64 (x207 + 1))
def F_etchhouseref1_told_L3 (N : Nat) (p0 : (List Tetchhouseref1Band)) : Nat → List TRect → Int → Option (List TRect)
  | 0, _, _ => none
  | mF_etchhouseref1_told_L3 + 1, l206, x207 =>
    if (decide (x207 < (p0.length : Int))) then
      F_etchhouseref1_told_L4 p0 x207 (F_etchhouseref1_told_L3 N p0 mF_etchhouseref1_told_L3) N l206 0
    else
      some l206
def F_etchhouseref1_told (N : Nat) (p0 : (List Tetchhouseref1Band)) : Option (List TRect) :=
  F_etchhouseref1_told_L3 N p0 N ([] : List TRect) 0

def F_etchhouseref1_Canonical_L1 (N : Nat) (p0 : (List TRect)) (y100 : (List Int)) : Nat → List Tetchhouseref1Band → Int → Option (List TRect)
  | 0, _, _ => none
  | mF_etchhouseref1_Canonical_L1 + 1, l128, x129 =>
    if (decide (x129 < (y100.length : Int))) then
      (idx y100 (w64 (x129 - 1))).bind fun x131 =>
      (idx y100 x129).bind fun x132 =>
      (idx y100 (w64 (x129 - 1))).bind fun x133 =>
      (F_etchhouseref1_row N p0 x133).bind fun y134 =>
      (F_etchhouseref1_stacked N l128 (Tetchhouseref1Band.mk x131 x132 y134)).bind fun y138 =>
      (F_etchhouseref1_Canonical_L1 N p0 y100 mF_etchhouseref1_Canonical_L1) y138 (w64 (x129 + 1))
    else
      (F_etchhouseref1_told N l128).bind fun y140 =>
      some y140
def F_etchhouseref1_Canonical (N : Nat) (p0 : (List TRect)) : Option (List TRect) :=
  (F_etchhouseref1_heights N p0).bind fun y100 =>
  F_etchhouseref1_Canonical_L1 N p0 y100 N ([] : List Tetchhouseref1Band) 1

def F_etchhouseref1_SameRects_L1 (p0 : (List TRect)) (p1 : (List TRect)) : Nat → Int → Option Bool
  | 0, _ => none
  | mF_etchhouseref1_SameRects_L1 + 1, x107 =>
    if (decide (x107 < (p0.length : Int))) then
      (idx p0 x107).bind fun x108 =>
      (idx p1 x107).bind fun x109 =>
      if (!(eqTRect x108 x109)) then
        some false
      else
        (F_etchhouseref1_SameRects_L1 p0 p1 mF_etchhouseref1_SameRects_L1) (w64 (x107 + 1))
    else
      some true
def F_etchhouseref1_SameRects (N : Nat) (p0 : (List TRect)) (p1 : (List TRect)) : Option Bool :=
  if ((p0.length : Int) != (p1.length : Int)) then
    some false
  else
    F_etchhouseref1_SameRects_L1 p0 p1 N 0

def F_etchhouseref1_CheckRegion_L1 (N : Nat) (p0 : (List TRect)) : Nat → Int → Option Int
  | 0, _ => none
  | mF_etchhouseref1_CheckRegion_L1 + 1, x110 =>
    if (decide (x110 < (p0.length : Int))) then
      (idx p0 (w64 (x110 - 1))).bind fun x111 =>
      (idx p0 x110).bind fun x112 =>
      (F_etchhouseref1_before x111 x112).bind fun y113 =>
      if (!y113) then
        some 8
      else
        (F_etchhouseref1_CheckRegion_L1 N p0 mF_etchhouseref1_CheckRegion_L1) (w64 (x110 + 1))
    else
      (F_etchhouseref1_Canonical N p0).bind fun y114 =>
      (F_etchhouseref1_SameRects N p0 y114).bind fun y116 =>
      if (!y116) then
        some 3
      else
        some 0
def F_etchhouseref1_CheckRegion (N : Nat) (p0 : (List TRect)) : Option Int :=
  (F_etchhouseref1_CheckRects N p0).bind fun y100 =>
  if (y100 != 0) then
    some y100
  else
    F_etchhouseref1_CheckRegion_L1 N p0 N 1


def F_etchhouseref1_IsPoint (p0 : TPoint) : Option Bool :=
  (F_etchhouseref1_At p0.X).bind fun y101 =>
  (if y101 then 
    (F_etchhouseref1_At p0.Y).bind fun y104 =>
    some y104
   else some false).bind fun g103 =>
  some g103


def F_etchhouseref1_CheckTurn (p0 : TTurn) : Option Int :=
  (F_etchhouseref1_within p0.Quarters 0 3).bind fun y101 =>
  (if (!y101) then some true else 
    (F_etchhouseref1_IsPoint p0.At).bind fun y104 =>
    some (!y104)
  ).bind fun g103 =>
  if g103 then
    some 1
  else
    some 0

def F_etchhouseref1_around_L1 (p1 : TTurn) : Nat → Int → Int → Int → Option TPoint
  | 0, _, _, _ => none
  | mF_etchhouseref1_around_L1 + 1, x115, x116, x117 =>
    if (decide (x117 < p1.Quarters)) then
      (F_etchhouseref1_around_L1 p1 mF_etchhouseref1_around_L1) (w64 (0 - x116)) x115 (w64 (x117 + 1))
    else
      some (TPoint.mk x115 x116)
def F_etchhouseref1_around_J2 (N : Nat) (p0 : TPoint) (p1 : TTurn) (x103 : Int) : Option TPoint :=
  F_etchhouseref1_around_L1 p1 N x103 p0.Y 0
def F_etchhouseref1_around (N : Nat) (p0 : TPoint) (p1 : TTurn) : Option TPoint :=
  if p1.Flip then
    F_etchhouseref1_around_J2 N p0 p1 (w64 (0 - p0.X))
  else
    F_etchhouseref1_around_J2 N p0 p1 p0.X


def F_etchhouseref1_TurnPoint (N : Nat) (p0 : TPoint) (p1 : TTurn) : Option TPoint :=
  (F_etchhouseref1_around N p0 p1).bind fun y103 =>
  some (TPoint.mk (w64 (y103.X + p1.At.X)) (w64 (y103.Y + p1.At.Y)))


def F_etchhouseref1_TurnRect (N : Nat) (p0 : TRect) (p1 : TTurn) : Option TRect :=
  (F_etchhouseref1_TurnPoint N (TPoint.mk p0.X0 p0.Y0) p1).bind fun y104 =>
  (F_etchhouseref1_TurnPoint N (TPoint.mk p0.X1 p0.Y1) p1).bind fun y105 =>
  some (TRect.mk (min y104.X y105.X) (min y104.Y y105.Y) (max y104.X y105.X) (max y104.Y y105.Y))


def F_etchhouseref1_limited (p0 : (List TRect)) : Option ((List TRect) × Int) :=
  if (decide (2000 < (p0.length : Int))) then
    some (([] : List TRect), 2)
  else
    some (p0, 0)

def F_etchhouseref1_TurnedRegion_L1 (N : Nat) (p0 : (List TRect)) (p1 : TTurn) : Nat → List TRect → Int → Option ((List TRect) × Int)
  | 0, _, _ => none
  | mF_etchhouseref1_TurnedRegion_L1 + 1, l143, x144 =>
    if (decide (x144 < (p0.length : Int))) then
      (idx p0 x144).bind fun x146 =>
      (F_etchhouseref1_TurnRect N x146 p1).bind fun y147 =>
      (F_etchhouseref1_At y147.X0).bind fun y148 =>
      (if (!y148) then some true else 
        (F_etchhouseref1_At y147.Y0).bind fun y151 =>
        some (!y151)
      ).bind fun g150 =>
      (if g150 then some true else 
        (F_etchhouseref1_At y147.X1).bind fun y154 =>
        some (!y154)
      ).bind fun g153 =>
      (if g153 then some true else 
        (F_etchhouseref1_At y147.Y1).bind fun y157 =>
        some (!y157)
      ).bind fun g156 =>
      if g156 then
        some (([] : List TRect), 1)
      else
        (apd l143 [y147]).bind fun l161 =>
        (F_etchhouseref1_TurnedRegion_L1 N p0 p1 mF_etchhouseref1_TurnedRegion_L1) l161 (w64 (x144 + 1))
    else
      (F_etchhouseref1_Canonical N l143).bind fun y162 =>
      (F_etchhouseref1_limited y162).bind fun y166 =>
      some (y166.1, y166.2)
def F_etchhouseref1_TurnedRegion (N : Nat) (p0 : (List TRect)) (p1 : TTurn) : Option ((List TRect) × Int) :=
  (F_etchhouseref1_CheckRegion N p0).bind fun y101 =>
  if (y101 != 0) then
    some (([] : List TRect), y101)
  else
    (F_etchhouseref1_CheckTurn p1).bind fun y104 =>
    if (y104 != 0) then
      some (([] : List TRect), y104)
    else
      F_etchhouseref1_TurnedRegion_L1 N p0 p1 N ([] : List TRect) 0

def F_shape_AreaOf_L1 : List TRect → Nat → Int → Option Int
  | [], iF_shape_AreaOf_L1, x110 =>
    some x110
  | xF_shape_AreaOf_L1 :: restF_shape_AreaOf_L1, iF_shape_AreaOf_L1, x110 =>
    (F_shape_AreaOf_L1 restF_shape_AreaOf_L1 (iF_shape_AreaOf_L1 + 1)) (w64 (x110 + (w64 ((w64 (xF_shape_AreaOf_L1.X1 - xF_shape_AreaOf_L1.X0)) * (w64 (xF_shape_AreaOf_L1.Y1 - xF_shape_AreaOf_L1.Y0))))))
def F_shape_AreaOf (p0 : (List TRect)) : Option Int :=
  F_shape_AreaOf_L1 p0 0 0


noncomputable def F_shape_Area (N : Nat) (p0 : (List TRect)) : Option (Int × Int) :=
  (F_shape_CheckRegion N p0).bind fun y100 =>
  if (y100 != 0) then
    some (0, y100)
  else
    (F_shape_AreaOf p0).bind fun y101 =>
    some (y101, 0)


noncomputable def F_etchhouselaw1_awake (N : Nat)  : Option Bool :=
  (F_shape_Area N [(TRect.mk 0 0 2 3)]).bind fun y101 =>
  some ((y101.2 == 0) && (y101.1 == 6))


noncomputable def F_etchhouselaw1_TurnedRegionsMatchSpec (N : Nat) (p0 : (List TRect)) (p1 : TTurn) : Option Bool :=
  (F_shape_TurnedRegion N p0 p1).bind fun y101 =>
  (F_etchhouseref1_TurnedRegion N p0 p1).bind fun y103 =>
  (F_slices_Equal_Rect y101.1 y103.1).bind fun y105 =>
  (if (y105 && (y101.2 == y103.2)) then 
    (F_etchhouselaw1_awake N).bind fun y108 =>
    some y108
   else some false).bind fun g107 =>
  some g107

end Go.Proofs.Ytcebbfodkadggaa
