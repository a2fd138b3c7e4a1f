/- The plain functions: what each function of the program computes; none where it would panic. -/
import Derived.Test.YtcebbfodkadggaaXT
namespace Go.Proofs.Ytcebbfodkadggaa
open Go.RowKit

def F_shape_within (p0 : Int) (p1 : Int) (p2 : Int) : Option Bool :=
  some ((decide (p1 ≤ p0)) && (decide (p0 ≤ p2)))


def F_shape_IsAt (p0 : Int) : Option Bool :=
  (F_shape_within p0 (-1000000) 1000000).bind fun y100 =>
  some y100


def F_shape_IsPoint (p0 : TPoint) : Option Bool :=
  (F_shape_IsAt p0.X).bind fun y101 =>
  (if y101 then 
    (F_shape_IsAt p0.Y).bind fun y104 =>
    some y104
   else some false).bind fun g103 =>
  some g103


def F_shape_CheckTurn (p0 : TTurn) : Option Int :=
  (F_shape_within p0.Quarters 0 3).bind fun y101 =>
  (if (!y101) then some true else 
    (F_shape_IsPoint p0.At).bind fun y104 =>
    some (!y104)
  ).bind fun g103 =>
  if g103 then
    some 1
  else
    some 0

def F_shape_TurnPoint_L1 (p1 : TTurn) : Nat → Int → Int → Int → Option TPoint
  | 0, _, _, _ => none
  | mF_shape_TurnPoint_L1 + 1, x115, x116, x117 =>
    if (decide (x117 < p1.Quarters)) then
      (F_shape_TurnPoint_L1 p1 mF_shape_TurnPoint_L1) (w64 (0 - x116)) x115 (w64 (x117 + 1))
    else
      some (TPoint.mk (w64 (x115 + p1.At.X)) (w64 (x116 + p1.At.Y)))
def F_shape_TurnPoint_J2 (N : Nat) (p0 : TPoint) (p1 : TTurn) (x103 : Int) : Option TPoint :=
  F_shape_TurnPoint_L1 p1 N x103 p0.Y 0
def F_shape_TurnPoint (N : Nat) (p0 : TPoint) (p1 : TTurn) : Option TPoint :=
  if p1.Flip then
    F_shape_TurnPoint_J2 N p0 p1 (w64 (0 - p0.X))
  else
    F_shape_TurnPoint_J2 N p0 p1 p0.X


def F_shape_Turned (N : Nat) (p0 : TPoint) (p1 : TTurn) : Option (TPoint × Int) :=
  (F_shape_CheckTurn p1).bind fun y103 =>
  if (y103 != 0) then
    some ((TPoint.mk 0 0), y103)
  else
    (F_shape_IsPoint p0).bind fun y104 =>
    if (!y104) then
      some ((TPoint.mk 0 0), 1)
    else
      (F_shape_TurnPoint N p0 p1).bind fun y105 =>
      (F_shape_IsPoint y105).bind fun y106 =>
      if (!y106) then
        some ((TPoint.mk 0 0), 1)
      else
        some (y105, 0)


def F_etchhouseref1_within (p0 : Int) (p1 : Int) (p2 : Int) : Option Bool :=
  some ((decide (p1 ≤ p0)) && (decide (p0 ≤ p2)))


def F_etchhouseref1_At (p0 : Int) : Option Bool :=
  (F_etchhouseref1_within p0 (-1000000) 1000000).bind fun y100 =>
  some y100


def F_etchhouseref1_IsPoint (p0 : TPoint) : Option Bool :=
  (F_etchhouseref1_At p0.X).bind fun y101 =>
  (if y101 then 
    (F_etchhouseref1_At p0.Y).bind fun y104 =>
    some y104
   else some false).bind fun g103 =>
  some g103


def F_etchhouseref1_CheckTurn (p0 : TTurn) : Option Int :=
  (F_etchhouseref1_within p0.Quarters 0 3).bind fun y101 =>
  (if (!y101) then some true else 
    (F_etchhouseref1_IsPoint p0.At).bind fun y104 =>
    some (!y104)
  ).bind fun g103 =>
  if g103 then
    some 1
  else
    some 0

def F_etchhouseref1_around_L1 (p1 : TTurn) : Nat → Int → Int → Int → Option TPoint
  | 0, _, _, _ => none
  | mF_etchhouseref1_around_L1 + 1, x115, x116, x117 =>
    if (decide (x117 < p1.Quarters)) then
      (F_etchhouseref1_around_L1 p1 mF_etchhouseref1_around_L1) (w64 (0 - x116)) x115 (w64 (x117 + 1))
    else
      some (TPoint.mk x115 x116)
def F_etchhouseref1_around_J2 (N : Nat) (p0 : TPoint) (p1 : TTurn) (x103 : Int) : Option TPoint :=
  F_etchhouseref1_around_L1 p1 N x103 p0.Y 0
def F_etchhouseref1_around (N : Nat) (p0 : TPoint) (p1 : TTurn) : Option TPoint :=
  if p1.Flip then
    F_etchhouseref1_around_J2 N p0 p1 (w64 (0 - p0.X))
  else
    F_etchhouseref1_around_J2 N p0 p1 p0.X


def F_etchhouseref1_TurnPoint (N : Nat) (p0 : TPoint) (p1 : TTurn) : Option TPoint :=
  (F_etchhouseref1_around N p0 p1).bind fun y103 =>
  some (TPoint.mk (w64 (y103.X + p1.At.X)) (w64 (y103.Y + p1.At.Y)))


def F_etchhouseref1_Turned (N : Nat) (p0 : TPoint) (p1 : TTurn) : Option (TPoint × Int) :=
  (F_etchhouseref1_CheckTurn p1).bind fun y103 =>
  if (y103 != 0) then
    some ((TPoint.mk 0 0), y103)
  else
    (F_etchhouseref1_IsPoint p0).bind fun y104 =>
    if (!y104) then
      some ((TPoint.mk 0 0), 1)
    else
      (F_etchhouseref1_TurnPoint N p0 p1).bind fun y105 =>
      (F_etchhouseref1_IsPoint y105).bind fun y107 =>
      if (!y107) then
        some ((TPoint.mk 0 0), 1)
      else
        some (y105, 0)

def F_shape_Then_J1 (N : Nat) (p0 : TTurn) (p1 : TTurn) (x105 : Int) : Option (TTurn × Int) :=
  (F_shape_TurnPoint N p0.At p1).bind fun y109 =>
  (F_shape_IsPoint y109).bind fun y110 =>
  if (!y110) then
    some ((TTurn.mk false 0 (TPoint.mk 0 0)), 1)
  else
    some ((TTurn.mk (p0.Flip != p1.Flip) (Int.tmod (w64 (x105 + p1.Quarters)) 4) y109), 0)
def F_shape_Then (N : Nat) (p0 : TTurn) (p1 : TTurn) : Option (TTurn × Int) :=
  (F_shape_CheckTurn p0).bind fun y103 =>
  if (y103 != 0) then
    some ((TTurn.mk false 0 (TPoint.mk 0 0)), y103)
  else
    (F_shape_CheckTurn p1).bind fun y104 =>
    if (y104 != 0) then
      some ((TTurn.mk false 0 (TPoint.mk 0 0)), y104)
    else
      if p1.Flip then
        F_shape_Then_J1 N p0 p1 (w64 (4 - p0.Quarters))
      else
        F_shape_Then_J1 N p0 p1 p0.Quarters

def F_etchhouseref1_ThenOf_J1 (N : Nat) (p0 : TTurn) (p1 : TTurn) (x103 : Int) : Option TTurn :=
  (F_etchhouseref1_TurnPoint N p0.At p1).bind fun y106 =>
  some (TTurn.mk (p0.Flip != p1.Flip) (Int.tmod (w64 (p1.Quarters + x103)) 4) y106)
def F_etchhouseref1_ThenOf (N : Nat) (p0 : TTurn) (p1 : TTurn) : Option TTurn :=
  if p1.Flip then
    F_etchhouseref1_ThenOf_J1 N p0 p1 (w64 (4 - p0.Quarters))
  else
    F_etchhouseref1_ThenOf_J1 N p0 p1 p0.Quarters


def F_etchhouseref1_Then (N : Nat) (p0 : TTurn) (p1 : TTurn) : Option (TTurn × Int) :=
  (F_etchhouseref1_CheckTurn p0).bind fun y103 =>
  if (y103 != 0) then
    some ((TTurn.mk false 0 (TPoint.mk 0 0)), y103)
  else
    (F_etchhouseref1_CheckTurn p1).bind fun y104 =>
    if (y104 != 0) then
      some ((TTurn.mk false 0 (TPoint.mk 0 0)), y104)
    else
      (F_etchhouseref1_ThenOf N p0 p1).bind fun y105 =>
      (F_etchhouseref1_IsPoint y105.At).bind fun y107 =>
      if (!y107) then
        some ((TTurn.mk false 0 (TPoint.mk 0 0)), 1)
      else
        some (y105, 0)

def F_shape_Back_J1 (N : Nat) (p0 : TTurn) (x104 : Int) : Option (TTurn × Int) :=
  (F_shape_TurnPoint N p0.At (TTurn.mk p0.Flip x104 (TPoint.mk 0 0))).bind fun y107 =>
  some ((TTurn.mk p0.Flip x104 (TPoint.mk (w64 (0 - y107.X)) (w64 (0 - y107.Y)))), 0)
def F_shape_Back (N : Nat) (p0 : TTurn) : Option (TTurn × Int) :=
  (F_shape_CheckTurn p0).bind fun y102 =>
  if (y102 != 0) then
    some ((TTurn.mk false 0 (TPoint.mk 0 0)), y102)
  else
    if (!p0.Flip) then
      F_shape_Back_J1 N p0 (Int.tmod (w64 (4 - p0.Quarters)) 4)
    else
      F_shape_Back_J1 N p0 p0.Quarters

def F_etchhouseref1_Back_J1 (N : Nat) (p0 : TTurn) (x104 : Int) : Option (TTurn × Int) :=
  (F_etchhouseref1_around N p0.At (TTurn.mk p0.Flip x104 (TPoint.mk 0 0))).bind fun y107 =>
  some ((TTurn.mk p0.Flip x104 (TPoint.mk (w64 (0 - y107.X)) (w64 (0 - y107.Y)))), 0)
def F_etchhouseref1_Back (N : Nat) (p0 : TTurn) : Option (TTurn × Int) :=
  (F_etchhouseref1_CheckTurn p0).bind fun y102 =>
  if (y102 != 0) then
    some ((TTurn.mk false 0 (TPoint.mk 0 0)), y102)
  else
    if p0.Flip then
      F_etchhouseref1_Back_J1 N p0 p0.Quarters
    else
      F_etchhouseref1_Back_J1 N p0 (Int.tmod (w64 (4 - p0.Quarters)) 4)


def F_shape_isRect (p0 : TRect) : Option Bool :=
  (F_shape_IsAt p0.X0).bind fun y101 =>
  (if y101 then 
    (F_shape_IsAt p0.Y0).bind fun y104 =>
    some y104
   else some false).bind fun g103 =>
  (if g103 then 
    (F_shape_IsAt p0.X1).bind fun y107 =>
    some y107
   else some false).bind fun g106 =>
  (if g106 then 
    (F_shape_IsAt p0.Y1).bind fun y110 =>
    some y110
   else some false).bind fun g109 =>
  some g109

def F_shape_CheckRects_L1 : List TRect → Nat → Option Int
  | [], iF_shape_CheckRects_L1 =>
    some 0
  | xF_shape_CheckRects_L1 :: restF_shape_CheckRects_L1, iF_shape_CheckRects_L1 =>
    (F_shape_isRect xF_shape_CheckRects_L1).bind fun y105 =>
    if (!y105) then
      some 1
    else
      if ((decide (xF_shape_CheckRects_L1.X1 ≤ xF_shape_CheckRects_L1.X0)) || (decide (xF_shape_CheckRects_L1.Y1 ≤ xF_shape_CheckRects_L1.Y0))) then
        some 13
      else
        (F_shape_CheckRects_L1 restF_shape_CheckRects_L1 (iF_shape_CheckRects_L1 + 1))
def F_shape_CheckRects (p0 : (List TRect)) : Option Int :=
  if (decide (2000 < (p0.length : Int))) then
    some 2
  else
    F_shape_CheckRects_L1 p0 0


def F_slices_Clone_Rect (p0 : (List TRect)) : Option (List TRect) :=
  (apd ([] : List TRect) p0).bind fun l101 =>
  some l101



def F_shape_SetOf_1 (p0 : TRect) (p1 : TRect) : Option Int :=
  some (w64 (p0.Y0 - p1.Y0))




def F_shape_SetOf_2 (p0 : TRect) (q0 : (List Int)) (q1 : Int) : Option Bool :=
  (idx q0 q1).bind fun x101 =>
  some (decide (p0.Y1 ≤ x101))

def F_slices_IndexFunc_Rect_L1 (p1 : TRect → Option Bool) : List TRect → Nat → Option Int
  | [], iF_slices_IndexFunc_Rect_L1 =>
    some (-1)
  | xF_slices_IndexFunc_Rect_L1 :: restF_slices_IndexFunc_Rect_L1, iF_slices_IndexFunc_Rect_L1 =>
    (p1 xF_slices_IndexFunc_Rect_L1).bind fun y103 =>
    if y103 then
      some (iF_slices_IndexFunc_Rect_L1 : Int)
    else
      (F_slices_IndexFunc_Rect_L1 p1 restF_slices_IndexFunc_Rect_L1 (iF_slices_IndexFunc_Rect_L1 + 1))
def F_slices_IndexFunc_Rect (p0 : (List TRect)) (p1 : TRect → Option Bool) : Option Int :=
  F_slices_IndexFunc_Rect_L1 p1 p0 0

def F_slices_DeleteFunc_Rect_L1 (p1 : TRect → Option Bool) : Nat → List TRect → Int → Int → Option (List TRect)
  | 0, _, _, _ => none
  | mF_slices_DeleteFunc_Rect_L1 + 1, l133, x134, x135 =>
    if (decide (x135 < (l133.length : Int))) then
      (idx l133 x135).bind fun x136 =>
      (p1 x136).bind fun y138 =>
      if (!y138) then
        (idx l133 x134).bind fun x139 =>
        (sets l133 x134 x136).bind fun l140 =>
        (F_slices_DeleteFunc_Rect_L1 p1 mF_slices_DeleteFunc_Rect_L1) l140 (w64 (x134 + 1)) (w64 (x135 + 1))
      else
        (F_slices_DeleteFunc_Rect_L1 p1 mF_slices_DeleteFunc_Rect_L1) l133 x134 (w64 (x135 + 1))
    else
      (cut l133 x134 (l133.length : Int)).bind fun l141 =>
      (pre (clr l133 x134 (l141).length (TRect.mk 0 0 0 0)) x134).bind fun l142 =>
      some l142
def F_slices_DeleteFunc_Rect (N : Nat) (p0 : (List TRect)) (p1 : TRect → Option Bool) : Option (List TRect) :=
  (F_slices_IndexFunc_Rect p0 p1).bind fun y100 =>
  if (y100 == (-1)) then
    some p0
  else
    F_slices_DeleteFunc_Rect_L1 p1 N p0 y100 (w64 (y100 + 1))


def F_shape_stretches_1 (p0 : TRect) (p1 : TRect) : Option Int :=
  some (w64 (p0.X0 - p1.X0))

def F_shape_stretches_L1 (y100 : (List TRect)) : List TRect → Nat → List Int → Option ((List Int) × (List TRect))
  | [], iF_shape_stretches_L1, l128 =>
    some (l128, y100)
  | xF_shape_stretches_L1 :: restF_shape_stretches_L1, iF_shape_stretches_L1, l128 =>
    (if (decide (0 ≤ (w64 ((l128.length : Int) - 1)))) then 
      (idx l128 (w64 ((l128.length : Int) - 1))).bind fun x132 =>
      some (decide (xF_shape_stretches_L1.X0 ≤ x132))
     else some false).bind fun g131 =>
    if g131 then
      (idx l128 (w64 ((l128.length : Int) - 1))).bind fun x133 =>
      (idx l128 (w64 ((l128.length : Int) - 1))).bind fun x134 =>
      (sets l128 (w64 ((l128.length : Int) - 1)) (max x133 xF_shape_stretches_L1.X1)).bind fun l135 =>
      (F_shape_stretches_L1 y100 restF_shape_stretches_L1 (iF_shape_stretches_L1 + 1)) l135
    else
      (apd l128 [xF_shape_stretches_L1.X0, xF_shape_stretches_L1.X1]).bind fun l137 =>
      (F_shape_stretches_L1 y100 restF_shape_stretches_L1 (iF_shape_stretches_L1 + 1)) l137
noncomputable def F_shape_stretches (p0 : (List TRect)) : Option ((List Int) × (List TRect)) :=
  (srtF p0 (fun z0 z1 => F_shape_stretches_1 z0 z1)).bind fun y100 =>
  F_shape_stretches_L1 y100 y100 0 ([] : List Int)

def F_slices_Equal_int_L1 (p1 : (List Int)) : List Int → Nat → Option Bool
  | [], iF_slices_Equal_int_L1 =>
    some true
  | xF_slices_Equal_int_L1 :: restF_slices_Equal_int_L1, iF_slices_Equal_int_L1 =>
    (idx p1 (iF_slices_Equal_int_L1 : Int)).bind fun x103 =>
    if (xF_slices_Equal_int_L1 != x103) then
      some false
    else
      (F_slices_Equal_int_L1 p1 restF_slices_Equal_int_L1 (iF_slices_Equal_int_L1 + 1))
def F_slices_Equal_int (p0 : (List Int)) (p1 : (List Int)) : Option Bool :=
  if ((p0.length : Int) != (p1.length : Int)) then
    some false
  else
    F_slices_Equal_int_L1 p1 p0 0


def F_shape_Set__push (p0 : (List TBand)) (p1 : TBand) : Option (List TBand) :=
  if (((p1.Xs.length : Int) == 0) || (decide (p1.Y1 ≤ p1.Y0))) then
    some p0
  else
    (if (decide (0 ≤ (w64 ((p0.length : Int) - 1)))) then 
      (idx p0 (w64 ((p0.length : Int) - 1))).bind fun x103 =>
      some (x103.Y1 == p1.Y0)
     else some false).bind fun g102 =>
    (if g102 then 
      (idx p0 (w64 ((p0.length : Int) - 1))).bind fun x108 =>
      (F_slices_Equal_int x108.Xs p1.Xs).bind fun y110 =>
      some y110
     else some false).bind fun g107 =>
    if g107 then
      (idx p0 (w64 ((p0.length : Int) - 1))).bind fun x111 =>
      (sets p0 (w64 ((p0.length : Int) - 1)) (TBand.mk x111.Y0 p1.Y1 x111.Xs)).bind fun l112 =>
      some l112
    else
      (apd p0 [p1]).bind fun l114 =>
      some l114

noncomputable def F_shape_SetOf_L5 (y102 : (List TRect)) (y122 : (List Int)) (x229 : Int) (l230 : List TBand) (kF_shape_SetOf_L4 : Int → (List TBand) → (List TRect) → Int → Option (List TBand)) : Nat → List TRect → Int → Option (List TBand)
  | 0, _, _ => none
  | mF_shape_SetOf_L5 + 1, l257, x258 =>
    (if (decide (x258 < (y102.length : Int))) then 
      (idx y102 x258).bind fun x262 =>
      (idx y122 x229).bind fun x263 =>
      some (decide (x262.Y0 ≤ x263))
     else some false).bind fun g261 =>
    if g261 then
      (idx y102 x258).bind fun x264 =>
      (apd l257 [x264]).bind fun l266 =>
      (F_shape_SetOf_L5 y102 y122 x229 l230 kF_shape_SetOf_L4 mF_shape_SetOf_L5) l266 (w64 (x258 + 1))
    else
      (idx y122 x229).bind fun x268 =>
      (idx y122 (w64 (x229 + 1))).bind fun x269 =>
      (F_shape_stretches l257).bind fun y270 =>
      (F_shape_Set__push l230 (TBand.mk x268 x269 y270.1)).bind fun y274 =>
      kF_shape_SetOf_L4 (w64 (x229 + 1)) y274 y270.2 x258
noncomputable def F_shape_SetOf_L4 (N : Nat) (y102 : (List TRect)) (y122 : (List Int)) : Nat → Int → List TBand → List TRect → Int → Option (List TBand)
  | 0, _, _, _, _ => none
  | mF_shape_SetOf_L4 + 1, x229, l230, l231, x232 =>
    if (decide ((w64 (x229 + 1)) < (y122.length : Int))) then
      (F_slices_DeleteFunc_Rect N l231 (fun z0 => F_shape_SetOf_2 z0 y122 x229)).bind fun y233 =>
      F_shape_SetOf_L5 y102 y122 x229 l230 (F_shape_SetOf_L4 N y102 y122 mF_shape_SetOf_L4) N y233 x232
    else
      some l230
noncomputable def F_shape_SetOf_L1 (N : Nat) (y102 : (List TRect)) : List TRect → Nat → List Int → Option (List TBand)
  | [], iF_shape_SetOf_L1, l119 =>
    (srtI l119).bind fun y120 =>
    (cpI y120).bind fun y122 =>
    F_shape_SetOf_L4 N y102 y122 N 0 ([] : List TBand) ([] : List TRect) 0
  | xF_shape_SetOf_L1 :: restF_shape_SetOf_L1, iF_shape_SetOf_L1, l119 =>
    (apd l119 [xF_shape_SetOf_L1.Y0, xF_shape_SetOf_L1.Y1]).bind fun l279 =>
    (F_shape_SetOf_L1 N y102 restF_shape_SetOf_L1 (iF_shape_SetOf_L1 + 1)) l279
noncomputable def F_shape_SetOf (N : Nat) (p0 : (List TRect)) : Option (List TBand) :=
  (F_slices_Clone_Rect p0).bind fun y100 =>
  (srtF y100 (fun z0 z1 => F_shape_SetOf_1 z0 z1)).bind fun y102 =>
  F_shape_SetOf_L1 N y102 y102 0 ([] : List Int)

def F_shape_Set__Rects_L4 (kF_shape_Set__Rects_L3 : (List TRect) → Option (List TRect)) (xF_shape_Set__Rects_L3 : TBand) : Nat → List TRect → Int → Option (List TRect)
  | 0, _, _ => none
  | mF_shape_Set__Rects_L4 + 1, l169, x170 =>
    if (decide (x170 < (xF_shape_Set__Rects_L3.Xs.length : Int))) then
      (idx xF_shape_Set__Rects_L3.Xs x170).bind fun x172 =>
      (idx xF_shape_Set__Rects_L3.Xs (w64 (x170 + 1))).bind fun x173 =>
      (apd l169 [(TRect.mk x172 xF_shape_Set__Rects_L3.Y0 x173 xF_shape_Set__Rects_L3.Y1)]).bind fun l174 =>
      (F_shape_Set__Rects_L4 kF_shape_Set__Rects_L3 xF_shape_Set__Rects_L3 mF_shape_Set__Rects_L4) l174 (w64 (x170 + 2))
    else
      kF_shape_Set__Rects_L3 l169
def F_shape_Set__Rects_L3 (N : Nat) : List TBand → Nat → List TRect → Option (List TRect)
  | [], iF_shape_Set__Rects_L3, l152 =>
    some l152
  | xF_shape_Set__Rects_L3 :: restF_shape_Set__Rects_L3, iF_shape_Set__Rects_L3, l152 =>
    F_shape_Set__Rects_L4 (F_shape_Set__Rects_L3 N restF_shape_Set__Rects_L3 (iF_shape_Set__Rects_L3 + 1)) xF_shape_Set__Rects_L3 N l152 0
def F_shape_Set__Rects (N : Nat) (p0 : (List TBand)) : Option (List TRect) :=
  F_shape_Set__Rects_L3 N p0 0 ([] : List TRect)

def F_slices_Equal_Rect_L1 (p1 : (List TRect)) : List TRect → Nat → Option Bool
  | [], iF_slices_Equal_Rect_L1 =>
    some true
  | xF_slices_Equal_Rect_L1 :: restF_slices_Equal_Rect_L1, iF_slices_Equal_Rect_L1 =>
    (idx p1 (iF_slices_Equal_Rect_L1 : Int)).bind fun x103 =>
    if (!(eqTRect xF_slices_Equal_Rect_L1 x103)) then
      some false
    else
      (F_slices_Equal_Rect_L1 p1 restF_slices_Equal_Rect_L1 (iF_slices_Equal_Rect_L1 + 1))
def F_slices_Equal_Rect (p0 : (List TRect)) (p1 : (List TRect)) : Option Bool :=
  if ((p0.length : Int) != (p1.length : Int)) then
    some false
  else
    F_slices_Equal_Rect_L1 p1 p0 0

noncomputable def F_shape_CheckRegion_L1 (N : Nat) (p0 : (List TRect)) : Nat → Int → Option Int
  | 0, _ => none
  | mF_shape_CheckRegion_L1 + 1, x116 =>
    if (decide (x116 < (p0.length : Int))) then
      (idx p0 (w64 (x116 - 1))).bind fun x118 =>
      (idx p0 x116).bind fun x119 =>
      if ((decide (x119.Y0 < x118.Y0)) || ((x119.Y0 == x118.Y0) && (decide (x119.X0 ≤ x118.X0)))) then
        some 8
      else
        (F_shape_CheckRegion_L1 N p0 mF_shape_CheckRegion_L1) (w64 (x116 + 1))
    else
      (F_shape_SetOf N p0).bind fun y123 =>
      (F_shape_Set__Rects N y123).bind fun y125 =>
      (F_slices_Equal_Rect y125 p0).bind fun y127 =>
      if (!y127) then
        some 3
      else
        some 0
noncomputable def F_shape_CheckRegion (N : Nat) (p0 : (List TRect)) : Option Int :=
  (F_shape_CheckRects p0).bind fun y100 =>
  if (y100 != 0) then
    some y100
  else
    F_shape_CheckRegion_L1 N p0 N 1

def F_shape_AreaOf_L1 : List TRect → Nat → Int → Option Int
  | [], iF_shape_AreaOf_L1, x110 =>
    some x110
  | xF_shape_AreaOf_L1 :: restF_shape_AreaOf_L1, iF_shape_AreaOf_L1, x110 =>
    (F_shape_AreaOf_L1 restF_shape_AreaOf_L1 (iF_shape_AreaOf_L1 + 1)) (w64 (x110 + (w64 ((w64 (xF_shape_AreaOf_L1.X1 - xF_shape_AreaOf_L1.X0)) * (w64 (xF_shape_AreaOf_L1.Y1 - xF_shape_AreaOf_L1.Y0))))))
def F_shape_AreaOf (p0 : (List TRect)) : Option Int :=
  F_shape_AreaOf_L1 p0 0 0


noncomputable def F_shape_Area (N : Nat) (p0 : (List TRect)) : Option (Int × Int) :=
  (F_shape_CheckRegion N p0).bind fun y100 =>
  if (y100 != 0) then
    some (0, y100)
  else
    (F_shape_AreaOf p0).bind fun y101 =>
    some (y101, 0)


noncomputable def F_etchhouselaw1_awake (N : Nat)  : Option Bool :=
  (F_shape_Area N [(TRect.mk 0 0 2 3)]).bind fun y101 =>
  some ((y101.2 == 0) && (y101.1 == 6))


noncomputable def F_etchhouselaw1_TurnsMatchSpec (N : Nat) (p0 : TTurn) (p1 : TTurn) (p2 : TPoint) : Option Bool :=
  (F_shape_Turned N p2 p0).bind fun y103 =>
  (F_etchhouseref1_Turned N p2 p0).bind fun y105 =>
  (if ((!(eqTPoint y103.1 y105.1)) || (y103.2 != y105.2)) then some true else 
    (F_shape_CheckTurn p0).bind fun y110 =>
    (F_etchhouseref1_CheckTurn p0).bind fun y111 =>
    some (y110 != y111)
  ).bind fun g109 =>
  if g109 then
    some false
  else
    (F_shape_Then N p0 p1).bind fun y112 =>
    (F_etchhouseref1_Then N p0 p1).bind fun y114 =>
    (F_shape_Back N p0).bind fun y116 =>
    (F_etchhouseref1_Back N p0).bind fun y118 =>
    (if ((((eqTTurn y112.1 y114.1) && (y112.2 == y114.2)) && (eqTTurn y116.1 y118.1)) && (y116.2 == y118.2)) then 
      (F_etchhouselaw1_awake N).bind fun y122 =>
      some y122
     else some false).bind fun g121 =>
    some g121


noncomputable def F_etchhouselaw1_TurnsGoBack (N : Nat) (p0 : TTurn) (p1 : TTurn) (p2 : TPoint) : Option Bool :=
  (F_shape_Turned N p2 p0).bind fun y103 =>
  if (y103.2 != 0) then
    (if (eqTPoint y103.1 (TPoint.mk 0 0)) then 
      (F_etchhouselaw1_awake N).bind fun y107 =>
      some y107
     else some false).bind fun g106 =>
    some g106
  else
    (F_shape_Back N p0).bind fun y108 =>
    if (y108.2 != 0) then
      some false
    else
      (F_shape_Turned N y103.1 y108.1).bind fun y110 =>
      if ((y110.2 != 0) || (!(eqTPoint y110.1 p2))) then
        some false
      else
        (F_shape_Then N p0 p1).bind fun y112 =>
        (F_shape_Turned N y103.1 p1).bind fun y114 =>
        if ((y112.2 != 0) || (y114.2 != 0)) then
          (F_etchhouselaw1_awake N).bind fun y116 =>
          some y116
        else
          (F_shape_Turned N p2 y112.1).bind fun y117 =>
          (if ((y117.2 == 0) && (eqTPoint y114.1 y117.1)) then 
            (F_etchhouselaw1_awake N).bind fun y121 =>
            some y121
           else some false).bind fun g120 =>
          some g120

end Go.Proofs.Ytcebbfodkadggaa
