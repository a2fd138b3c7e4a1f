/- The plain functions: what each function of the program computes; none where it would panic. -/
import Derived.Test.YtnlhigfglfahiaaXT
namespace Go.Proofs.Ytnlhigfglfahiaa
open Go.RowKit
def F_shape_Set__Rects_L4 (kF_shape_Set__Rects_L3 : (List TRect) → Option (List TRect)) (xF_shape_Set__Rects_L3 : TBand) : Nat → List TRect → Int → Option (List TRect)
  | 0, _, _ => none
  | mF_shape_Set__Rects_L4 + 1, l169, x170 =>
    if (decide (x170 < (xF_shape_Set__Rects_L3.Xs.length : Int))) then
      (idx xF_shape_Set__Rects_L3.Xs x170).bind fun x172 =>
      (idx xF_shape_Set__Rects_L3.Xs (w64 (x170 + 1))).bind fun x173 =>
      (apd l169 [(TRect.mk x172 xF_shape_Set__Rects_L3.Y0 x173 xF_shape_Set__Rects_L3.Y1)]).bind fun l174 =>
      (F_shape_Set__Rects_L4 kF_shape_Set__Rects_L3 xF_shape_Set__Rects_L3 mF_shape_Set__Rects_L4) l174 (w64 (x170 + 2))
    else
      kF_shape_Set__Rects_L3 l169
def F_shape_Set__Rects_L3 (N : Nat) : List TBand → Nat → List TRect → Option (List TRect)
  | [], iF_shape_Set__Rects_L3, l152 =>
    some l152
  | xF_shape_Set__Rects_L3 :: restF_shape_Set__Rects_L3, iF_shape_Set__Rects_L3, l152 =>
    F_shape_Set__Rects_L4 (F_shape_Set__Rects_L3 N restF_shape_Set__Rects_L3 (iF_shape_Set__Rects_L3 + 1)) xF_shape_Set__Rects_L3 N l152 0
def F_shape_Set__Rects (N : Nat) (p0 : (List TBand)) : Option (List TRect) :=
  F_shape_Set__Rects_L3 N p0 0 ([] : List TRect)


def F_slices_Clone_Rect (p0 : (List TRect)) : Option (List TRect) :=
  (apd ([] : List TRect) p0).bind fun l101 =>
  some l101



def F_shape_SetOf_1 (p0 : TRect) (p1 : TRect) : Option Int :=
  some (w64 (p0.Y0 - p1.Y0))




def F_shape_SetOf_2 (p0 : TRect) (q0 : (List Int)) (q1 : Int) : Option Bool :=
  (idx q0 q1).bind fun x101 =>
  some (decide (p0.Y1 ≤ x101))

def F_slices_IndexFunc_Rect_L1 (p1 : TRect → Option Bool) : List TRect → Nat → Option Int
  | [], iF_slices_IndexFunc_Rect_L1 =>
    some (-1)
  | xF_slices_IndexFunc_Rect_L1 :: restF_slices_IndexFunc_Rect_L1, iF_slices_IndexFunc_Rect_L1 =>
    (p1 xF_slices_IndexFunc_Rect_L1).bind fun y103 =>
    if y103 then
      some (iF_slices_IndexFunc_Rect_L1 : Int)
    else
      (F_slices_IndexFunc_Rect_L1 p1 restF_slices_IndexFunc_Rect_L1 (iF_slices_IndexFunc_Rect_L1 + 1))
def F_slices_IndexFunc_Rect (p0 : (List TRect)) (p1 : TRect → Option Bool) : Option Int :=
  F_slices_IndexFunc_Rect_L1 p1 p0 0

def F_slices_DeleteFunc_Rect_L1 (p1 : TRect → Option Bool) : Nat → List TRect → Int → Int → Option (List TRect)
  | 0, _, _, _ => none
  | mF_slices_DeleteFunc_Rect_L1 + 1, l120, x121, x122 =>
    if (decide (x122 < (l120.length : Int))) then
      (idx l120 x122).bind fun x123 =>
      (p1 x123).bind fun y125 =>
      if (!y125) then
        (idx l120 x121).bind fun x126 =>
        (sets l120 x121 x123).bind fun l127 =>
        (F_slices_DeleteFunc_Rect_L1 p1 mF_slices_DeleteFunc_Rect_L1) l127 (w64 (x121 + 1)) (w64 (x122 + 1))
      else
        (F_slices_DeleteFunc_Rect_L1 p1 mF_slices_DeleteFunc_Rect_L1) l120 x121 (w64 (x122 + 1))
    else
      (cut l120 x121 (l120.length : Int)).bind fun l128 =>
      (pre (clr l120 x121 (l128).length (TRect.mk 0 0 0 0)) x121).bind fun l129 =>
      some l129
def F_slices_DeleteFunc_Rect (N : Nat) (p0 : (List TRect)) (p1 : TRect → Option Bool) : Option (List TRect) :=
  (F_slices_IndexFunc_Rect p0 p1).bind fun y100 =>
  if (y100 == (-1)) then
    some p0
  else
    F_slices_DeleteFunc_Rect_L1 p1 N p0 y100 (w64 (y100 + 1))


def F_shape_stretches_1 (p0 : TRect) (p1 : TRect) : Option Int :=
  some (w64 (p0.X0 - p1.X0))

def F_shape_stretches_L1 (y100 : (List TRect)) : List TRect → Nat → List Int → Option ((List Int) × (List TRect))
  | [], iF_shape_stretches_L1, l128 =>
    some (l128, y100)
  | xF_shape_stretches_L1 :: restF_shape_stretches_L1, iF_shape_stretches_L1, l128 =>
    (if (decide (0 ≤ (w64 ((l128.length : Int) - 1)))) then 
      (idx l128 (w64 ((l128.length : Int) - 1))).bind fun x132 =>
      some (decide (xF_shape_stretches_L1.X0 ≤ x132))
     else some false).bind fun g131 =>
    if g131 then
      (idx l128 (w64 ((l128.length : Int) - 1))).bind fun x133 =>
      (idx l128 (w64 ((l128.length : Int) - 1))).bind fun x134 =>
      (sets l128 (w64 ((l128.length : Int) - 1)) (max x133 xF_shape_stretches_L1.X1)).bind fun l135 =>
      (F_shape_stretches_L1 y100 restF_shape_stretches_L1 (iF_shape_stretches_L1 + 1)) l135
    else
      (apd l128 [xF_shape_stretches_L1.X0, xF_shape_stretches_L1.X1]).bind fun l137 =>
      (F_shape_stretches_L1 y100 restF_shape_stretches_L1 (iF_shape_stretches_L1 + 1)) l137
noncomputable def F_shape_stretches (p0 : (List TRect)) : Option ((List Int) × (List TRect)) :=
  (srtF p0 (fun z0 z1 => F_shape_stretches_1 z0 z1)).bind fun y100 =>
  F_shape_stretches_L1 y100 y100 0 ([] : List Int)

def F_slices_Equal_int_L1 (p1 : (List Int)) : List Int → Nat → Option Bool
  | [], iF_slices_Equal_int_L1 =>
    some true
  | xF_slices_Equal_int_L1 :: restF_slices_Equal_int_L1, iF_slices_Equal_int_L1 =>
    (idx p1 (iF_slices_Equal_int_L1 : Int)).bind fun x103 =>
    if (xF_slices_Equal_int_L1 != x103) then
      some false
    else
      (F_slices_Equal_int_L1 p1 restF_slices_Equal_int_L1 (iF_slices_Equal_int_L1 + 1))
def F_slices_Equal_int (p0 : (List Int)) (p1 : (List Int)) : Option Bool :=
  if ((p0.length : Int) != (p1.length : Int)) then
    some false
  else
    F_slices_Equal_int_L1 p1 p0 0


def F_shape_Set__push (p0 : (List TBand)) (p1 : TBand) : Option (List TBand) :=
  if (((p1.Xs.length : Int) == 0) || (decide (p1.Y1 ≤ p1.Y0))) then
    some p0
  else
    (if (decide (0 ≤ (w64 ((p0.length : Int) - 1)))) then 
      (idx p0 (w64 ((p0.length : Int) - 1))).bind fun x103 =>
      some (x103.Y1 == p1.Y0)
     else some false).bind fun g102 =>
    (if g102 then 
      (idx p0 (w64 ((p0.length : Int) - 1))).bind fun x108 =>
      (F_slices_Equal_int x108.Xs p1.Xs).bind fun y110 =>
      some y110
     else some false).bind fun g107 =>
    if g107 then
      (idx p0 (w64 ((p0.length : Int) - 1))).bind fun x111 =>
      (sets p0 (w64 ((p0.length : Int) - 1)) (TBand.mk x111.Y0 p1.Y1 x111.Xs)).bind fun l112 =>
      some l112
    else
      (apd p0 [p1]).bind fun l114 =>
      some l114

noncomputable def F_shape_SetOf_L5 (y102 : (List TRect)) (y122 : (List Int)) (x229 : Int) (l230 : List TBand) (kF_shape_SetOf_L4 : Int → (List TBand) → (List TRect) → Int → Option (List TBand)) : Nat → List TRect → Int → Option (List TBand)
  | 0, _, _ => none
  | mF_shape_SetOf_L5 + 1, l257, x258 =>
    (if (decide (x258 < (y102.length : Int))) then 
      (idx y102 x258).bind fun x262 =>
      (idx y122 x229).bind fun x263 =>
      some (decide (x262.Y0 ≤ x263))
     else some false).bind fun g261 =>
    if g261 then
      (idx y102 x258).bind fun x264 =>
      (apd l257 [x264]).bind fun l266 =>
      (F_shape_SetOf_L5 y102 y122 x229 l230 kF_shape_SetOf_L4 mF_shape_SetOf_L5) l266 (w64 (x258 + 1))
    else
      (idx y122 x229).bind fun x268 =>
      (idx y122 (w64 (x229 + 1))).bind fun x269 =>
      (F_shape_stretches l257).bind fun y270 =>
      (F_shape_Set__push l230 (TBand.mk x268 x269 y270.1)).bind fun y274 =>
      kF_shape_SetOf_L4 (w64 (x229 + 1)) y274 y270.2 x258
noncomputable def F_shape_SetOf_L4 (N : Nat) (y102 : (List TRect)) (y122 : (List Int)) : Nat → Int → List TBand → List TRect → Int → Option (List TBand)
  | 0, _, _, _, _ => none
  | mF_shape_SetOf_L4 + 1, x229, l230, l231, x232 =>
    if (decide ((w64 (x229 + 1)) < (y122.length : Int))) then
      (F_slices_DeleteFunc_Rect N l231 (fun z0 => F_shape_SetOf_2 z0 y122 x229)).bind fun y233 =>
      F_shape_SetOf_L5 y102 y122 x229 l230 (F_shape_SetOf_L4 N y102 y122 mF_shape_SetOf_L4) N y233 x232
    else
      some l230
noncomputable def F_shape_SetOf_L1 (N : Nat) (y102 : (List TRect)) : List TRect → Nat → List Int → Option (List TBand)
  | [], iF_shape_SetOf_L1, l119 =>
    (srtI l119).bind fun y120 =>
    (cpI y120).bind fun y122 =>
    F_shape_SetOf_L4 N y102 y122 N 0 ([] : List TBand) ([] : List TRect) 0
  | xF_shape_SetOf_L1 :: restF_shape_SetOf_L1, iF_shape_SetOf_L1, l119 =>
    (apd l119 [xF_shape_SetOf_L1.Y0, xF_shape_SetOf_L1.Y1]).bind fun l279 =>
    (F_shape_SetOf_L1 N y102 restF_shape_SetOf_L1 (iF_shape_SetOf_L1 + 1)) l279
noncomputable def F_shape_SetOf (N : Nat) (p0 : (List TRect)) : Option (List TBand) :=
  (F_slices_Clone_Rect p0).bind fun y100 =>
  (srtF y100 (fun z0 z1 => F_shape_SetOf_1 z0 z1)).bind fun y102 =>
  F_shape_SetOf_L1 N y102 y102 0 ([] : List Int)

noncomputable def F_shape_Set__Spread_L1 (N : Nat) (p1 : Int) (p2 : Int) (p3 : Int) (p4 : Int) (y100 : (List TRect)) : Nat → List TRect → Int → Option (List TBand)
  | 0, _, _ => none
  | mF_shape_Set__Spread_L1 + 1, l116, x117 =>
    if (decide (x117 < (y100.length : Int))) then
      (idx l116 x117).bind fun x118 =>
      (idx l116 x117).bind fun x120 =>
      (sets l116 x117 (TRect.mk (w64 (x118.X0 - p1)) (w64 (x118.Y0 - p3)) (w64 (x118.X1 + p2)) (w64 (x118.Y1 + p4)))).bind fun l121 =>
      (F_shape_Set__Spread_L1 N p1 p2 p3 p4 y100 mF_shape_Set__Spread_L1) l121 (w64 (x117 + 1))
    else
      (F_shape_SetOf N l116).bind fun y122 =>
      some y122
noncomputable def F_shape_Set__Spread (N : Nat) (p0 : (List TBand)) (p1 : Int) (p2 : Int) (p3 : Int) (p4 : Int) : Option (List TBand) :=
  (F_shape_Set__Rects N p0).bind fun y100 =>
  F_shape_Set__Spread_L1 N p1 p2 p3 p4 y100 N y100 0


noncomputable def F_shape_Set__Wide (N : Nat) (p0 : (List TBand)) (p1 : Int) : Option (List TBand) :=
  (F_shape_Set__Spread N p0 p1 p1 p1 p1).bind fun y100 =>
  some y100

def F_shape_Set__Around_L1 (x105 : TBand) (x110 : TBand) : List TBand → Nat → Int → Int → Option TRect
  | [], iF_shape_Set__Around_L1, x133, x134 =>
    some (TRect.mk x133 x105.Y0 x134 x110.Y1)
  | xF_shape_Set__Around_L1 :: restF_shape_Set__Around_L1, iF_shape_Set__Around_L1, x133, x134 =>
    (idx xF_shape_Set__Around_L1.Xs 0).bind fun x138 =>
    (idx xF_shape_Set__Around_L1.Xs (w64 ((xF_shape_Set__Around_L1.Xs.length : Int) - 1))).bind fun x139 =>
    (F_shape_Set__Around_L1 x105 x110 restF_shape_Set__Around_L1 (iF_shape_Set__Around_L1 + 1)) (min x133 x138) (max x134 x139)
def F_shape_Set__Around (p0 : (List TBand)) : Option TRect :=
  (idx p0 0).bind fun x102 =>
  (idx x102.Xs 0).bind fun x104 =>
  (idx p0 0).bind fun x105 =>
  (idx p0 0).bind fun x107 =>
  (idx x107.Xs 1).bind fun x109 =>
  (idx p0 (w64 ((p0.length : Int) - 1))).bind fun x110 =>
  F_shape_Set__Around_L1 x105 x110 p0 0 x104 x109


def F_shape_within (p0 : Int) (p1 : Int) (p2 : Int) : Option Bool :=
  some ((decide (p1 ≤ p0)) && (decide (p0 ≤ p2)))


def F_shape_IsAt (p0 : Int) : Option Bool :=
  (F_shape_within p0 (-1000000) 1000000).bind fun y100 =>
  some y100


def F_shape_isRect (p0 : TRect) : Option Bool :=
  (F_shape_IsAt p0.X0).bind fun y101 =>
  (if y101 then 
    (F_shape_IsAt p0.Y0).bind fun y104 =>
    some y104
   else some false).bind fun g103 =>
  (if g103 then 
    (F_shape_IsAt p0.X1).bind fun y107 =>
    some y107
   else some false).bind fun g106 =>
  (if g106 then 
    (F_shape_IsAt p0.Y1).bind fun y110 =>
    some y110
   else some false).bind fun g109 =>
  some g109


def F_shape_Set__Fits (p0 : (List TBand)) : Option Bool :=
  (if ((p0.length : Int) == 0) then some true else 
    (F_shape_Set__Around p0).bind fun y103 =>
    (F_shape_isRect y103).bind fun y104 =>
    some y104
  ).bind fun g102 =>
  some g102

def F_shape_Set__Many_L1 : List TBand → Nat → Int → Option Int
  | [], iF_shape_Set__Many_L1, x112 =>
    some x112
  | xF_shape_Set__Many_L1 :: restF_shape_Set__Many_L1, iF_shape_Set__Many_L1, x112 =>
    (F_shape_Set__Many_L1 restF_shape_Set__Many_L1 (iF_shape_Set__Many_L1 + 1)) (w64 (x112 + (w64 (Int.tdiv (xF_shape_Set__Many_L1.Xs.length : Int) 2))))
def F_shape_Set__Many (p0 : (List TBand)) : Option Int :=
  F_shape_Set__Many_L1 p0 0 0


noncomputable def F_shape_grown (N : Nat) (p0 : (List TBand)) (p1 : Int) : Option ((List TBand) × Int) :=
  (F_shape_Set__Wide N p0 p1).bind fun y100 =>
  (F_shape_Set__Fits y100).bind fun y102 =>
  if (!y102) then
    some (([] : List TBand), 1)
  else
    (F_shape_Set__Many y100).bind fun y103 =>
    if (decide (2000 < y103)) then
      some (([] : List TBand), 2)
    else
      some (y100, 0)

def F_shape_CheckRects_L1 : List TRect → Nat → Option Int
  | [], iF_shape_CheckRects_L1 =>
    some 0
  | xF_shape_CheckRects_L1 :: restF_shape_CheckRects_L1, iF_shape_CheckRects_L1 =>
    (F_shape_isRect xF_shape_CheckRects_L1).bind fun y105 =>
    if (!y105) then
      some 1
    else
      if ((decide (xF_shape_CheckRects_L1.X1 ≤ xF_shape_CheckRects_L1.X0)) || (decide (xF_shape_CheckRects_L1.Y1 ≤ xF_shape_CheckRects_L1.Y0))) then
        some 13
      else
        (F_shape_CheckRects_L1 restF_shape_CheckRects_L1 (iF_shape_CheckRects_L1 + 1))
def F_shape_CheckRects (p0 : (List TRect)) : Option Int :=
  if (decide (2000 < (p0.length : Int))) then
    some 2
  else
    F_shape_CheckRects_L1 p0 0

def F_slices_Equal_Rect_L1 (p1 : (List TRect)) : List TRect → Nat → Option Bool
  | [], iF_slices_Equal_Rect_L1 =>
    some true
  | xF_slices_Equal_Rect_L1 :: restF_slices_Equal_Rect_L1, iF_slices_Equal_Rect_L1 =>
    (idx p1 (iF_slices_Equal_Rect_L1 : Int)).bind fun x103 =>
    if (!(eqTRect xF_slices_Equal_Rect_L1 x103)) then
      some false
    else
      (F_slices_Equal_Rect_L1 p1 restF_slices_Equal_Rect_L1 (iF_slices_Equal_Rect_L1 + 1))
def F_slices_Equal_Rect (p0 : (List TRect)) (p1 : (List TRect)) : Option Bool :=
  if ((p0.length : Int) != (p1.length : Int)) then
    some false
  else
    F_slices_Equal_Rect_L1 p1 p0 0

noncomputable def F_shape_CheckRegion_L1 (N : Nat) (p0 : (List TRect)) : Nat → Int → Option Int
  | 0, _ => none
  | mF_shape_CheckRegion_L1 + 1, x116 =>
    if (decide (x116 < (p0.length : Int))) then
      (idx p0 (w64 (x116 - 1))).bind fun x118 =>
      (idx p0 x116).bind fun x119 =>
      if ((decide (x119.Y0 < x118.Y0)) || ((x119.Y0 == x118.Y0) && (decide (x119.X0 ≤ x118.X0)))) then
        some 8
      else
        (F_shape_CheckRegion_L1 N p0 mF_shape_CheckRegion_L1) (w64 (x116 + 1))
    else
      (F_shape_SetOf N p0).bind fun y123 =>
      (F_shape_Set__Rects N y123).bind fun y125 =>
      (F_slices_Equal_Rect y125 p0).bind fun y127 =>
      if (!y127) then
        some 3
      else
        some 0
noncomputable def F_shape_CheckRegion (N : Nat) (p0 : (List TRect)) : Option Int :=
  (F_shape_CheckRects p0).bind fun y100 =>
  if (y100 != 0) then
    some y100
  else
    F_shape_CheckRegion_L1 N p0 N 1


def F_shape_Set__at (p0 : (List TBand)) (p1 : Int) (p2 : Int) : Option ((List Int) × Int) :=
  if ((p0.length : Int) == 0) then
    some (([] : List Int), p2)
  else
    (idx p0 0).bind fun x102 =>
    if (decide (p1 < x102.Y0)) then
      (idx p0 0).bind fun x104 =>
      some ([], (min p2 x104.Y0))
    else
      (idx p0 0).bind fun x106 =>
      (idx p0 0).bind fun x108 =>
      some (x106.Xs, (min p2 x108.Y1))

def F_shape_line_J8 (p2 : Bool → Bool → Option Bool) (l232 : List Int) (x235 : Bool) (kF_shape_line_L7 : (List Int) → (List Int) → (List Int) → Bool → Bool → Bool → Option (List Int)) (x249 : Int) (l256 : List Int) (x257 : Bool) (l264 : List Int) (x265 : Bool) : Option (List Int) :=
  (p2 x257 x265).bind fun y268 =>
  if (y268 != x235) then
    (apd l232 [x249]).bind fun l270 =>
    kF_shape_line_L7 l256 l264 l270 x257 x265 y268
  else
    kF_shape_line_L7 l256 l264 l232 x257 x265 x235
def F_shape_line_J9 (p2 : Bool → Bool → Option Bool) (l231 : List Int) (l232 : List Int) (x234 : Bool) (x235 : Bool) (kF_shape_line_L7 : (List Int) → (List Int) → (List Int) → Bool → Bool → Bool → Option (List Int)) (x249 : Int) (l256 : List Int) (x257 : Bool) : Option (List Int) :=
  (if (decide (0 < (l231.length : Int))) then 
    (idx l231 0).bind fun x273 =>
    some (x273 == x249)
   else some false).bind fun g272 =>
  if g272 then
    (cut l231 1 (l231.length : Int)).bind fun l274 =>
    F_shape_line_J8 p2 l232 x235 kF_shape_line_L7 x249 l256 x257 l274 (!x234)
  else
    F_shape_line_J8 p2 l232 x235 kF_shape_line_L7 x249 l256 x257 l231 x234
def F_shape_line_J10 (p2 : Bool → Bool → Option Bool) (l230 : List Int) (l231 : List Int) (l232 : List Int) (x233 : Bool) (x234 : Bool) (x235 : Bool) (kF_shape_line_L7 : (List Int) → (List Int) → (List Int) → Bool → Bool → Bool → Option (List Int)) (x249 : Int) : Option (List Int) :=
  (if (decide (0 < (l230.length : Int))) then 
    (idx l230 0).bind fun x277 =>
    some (x277 == x249)
   else some false).bind fun g276 =>
  if g276 then
    (cut l230 1 (l230.length : Int)).bind fun l278 =>
    F_shape_line_J9 p2 l231 l232 x234 x235 kF_shape_line_L7 x249 l278 (!x233)
  else
    F_shape_line_J9 p2 l231 l232 x234 x235 kF_shape_line_L7 x249 l230 x233
def F_shape_line_L7 (p2 : Bool → Bool → Option Bool) : Nat → List Int → List Int → List Int → Bool → Bool → Bool → Option (List Int)
  | 0, _, _, _, _, _, _ => none
  | mF_shape_line_L7 + 1, l230, l231, l232, x233, x234, x235 =>
    if ((decide (0 < (l230.length : Int))) || (decide (0 < (l231.length : Int)))) then
      (if ((l231.length : Int) == 0) then some true else 
        (if (decide (0 < (l230.length : Int))) then 
          (idx l230 0).bind fun x288 =>
          (idx l231 0).bind fun x289 =>
          some (decide (x288 ≤ x289))
         else some false).bind fun g287 =>
        some g287
      ).bind fun g284 =>
      if g284 then
        (idx l230 0).bind fun x290 =>
        F_shape_line_J10 p2 l230 l231 l232 x233 x234 x235 (F_shape_line_L7 p2 mF_shape_line_L7) x290
      else
        (idx l231 0).bind fun x291 =>
        F_shape_line_J10 p2 l230 l231 l232 x233 x234 x235 (F_shape_line_L7 p2 mF_shape_line_L7) x291
    else
      some l232
def F_shape_line (N : Nat) (p0 : (List Int)) (p1 : (List Int)) (p2 : Bool → Bool → Option Bool) : Option (List Int) :=
  F_shape_line_L7 p2 N p0 p1 ([] : List Int) false false false

def F_shape_Merge_J4 (l152 : List (List TBand)) (x153 : Int) (kF_shape_Merge_L3 : Int → Int → (List (List TBand)) → Int → Option (List TBand)) (x154 : (List TBand)) (x160 : Int) (x161 : Int) : Option (List TBand) :=
  (idx x154 0).bind fun x164 =>
  (idx x154 (w64 ((x154.length : Int) - 1))).bind fun x166 =>
  kF_shape_Merge_L3 (min x160 x164.Y0) (max x161 x166.Y1) l152 (w64 (x153 + 1))
def F_shape_Merge_L11 (N : Nat) (p2 : Bool → Bool → Option Bool) (x151 : Int) (l294 : List TBand) (x295 : Int) (kF_shape_Merge_L9 : (List TBand) → (List TBand) → (List TBand) → Int → Option (List TBand)) (l311 : List TBand) : Nat → List TBand → Option (List TBand)
  | 0, _ => none
  | mF_shape_Merge_L11 + 1, l333 =>
    (if (decide (0 < (l333.length : Int))) then 
      (idx l333 0).bind fun x337 =>
      some (decide (x337.Y1 ≤ x295))
     else some false).bind fun g336 =>
    if g336 then
      (cut l333 1 (l333.length : Int)).bind fun l339 =>
      (F_shape_Merge_L11 N p2 x151 l294 x295 kF_shape_Merge_L9 l311 mF_shape_Merge_L11) l339
    else
      (F_shape_Set__at l311 x295 x151).bind fun y340 =>
      (F_shape_Set__at l333 x295 x151).bind fun y342 =>
      (F_shape_line N y340.1 y342.1 p2).bind fun y344 =>
      (F_shape_Set__push l294 (TBand.mk x295 (min y340.2 y342.2) y344)).bind fun y348 =>
      kF_shape_Merge_L9 l311 l333 y348 (min y340.2 y342.2)
def F_shape_Merge_L10 (N : Nat) (p2 : Bool → Bool → Option Bool) (x151 : Int) (l293 : List TBand) (l294 : List TBand) (x295 : Int) (kF_shape_Merge_L9 : (List TBand) → (List TBand) → (List TBand) → Int → Option (List TBand)) : Nat → List TBand → Option (List TBand)
  | 0, _ => none
  | mF_shape_Merge_L10 + 1, l311 =>
    (if (decide (0 < (l311.length : Int))) then 
      (idx l311 0).bind fun x315 =>
      some (decide (x315.Y1 ≤ x295))
     else some false).bind fun g314 =>
    if g314 then
      (cut l311 1 (l311.length : Int)).bind fun l317 =>
      (F_shape_Merge_L10 N p2 x151 l293 l294 x295 kF_shape_Merge_L9 mF_shape_Merge_L10) l317
    else
      F_shape_Merge_L11 N p2 x151 l294 x295 kF_shape_Merge_L9 l311 N l293
def F_shape_Merge_L9 (N : Nat) (p2 : Bool → Bool → Option Bool) (x151 : Int) : Nat → List TBand → List TBand → List TBand → Int → Option (List TBand)
  | 0, _, _, _, _ => none
  | mF_shape_Merge_L9 + 1, l292, l293, l294, x295 =>
    if (decide (x295 < x151)) then
      F_shape_Merge_L10 N p2 x151 l293 l294 x295 (F_shape_Merge_L9 N p2 x151 mF_shape_Merge_L9) N l292
    else
      some l294
def F_shape_Merge_L3 (N : Nat) (p0 : (List TBand)) (p1 : (List TBand)) (p2 : Bool → Bool → Option Bool) : Nat → Int → Int → List (List TBand) → Int → Option (List TBand)
  | 0, _, _, _, _ => none
  | mF_shape_Merge_L3 + 1, x150, x151, l152, x153 =>
    if (decide (x153 < 2)) then
      (idx l152 x153).bind fun x154 =>
      if (decide (0 < (x154.length : Int))) then
        if ((x153 == 0) || ((p0.length : Int) == 0)) then
          (idx x154 0).bind fun x168 =>
          (idx x154 (w64 ((x154.length : Int) - 1))).bind fun x170 =>
          F_shape_Merge_J4 l152 x153 (F_shape_Merge_L3 N p0 p1 p2 mF_shape_Merge_L3) x154 x168.Y0 x170.Y1
        else
          F_shape_Merge_J4 l152 x153 (F_shape_Merge_L3 N p0 p1 p2 mF_shape_Merge_L3) x154 x150 x151
      else
        (F_shape_Merge_L3 N p0 p1 p2 mF_shape_Merge_L3) x150 x151 l152 (w64 (x153 + 1))
    else
      F_shape_Merge_L9 N p2 x151 N p0 p1 ([] : List TBand) x150
def F_shape_Merge (N : Nat) (p0 : (List TBand)) (p1 : (List TBand)) (p2 : Bool → Bool → Option Bool) : Option (List TBand) :=
  if ((w64 ((p0.length : Int) + (p1.length : Int))) == 0) then
    some ([] : List TBand)
  else
    F_shape_Merge_L3 N p0 p1 p2 N 0 0 [p0, p1] 0


def F_shape_Set__Less_1 (p0 : Bool) (p1 : Bool) : Option Bool :=
  some (p0 && (!p1))


def F_shape_Set__Less (N : Nat) (p0 : (List TBand)) (p1 : (List TBand)) : Option (List TBand) :=
  (F_shape_Merge N p0 p1 (fun z0 z1 => F_shape_Set__Less_1 z0 z1)).bind fun y100 =>
  some y100


noncomputable def F_shape_Set__Core (N : Nat) (p0 : (List TBand)) (p1 : Int) (p2 : Int) (p3 : Int) (p4 : Int) : Option (List TBand) :=
  if ((p0.length : Int) == 0) then
    some ([] : List TBand)
  else
    (F_shape_Set__Around p0).bind fun y100 =>
    (F_shape_SetOf N [(TRect.mk (w64 (y100.X0 - (w64 ((w64 ((w64 ((w64 (p1 + p2)) + p3)) + p4)) + 1)))) (w64 (y100.Y0 - (w64 ((w64 ((w64 ((w64 (p1 + p2)) + p3)) + p4)) + 1)))) (w64 (y100.X1 + (w64 ((w64 ((w64 ((w64 (p1 + p2)) + p3)) + p4)) + 1)))) (w64 (y100.Y1 + (w64 ((w64 ((w64 ((w64 (p1 + p2)) + p3)) + p4)) + 1)))))]).bind fun y103 =>
    (F_shape_Set__Less N y103 p0).bind fun y107 =>
    (F_shape_Set__Spread N y107 p2 p1 p4 p3).bind fun y109 =>
    (F_shape_Set__Less N p0 y109).bind fun y113 =>
    some y113


noncomputable def F_shape_Set__Deep (N : Nat) (p0 : (List TBand)) (p1 : Int) : Option (List TBand) :=
  (F_shape_Set__Core N p0 p1 p1 p1 p1).bind fun y100 =>
  some y100


noncomputable def F_shape_shrunk (N : Nat) (p0 : (List TBand)) (p1 : Int) : Option ((List TBand) × Int) :=
  (F_shape_Set__Deep N p0 p1).bind fun y100 =>
  (F_shape_Set__Many y100).bind fun y102 =>
  if (decide (2000 < y102)) then
    some (([] : List TBand), 2)
  else
    some (y100, 0)

noncomputable def F_disp_61 (N : Nat) (x : Nat) (p0 : (List TBand)) (p1 : Int) : Option ((List TBand) × Int) :=
  if x = 35 then F_shape_grown N p0 p1 else
  if x = 37 then F_shape_shrunk N p0 p1 else
  none

noncomputable def F_shape_steps_L1 (N : Nat) (p1 : Int) : List Nat → Nat → List TBand → Option ((List TRect) × Int)
  | [], iF_shape_steps_L1, l120 =>
    (F_shape_Set__Rects N l120).bind fun y121 =>
    some (y121, 0)
  | xF_shape_steps_L1 :: restF_shape_steps_L1, iF_shape_steps_L1, l120 =>
    (F_disp_61 N xF_shape_steps_L1 l120 p1).bind fun y125 =>
    if (y125.2 != 0) then
      some (([] : List TRect), y125.2)
    else
      (F_shape_steps_L1 N p1 restF_shape_steps_L1 (iF_shape_steps_L1 + 1)) y125.1
noncomputable def F_shape_steps (N : Nat) (p0 : (List TRect)) (p1 : Int) (p2 : (List Nat)) : Option ((List TRect) × Int) :=
  (F_shape_CheckRegion N p0).bind fun y100 =>
  if (y100 != 0) then
    some (([] : List TRect), y100)
  else
    (F_shape_within p1 0 100000).bind fun y101 =>
    if (!y101) then
      some (([] : List TRect), 1)
    else
      (F_shape_SetOf N p0).bind fun y102 =>
      F_shape_steps_L1 N p1 p2 0 y102


noncomputable def F_shape_Grow (N : Nat) (p0 : (List TRect)) (p1 : Int) : Option ((List TRect) × Int) :=
  (F_shape_steps N p0 p1 [35]).bind fun y101 =>
  some (y101.1, y101.2)

def F_shape_AreaOf_L1 : List TRect → Nat → Int → Option Int
  | [], iF_shape_AreaOf_L1, x110 =>
    some x110
  | xF_shape_AreaOf_L1 :: restF_shape_AreaOf_L1, iF_shape_AreaOf_L1, x110 =>
    (F_shape_AreaOf_L1 restF_shape_AreaOf_L1 (iF_shape_AreaOf_L1 + 1)) (w64 (x110 + (w64 ((w64 (xF_shape_AreaOf_L1.X1 - xF_shape_AreaOf_L1.X0)) * (w64 (xF_shape_AreaOf_L1.Y1 - xF_shape_AreaOf_L1.Y0))))))
def F_shape_AreaOf (p0 : (List TRect)) : Option Int :=
  F_shape_AreaOf_L1 p0 0 0


noncomputable def F_shape_Area (N : Nat) (p0 : (List TRect)) : Option (Int × Int) :=
  (F_shape_CheckRegion N p0).bind fun y100 =>
  if (y100 != 0) then
    some (0, y100)
  else
    (F_shape_AreaOf p0).bind fun y101 =>
    some (y101, 0)


noncomputable def F_etchhouselaw1_awake (N : Nat)  : Option Bool :=
  (F_shape_Area N [(TRect.mk 0 0 2 3)]).bind fun y101 =>
  some ((y101.2 == 0) && (y101.1 == 6))


noncomputable def F_shape_Opened (N : Nat) (p0 : (List TRect)) (p1 : Int) : Option ((List TRect) × Int) :=
  (F_shape_steps N p0 p1 [37, 35]).bind fun y101 =>
  some (y101.1, y101.2)


noncomputable def F_shape_Closed (N : Nat) (p0 : (List TRect)) (p1 : Int) : Option ((List TRect) × Int) :=
  (F_shape_steps N p0 p1 [35, 37]).bind fun y101 =>
  some (y101.1, y101.2)


def F_shape_Set__Told (N : Nat) (p0 : (List TBand)) : Option ((List TRect) × Int) :=
  (F_shape_Set__Many p0).bind fun y100 =>
  if (decide (2000 < y100)) then
    some (([] : List TRect), 2)
  else
    (F_shape_Set__Rects N p0).bind fun y101 =>
    some (y101, 0)


noncomputable def F_shape_two__Less (N : Nat) (p0 : (List TRect)) (p1 : (List TRect)) : Option ((List TRect) × Int) :=
  (F_shape_CheckRegion N p0).bind fun y100 =>
  if (y100 != 0) then
    some (([] : List TRect), y100)
  else
    (F_shape_CheckRegion N p1).bind fun y101 =>
    if (y101 != 0) then
      some (([] : List TRect), y101)
    else
      (F_shape_SetOf N p0).bind fun y102 =>
      (F_shape_SetOf N p1).bind fun y104 =>
      (F_shape_Set__Less N y102 y104).bind fun y110 =>
      (F_shape_Set__Told N y110).bind fun y112 =>
      some (y112.1, y112.2)


noncomputable def F_shape_Minus (N : Nat) (p0 : (List TRect)) (p1 : (List TRect)) : Option ((List TRect) × Int) :=
  (F_shape_two__Less N p0 p1).bind fun y100 =>
  some (y100.1, y100.2)


noncomputable def F_etchhouselaw1_inside (N : Nat) (p0 : (List TRect)) (p1 : (List TRect)) : Option Bool :=
  (F_shape_Minus N p0 p1).bind fun y100 =>
  some ((y100.2 == 0) && ((y100.1.length : Int) == 0))

noncomputable def F_etchhouselaw1_GrowsAdd_J1 (N : Nat) (p0 : (List TRect)) (p1 : Int) : Option Bool :=
  (F_shape_Opened N p0 p1).bind fun y114 =>
  (F_shape_Closed N p0 p1).bind fun y116 =>
  (if (y114.2 != 0) then some true else 
    (F_etchhouselaw1_inside N y114.1 p0).bind fun y120 =>
    some y120
  ).bind fun g119 =>
  (if g119 then 
    (if (y116.2 != 0) then some true else 
      (F_etchhouselaw1_inside N p0 y116.1).bind fun y127 =>
      some y127
    ).bind fun g126 =>
    some g126
   else some false).bind fun g124 =>
  (if g124 then 
    (F_etchhouselaw1_awake N).bind fun y130 =>
    some y130
   else some false).bind fun g129 =>
  some g129
noncomputable def F_etchhouselaw1_GrowsAdd (N : Nat) (p0 : (List TRect)) (p1 : Int) (p2 : Int) : Option Bool :=
  (F_shape_Grow N p0 p1).bind fun y100 =>
  if (y100.2 != 0) then
    (if ((y100.1.length : Int) == 0) then 
      (F_etchhouselaw1_awake N).bind fun y104 =>
      some y104
     else some false).bind fun g103 =>
    some g103
  else
    (F_shape_Grow N y100.1 p2).bind fun y105 =>
    if ((y105.2 == 0) && (decide ((w64 (p1 + p2)) ≤ 100000))) then
      (F_shape_Grow N p0 (w64 (p1 + p2))).bind fun y131 =>
      (if (y131.2 != 0) then some true else 
        (F_slices_Equal_Rect y105.1 y131.1).bind fun y135 =>
        some (!y135)
      ).bind fun g134 =>
      if g134 then
        some false
      else
        F_etchhouselaw1_GrowsAdd_J1 N p0 p1
    else
      F_etchhouselaw1_GrowsAdd_J1 N p0 p1


noncomputable def F_shape_Shrink (N : Nat) (p0 : (List TRect)) (p1 : Int) : Option ((List TRect) × Int) :=
  (F_shape_steps N p0 p1 [37]).bind fun y101 =>
  some (y101.1, y101.2)


def F_shape_Set__And_1 (p0 : Bool) (p1 : Bool) : Option Bool :=
  some (p0 && p1)


def F_shape_Set__And (N : Nat) (p0 : (List TBand)) (p1 : (List TBand)) : Option (List TBand) :=
  (F_shape_Merge N p0 p1 (fun z0 z1 => F_shape_Set__And_1 z0 z1)).bind fun y100 =>
  some y100


noncomputable def F_shape_two__And (N : Nat) (p0 : (List TRect)) (p1 : (List TRect)) : Option ((List TRect) × Int) :=
  (F_shape_CheckRegion N p0).bind fun y100 =>
  if (y100 != 0) then
    some (([] : List TRect), y100)
  else
    (F_shape_CheckRegion N p1).bind fun y101 =>
    if (y101 != 0) then
      some (([] : List TRect), y101)
    else
      (F_shape_SetOf N p0).bind fun y102 =>
      (F_shape_SetOf N p1).bind fun y104 =>
      (F_shape_Set__And N y102 y104).bind fun y110 =>
      (F_shape_Set__Told N y110).bind fun y112 =>
      some (y112.1, y112.2)


noncomputable def F_shape_Both (N : Nat) (p0 : (List TRect)) (p1 : (List TRect)) : Option ((List TRect) × Int) :=
  (F_shape_two__And N p0 p1).bind fun y100 =>
  some (y100.1, y100.2)


def F_shape_IsPoint (p0 : TPoint) : Option Bool :=
  (F_shape_IsAt p0.X).bind fun y101 =>
  (if y101 then 
    (F_shape_IsAt p0.Y).bind fun y104 =>
    some y104
   else some false).bind fun g103 =>
  some g103


def F_shape_HasSquare_1 (p0 : TRect) (q0 : TPoint) : Option Bool :=
  some ((((decide (p0.X0 ≤ q0.X)) && (decide (q0.X < p0.X1))) && (decide (p0.Y0 ≤ q0.Y))) && (decide (q0.Y < p0.Y1)))


def F_slices_ContainsFunc_Rect (p0 : (List TRect)) (p1 : TRect → Option Bool) : Option Bool :=
  (F_slices_IndexFunc_Rect p0 p1).bind fun y100 =>
  some (decide (0 ≤ y100))


def F_shape_HasSquare (p0 : (List TRect)) (p1 : TPoint) : Option Bool :=
  (F_slices_ContainsFunc_Rect p0 (fun z0 => F_shape_HasSquare_1 z0 p1)).bind fun y101 =>
  some y101


noncomputable def F_shape_Has (N : Nat) (p0 : (List TRect)) (p1 : TPoint) : Option (Bool × Int) :=
  (F_shape_CheckRegion N p0).bind fun y101 =>
  if (y101 != 0) then
    some (false, y101)
  else
    (F_shape_IsPoint p1).bind fun y102 =>
    if (!y102) then
      some (false, 1)
    else
      (F_shape_HasSquare p0 p1).bind fun y103 =>
      some (y103, 0)


noncomputable def F_etchhouselaw1_has (N : Nat) (p0 : (List TRect)) (p1 : TPoint) : Option Bool :=
  (F_shape_Has N p0 p1).bind fun y101 =>
  some ((y101.2 == 0) && y101.1)


noncomputable def F_etchhouselaw1_GrowsByPoints (N : Nat) (p0 : (List TRect)) (p1 : Int) (p2 : TPoint) : Option Bool :=
  (F_shape_Grow N p0 p1).bind fun y101 =>
  (F_shape_Shrink N p0 p1).bind fun y103 =>
  (if ((((((y101.2 != 0) || (y103.2 != 0)) || (decide (p2.X < (-1000000)))) || (decide (1000000 < p2.X))) || (decide (p2.Y < (-1000000)))) || (decide (1000000 < p2.Y))) then some true else 
    (F_shape_CheckRegion N [(TRect.mk (w64 (p2.X - p1)) (w64 (p2.Y - p1)) (w64 ((w64 (p2.X + p1)) + 1)) (w64 ((w64 (p2.Y + p1)) + 1)))]).bind fun y108 =>
    some (y108 != 0)
  ).bind fun g107 =>
  if g107 then
    (if (((y101.2 == 0) || ((y101.1.length : Int) == 0)) && ((y103.2 == 0) || ((y103.1.length : Int) == 0))) then 
      (F_etchhouselaw1_awake N).bind fun y111 =>
      some y111
     else some false).bind fun g110 =>
    some g110
  else
    (F_shape_Both N [(TRect.mk (w64 (p2.X - p1)) (w64 (p2.Y - p1)) (w64 ((w64 (p2.X + p1)) + 1)) (w64 ((w64 (p2.Y + p1)) + 1)))] p0).bind fun y112 =>
    (if (y112.2 == 0) then 
      (F_etchhouselaw1_has N y101.1 p2).bind fun y116 =>
      some (y116 == (decide (0 < (y112.1.length : Int))))
     else some false).bind fun g115 =>
    (if g115 then 
      (F_etchhouselaw1_has N y103.1 p2).bind fun y120 =>
      (F_etchhouselaw1_inside N [(TRect.mk (w64 (p2.X - p1)) (w64 (p2.Y - p1)) (w64 ((w64 (p2.X + p1)) + 1)) (w64 ((w64 (p2.Y + p1)) + 1)))] p0).bind fun y121 =>
      some (y120 == y121)
     else some false).bind fun g119 =>
    (if g119 then 
      (F_etchhouselaw1_awake N).bind fun y124 =>
      some y124
     else some false).bind fun g123 =>
    some g123


def F_shape_between (p0 : Int) (p1 : Int) (p2 : Int) (p3 : Int) : Option Int :=
  some (max (max 0 (w64 ((w64 (p2 - p1)) + 1))) (w64 ((w64 (p0 - p3)) + 1)))


def F_shape_Far (p0 : TRect) (p1 : TRect) : Option Int :=
  (F_shape_between p0.X0 p0.X1 p1.X0 p1.X1).bind fun y102 =>
  (F_shape_between p0.Y0 p0.Y1 p1.Y0 p1.Y1).bind fun y103 =>
  some (max y102 y103)


def F_shape_near (p0 : TRect) (p1 : TRect) (p2 : Int) : Option TPoint :=
  some (TPoint.mk (max p0.X0 (w64 (p1.X0 - p2))) (max p0.Y0 (w64 (p1.Y0 - p2))))


def F_shape_less (p0 : TPoint) (p1 : TPoint) : Option Bool :=
  some ((decide (p0.Y < p1.Y)) || ((p0.Y == p1.Y) && (decide (p0.X < p1.X))))

def F_shape_GapOf_L7 (x141 : Int) (x259 : Int) (x260 : Int) : List TRect → Nat → Int → Int → Bool → Option TGap
  | [], iF_shape_GapOf_L7, x299, x300, x301 =>
    some (TGap.mk 0 0 (w64 (x141 - 1)) (TPoint.mk x259 x260) (TPoint.mk x299 x300))
  | xF_shape_GapOf_L7 :: restF_shape_GapOf_L7, iF_shape_GapOf_L7, x299, x300, x301 =>
    (F_shape_near xF_shape_GapOf_L7 (TRect.mk x259 x260 (w64 (x259 + 1)) (w64 (x260 + 1))) x141).bind fun y303 =>
    (F_shape_Far xF_shape_GapOf_L7 (TRect.mk x259 x260 (w64 (x259 + 1)) (w64 (x260 + 1)))).bind fun y305 =>
    (if (y305 == x141) then 
      (if (!x301) then some true else 
        (F_shape_less y303 (TPoint.mk x299 x300)).bind fun y312 =>
        some y312
      ).bind fun g311 =>
      some g311
     else some false).bind fun g309 =>
    if g309 then
      (F_shape_GapOf_L7 x141 x259 x260 restF_shape_GapOf_L7 (iF_shape_GapOf_L7 + 1)) y303.X y303.Y true
    else
      (F_shape_GapOf_L7 x141 x259 x260 restF_shape_GapOf_L7 (iF_shape_GapOf_L7 + 1)) x299 x300 x301
def F_shape_GapOf_L8 (x141 : Int) (kF_shape_GapOf_L6 : Int → Int → Bool → Option TGap) (xF_shape_GapOf_L6 : TRect) : List TRect → Nat → Int → Int → Bool → Option TGap
  | [], iF_shape_GapOf_L8, x350, x351, x352 =>
    kF_shape_GapOf_L6 x350 x351 x352
  | xF_shape_GapOf_L8 :: restF_shape_GapOf_L8, iF_shape_GapOf_L8, x350, x351, x352 =>
    (F_shape_near xF_shape_GapOf_L6 xF_shape_GapOf_L8 x141).bind fun y354 =>
    (F_shape_Far xF_shape_GapOf_L6 xF_shape_GapOf_L8).bind fun y356 =>
    (if (y356 == x141) then 
      (if (!x352) then some true else 
        (F_shape_less y354 (TPoint.mk x350 x351)).bind fun y363 =>
        some y363
      ).bind fun g362 =>
      some g362
     else some false).bind fun g360 =>
    if g360 then
      (F_shape_GapOf_L8 x141 kF_shape_GapOf_L6 xF_shape_GapOf_L6 restF_shape_GapOf_L8 (iF_shape_GapOf_L8 + 1)) y354.X y354.Y true
    else
      (F_shape_GapOf_L8 x141 kF_shape_GapOf_L6 xF_shape_GapOf_L6 restF_shape_GapOf_L8 (iF_shape_GapOf_L8 + 1)) x350 x351 x352
def F_shape_GapOf_L6 (p1 : (List TRect)) (x141 : Int) : List TRect → Nat → Int → Int → Bool → Option TGap
  | [], iF_shape_GapOf_L6, x259, x260, x261 =>
    F_shape_GapOf_L7 x141 x259 x260 p1 0 0 0 false
  | xF_shape_GapOf_L6 :: restF_shape_GapOf_L6, iF_shape_GapOf_L6, x259, x260, x261 =>
    F_shape_GapOf_L8 x141 (F_shape_GapOf_L6 p1 x141 restF_shape_GapOf_L6 (iF_shape_GapOf_L6 + 1)) xF_shape_GapOf_L6 p1 0 x259 x260 x261
def F_shape_GapOf_L9 (kF_shape_GapOf_L3 : Int → Option TGap) (xF_shape_GapOf_L3 : TRect) : List TRect → Nat → Int → Option TGap
  | [], iF_shape_GapOf_L9, x377 =>
    kF_shape_GapOf_L3 x377
  | xF_shape_GapOf_L9 :: restF_shape_GapOf_L9, iF_shape_GapOf_L9, x377 =>
    (F_shape_Far xF_shape_GapOf_L3 xF_shape_GapOf_L9).bind fun y379 =>
    if ((decide (x377 < 0)) || (decide (y379 < x377))) then
      (F_shape_GapOf_L9 kF_shape_GapOf_L3 xF_shape_GapOf_L3 restF_shape_GapOf_L9 (iF_shape_GapOf_L9 + 1)) y379
    else
      (F_shape_GapOf_L9 kF_shape_GapOf_L3 xF_shape_GapOf_L3 restF_shape_GapOf_L9 (iF_shape_GapOf_L9 + 1)) x377
def F_shape_GapOf_L3 (p0 : (List TRect)) (p1 : (List TRect)) : List TRect → Nat → Int → Option TGap
  | [], iF_shape_GapOf_L3, x141 =>
    F_shape_GapOf_L6 p1 x141 p0 0 0 0 false
  | xF_shape_GapOf_L3 :: restF_shape_GapOf_L3, iF_shape_GapOf_L3, x141 =>
    F_shape_GapOf_L9 (F_shape_GapOf_L3 p0 p1 restF_shape_GapOf_L3 (iF_shape_GapOf_L3 + 1)) xF_shape_GapOf_L3 p1 0 x141
def F_shape_GapOf (p0 : (List TRect)) (p1 : (List TRect)) : Option TGap :=
  F_shape_GapOf_L3 p0 p1 p0 0 (-1)

def F_shape_Gaps_L6 (p0 : (List (List TRect))) (p1 : Int) (kF_shape_Gaps_L5 : (List TGap) → Option ((List TGap) × Int)) (xF_shape_Gaps_L5 : (List TRect)) (iF_shape_Gaps_L5 : Nat) : Nat → List TGap → Int → Option ((List TGap) × Int)
  | 0, _, _ => none
  | mF_shape_Gaps_L6 + 1, l238, x239 =>
    if (decide (x239 < (p0.length : Int))) then
      (if ((xF_shape_Gaps_L5.length : Int) == 0) then some true else 
        (idx p0 x239).bind fun x243 =>
        some ((x243.length : Int) == 0)
      ).bind fun g242 =>
      if g242 then
        (F_shape_Gaps_L6 p0 p1 kF_shape_Gaps_L5 xF_shape_Gaps_L5 iF_shape_Gaps_L5 mF_shape_Gaps_L6) l238 (w64 (x239 + 1))
      else
        (idx p0 x239).bind fun x245 =>
        (F_shape_GapOf xF_shape_Gaps_L5 x245).bind fun y247 =>
        if (decide (y247.Distance < 0)) then
          some (([] : List TGap), 12)
        else
          if (decide (y247.Distance < p1)) then
            (apd l238 [(TGap.mk (iF_shape_Gaps_L5 : Int) x239 y247.Distance y247.From y247.To)]).bind fun l250 =>
            (F_shape_Gaps_L6 p0 p1 kF_shape_Gaps_L5 xF_shape_Gaps_L5 iF_shape_Gaps_L5 mF_shape_Gaps_L6) l250 (w64 (x239 + 1))
          else
            (F_shape_Gaps_L6 p0 p1 kF_shape_Gaps_L5 xF_shape_Gaps_L5 iF_shape_Gaps_L5 mF_shape_Gaps_L6) l238 (w64 (x239 + 1))
    else
      kF_shape_Gaps_L5 l238
def F_shape_Gaps_L5 (N : Nat) (p0 : (List (List TRect))) (p1 : Int) : List (List TRect) → Nat → List TGap → Option ((List TGap) × Int)
  | [], iF_shape_Gaps_L5, l208 =>
    some (l208, 0)
  | xF_shape_Gaps_L5 :: restF_shape_Gaps_L5, iF_shape_Gaps_L5, l208 =>
    F_shape_Gaps_L6 p0 p1 (F_shape_Gaps_L5 N p0 p1 restF_shape_Gaps_L5 (iF_shape_Gaps_L5 + 1)) xF_shape_Gaps_L5 iF_shape_Gaps_L5 N l208 (w64 ((iF_shape_Gaps_L5 : Int) + 1))
noncomputable def F_shape_Gaps_L2 (N : Nat) (p0 : (List (List TRect))) (p1 : Int) : List (List TRect) → Nat → Option ((List TGap) × Int)
  | [], iF_shape_Gaps_L2 =>
    (F_shape_within p1 0 100000).bind fun y115 =>
    if (!y115) then
      some (([] : List TGap), 1)
    else
      F_shape_Gaps_L5 N p0 p1 p0 0 ([] : List TGap)
  | xF_shape_Gaps_L2 :: restF_shape_Gaps_L2, iF_shape_Gaps_L2 =>
    (F_shape_CheckRegion N xF_shape_Gaps_L2).bind fun y252 =>
    if (y252 != 0) then
      some (([] : List TGap), y252)
    else
      (F_shape_Gaps_L2 N p0 p1 restF_shape_Gaps_L2 (iF_shape_Gaps_L2 + 1))
noncomputable def F_shape_Gaps_L1 (N : Nat) (p0 : (List (List TRect))) (p1 : Int) : List (List TRect) → Nat → Int → Option ((List TGap) × Int)
  | [], iF_shape_Gaps_L1, x110 =>
    if ((decide (2000 < (p0.length : Int))) || (decide (2000 < x110))) then
      some (([] : List TGap), 2)
    else
      F_shape_Gaps_L2 N p0 p1 p0 0
  | xF_shape_Gaps_L1 :: restF_shape_Gaps_L1, iF_shape_Gaps_L1, x110 =>
    (F_shape_Gaps_L1 N p0 p1 restF_shape_Gaps_L1 (iF_shape_Gaps_L1 + 1)) (w64 (x110 + (xF_shape_Gaps_L1.length : Int)))
noncomputable def F_shape_Gaps (N : Nat) (p0 : (List (List TRect))) (p1 : Int) : Option ((List TGap) × Int) :=
  F_shape_Gaps_L1 N p0 p1 p0 0 0


noncomputable def F_etchhouselaw1_GapsAreLeast (N : Nat) (p0 : (List TRect)) (p1 : (List TRect)) : Option Bool :=
  (F_shape_Gaps N [p0, p1] 100000).bind fun y101 =>
  if ((y101.2 != 0) || ((y101.1.length : Int) == 0)) then
    (if ((y101.1.length : Int) == 0) then 
      (F_etchhouselaw1_awake N).bind fun y105 =>
      some y105
     else some false).bind fun g104 =>
    some g104
  else
    (idx y101.1 0).bind fun x106 =>
    (F_shape_Grow N p0 x106.Distance).bind fun y107 =>
    (idx y101.1 0).bind fun x109 =>
    (F_shape_Grow N p0 (w64 (x109.Distance + 1))).bind fun y110 =>
    if ((y107.2 != 0) || (y110.2 != 0)) then
      (if ((y107.2 == 0) || ((y107.1.length : Int) == 0)) then 
        (F_etchhouselaw1_awake N).bind fun y114 =>
        some y114
       else some false).bind fun g113 =>
      some g113
    else
      (F_shape_Both N y107.1 p1).bind fun y115 =>
      (F_shape_Both N y110.1 p1).bind fun y117 =>
      if ((y115.2 != 0) || (y117.2 != 0)) then
        (if ((y115.2 == 2) || (y117.2 == 2)) then 
          (F_etchhouselaw1_awake N).bind fun y121 =>
          some y121
         else some false).bind fun g120 =>
        some g120
      else
        (if (((y115.1.length : Int) == 0) && (decide (0 < (y117.1.length : Int)))) then 
          (idx y101.1 0).bind fun x125 =>
          (F_etchhouselaw1_has N p0 x125.From).bind fun y126 =>
          some y126
         else some false).bind fun g124 =>
        (if g124 then 
          (idx y101.1 0).bind fun x130 =>
          (F_etchhouselaw1_has N p1 x130.To).bind fun y131 =>
          some y131
         else some false).bind fun g129 =>
        (if g129 then 
          (F_etchhouselaw1_awake N).bind fun y134 =>
          some y134
         else some false).bind fun g133 =>
        some g133

end Go.Proofs.Ytnlhigfglfahiaa
