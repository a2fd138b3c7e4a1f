/- The plain functions: what each function of the program computes; none where it would panic. -/
import Derived.Test.YtnlhigfglfahiaaXT
namespace Go.Proofs.Ytnlhigfglfahiaa
open Go.RowKit

def F_shape_within (p0 : Int) (p1 : Int) (p2 : Int) : Option Bool :=
  some ((decide (p1 ≤ p0)) && (decide (p0 ≤ p2)))


def F_shape_IsAt (p0 : Int) : Option Bool :=
  (F_shape_within p0 (-1000000) 1000000).bind fun y100 =>
  some y100


def F_shape_isRect (p0 : TRect) : Option Bool :=
  (F_shape_IsAt p0.X0).bind fun y101 =>
  (if y101 then 
    (F_shape_IsAt p0.Y0).bind fun y104 =>
    some y104
   else some false).bind fun g103 =>
  (if g103 then 
    (F_shape_IsAt p0.X1).bind fun y107 =>
    some y107
   else some false).bind fun g106 =>
  (if g106 then 
    (F_shape_IsAt p0.Y1).bind fun y110 =>
    some y110
   else some false).bind fun g109 =>
  some g109

def F_shape_CheckRects_L1 : List TRect → Nat → Option Int
  | [], iF_shape_CheckRects_L1 =>
    some 0
  | xF_shape_CheckRects_L1 :: restF_shape_CheckRects_L1, iF_shape_CheckRects_L1 =>
    (F_shape_isRect xF_shape_CheckRects_L1).bind fun y105 =>
    if (!y105) then
      some 1
    else
      if ((decide (xF_shape_CheckRects_L1.X1 ≤ xF_shape_CheckRects_L1.X0)) || (decide (xF_shape_CheckRects_L1.Y1 ≤ xF_shape_CheckRects_L1.Y0))) then
        some 13
      else
        (F_shape_CheckRects_L1 restF_shape_CheckRects_L1 (iF_shape_CheckRects_L1 + 1))
def F_shape_CheckRects (p0 : (List TRect)) : Option Int :=
  if (decide (2000 < (p0.length : Int))) then
    some 2
  else
    F_shape_CheckRects_L1 p0 0


def F_slices_Clone_Rect (p0 : (List TRect)) : Option (List TRect) :=
  (apd ([] : List TRect) p0).bind fun l101 =>
  some l101



def F_shape_SetOf_1 (p0 : TRect) (p1 : TRect) : Option Int :=
  some (w64 (p0.Y0 - p1.Y0))




def F_shape_SetOf_2 (p0 : TRect) (q0 : (List Int)) (q1 : Int) : Option Bool :=
  (idx q0 q1).bind fun x101 =>
  some (decide (p0.Y1 ≤ x101))

def F_slices_IndexFunc_Rect_L1 (p1 : TRect → Option Bool) : List TRect → Nat → Option Int
  | [], iF_slices_IndexFunc_Rect_L1 =>
    some (-1)
  | xF_slices_IndexFunc_Rect_L1 :: restF_slices_IndexFunc_Rect_L1, iF_slices_IndexFunc_Rect_L1 =>
    (p1 xF_slices_IndexFunc_Rect_L1).bind fun y103 =>
    if y103 then
      some (iF_slices_IndexFunc_Rect_L1 : Int)
    else
      (F_slices_IndexFunc_Rect_L1 p1 restF_slices_IndexFunc_Rect_L1 (iF_slices_IndexFunc_Rect_L1 + 1))
def F_slices_IndexFunc_Rect (p0 : (List TRect)) (p1 : TRect → Option Bool) : Option Int :=
  F_slices_IndexFunc_Rect_L1 p1 p0 0

def F_slices_DeleteFunc_Rect_L1 (p1 : TRect → Option Bool) : Nat → List TRect → Int → Int → Option (List TRect)
  | 0, _, _, _ => none
  | mF_slices_DeleteFunc_Rect_L1 + 1, l120, x121, x122 =>
    if (decide (x122 < (l120.length : Int))) then
      (idx l120 x122).bind fun x123 =>
      (p1 x123).bind fun y125 =>
      if (!y125) then
        (idx l120 x121).bind fun x126 =>
        (sets l120 x121 x123).bind fun l127 =>
        (F_slices_DeleteFunc_Rect_L1 p1 mF_slices_DeleteFunc_Rect_L1) l127 (w64 (x121 + 1)) (w64 (x122 + 1))
      else
        (F_slices_DeleteFunc_Rect_L1 p1 mF_slices_DeleteFunc_Rect_L1) l120 x121 (w64 (x122 + 1))
    else
      (cut l120 x121 (l120.length : Int)).bind fun l128 =>
      (pre (clr l120 x121 (l128).length (TRect.mk 0 0 0 0)) x121).bind fun l129 =>
      some l129
def F_slices_DeleteFunc_Rect (N : Nat) (p0 : (List TRect)) (p1 : TRect → Option Bool) : Option (List TRect) :=
  (F_slices_IndexFunc_Rect p0 p1).bind fun y100 =>
  if (y100 == (-1)) then
    some p0
  else
    F_slices_DeleteFunc_Rect_L1 p1 N p0 y100 (w64 (y100 + 1))


def F_shape_stretches_1 (p0 : TRect) (p1 : TRect) : Option Int :=
  some (w64 (p0.X0 - p1.X0))

def F_shape_stretches_L1 (y100 : (List TRect)) : List TRect → Nat → List Int → Option ((List Int) × (List TRect))
  | [], iF_shape_stretches_L1, l128 =>
    some (l128, y100)
  | xF_shape_stretches_L1 :: restF_shape_stretches_L1, iF_shape_stretches_L1, l128 =>
    (if (decide (0 ≤ (w64 ((l128.length : Int) - 1)))) then 
      (idx l128 (w64 ((l128.length : Int) - 1))).bind fun x132 =>
      some (decide (xF_shape_stretches_L1.X0 ≤ x132))
     else some false).bind fun g131 =>
    if g131 then
      (idx l128 (w64 ((l128.length : Int) - 1))).bind fun x133 =>
      (idx l128 (w64 ((l128.length : Int) - 1))).bind fun x134 =>
      (sets l128 (w64 ((l128.length : Int) - 1)) (max x133 xF_shape_stretches_L1.X1)).bind fun l135 =>
      (F_shape_stretches_L1 y100 restF_shape_stretches_L1 (iF_shape_stretches_L1 + 1)) l135
    else
      (apd l128 [xF_shape_stretches_L1.X0, xF_shape_stretches_L1.X1]).bind fun l137 =>
      (F_shape_stretches_L1 y100 restF_shape_stretches_L1 (iF_shape_stretches_L1 + 1)) l137
noncomputable def F_shape_stretches (p0 : (List TRect)) : Option ((List Int) × (List TRect)) :=
  (srtF p0 (fun z0 z1 => F_shape_stretches_1 z0 z1)).bind fun y100 =>
  F_shape_stretches_L1 y100 y100 0 ([] : List Int)

def F_slices_Equal_int_L1 (p1 : (List Int)) : List Int → Nat → Option Bool
  | [], iF_slices_Equal_int_L1 =>
    some true
  | xF_slices_Equal_int_L1 :: restF_slices_Equal_int_L1, iF_slices_Equal_int_L1 =>
    (idx p1 (iF_slices_Equal_int_L1 : Int)).bind fun x103 =>
    if (xF_slices_Equal_int_L1 != x103) then
      some false
    else
      (F_slices_Equal_int_L1 p1 restF_slices_Equal_int_L1 (iF_slices_Equal_int_L1 + 1))
def F_slices_Equal_int (p0 : (List Int)) (p1 : (List Int)) : Option Bool :=
  if ((p0.length : Int) != (p1.length : Int)) then
    some false
  else
    F_slices_Equal_int_L1 p1 p0 0


def F_shape_Set__push (p0 : (List TBand)) (p1 : TBand) : Option (List TBand) :=
  if (((p1.Xs.length : Int) == 0) || (decide (p1.Y1 ≤ p1.Y0))) then
    some p0
  else
    (if (decide (0 ≤ (w64 ((p0.length : Int) - 1)))) then 
      (idx p0 (w64 ((p0.length : Int) - 1))).bind fun x103 =>
      some (x103.Y1 == p1.Y0)
     else some false).bind fun g102 =>
    (if g102 then 
      (idx p0 (w64 ((p0.length : Int) - 1))).bind fun x108 =>
      (F_slices_Equal_int x108.Xs p1.Xs).bind fun y110 =>
      some y110
     else some false).bind fun g107 =>
    if g107 then
      (idx p0 (w64 ((p0.length : Int) - 1))).bind fun x111 =>
      (sets p0 (w64 ((p0.length : Int) - 1)) (TBand.mk x111.Y0 p1.Y1 x111.Xs)).bind fun l112 =>
      some l112
    else
      (apd p0 [p1]).bind fun l114 =>
      some l114

noncomputable def F_shape_SetOf_L5 (y102 : (List TRect)) (y122 : (List Int)) (x229 : Int) (l230 : List TBand) (kF_shape_SetOf_L4 : Int → (List TBand) → (List TRect) → Int → Option (List TBand)) : Nat → List TRect → Int → Option (List TBand)
  | 0, _, _ => none
  | mF_shape_SetOf_L5 + 1, l257, x258 =>
    (if (decide (x258 < (y102.length : Int))) then 
      (idx y102 x258).bind fun x262 =>
      (idx y122 x229).bind fun x263 =>
      some (decide (x262.Y0 ≤ x263))
     else some false).bind fun g261 =>
    if g261 then
      (idx y102 x258).bind fun x264 =>
      (apd l257 [x264]).bind fun l266 =>
      (F_shape_SetOf_L5 y102 y122 x229 l230 kF_shape_SetOf_L4 mF_shape_SetOf_L5) l266 (w64 (x258 + 1))
    else
      (idx y122 x229).bind fun x268 =>
      (idx y122 (w64 (x229 + 1))).bind fun x269 =>
      (F_shape_stretches l257).bind fun y270 =>
      (F_shape_Set__push l230 (TBand.mk x268 x269 y270.1)).bind fun y274 =>
      kF_shape_SetOf_L4 (w64 (x229 + 1)) y274 y270.2 x258
noncomputable def F_shape_SetOf_L4 (N : Nat) (y102 : (List TRect)) (y122 : (List Int)) : Nat → Int → List TBand → List TRect → Int → Option (List TBand)
  | 0, _, _, _, _ => none
  | mF_shape_SetOf_L4 + 1, x229, l230, l231, x232 =>
    if (decide ((w64 (x229 + 1)) < (y122.length : Int))) then
      (F_slices_DeleteFunc_Rect N l231 (fun z0 => F_shape_SetOf_2 z0 y122 x229)).bind fun y233 =>
      F_shape_SetOf_L5 y102 y122 x229 l230 (F_shape_SetOf_L4 N y102 y122 mF_shape_SetOf_L4) N y233 x232
    else
      some l230
noncomputable def F_shape_SetOf_L1 (N : Nat) (y102 : (List TRect)) : List TRect → Nat → List Int → Option (List TBand)
  | [], iF_shape_SetOf_L1, l119 =>
    (srtI l119).bind fun y120 =>
    (cpI y120).bind fun y122 =>
    F_shape_SetOf_L4 N y102 y122 N 0 ([] : List TBand) ([] : List TRect) 0
  | xF_shape_SetOf_L1 :: restF_shape_SetOf_L1, iF_shape_SetOf_L1, l119 =>
    (apd l119 [xF_shape_SetOf_L1.Y0, xF_shape_SetOf_L1.Y1]).bind fun l279 =>
    (F_shape_SetOf_L1 N y102 restF_shape_SetOf_L1 (iF_shape_SetOf_L1 + 1)) l279
noncomputable def F_shape_SetOf (N : Nat) (p0 : (List TRect)) : Option (List TBand) :=
  (F_slices_Clone_Rect p0).bind fun y100 =>
  (srtF y100 (fun z0 z1 => F_shape_SetOf_1 z0 z1)).bind fun y102 =>
  F_shape_SetOf_L1 N y102 y102 0 ([] : List Int)

def F_shape_Set__Rects_L4 (kF_shape_Set__Rects_L3 : (List TRect) → Option (List TRect)) (xF_shape_Set__Rects_L3 : TBand) : Nat → List TRect → Int → Option (List TRect)
  | 0, _, _ => none
  | mF_shape_Set__Rects_L4 + 1, l169, x170 =>
    if (decide (x170 < (xF_shape_Set__Rects_L3.Xs.length : Int))) then
      (idx xF_shape_Set__Rects_L3.Xs x170).bind fun x172 =>
      (idx xF_shape_Set__Rects_L3.Xs (w64 (x170 + 1))).bind fun x173 =>
      (apd l169 [(TRect.mk x172 xF_shape_Set__Rects_L3.Y0 x173 xF_shape_Set__Rects_L3.Y1)]).bind fun l174 =>
      (F_shape_Set__Rects_L4 kF_shape_Set__Rects_L3 xF_shape_Set__Rects_L3 mF_shape_Set__Rects_L4) l174 (w64 (x170 + 2))
    else
      kF_shape_Set__Rects_L3 l169
def F_shape_Set__Rects_L3 (N : Nat) : List TBand → Nat → List TRect → Option (List TRect)
  | [], iF_shape_Set__Rects_L3, l152 =>
    some l152
  | xF_shape_Set__Rects_L3 :: restF_shape_Set__Rects_L3, iF_shape_Set__Rects_L3, l152 =>
    F_shape_Set__Rects_L4 (F_shape_Set__Rects_L3 N restF_shape_Set__Rects_L3 (iF_shape_Set__Rects_L3 + 1)) xF_shape_Set__Rects_L3 N l152 0
def F_shape_Set__Rects (N : Nat) (p0 : (List TBand)) : Option (List TRect) :=
  F_shape_Set__Rects_L3 N p0 0 ([] : List TRect)

def F_slices_Equal_Rect_L1 (p1 : (List TRect)) : List TRect → Nat → Option Bool
  | [], iF_slices_Equal_Rect_L1 =>
    some true
  | xF_slices_Equal_Rect_L1 :: restF_slices_Equal_Rect_L1, iF_slices_Equal_Rect_L1 =>
    (idx p1 (iF_slices_Equal_Rect_L1 : Int)).bind fun x103 =>
    if (!(eqTRect xF_slices_Equal_Rect_L1 x103)) then
      some false
    else
      (F_slices_Equal_Rect_L1 p1 restF_slices_Equal_Rect_L1 (iF_slices_Equal_Rect_L1 + 1))
def F_slices_Equal_Rect (p0 : (List TRect)) (p1 : (List TRect)) : Option Bool :=
  if ((p0.length : Int) != (p1.length : Int)) then
    some false
  else
    F_slices_Equal_Rect_L1 p1 p0 0

noncomputable def F_shape_CheckRegion_L1 (N : Nat) (p0 : (List TRect)) : Nat → Int → Option Int
  | 0, _ => none
  | mF_shape_CheckRegion_L1 + 1, x116 =>
    if (decide (x116 < (p0.length : Int))) then
      (idx p0 (w64 (x116 - 1))).bind fun x118 =>
      (idx p0 x116).bind fun x119 =>
      if ((decide (x119.Y0 < x118.Y0)) || ((x119.Y0 == x118.Y0) && (decide (x119.X0 ≤ x118.X0)))) then
        some 8
      else
        (F_shape_CheckRegion_L1 N p0 mF_shape_CheckRegion_L1) (w64 (x116 + 1))
    else
      (F_shape_SetOf N p0).bind fun y123 =>
      (F_shape_Set__Rects N y123).bind fun y125 =>
      (F_slices_Equal_Rect y125 p0).bind fun y127 =>
      if (!y127) then
        some 3
      else
        some 0
noncomputable def F_shape_CheckRegion (N : Nat) (p0 : (List TRect)) : Option Int :=
  (F_shape_CheckRects p0).bind fun y100 =>
  if (y100 != 0) then
    some y100
  else
    F_shape_CheckRegion_L1 N p0 N 1

def F_shape_Set__Parts_1_L1 : Nat → List Int → Int → Option (Int × (List Int))
  | 0, _, _ => none
  | mF_shape_Set__Parts_1_L1 + 1, l118, x119 =>
    (idx l118 x119).bind fun x120 =>
    if (x120 != x119) then
      (idx l118 x119).bind fun x121 =>
      (idx l118 x121).bind fun x122 =>
      (idx l118 x119).bind fun x123 =>
      (sets l118 x119 x122).bind fun l124 =>
      (idx l124 x119).bind fun x125 =>
      (F_shape_Set__Parts_1_L1 mF_shape_Set__Parts_1_L1) l124 x125
    else
      some (x119, l118)
def F_shape_Set__Parts_1 (N : Nat) (p0 : Int) (q0 : (List Int)) : Option (Int × (List Int)) :=
  F_shape_Set__Parts_1_L1 N q0 p0

noncomputable def F_shape_Set__Parts_L24 (N : Nat) : List (List TRect) → Nat → List (List TBand) → Option (List (List TBand))
  | [], iF_shape_Set__Parts_L24, l674 =>
    some l674
  | xF_shape_Set__Parts_L24 :: restF_shape_Set__Parts_L24, iF_shape_Set__Parts_L24, l674 =>
    (F_shape_SetOf N xF_shape_Set__Parts_L24).bind fun y676 =>
    (apd l674 [y676]).bind fun l681 =>
    (F_shape_Set__Parts_L24 N restF_shape_Set__Parts_L24 (iF_shape_Set__Parts_L24 + 1)) l681
def F_shape_Set__Parts_J25 (kF_shape_Set__Parts_L23 : (List Int) → (List (Int × Int)) → (List (List TRect)) → Option (List (List TBand))) (xF_shape_Set__Parts_L23 : TRect) (y683 : (Int × (List Int))) (m690 : List (Int × Int)) (m691 : List (List TRect)) (x692 : Int) : Option (List (List TBand)) :=
  (idx m691 x692).bind fun l695 =>
  (apd l695 [xF_shape_Set__Parts_L23]).bind fun l699 =>
  (sets m691 x692 l699).bind fun l700 =>
  kF_shape_Set__Parts_L23 y683.2 m690 l700
noncomputable def F_shape_Set__Parts_L23 (N : Nat) : List TRect → Nat → List Int → List (Int × Int) → List (List TRect) → Option (List (List TBand))
  | [], iF_shape_Set__Parts_L23, l647, m648, m649 =>
    F_shape_Set__Parts_L24 N m649 0 ([] : List (List TBand))
  | xF_shape_Set__Parts_L23 :: restF_shape_Set__Parts_L23, iF_shape_Set__Parts_L23, l647, m648, m649 =>
    (F_shape_Set__Parts_1 N (iF_shape_Set__Parts_L23 : Int) l647).bind fun y683 =>
    (igetO m648 y683.1).bind fun g685 =>
    if (!g685.2) then
      (iputO m648 y683.1 (m649.length : Int)).bind fun m702 =>
      (apd m649 [[]]).bind fun l704 =>
      F_shape_Set__Parts_J25 (F_shape_Set__Parts_L23 N restF_shape_Set__Parts_L23 (iF_shape_Set__Parts_L23 + 1)) xF_shape_Set__Parts_L23 y683 m702 l704 (m649.length : Int)
    else
      F_shape_Set__Parts_J25 (F_shape_Set__Parts_L23 N restF_shape_Set__Parts_L23 (iF_shape_Set__Parts_L23 + 1)) xF_shape_Set__Parts_L23 y683 m648 m649 g685.1
def F_shape_Set__Parts_J30 (x582 : Int) (kF_shape_Set__Parts_L20 : (List Int) → Int → Int → Option (List (List TBand))) (xF_shape_Set__Parts_L20 : TBand) (l818 : List Int) : Option (List (List TBand)) :=
  kF_shape_Set__Parts_L20 l818 (w64 (x582 + (w64 (Int.tdiv (xF_shape_Set__Parts_L20.Xs.length : Int) 2)))) x582
def F_shape_Set__Parts_J34 (y100 : (List TRect)) (x898 : Int) (x899 : Int) (kF_shape_Set__Parts_L33 : (List Int) → Int → Int → Option (List (List TBand))) (l913 : List Int) : Option (List (List TBand)) :=
  (idx y100 x898).bind fun x916 =>
  (idx y100 x899).bind fun x917 =>
  if (decide (x916.X1 < x917.X1)) then
    kF_shape_Set__Parts_L33 l913 (w64 (x898 + 1)) x899
  else
    kF_shape_Set__Parts_L33 l913 x898 (w64 (x899 + 1))
def F_shape_Set__Parts_L33 (N : Nat) (y100 : (List TRect)) (x582 : Int) (kF_shape_Set__Parts_L20 : (List Int) → Int → Int → Option (List (List TBand))) (xF_shape_Set__Parts_L20 : TBand) : Nat → List Int → Int → Int → Option (List (List TBand))
  | 0, _, _, _ => none
  | mF_shape_Set__Parts_L33 + 1, l897, x898, x899 =>
    if ((decide (x898 < x582)) && (decide (x899 < (w64 (x582 + (w64 (Int.tdiv (xF_shape_Set__Parts_L20.Xs.length : Int) 2))))))) then
      (idx y100 x898).bind fun x918 =>
      (idx y100 x899).bind fun x919 =>
      (if (decide (x918.X0 < x919.X1)) then 
        (idx y100 x899).bind fun x923 =>
        (idx y100 x898).bind fun x924 =>
        some (decide (x923.X0 < x924.X1))
       else some false).bind fun g922 =>
      if g922 then
        (F_shape_Set__Parts_1 N x898 l897).bind fun y925 =>
        (F_shape_Set__Parts_1 N x899 y925.2).bind fun y927 =>
        (idx y927.2 (max y925.1 y927.1)).bind fun x929 =>
        (sets y927.2 (max y925.1 y927.1) (min y925.1 y927.1)).bind fun l930 =>
        F_shape_Set__Parts_J34 y100 x898 x899 (F_shape_Set__Parts_L33 N y100 x582 kF_shape_Set__Parts_L20 xF_shape_Set__Parts_L20 mF_shape_Set__Parts_L33) l930
      else
        F_shape_Set__Parts_J34 y100 x898 x899 (F_shape_Set__Parts_L33 N y100 x582 kF_shape_Set__Parts_L20 xF_shape_Set__Parts_L20 mF_shape_Set__Parts_L33) l897
    else
      F_shape_Set__Parts_J30 x582 kF_shape_Set__Parts_L20 xF_shape_Set__Parts_L20 l897
noncomputable def F_shape_Set__Parts_L20 (N : Nat) (p0 : (List TBand)) (y100 : (List TRect)) : List TBand → Nat → List Int → Int → Int → Option (List (List TBand))
  | [], iF_shape_Set__Parts_L20, l581, x582, x583 =>
    F_shape_Set__Parts_L23 N y100 0 l581 ([] : List (Int × Int)) ([] : List (List TRect))
  | xF_shape_Set__Parts_L20 :: restF_shape_Set__Parts_L20, iF_shape_Set__Parts_L20, l581, x582, x583 =>
    (if (decide (0 < (iF_shape_Set__Parts_L20 : Int))) then 
      (idx p0 (w64 ((iF_shape_Set__Parts_L20 : Int) - 1))).bind fun x824 =>
      some (x824.Y1 == xF_shape_Set__Parts_L20.Y0)
     else some false).bind fun g823 =>
    if g823 then
      F_shape_Set__Parts_L33 N y100 x582 (F_shape_Set__Parts_L20 N p0 y100 restF_shape_Set__Parts_L20 (iF_shape_Set__Parts_L20 + 1)) xF_shape_Set__Parts_L20 N l581 x583 x582
    else
      F_shape_Set__Parts_J30 x582 (F_shape_Set__Parts_L20 N p0 y100 restF_shape_Set__Parts_L20 (iF_shape_Set__Parts_L20 + 1)) xF_shape_Set__Parts_L20 l581
noncomputable def F_shape_Set__Parts_L1 (N : Nat) (p0 : (List TBand)) (y100 : (List TRect)) (l102 : List Int) : Nat → List Int → Int → Option (List (List TBand))
  | 0, _, _ => none
  | mF_shape_Set__Parts_L1 + 1, l115, x116 =>
    if (decide (x116 < (l102.length : Int))) then
      (idx l115 x116).bind fun x117 =>
      (sets l115 x116 x116).bind fun l118 =>
      (F_shape_Set__Parts_L1 N p0 y100 l102 mF_shape_Set__Parts_L1) l118 (w64 (x116 + 1))
    else
      F_shape_Set__Parts_L20 N p0 y100 p0 0 l115 0 0
noncomputable def F_shape_Set__Parts (N : Nat) (p0 : (List TBand)) : Option (List (List TBand)) :=
  (F_shape_Set__Rects N p0).bind fun y100 =>
  (mkl 0 (y100.length : Int)).bind fun l102 =>
  F_shape_Set__Parts_L1 N p0 y100 l102 N l102 0

def F_shape_Pieces_L1 (N : Nat) : List (List TBand) → Nat → List (List TRect) → Option ((List (List TRect)) × Int)
  | [], iF_shape_Pieces_L1, l127 =>
    some (l127, 0)
  | xF_shape_Pieces_L1 :: restF_shape_Pieces_L1, iF_shape_Pieces_L1, l127 =>
    (F_shape_Set__Rects N xF_shape_Pieces_L1).bind fun y129 =>
    (apd l127 [y129]).bind fun l134 =>
    (F_shape_Pieces_L1 N restF_shape_Pieces_L1 (iF_shape_Pieces_L1 + 1)) l134
noncomputable def F_shape_Pieces (N : Nat) (p0 : (List TRect)) : Option ((List (List TRect)) × Int) :=
  (F_shape_CheckRegion N p0).bind fun y100 =>
  if (y100 != 0) then
    some (([] : List (List TRect)), y100)
  else
    (F_shape_SetOf N p0).bind fun y101 =>
    (F_shape_Set__Parts N y101).bind fun y103 =>
    F_shape_Pieces_L1 N y103 0 ([] : List (List TRect))


def F_etchhouseref1_within (p0 : Int) (p1 : Int) (p2 : Int) : Option Bool :=
  some ((decide (p1 ≤ p0)) && (decide (p0 ≤ p2)))


def F_etchhouseref1_At (p0 : Int) : Option Bool :=
  (F_etchhouseref1_within p0 (-1000000) 1000000).bind fun y100 =>
  some y100

def F_etchhouseref1_CheckRects_L1 (p0 : (List TRect)) : Nat → Int → Option Int
  | 0, _ => none
  | mF_etchhouseref1_CheckRects_L1 + 1, x127 =>
    if (decide (x127 < (p0.length : Int))) then
      (idx p0 x127).bind fun x128 =>
      (F_etchhouseref1_At x128.X0).bind fun y130 =>
      (if (!y130) then some true else 
        (F_etchhouseref1_At x128.Y0).bind fun y133 =>
        some (!y133)
      ).bind fun g132 =>
      (if g132 then some true else 
        (F_etchhouseref1_At x128.X1).bind fun y136 =>
        some (!y136)
      ).bind fun g135 =>
      (if g135 then some true else 
        (F_etchhouseref1_At x128.Y1).bind fun y139 =>
        some (!y139)
      ).bind fun g138 =>
      if g138 then
        some 1
      else
        if ((decide (x128.X1 ≤ x128.X0)) || (decide (x128.Y1 ≤ x128.Y0))) then
          some 13
        else
          (F_etchhouseref1_CheckRects_L1 p0 mF_etchhouseref1_CheckRects_L1) (w64 (x127 + 1))
    else
      some 0
def F_etchhouseref1_CheckRects (N : Nat) (p0 : (List TRect)) : Option Int :=
  if (decide (2000 < (p0.length : Int))) then
    some 2
  else
    F_etchhouseref1_CheckRects_L1 p0 N 0


def F_etchhouseref1_before (p0 : TRect) (p1 : TRect) : Option Bool :=
  some ((decide (p0.Y0 < p1.Y0)) || ((p0.Y0 == p1.Y0) && (decide (p0.X0 < p1.X0))))

def F_etchhouseref1_put_L1 (p0 : (List Int)) (p1 : Int) : Nat → Int → Int → Option (List Int)
  | 0, _, _ => none
  | mF_etchhouseref1_put_L1 + 1, x108, x109 =>
    if (decide (x108 < x109)) then
      (idx p0 (w64 (Int.tdiv (w64 (x108 + x109)) 2))).bind fun x110 =>
      if (decide (x110 < p1)) then
        (F_etchhouseref1_put_L1 p0 p1 mF_etchhouseref1_put_L1) (w64 ((w64 (Int.tdiv (w64 (x108 + x109)) 2)) + 1)) x109
      else
        (F_etchhouseref1_put_L1 p0 p1 mF_etchhouseref1_put_L1) x108 (w64 (Int.tdiv (w64 (x108 + x109)) 2))
    else
      (if (decide (x108 < (p0.length : Int))) then 
        (idx p0 x108).bind fun x113 =>
        some (x113 == p1)
       else some false).bind fun g112 =>
      if g112 then
        some p0
      else
        (pre p0 x108).bind fun l114 =>
        (apd ([] : List Int) l114).bind fun l115 =>
        (apd l115 [p1]).bind fun l117 =>
        (cut p0 x108 (p0.length : Int)).bind fun l118 =>
        (apd l117 l118).bind fun l119 =>
        some l119
def F_etchhouseref1_put (N : Nat) (p0 : (List Int)) (p1 : Int) : Option (List Int) :=
  F_etchhouseref1_put_L1 p0 p1 N 0 (p0.length : Int)

def F_etchhouseref1_heights_L1 (N : Nat) (p0 : (List TRect)) : Nat → List Int → Int → Option (List Int)
  | 0, _, _ => none
  | mF_etchhouseref1_heights_L1 + 1, l122, x123 =>
    if (decide (x123 < (p0.length : Int))) then
      (idx p0 x123).bind fun x127 =>
      (idx p0 x123).bind fun x128 =>
      (F_etchhouseref1_put N l122 x127.Y0).bind fun y129 =>
      (F_etchhouseref1_put N y129 x128.Y1).bind fun y131 =>
      (F_etchhouseref1_heights_L1 N p0 mF_etchhouseref1_heights_L1) y131 (w64 (x123 + 1))
    else
      some l122
def F_etchhouseref1_heights (N : Nat) (p0 : (List TRect)) : Option (List Int) :=
  F_etchhouseref1_heights_L1 N p0 N ([] : List Int) 0

def F_etchhouseref1_joined_L2 (p0 : (List TSpan)) (l119 : List TSpan) : Nat → Int → Int → Int → Option (List TSpan)
  | 0, _, _, _ => none
  | mF_etchhouseref1_joined_L2 + 1, x148, x149, x150 =>
    (if (decide (x150 < (p0.length : Int))) then 
      (idx p0 x150).bind fun x153 =>
      some (decide (x153.from_ ≤ x149))
     else some false).bind fun g152 =>
    if g152 then
      (idx p0 x150).bind fun x155 =>
      (idx p0 x150).bind fun x156 =>
      (F_etchhouseref1_joined_L2 p0 l119 mF_etchhouseref1_joined_L2) (min x148 x155.from_) (max x149 x156.to_) (w64 (x150 + 1))
    else
      (apd l119 [(TSpan.mk x148 x149)]).bind fun l158 =>
      (cut p0 x150 (p0.length : Int)).bind fun l159 =>
      (apd l158 l159).bind fun l160 =>
      some l160
def F_etchhouseref1_joined_L1 (N : Nat) (p0 : (List TSpan)) (p1 : TSpan) : Nat → List TSpan → Int → Option (List TSpan)
  | 0, _, _ => none
  | mF_etchhouseref1_joined_L1 + 1, l119, x120 =>
    (if (decide (x120 < (p0.length : Int))) then 
      (idx p0 x120).bind fun x123 =>
      some (decide (x123.to_ < p1.from_))
     else some false).bind fun g122 =>
    if g122 then
      (idx p0 x120).bind fun x124 =>
      (apd l119 [x124]).bind fun l126 =>
      (F_etchhouseref1_joined_L1 N p0 p1 mF_etchhouseref1_joined_L1) l126 (w64 (x120 + 1))
    else
      F_etchhouseref1_joined_L2 p0 l119 N p1.from_ p1.to_ x120
def F_etchhouseref1_joined (N : Nat) (p0 : (List TSpan)) (p1 : TSpan) : Option (List TSpan) :=
  F_etchhouseref1_joined_L1 N p0 p1 N ([] : List TSpan) 0

def F_etchhouseref1_row_L1 (N : Nat) (p0 : (List TRect)) (p1 : Int) : Nat → List TSpan → Int → Option (List TSpan)
  | 0, _, _ => none
  | mF_etchhouseref1_row_L1 + 1, l122, x123 =>
    if (decide (x123 < (p0.length : Int))) then
      (idx p0 x123).bind fun x124 =>
      (if (decide (x124.Y0 ≤ p1)) then 
        (idx p0 x123).bind fun x127 =>
        some (decide (p1 < x127.Y1))
       else some false).bind fun g126 =>
      if g126 then
        (idx p0 x123).bind fun x128 =>
        (idx p0 x123).bind fun x129 =>
        (F_etchhouseref1_joined N l122 (TSpan.mk x128.X0 x129.X1)).bind fun y130 =>
        (F_etchhouseref1_row_L1 N p0 p1 mF_etchhouseref1_row_L1) y130 (w64 (x123 + 1))
      else
        (F_etchhouseref1_row_L1 N p0 p1 mF_etchhouseref1_row_L1) l122 (w64 (x123 + 1))
    else
      some l122
def F_etchhouseref1_row (N : Nat) (p0 : (List TRect)) (p1 : Int) : Option (List TSpan) :=
  F_etchhouseref1_row_L1 N p0 p1 N ([] : List TSpan) 0

def F_etchhouseref1_sameSpans_L1 (p0 : (List TSpan)) (p1 : (List TSpan)) : Nat → Int → Option Bool
  | 0, _ => none
  | mF_etchhouseref1_sameSpans_L1 + 1, x107 =>
    if (decide (x107 < (p0.length : Int))) then
      (idx p0 x107).bind fun x108 =>
      (idx p1 x107).bind fun x109 =>
      if (!(eqTSpan x108 x109)) then
        some false
      else
        (F_etchhouseref1_sameSpans_L1 p0 p1 mF_etchhouseref1_sameSpans_L1) (w64 (x107 + 1))
    else
      some true
def F_etchhouseref1_sameSpans (N : Nat) (p0 : (List TSpan)) (p1 : (List TSpan)) : Option Bool :=
  if ((p0.length : Int) != (p1.length : Int)) then
    some false
  else
    F_etchhouseref1_sameSpans_L1 p0 p1 N 0


def F_etchhouseref1_stacked (N : Nat) (p0 : (List Tetchhouseref1Band)) (p1 : Tetchhouseref1Band) : Option (List Tetchhouseref1Band) :=
  if ((p1.spans.length : Int) == 0) then
    some p0
  else
    (if (decide (0 < (p0.length : Int))) then 
      (idx p0 (w64 ((p0.length : Int) - 1))).bind fun x103 =>
      some (x103.to_ == p1.from_)
     else some false).bind fun g102 =>
    (if g102 then 
      (idx p0 (w64 ((p0.length : Int) - 1))).bind fun x108 =>
      (F_etchhouseref1_sameSpans N x108.spans p1.spans).bind fun y110 =>
      some y110
     else some false).bind fun g107 =>
    if g107 then
      (idx p0 (w64 ((p0.length : Int) - 1))).bind fun x111 =>
      (sets p0 (w64 ((p0.length : Int) - 1)) (Tetchhouseref1Band.mk x111.from_ p1.to_ x111.spans)).bind fun l112 =>
      some l112
    else
      (apd p0 [p1]).bind fun l114 =>
      some l114

def F_etchhouseref1_told_L4 (p0 : (List Tetchhouseref1Band)) (x207 : Int) (kF_etchhouseref1_told_L3 : (List TRect) → Int → Option (List TRect)) : Nat → List TRect → Int → Option (List TRect)
  | 0, _, _ => none
  | mF_etchhouseref1_told_L4 + 1, l242, x243 =>
    (idx p0 x207).bind fun x244 =>
    if (decide (x243 < (x244.spans.length : Int))) then
      (idx p0 x207).bind fun x247 =>
      (idx x247.spans x243).bind fun x249 =>
      (idx p0 x207).bind fun x250 =>
      (idx p0 x207).bind fun x252 =>
      (idx x252.spans x243).bind fun x254 =>
      (idx p0 x207).bind fun x255 =>
      (apd l242 [(TRect.mk x249.from_ x250.from_ x254.to_ x255.to_)]).bind fun l257 =>
      (F_etchhouseref1_told_L4 p0 x207 kF_etchhouseref1_told_L3 mF_etchhouseref1_told_L4) l257 (w64 (x243 + 1))
    else
      kF_etchhouseref1_told_L3 l242 (w64 (x207 + 1))
def F_etchhouseref1_told_L3 (N : Nat) (p0 : (List Tetchhouseref1Band)) : Nat → List TRect → Int → Option (List TRect)
  | 0, _, _ => none
  | mF_etchhouseref1_told_L3 + 1, l206, x207 =>
    if (decide (x207 < (p0.length : Int))) then
      F_etchhouseref1_told_L4 p0 x207 (F_etchhouseref1_told_L3 N p0 mF_etchhouseref1_told_L3) N l206 0
    else
      some l206
def F_etchhouseref1_told (N : Nat) (p0 : (List Tetchhouseref1Band)) : Option (List TRect) :=
  F_etchhouseref1_told_L3 N p0 N ([] : List TRect) 0

def F_etchhouseref1_Canonical_L1 (N : Nat) (p0 : (List TRect)) (y100 : (List Int)) : Nat → List Tetchhouseref1Band → Int → Option (List TRect)
  | 0, _, _ => none
  | mF_etchhouseref1_Canonical_L1 + 1, l128, x129 =>
    if (decide (x129 < (y100.length : Int))) then
      (idx y100 (w64 (x129 - 1))).bind fun x131 =>
      (idx y100 x129).bind fun x132 =>
      (idx y100 (w64 (x129 - 1))).bind fun x133 =>
      (F_etchhouseref1_row N p0 x133).bind fun y134 =>
      (F_etchhouseref1_stacked N l128 (Tetchhouseref1Band.mk x131 x132 y134)).bind fun y138 =>
      (F_etchhouseref1_Canonical_L1 N p0 y100 mF_etchhouseref1_Canonical_L1) y138 (w64 (x129 + 1))
    else
      (F_etchhouseref1_told N l128).bind fun y140 =>
      some y140
def F_etchhouseref1_Canonical (N : Nat) (p0 : (List TRect)) : Option (List TRect) :=
  (F_etchhouseref1_heights N p0).bind fun y100 =>
  F_etchhouseref1_Canonical_L1 N p0 y100 N ([] : List Tetchhouseref1Band) 1

def F_etchhouseref1_SameRects_L1 (p0 : (List TRect)) (p1 : (List TRect)) : Nat → Int → Option Bool
  | 0, _ => none
  | mF_etchhouseref1_SameRects_L1 + 1, x107 =>
    if (decide (x107 < (p0.length : Int))) then
      (idx p0 x107).bind fun x108 =>
      (idx p1 x107).bind fun x109 =>
      if (!(eqTRect x108 x109)) then
        some false
      else
        (F_etchhouseref1_SameRects_L1 p0 p1 mF_etchhouseref1_SameRects_L1) (w64 (x107 + 1))
    else
      some true
def F_etchhouseref1_SameRects (N : Nat) (p0 : (List TRect)) (p1 : (List TRect)) : Option Bool :=
  if ((p0.length : Int) != (p1.length : Int)) then
    some false
  else
    F_etchhouseref1_SameRects_L1 p0 p1 N 0

def F_etchhouseref1_CheckRegion_L1 (N : Nat) (p0 : (List TRect)) : Nat → Int → Option Int
  | 0, _ => none
  | mF_etchhouseref1_CheckRegion_L1 + 1, x110 =>
    if (decide (x110 < (p0.length : Int))) then
      (idx p0 (w64 (x110 - 1))).bind fun x111 =>
      (idx p0 x110).bind fun x112 =>
      (F_etchhouseref1_before x111 x112).bind fun y113 =>
      if (!y113) then
        some 8
      else
        (F_etchhouseref1_CheckRegion_L1 N p0 mF_etchhouseref1_CheckRegion_L1) (w64 (x110 + 1))
    else
      (F_etchhouseref1_Canonical N p0).bind fun y114 =>
      (F_etchhouseref1_SameRects N p0 y114).bind fun y116 =>
      if (!y116) then
        some 3
      else
        some 0
def F_etchhouseref1_CheckRegion (N : Nat) (p0 : (List TRect)) : Option Int :=
  (F_etchhouseref1_CheckRects N p0).bind fun y100 =>
  if (y100 != 0) then
    some y100
  else
    F_etchhouseref1_CheckRegion_L1 N p0 N 1


def F_etchhouseref1_touch (p0 : TRect) (p1 : TRect) : Option Bool :=
  some (((decide (0 < (w64 ((min p0.X1 p1.X1) - (max p0.X0 p1.X0))))) && (decide (0 ≤ (w64 ((min p0.Y1 p1.Y1) - (max p0.Y0 p1.Y0)))))) || ((decide (0 ≤ (w64 ((min p0.X1 p1.X1) - (max p0.X0 p1.X0))))) && (decide (0 < (w64 ((min p0.Y1 p1.Y1) - (max p0.Y0 p1.Y0)))))))

def F_etchhouseref1_insert_L1 (p0 : (List (List TRect))) (p1 : (List TRect)) : Nat → Int → Option (List (List TRect))
  | 0, _ => none
  | mF_etchhouseref1_insert_L1 + 1, x125 =>
    (if (decide (0 < x125)) then 
      (idx p1 0).bind fun x132 =>
      (idx p0 (w64 (x125 - 1))).bind fun x133 =>
      (idx x133 0).bind fun x135 =>
      (F_etchhouseref1_before x132 x135).bind fun y136 =>
      some y136
     else some false).bind fun g131 =>
    if g131 then
      (F_etchhouseref1_insert_L1 p0 p1 mF_etchhouseref1_insert_L1) (w64 (x125 - 1))
    else
      (pre p0 x125).bind fun l137 =>
      (apd ([] : List (List TRect)) l137).bind fun l138 =>
      (apd l138 [p1]).bind fun l140 =>
      (cut p0 x125 (p0.length : Int)).bind fun l141 =>
      (apd l140 l141).bind fun l142 =>
      some l142
def F_etchhouseref1_insert (N : Nat) (p0 : (List (List TRect))) (p1 : (List TRect)) : Option (List (List TRect)) :=
  F_etchhouseref1_insert_L1 p0 p1 N (p0.length : Int)

def F_etchhouseref1_PiecesOf_L13 (p0 : (List TRect)) (x588 : Int) (kF_etchhouseref1_PiecesOf_L12 : (List Bool) → (List TRect) → Int → Option (List (List TRect))) : Nat → List Bool → List TRect → Int → Option (List (List TRect))
  | 0, _, _, _ => none
  | mF_etchhouseref1_PiecesOf_L13 + 1, l624, l625, x626 =>
    if (decide (x626 < (p0.length : Int))) then
      (idx l624 x626).bind fun x627 =>
      (if (!x627) then 
        (idx l625 x588).bind fun x632 =>
        (idx p0 x626).bind fun x633 =>
        (F_etchhouseref1_touch x632 x633).bind fun y634 =>
        some y634
       else some false).bind fun g631 =>
      if g631 then
        (idx l624 x626).bind fun x635 =>
        (sets l624 x626 true).bind fun l636 =>
        (idx p0 x626).bind fun x637 =>
        (apd l625 [x637]).bind fun l639 =>
        (F_etchhouseref1_PiecesOf_L13 p0 x588 kF_etchhouseref1_PiecesOf_L12 mF_etchhouseref1_PiecesOf_L13) l636 l639 (w64 (x626 + 1))
      else
        (F_etchhouseref1_PiecesOf_L13 p0 x588 kF_etchhouseref1_PiecesOf_L12 mF_etchhouseref1_PiecesOf_L13) l624 l625 (w64 (x626 + 1))
    else
      kF_etchhouseref1_PiecesOf_L12 l624 l625 (w64 (x588 + 1))
def F_etchhouseref1_PiecesOf_L12 (N : Nat) (p0 : (List TRect)) (l468 : List (List TRect)) (x469 : Int) (kF_etchhouseref1_PiecesOf_L9 : (List Bool) → (List (List TRect)) → Int → Option (List (List TRect))) : Nat → List Bool → List TRect → Int → Option (List (List TRect))
  | 0, _, _, _ => none
  | mF_etchhouseref1_PiecesOf_L12 + 1, l586, l587, x588 =>
    if (decide (x588 < (l587.length : Int))) then
      F_etchhouseref1_PiecesOf_L13 p0 x588 (F_etchhouseref1_PiecesOf_L12 N p0 l468 x469 kF_etchhouseref1_PiecesOf_L9 mF_etchhouseref1_PiecesOf_L12) N l586 l587 0
    else
      (F_etchhouseref1_Canonical N l587).bind fun y640 =>
      (F_etchhouseref1_insert N l468 y640).bind fun y646 =>
      kF_etchhouseref1_PiecesOf_L9 l586 y646 (w64 (x469 + 1))
def F_etchhouseref1_PiecesOf_L9 (N : Nat) (p0 : (List TRect)) : Nat → List Bool → List (List TRect) → Int → Option (List (List TRect))
  | 0, _, _, _ => none
  | mF_etchhouseref1_PiecesOf_L9 + 1, l467, l468, x469 =>
    if (decide (x469 < (p0.length : Int))) then
      (idx l467 x469).bind fun x470 =>
      if x470 then
        (F_etchhouseref1_PiecesOf_L9 N p0 mF_etchhouseref1_PiecesOf_L9) l467 l468 (w64 (x469 + 1))
      else
        (idx l467 x469).bind fun x471 =>
        (sets l467 x469 true).bind fun l472 =>
        (idx p0 x469).bind fun x473 =>
        F_etchhouseref1_PiecesOf_L12 N p0 l468 x469 (F_etchhouseref1_PiecesOf_L9 N p0 mF_etchhouseref1_PiecesOf_L9) N l472 [x473] 0
    else
      some l468
def F_etchhouseref1_PiecesOf (N : Nat) (p0 : (List TRect)) : Option (List (List TRect)) :=
  (mkl false (p0.length : Int)).bind fun l100 =>
  F_etchhouseref1_PiecesOf_L9 N p0 N l100 ([] : List (List TRect)) 0


def F_etchhouseref1_Pieces (N : Nat) (p0 : (List TRect)) : Option ((List (List TRect)) × Int) :=
  (F_etchhouseref1_CheckRegion N p0).bind fun y100 =>
  if (y100 != 0) then
    some (([] : List (List TRect)), y100)
  else
    (F_etchhouseref1_PiecesOf N p0).bind fun y101 =>
    some (y101, 0)

def F_shape_Set__Around_L1 (x105 : TBand) (x110 : TBand) : List TBand → Nat → Int → Int → Option TRect
  | [], iF_shape_Set__Around_L1, x133, x134 =>
    some (TRect.mk x133 x105.Y0 x134 x110.Y1)
  | xF_shape_Set__Around_L1 :: restF_shape_Set__Around_L1, iF_shape_Set__Around_L1, x133, x134 =>
    (idx xF_shape_Set__Around_L1.Xs 0).bind fun x138 =>
    (idx xF_shape_Set__Around_L1.Xs (w64 ((xF_shape_Set__Around_L1.Xs.length : Int) - 1))).bind fun x139 =>
    (F_shape_Set__Around_L1 x105 x110 restF_shape_Set__Around_L1 (iF_shape_Set__Around_L1 + 1)) (min x133 x138) (max x134 x139)
def F_shape_Set__Around (p0 : (List TBand)) : Option TRect :=
  (idx p0 0).bind fun x102 =>
  (idx x102.Xs 0).bind fun x104 =>
  (idx p0 0).bind fun x105 =>
  (idx p0 0).bind fun x107 =>
  (idx x107.Xs 1).bind fun x109 =>
  (idx p0 (w64 ((p0.length : Int) - 1))).bind fun x110 =>
  F_shape_Set__Around_L1 x105 x110 p0 0 x104 x109

noncomputable def F_shape_Set__Spread_L1 (N : Nat) (p1 : Int) (p2 : Int) (p3 : Int) (p4 : Int) (y100 : (List TRect)) : Nat → List TRect → Int → Option (List TBand)
  | 0, _, _ => none
  | mF_shape_Set__Spread_L1 + 1, l116, x117 =>
    if (decide (x117 < (y100.length : Int))) then
      (idx l116 x117).bind fun x118 =>
      (idx l116 x117).bind fun x120 =>
      (sets l116 x117 (TRect.mk (w64 (x118.X0 - p1)) (w64 (x118.Y0 - p3)) (w64 (x118.X1 + p2)) (w64 (x118.Y1 + p4)))).bind fun l121 =>
      (F_shape_Set__Spread_L1 N p1 p2 p3 p4 y100 mF_shape_Set__Spread_L1) l121 (w64 (x117 + 1))
    else
      (F_shape_SetOf N l116).bind fun y122 =>
      some y122
noncomputable def F_shape_Set__Spread (N : Nat) (p0 : (List TBand)) (p1 : Int) (p2 : Int) (p3 : Int) (p4 : Int) : Option (List TBand) :=
  (F_shape_Set__Rects N p0).bind fun y100 =>
  F_shape_Set__Spread_L1 N p1 p2 p3 p4 y100 N y100 0


noncomputable def F_shape_Set__Wide (N : Nat) (p0 : (List TBand)) (p1 : Int) : Option (List TBand) :=
  (F_shape_Set__Spread N p0 p1 p1 p1 p1).bind fun y100 =>
  some y100


def F_shape_Set__at (p0 : (List TBand)) (p1 : Int) (p2 : Int) : Option ((List Int) × Int) :=
  if ((p0.length : Int) == 0) then
    some (([] : List Int), p2)
  else
    (idx p0 0).bind fun x102 =>
    if (decide (p1 < x102.Y0)) then
      (idx p0 0).bind fun x104 =>
      some ([], (min p2 x104.Y0))
    else
      (idx p0 0).bind fun x106 =>
      (idx p0 0).bind fun x108 =>
      some (x106.Xs, (min p2 x108.Y1))

def F_shape_line_J8 (p2 : Bool → Bool → Option Bool) (l232 : List Int) (x235 : Bool) (kF_shape_line_L7 : (List Int) → (List Int) → (List Int) → Bool → Bool → Bool → Option (List Int)) (x249 : Int) (l256 : List Int) (x257 : Bool) (l264 : List Int) (x265 : Bool) : Option (List Int) :=
  (p2 x257 x265).bind fun y268 =>
  if (y268 != x235) then
    (apd l232 [x249]).bind fun l270 =>
    kF_shape_line_L7 l256 l264 l270 x257 x265 y268
  else
    kF_shape_line_L7 l256 l264 l232 x257 x265 x235
def F_shape_line_J9 (p2 : Bool → Bool → Option Bool) (l231 : List Int) (l232 : List Int) (x234 : Bool) (x235 : Bool) (kF_shape_line_L7 : (List Int) → (List Int) → (List Int) → Bool → Bool → Bool → Option (List Int)) (x249 : Int) (l256 : List Int) (x257 : Bool) : Option (List Int) :=
  (if (decide (0 < (l231.length : Int))) then 
    (idx l231 0).bind fun x273 =>
    some (x273 == x249)
   else some false).bind fun g272 =>
  if g272 then
    (cut l231 1 (l231.length : Int)).bind fun l274 =>
    F_shape_line_J8 p2 l232 x235 kF_shape_line_L7 x249 l256 x257 l274 (!x234)
  else
    F_shape_line_J8 p2 l232 x235 kF_shape_line_L7 x249 l256 x257 l231 x234
def F_shape_line_J10 (p2 : Bool → Bool → Option Bool) (l230 : List Int) (l231 : List Int) (l232 : List Int) (x233 : Bool) (x234 : Bool) (x235 : Bool) (kF_shape_line_L7 : (List Int) → (List Int) → (List Int) → Bool → Bool → Bool → Option (List Int)) (x249 : Int) : Option (List Int) :=
  (if (decide (0 < (l230.length : Int))) then 
    (idx l230 0).bind fun x277 =>
    some (x277 == x249)
   else some false).bind fun g276 =>
  if g276 then
    (cut l230 1 (l230.length : Int)).bind fun l278 =>
    F_shape_line_J9 p2 l231 l232 x234 x235 kF_shape_line_L7 x249 l278 (!x233)
  else
    F_shape_line_J9 p2 l231 l232 x234 x235 kF_shape_line_L7 x249 l230 x233
def F_shape_line_L7 (p2 : Bool → Bool → Option Bool) : Nat → List Int → List Int → List Int → Bool → Bool → Bool → Option (List Int)
  | 0, _, _, _, _, _, _ => none
  | mF_shape_line_L7 + 1, l230, l231, l232, x233, x234, x235 =>
    if ((decide (0 < (l230.length : Int))) || (decide (0 < (l231.length : Int)))) then
      (if ((l231.length : Int) == 0) then some true else 
        (if (decide (0 < (l230.length : Int))) then 
          (idx l230 0).bind fun x288 =>
          (idx l231 0).bind fun x289 =>
          some (decide (x288 ≤ x289))
         else some false).bind fun g287 =>
        some g287
      ).bind fun g284 =>
      if g284 then
        (idx l230 0).bind fun x290 =>
        F_shape_line_J10 p2 l230 l231 l232 x233 x234 x235 (F_shape_line_L7 p2 mF_shape_line_L7) x290
      else
        (idx l231 0).bind fun x291 =>
        F_shape_line_J10 p2 l230 l231 l232 x233 x234 x235 (F_shape_line_L7 p2 mF_shape_line_L7) x291
    else
      some l232
def F_shape_line (N : Nat) (p0 : (List Int)) (p1 : (List Int)) (p2 : Bool → Bool → Option Bool) : Option (List Int) :=
  F_shape_line_L7 p2 N p0 p1 ([] : List Int) false false false

def F_shape_Merge_J4 (l152 : List (List TBand)) (x153 : Int) (kF_shape_Merge_L3 : Int → Int → (List (List TBand)) → Int → Option (List TBand)) (x154 : (List TBand)) (x160 : Int) (x161 : Int) : Option (List TBand) :=
  (idx x154 0).bind fun x164 =>
  (idx x154 (w64 ((x154.length : Int) - 1))).bind fun x166 =>
  kF_shape_Merge_L3 (min x160 x164.Y0) (max x161 x166.Y1) l152 (w64 (x153 + 1))
def F_shape_Merge_L11 (N : Nat) (p2 : Bool → Bool → Option Bool) (x151 : Int) (l294 : List TBand) (x295 : Int) (kF_shape_Merge_L9 : (List TBand) → (List TBand) → (List TBand) → Int → Option (List TBand)) (l311 : List TBand) : Nat → List TBand → Option (List TBand)
  | 0, _ => none
  | mF_shape_Merge_L11 + 1, l333 =>
    (if (decide (0 < (l333.length : Int))) then 
      (idx l333 0).bind fun x337 =>
      some (decide (x337.Y1 ≤ x295))
     else some false).bind fun g336 =>
    if g336 then
      (cut l333 1 (l333.length : Int)).bind fun l339 =>
      (F_shape_Merge_L11 N p2 x151 l294 x295 kF_shape_Merge_L9 l311 mF_shape_Merge_L11) l339
    else
      (F_shape_Set__at l311 x295 x151).bind fun y340 =>
      (F_shape_Set__at l333 x295 x151).bind fun y342 =>
      (F_shape_line N y340.1 y342.1 p2).bind fun y344 =>
      (F_shape_Set__push l294 (TBand.mk x295 (min y340.2 y342.2) y344)).bind fun y348 =>
      kF_shape_Merge_L9 l311 l333 y348 (min y340.2 y342.2)
def F_shape_Merge_L10 (N : Nat) (p2 : Bool → Bool → Option Bool) (x151 : Int) (l293 : List TBand) (l294 : List TBand) (x295 : Int) (kF_shape_Merge_L9 : (List TBand) → (List TBand) → (List TBand) → Int → Option (List TBand)) : Nat → List TBand → Option (List TBand)
  | 0, _ => none
  | mF_shape_Merge_L10 + 1, l311 =>
    (if (decide (0 < (l311.length : Int))) then 
      (idx l311 0).bind fun x315 =>
      some (decide (x315.Y1 ≤ x295))
     else some false).bind fun g314 =>
    if g314 then
      (cut l311 1 (l311.length : Int)).bind fun l317 =>
      (F_shape_Merge_L10 N p2 x151 l293 l294 x295 kF_shape_Merge_L9 mF_shape_Merge_L10) l317
    else
      F_shape_Merge_L11 N p2 x151 l294 x295 kF_shape_Merge_L9 l311 N l293
def F_shape_Merge_L9 (N : Nat) (p2 : Bool → Bool → Option Bool) (x151 : Int) : Nat → List TBand → List TBand → List TBand → Int → Option (List TBand)
  | 0, _, _, _, _ => none
  | mF_shape_Merge_L9 + 1, l292, l293, l294, x295 =>
    if (decide (x295 < x151)) then
      F_shape_Merge_L10 N p2 x151 l293 l294 x295 (F_shape_Merge_L9 N p2 x151 mF_shape_Merge_L9) N l292
    else
      some l294
def F_shape_Merge_L3 (N : Nat) (p0 : (List TBand)) (p1 : (List TBand)) (p2 : Bool → Bool → Option Bool) : Nat → Int → Int → List (List TBand) → Int → Option (List TBand)
  | 0, _, _, _, _ => none
  | mF_shape_Merge_L3 + 1, x150, x151, l152, x153 =>
    if (decide (x153 < 2)) then
      (idx l152 x153).bind fun x154 =>
      if (decide (0 < (x154.length : Int))) then
        if ((x153 == 0) || ((p0.length : Int) == 0)) then
          (idx x154 0).bind fun x168 =>
          (idx x154 (w64 ((x154.length : Int) - 1))).bind fun x170 =>
          F_shape_Merge_J4 l152 x153 (F_shape_Merge_L3 N p0 p1 p2 mF_shape_Merge_L3) x154 x168.Y0 x170.Y1
        else
          F_shape_Merge_J4 l152 x153 (F_shape_Merge_L3 N p0 p1 p2 mF_shape_Merge_L3) x154 x150 x151
      else
        (F_shape_Merge_L3 N p0 p1 p2 mF_shape_Merge_L3) x150 x151 l152 (w64 (x153 + 1))
    else
      F_shape_Merge_L9 N p2 x151 N p0 p1 ([] : List TBand) x150
def F_shape_Merge (N : Nat) (p0 : (List TBand)) (p1 : (List TBand)) (p2 : Bool → Bool → Option Bool) : Option (List TBand) :=
  if ((w64 ((p0.length : Int) + (p1.length : Int))) == 0) then
    some ([] : List TBand)
  else
    F_shape_Merge_L3 N p0 p1 p2 N 0 0 [p0, p1] 0


def F_shape_Set__Less_1 (p0 : Bool) (p1 : Bool) : Option Bool :=
  some (p0 && (!p1))


def F_shape_Set__Less (N : Nat) (p0 : (List TBand)) (p1 : (List TBand)) : Option (List TBand) :=
  (F_shape_Merge N p0 p1 (fun z0 z1 => F_shape_Set__Less_1 z0 z1)).bind fun y100 =>
  some y100


def F_shape_Set__First (p0 : (List TBand)) : Option TPoint :=
  (idx p0 0).bind fun x101 =>
  (idx x101.Xs 0).bind fun x103 =>
  (idx p0 0).bind fun x104 =>
  some (TPoint.mk x103 x104.Y0)

def F_shape_Holes_L1 (N : Nat) (y108 : (List TBand)) : List (List TBand) → Nat → List (List TRect) → Option ((List (List TRect)) × Int)
  | [], iF_shape_Holes_L1, l144 =>
    some (l144, 0)
  | xF_shape_Holes_L1 :: restF_shape_Holes_L1, iF_shape_Holes_L1, l144 =>
    (F_shape_Set__First xF_shape_Holes_L1).bind fun y146 =>
    (F_shape_Set__First y108).bind fun y147 =>
    if (!(eqTPoint y146 y147)) then
      (F_shape_Set__Rects N xF_shape_Holes_L1).bind fun y148 =>
      (apd l144 [y148]).bind fun l153 =>
      (F_shape_Holes_L1 N y108 restF_shape_Holes_L1 (iF_shape_Holes_L1 + 1)) l153
    else
      (F_shape_Holes_L1 N y108 restF_shape_Holes_L1 (iF_shape_Holes_L1 + 1)) l144
noncomputable def F_shape_Holes (N : Nat) (p0 : (List TRect)) : Option ((List (List TRect)) × Int) :=
  (F_shape_CheckRegion N p0).bind fun y100 =>
  if ((y100 != 0) || ((p0.length : Int) == 0)) then
    some (([] : List (List TRect)), y100)
  else
    (F_shape_SetOf N p0).bind fun y101 =>
    (F_shape_Set__Around y101).bind fun y103 =>
    (F_shape_SetOf N [y103]).bind fun y106 =>
    (F_shape_Set__Wide N y106 1).bind fun y108 =>
    (F_shape_Set__Less N y108 y101).bind fun y114 =>
    (F_shape_Set__Parts N y114).bind fun y116 =>
    F_shape_Holes_L1 N y108 y116 0 ([] : List (List TRect))

def F_etchhouseref1_BoundsOf_L1 (p0 : (List TRect)) : Nat → Int → Int → Int → Int → Int → Option TRect
  | 0, _, _, _, _, _ => none
  | mF_etchhouseref1_BoundsOf_L1 + 1, x128, x129, x130, x131, x132 =>
    if (decide (x132 < (p0.length : Int))) then
      (idx p0 x132).bind fun x134 =>
      (idx p0 x132).bind fun x135 =>
      (idx p0 x132).bind fun x136 =>
      (idx p0 x132).bind fun x137 =>
      (F_etchhouseref1_BoundsOf_L1 p0 mF_etchhouseref1_BoundsOf_L1) (min x128 x134.X0) (min x129 x135.Y0) (max x130 x136.X1) (max x131 x137.Y1) (w64 (x132 + 1))
    else
      some (TRect.mk x128 x129 x130 x131)
def F_etchhouseref1_BoundsOf (N : Nat) (p0 : (List TRect)) : Option TRect :=
  (idx p0 0).bind fun x101 =>
  F_etchhouseref1_BoundsOf_L1 p0 N x101.X0 x101.Y0 x101.X1 x101.Y1 0


def F_etchhouseref1_wider (p0 : TRect) (p1 : Int) : Option TRect :=
  some (TRect.mk (w64 (p0.X0 - p1)) (w64 (p0.Y0 - p1)) (w64 (p0.X1 + p1)) (w64 (p0.Y1 + p1)))

def F_etchhouseref1_inside_L1 (p0 : (List TSpan)) (p1 : Int) : Nat → Int → Option Bool
  | 0, _ => none
  | mF_etchhouseref1_inside_L1 + 1, x111 =>
    if (decide (x111 < (p0.length : Int))) then
      (idx p0 x111).bind fun x112 =>
      (if (decide (x112.from_ ≤ p1)) then 
        (idx p0 x111).bind fun x115 =>
        some (decide (p1 < x115.to_))
       else some false).bind fun g114 =>
      if g114 then
        some true
      else
        (F_etchhouseref1_inside_L1 p0 p1 mF_etchhouseref1_inside_L1) (w64 (x111 + 1))
    else
      some false
def F_etchhouseref1_inside (N : Nat) (p0 : (List TSpan)) (p1 : Int) : Option Bool :=
  F_etchhouseref1_inside_L1 p0 p1 N 0

def F_etchhouseref1_mixed_L3 (N : Nat) (p0 : (List TSpan)) (p1 : (List TSpan)) (p2 : Int) (l153 : List Int) : Nat → List TSpan → Int → Option (List TSpan)
  | 0, _, _ => none
  | mF_etchhouseref1_mixed_L3 + 1, l184, x185 =>
    if (decide (x185 < (l153.length : Int))) then
      (idx l153 (w64 (x185 - 1))).bind fun x186 =>
      (F_etchhouseref1_inside N p0 x186).bind fun y187 =>
      (idx l153 (w64 (x185 - 1))).bind fun x188 =>
      (F_etchhouseref1_inside N p1 x188).bind fun y189 =>
      if ((((p2 == 1) && (y187 || y189)) || (((p2 == 2) && y187) && y189)) || (((p2 == 3) && y187) && (!y189))) then
        (idx l153 (w64 (x185 - 1))).bind fun x190 =>
        (idx l153 x185).bind fun x191 =>
        (F_etchhouseref1_joined N l184 (TSpan.mk x190 x191)).bind fun y192 =>
        (F_etchhouseref1_mixed_L3 N p0 p1 p2 l153 mF_etchhouseref1_mixed_L3) y192 (w64 (x185 + 1))
      else
        (F_etchhouseref1_mixed_L3 N p0 p1 p2 l153 mF_etchhouseref1_mixed_L3) l184 (w64 (x185 + 1))
    else
      some l184
def F_etchhouseref1_mixed_L2 (N : Nat) (p0 : (List TSpan)) (p1 : (List TSpan)) (p2 : Int) : Nat → List Int → Int → Option (List TSpan)
  | 0, _, _ => none
  | mF_etchhouseref1_mixed_L2 + 1, l153, x154 =>
    if (decide (x154 < (p1.length : Int))) then
      (idx p1 x154).bind fun x156 =>
      (idx p1 x154).bind fun x157 =>
      (F_etchhouseref1_put N l153 x156.from_).bind fun y158 =>
      (F_etchhouseref1_put N y158 x157.to_).bind fun y160 =>
      (F_etchhouseref1_mixed_L2 N p0 p1 p2 mF_etchhouseref1_mixed_L2) y160 (w64 (x154 + 1))
    else
      F_etchhouseref1_mixed_L3 N p0 p1 p2 l153 N ([] : List TSpan) 1
def F_etchhouseref1_mixed_L1 (N : Nat) (p0 : (List TSpan)) (p1 : (List TSpan)) (p2 : Int) : Nat → List Int → Int → Option (List TSpan)
  | 0, _, _ => none
  | mF_etchhouseref1_mixed_L1 + 1, l122, x123 =>
    if (decide (x123 < (p0.length : Int))) then
      (idx p0 x123).bind fun x127 =>
      (idx p0 x123).bind fun x128 =>
      (F_etchhouseref1_put N l122 x127.from_).bind fun y129 =>
      (F_etchhouseref1_put N y129 x128.to_).bind fun y131 =>
      (F_etchhouseref1_mixed_L1 N p0 p1 p2 mF_etchhouseref1_mixed_L1) y131 (w64 (x123 + 1))
    else
      F_etchhouseref1_mixed_L2 N p0 p1 p2 N l122 0
def F_etchhouseref1_mixed (N : Nat) (p0 : (List TSpan)) (p1 : (List TSpan)) (p2 : Int) : Option (List TSpan) :=
  F_etchhouseref1_mixed_L1 N p0 p1 p2 N ([] : List Int) 0

def F_etchhouseref1_combined_L1 (N : Nat) (p0 : (List TRect)) (p1 : (List TRect)) (p2 : Int) (y102 : (List Int)) : Nat → List Tetchhouseref1Band → Int → Option (List TRect)
  | 0, _, _ => none
  | mF_etchhouseref1_combined_L1 + 1, l140, x141 =>
    if (decide (x141 < (y102.length : Int))) then
      (idx y102 (w64 (x141 - 1))).bind fun x143 =>
      (idx y102 x141).bind fun x144 =>
      (idx y102 (w64 (x141 - 1))).bind fun x145 =>
      (idx y102 (w64 (x141 - 1))).bind fun x146 =>
      (F_etchhouseref1_row N p0 x145).bind fun y147 =>
      (F_etchhouseref1_row N p1 x146).bind fun y149 =>
      (F_etchhouseref1_mixed N y147 y149 p2).bind fun y151 =>
      (F_etchhouseref1_stacked N l140 (Tetchhouseref1Band.mk x143 x144 y151)).bind fun y155 =>
      (F_etchhouseref1_combined_L1 N p0 p1 p2 y102 mF_etchhouseref1_combined_L1) y155 (w64 (x141 + 1))
    else
      (F_etchhouseref1_told N l140).bind fun y157 =>
      some y157
def F_etchhouseref1_combined (N : Nat) (p0 : (List TRect)) (p1 : (List TRect)) (p2 : Int) : Option (List TRect) :=
  (apd ([] : List TRect) p0).bind fun l100 =>
  (apd l100 p1).bind fun l101 =>
  (F_etchhouseref1_heights N l101).bind fun y102 =>
  F_etchhouseref1_combined_L1 N p0 p1 p2 y102 N ([] : List Tetchhouseref1Band) 1

def F_etchhouseref1_HolesOf_L1 (N : Nat) (y101 : TRect) (y106 : (List (List TRect))) : Nat → List (List TRect) → Int → Option (List (List TRect))
  | 0, _, _ => none
  | mF_etchhouseref1_HolesOf_L1 + 1, l128, x129 =>
    if (decide (x129 < (y106.length : Int))) then
      (idx y106 x129).bind fun x130 =>
      (F_etchhouseref1_BoundsOf N x130).bind fun y132 =>
      if (!(eqTRect y132 y101)) then
        (idx y106 x129).bind fun x133 =>
        (apd l128 [x133]).bind fun l136 =>
        (F_etchhouseref1_HolesOf_L1 N y101 y106 mF_etchhouseref1_HolesOf_L1) l136 (w64 (x129 + 1))
      else
        (F_etchhouseref1_HolesOf_L1 N y101 y106 mF_etchhouseref1_HolesOf_L1) l128 (w64 (x129 + 1))
    else
      some l128
def F_etchhouseref1_HolesOf (N : Nat) (p0 : (List TRect)) : Option (List (List TRect)) :=
  if ((p0.length : Int) == 0) then
    some ([] : List (List TRect))
  else
    (F_etchhouseref1_BoundsOf N p0).bind fun y100 =>
    (F_etchhouseref1_wider y100 1).bind fun y101 =>
    (F_etchhouseref1_combined N [y101] p0 3).bind fun y104 =>
    (F_etchhouseref1_PiecesOf N y104).bind fun y106 =>
    F_etchhouseref1_HolesOf_L1 N y101 y106 N ([] : List (List TRect)) 0


def F_etchhouseref1_Holes (N : Nat) (p0 : (List TRect)) : Option ((List (List TRect)) × Int) :=
  (F_etchhouseref1_CheckRegion N p0).bind fun y100 =>
  if (y100 != 0) then
    some (([] : List (List TRect)), y100)
  else
    (F_etchhouseref1_HolesOf N p0).bind fun y101 =>
    some (y101, 0)

def F_shape_AreaOf_L1 : List TRect → Nat → Int → Option Int
  | [], iF_shape_AreaOf_L1, x110 =>
    some x110
  | xF_shape_AreaOf_L1 :: restF_shape_AreaOf_L1, iF_shape_AreaOf_L1, x110 =>
    (F_shape_AreaOf_L1 restF_shape_AreaOf_L1 (iF_shape_AreaOf_L1 + 1)) (w64 (x110 + (w64 ((w64 (xF_shape_AreaOf_L1.X1 - xF_shape_AreaOf_L1.X0)) * (w64 (xF_shape_AreaOf_L1.Y1 - xF_shape_AreaOf_L1.Y0))))))
def F_shape_AreaOf (p0 : (List TRect)) : Option Int :=
  F_shape_AreaOf_L1 p0 0 0


noncomputable def F_shape_Area (N : Nat) (p0 : (List TRect)) : Option (Int × Int) :=
  (F_shape_CheckRegion N p0).bind fun y100 =>
  if (y100 != 0) then
    some (0, y100)
  else
    (F_shape_AreaOf p0).bind fun y101 =>
    some (y101, 0)


noncomputable def F_etchhouselaw1_awake (N : Nat)  : Option Bool :=
  (F_shape_Area N [(TRect.mk 0 0 2 3)]).bind fun y101 =>
  some ((y101.2 == 0) && (y101.1 == 6))

def F_slices_EqualFunc_Rect__Rect_L1 (p1 : (List (List TRect))) : List (List TRect) → Nat → Option Bool
  | [], iF_slices_EqualFunc_Rect__Rect_L1 =>
    some true
  | xF_slices_EqualFunc_Rect__Rect_L1 :: restF_slices_EqualFunc_Rect__Rect_L1, iF_slices_EqualFunc_Rect__Rect_L1 =>
    (idx p1 (iF_slices_EqualFunc_Rect__Rect_L1 : Int)).bind fun x107 =>
    (F_slices_Equal_Rect xF_slices_EqualFunc_Rect__Rect_L1 x107).bind fun y109 =>
    if (!y109) then
      some false
    else
      (F_slices_EqualFunc_Rect__Rect_L1 p1 restF_slices_EqualFunc_Rect__Rect_L1 (iF_slices_EqualFunc_Rect__Rect_L1 + 1))
def F_slices_EqualFunc_Rect__Rect (p0 : (List (List TRect))) (p1 : (List (List TRect))) : Option Bool :=
  if ((p0.length : Int) != (p1.length : Int)) then
    some false
  else
    F_slices_EqualFunc_Rect__Rect_L1 p1 p0 0


noncomputable def F_etchhouselaw1_PiecesMatchSpec (N : Nat) (p0 : (List TRect)) : Option Bool :=
  (F_shape_Pieces N p0).bind fun y100 =>
  (F_etchhouseref1_Pieces N p0).bind fun y102 =>
  (F_shape_Holes N p0).bind fun y104 =>
  (F_etchhouseref1_Holes N p0).bind fun y106 =>
  (F_slices_EqualFunc_Rect__Rect y100.1 y102.1).bind fun y108 =>
  (if (y108 && (y100.2 == y102.2)) then 
    (F_slices_EqualFunc_Rect__Rect y104.1 y106.1).bind fun y111 =>
    some y111
   else some false).bind fun g110 =>
  (if (g110 && (y104.2 == y106.2)) then 
    (F_etchhouselaw1_awake N).bind fun y114 =>
    some y114
   else some false).bind fun g113 =>
  some g113

def F_shape_Set__Many_L1 : List TBand → Nat → Int → Option Int
  | [], iF_shape_Set__Many_L1, x112 =>
    some x112
  | xF_shape_Set__Many_L1 :: restF_shape_Set__Many_L1, iF_shape_Set__Many_L1, x112 =>
    (F_shape_Set__Many_L1 restF_shape_Set__Many_L1 (iF_shape_Set__Many_L1 + 1)) (w64 (x112 + (w64 (Int.tdiv (xF_shape_Set__Many_L1.Xs.length : Int) 2))))
def F_shape_Set__Many (p0 : (List TBand)) : Option Int :=
  F_shape_Set__Many_L1 p0 0 0


def F_shape_Set__Told (N : Nat) (p0 : (List TBand)) : Option ((List TRect) × Int) :=
  (F_shape_Set__Many p0).bind fun y100 =>
  if (decide (2000 < y100)) then
    some (([] : List TRect), 2)
  else
    (F_shape_Set__Rects N p0).bind fun y101 =>
    some (y101, 0)


noncomputable def F_shape_Region (N : Nat) (p0 : (List TRect)) : Option ((List TRect) × Int) :=
  (F_shape_CheckRects p0).bind fun y100 =>
  if (y100 != 0) then
    some (([] : List TRect), y100)
  else
    (F_shape_SetOf N p0).bind fun y101 =>
    (F_shape_Set__Told N y101).bind fun y103 =>
    some (y103.1, y103.2)

end Go.Proofs.Ytnlhigfglfahiaa
