/- The plain functions: what each function of the program computes; none where it would panic. -/
import Derived.Test.YtcebbfodkadggaaGT
namespace Go.Proofs.Ytcebbfodkadggaa
open Go.RowKit

def F_shape_within (p0 : Int) (p1 : Int) (p2 : Int) : Option Bool :=
  some ((decide (p1 ≤ p0)) && (decide (p0 ≤ p2)))


def F_shape_IsAt (p0 : Int) : Option Bool :=
  (F_shape_within p0 (-1000000) 1000000).bind fun y100 =>
  some y100


def F_shape_isRect (p0 : TRect) : Option Bool :=
  (F_shape_IsAt p0.X0).bind fun y101 =>
  (if y101 then 
    (F_shape_IsAt p0.Y0).bind fun y104 =>
    some y104
   else some false).bind fun g103 =>
  (if g103 then 
    (F_shape_IsAt p0.X1).bind fun y107 =>
    some y107
   else some false).bind fun g106 =>
  (if g106 then 
    (F_shape_IsAt p0.Y1).bind fun y110 =>
    some y110
   else some false).bind fun g109 =>
  some g109

def F_shape_CheckRects_L1 : List TRect → Nat → Option Int
  | [], iF_shape_CheckRects_L1 =>
    some 0
  | xF_shape_CheckRects_L1 :: restF_shape_CheckRects_L1, iF_shape_CheckRects_L1 =>
    (F_shape_isRect xF_shape_CheckRects_L1).bind fun y105 =>
    if (!y105) then
      some 1
    else
      if ((decide (xF_shape_CheckRects_L1.X1 ≤ xF_shape_CheckRects_L1.X0)) || (decide (xF_shape_CheckRects_L1.Y1 ≤ xF_shape_CheckRects_L1.Y0))) then
        some 13
      else
        (F_shape_CheckRects_L1 restF_shape_CheckRects_L1 (iF_shape_CheckRects_L1 + 1))
def F_shape_CheckRects (p0 : (List TRect)) : Option Int :=
  if (decide (2000 < (p0.length : Int))) then
    some 2
  else
    F_shape_CheckRects_L1 p0 0


def F_slices_Clone_Rect (p0 : (List TRect)) : Option (List TRect) :=
  (apd ([] : List TRect) p0).bind fun l101 =>
  some l101



def F_shape_SetOf_1 (p0 : TRect) (p1 : TRect) : Option Int :=
  some (w64 (p0.Y0 - p1.Y0))




def F_shape_SetOf_2 (p0 : TRect) (q0 : (List Int)) (q1 : Int) : Option Bool :=
  (idx q0 q1).bind fun x101 =>
  some (decide (p0.Y1 ≤ x101))

def F_slices_IndexFunc_Rect_L1 (p1 : TRect → Option Bool) : List TRect → Nat → Option Int
  | [], iF_slices_IndexFunc_Rect_L1 =>
    some (-1)
  | xF_slices_IndexFunc_Rect_L1 :: restF_slices_IndexFunc_Rect_L1, iF_slices_IndexFunc_Rect_L1 =>
    (p1 xF_slices_IndexFunc_Rect_L1).bind fun y103 =>
    if y103 then
      some (iF_slices_IndexFunc_Rect_L1 : Int)
    else
      (F_slices_IndexFunc_Rect_L1 p1 restF_slices_IndexFunc_Rect_L1 (iF_slices_IndexFunc_Rect_L1 + 1))
def F_slices_IndexFunc_Rect (p0 : (List TRect)) (p1 : TRect → Option Bool) : Option Int :=
  F_slices_IndexFunc_Rect_L1 p1 p0 0

def F_slices_DeleteFunc_Rect_L1 (p1 : TRect → Option Bool) : Nat → List TRect → Int → Int → Option (List TRect)
  | 0, _, _, _ => none
  | mF_slices_DeleteFunc_Rect_L1 + 1, l120, x121, x122 =>
    if (decide (x122 < (l120.length : Int))) then
      (idx l120 x122).bind fun x123 =>
      (p1 x123).bind fun y125 =>
      if (!y125) then
        (idx l120 x121).bind fun x126 =>
        (sets l120 x121 x123).bind fun l127 =>
        (F_slices_DeleteFunc_Rect_L1 p1 mF_slices_DeleteFunc_Rect_L1) l127 (w64 (x121 + 1)) (w64 (x122 + 1))
      else
        (F_slices_DeleteFunc_Rect_L1 p1 mF_slices_DeleteFunc_Rect_L1) l120 x121 (w64 (x122 + 1))
    else
      (cut l120 x121 (l120.length : Int)).bind fun l128 =>
      (pre (clr l120 x121 (l128).length (TRect.mk 0 0 0 0)) x121).bind fun l129 =>
      some l129
def F_slices_DeleteFunc_Rect (N : Nat) (p0 : (List TRect)) (p1 : TRect → Option Bool) : Option (List TRect) :=
  (F_slices_IndexFunc_Rect p0 p1).bind fun y100 =>
  if (y100 == (-1)) then
    some p0
  else
    F_slices_DeleteFunc_Rect_L1 p1 N p0 y100 (w64 (y100 + 1))


def F_shape_stretches_1 (p0 : TRect) (p1 : TRect) : Option Int :=
  some (w64 (p0.X0 - p1.X0))

def F_shape_stretches_L1 (y100 : (List TRect)) : List TRect → Nat → List Int → Option ((List Int) × (List TRect))
  | [], iF_shape_stretches_L1, l128 =>
    some (l128, y100)
  | xF_shape_stretches_L1 :: restF_shape_stretches_L1, iF_shape_stretches_L1, l128 =>
    (if (decide (0 ≤ (w64 ((l128.length : Int) - 1)))) then 
      (idx l128 (w64 ((l128.length : Int) - 1))).bind fun x132 =>
      some (decide (xF_shape_stretches_L1.X0 ≤ x132))
     else some false).bind fun g131 =>
    if g131 then
      (idx l128 (w64 ((l128.length : Int) - 1))).bind fun x133 =>
      (idx l128 (w64 ((l128.length : Int) - 1))).bind fun x134 =>
      (sets l128 (w64 ((l128.length : Int) - 1)) (max x133 xF_shape_stretches_L1.X1)).bind fun l135 =>
      (F_shape_stretches_L1 y100 restF_shape_stretches_L1 (iF_shape_stretches_L1 + 1)) l135
    else
      (apd l128 [xF_shape_stretches_L1.X0, xF_shape_stretches_L1.X1]).bind fun l137 =>
      (F_shape_stretches_L1 y100 restF_shape_stretches_L1 (iF_shape_stretches_L1 + 1)) l137
noncomputable def F_shape_stretches (p0 : (List TRect)) : Option ((List Int) × (List TRect)) :=
  (srtF p0 (fun z0 z1 => F_shape_stretches_1 z0 z1)).bind fun y100 =>
  F_shape_stretches_L1 y100 y100 0 ([] : List Int)

def F_slices_Equal_int_L1 (p1 : (List Int)) : List Int → Nat → Option Bool
  | [], iF_slices_Equal_int_L1 =>
    some true
  | xF_slices_Equal_int_L1 :: restF_slices_Equal_int_L1, iF_slices_Equal_int_L1 =>
    (idx p1 (iF_slices_Equal_int_L1 : Int)).bind fun x103 =>
    if (xF_slices_Equal_int_L1 != x103) then
      some false
    else
      (F_slices_Equal_int_L1 p1 restF_slices_Equal_int_L1 (iF_slices_Equal_int_L1 + 1))
def F_slices_Equal_int (p0 : (List Int)) (p1 : (List Int)) : Option Bool :=
  if ((p0.length : Int) != (p1.length : Int)) then
    some false
  else
    F_slices_Equal_int_L1 p1 p0 0


def F_shape_Set__push (p0 : (List TBand)) (p1 : TBand) : Option (List TBand) :=
  if (((p1.Xs.length : Int) == 0) || (decide (p1.Y1 ≤ p1.Y0))) then
    some p0
  else
    (if (decide (0 ≤ (w64 ((p0.length : Int) - 1)))) then 
      (idx p0 (w64 ((p0.length : Int) - 1))).bind fun x103 =>
      some (x103.Y1 == p1.Y0)
     else some false).bind fun g102 =>
    (if g102 then 
      (idx p0 (w64 ((p0.length : Int) - 1))).bind fun x108 =>
      (F_slices_Equal_int x108.Xs p1.Xs).bind fun y110 =>
      some y110
     else some false).bind fun g107 =>
    if g107 then
      (idx p0 (w64 ((p0.length : Int) - 1))).bind fun x111 =>
      (sets p0 (w64 ((p0.length : Int) - 1)) (TBand.mk x111.Y0 p1.Y1 x111.Xs)).bind fun l112 =>
      some l112
    else
      (apd p0 [p1]).bind fun l114 =>
      some l114

noncomputable def F_shape_SetOf_L5 (y102 : (List TRect)) (y122 : (List Int)) (x229 : Int) (l230 : List TBand) (kF_shape_SetOf_L4 : Int → (List TBand) → (List TRect) → Int → Option (List TBand)) : Nat → List TRect → Int → Option (List TBand)
  | 0, _, _ => none
  | mF_shape_SetOf_L5 + 1, l257, x258 =>
    (if (decide (x258 < (y102.length : Int))) then 
      (idx y102 x258).bind fun x262 =>
      (idx y122 x229).bind fun x263 =>
      some (decide (x262.Y0 ≤ x263))
     else some false).bind fun g261 =>
    if g261 then
      (idx y102 x258).bind fun x264 =>
      (apd l257 [x264]).bind fun l266 =>
      (F_shape_SetOf_L5 y102 y122 x229 l230 kF_shape_SetOf_L4 mF_shape_SetOf_L5) l266 (w64 (x258 + 1))
    else
      (idx y122 x229).bind fun x268 =>
      (idx y122 (w64 (x229 + 1))).bind fun x269 =>
      (F_shape_stretches l257).bind fun y270 =>
      (F_shape_Set__push l230 (TBand.mk x268 x269 y270.1)).bind fun y274 =>
      kF_shape_SetOf_L4 (w64 (x229 + 1)) y274 y270.2 x258
noncomputable def F_shape_SetOf_L4 (N : Nat) (y102 : (List TRect)) (y122 : (List Int)) : Nat → Int → List TBand → List TRect → Int → Option (List TBand)
  | 0, _, _, _, _ => none
  | mF_shape_SetOf_L4 + 1, x229, l230, l231, x232 =>
    if (decide ((w64 (x229 + 1)) < (y122.length : Int))) then
      (F_slices_DeleteFunc_Rect N l231 (fun z0 => F_shape_SetOf_2 z0 y122 x229)).bind fun y233 =>
      F_shape_SetOf_L5 y102 y122 x229 l230 (F_shape_SetOf_L4 N y102 y122 mF_shape_SetOf_L4) N y233 x232
    else
      some l230
noncomputable def F_shape_SetOf_L1 (N : Nat) (y102 : (List TRect)) : List TRect → Nat → List Int → Option (List TBand)
  | [], iF_shape_SetOf_L1, l119 =>
    (srtI l119).bind fun y120 =>
    (cpI y120).bind fun y122 =>
    F_shape_SetOf_L4 N y102 y122 N 0 ([] : List TBand) ([] : List TRect) 0
  | xF_shape_SetOf_L1 :: restF_shape_SetOf_L1, iF_shape_SetOf_L1, l119 =>
    (apd l119 [xF_shape_SetOf_L1.Y0, xF_shape_SetOf_L1.Y1]).bind fun l279 =>
    (F_shape_SetOf_L1 N y102 restF_shape_SetOf_L1 (iF_shape_SetOf_L1 + 1)) l279
noncomputable def F_shape_SetOf (N : Nat) (p0 : (List TRect)) : Option (List TBand) :=
  (F_slices_Clone_Rect p0).bind fun y100 =>
  (srtF y100 (fun z0 z1 => F_shape_SetOf_1 z0 z1)).bind fun y102 =>
  F_shape_SetOf_L1 N y102 y102 0 ([] : List Int)

def F_shape_Set__Rects_L4 (kF_shape_Set__Rects_L3 : (List TRect) → Option (List TRect)) (xF_shape_Set__Rects_L3 : TBand) : Nat → List TRect → Int → Option (List TRect)
  | 0, _, _ => none
  | mF_shape_Set__Rects_L4 + 1, l169, x170 =>
    if (decide (x170 < (xF_shape_Set__Rects_L3.Xs.length : Int))) then
      (idx xF_shape_Set__Rects_L3.Xs x170).bind fun x172 =>
      (idx xF_shape_Set__Rects_L3.Xs (w64 (x170 + 1))).bind fun x173 =>
      (apd l169 [(TRect.mk x172 xF_shape_Set__Rects_L3.Y0 x173 xF_shape_Set__Rects_L3.Y1)]).bind fun l174 =>
      (F_shape_Set__Rects_L4 kF_shape_Set__Rects_L3 xF_shape_Set__Rects_L3 mF_shape_Set__Rects_L4) l174 (w64 (x170 + 2))
    else
      kF_shape_Set__Rects_L3 l169
def F_shape_Set__Rects_L3 (N : Nat) : List TBand → Nat → List TRect → Option (List TRect)
  | [], iF_shape_Set__Rects_L3, l152 =>
    some l152
  | xF_shape_Set__Rects_L3 :: restF_shape_Set__Rects_L3, iF_shape_Set__Rects_L3, l152 =>
    F_shape_Set__Rects_L4 (F_shape_Set__Rects_L3 N restF_shape_Set__Rects_L3 (iF_shape_Set__Rects_L3 + 1)) xF_shape_Set__Rects_L3 N l152 0
def F_shape_Set__Rects (N : Nat) (p0 : (List TBand)) : Option (List TRect) :=
  F_shape_Set__Rects_L3 N p0 0 ([] : List TRect)

def F_slices_Equal_Rect_L1 (p1 : (List TRect)) : List TRect → Nat → Option Bool
  | [], iF_slices_Equal_Rect_L1 =>
    some true
  | xF_slices_Equal_Rect_L1 :: restF_slices_Equal_Rect_L1, iF_slices_Equal_Rect_L1 =>
    (idx p1 (iF_slices_Equal_Rect_L1 : Int)).bind fun x103 =>
    if (!(eqTRect xF_slices_Equal_Rect_L1 x103)) then
      some false
    else
      (F_slices_Equal_Rect_L1 p1 restF_slices_Equal_Rect_L1 (iF_slices_Equal_Rect_L1 + 1))
def F_slices_Equal_Rect (p0 : (List TRect)) (p1 : (List TRect)) : Option Bool :=
  if ((p0.length : Int) != (p1.length : Int)) then
    some false
  else
    F_slices_Equal_Rect_L1 p1 p0 0

noncomputable def F_shape_CheckRegion_L1 (N : Nat) (p0 : (List TRect)) : Nat → Int → Option Int
  | 0, _ => none
  | mF_shape_CheckRegion_L1 + 1, x116 =>
    if (decide (x116 < (p0.length : Int))) then
      (idx p0 (w64 (x116 - 1))).bind fun x118 =>
      (idx p0 x116).bind fun x119 =>
      if ((decide (x119.Y0 < x118.Y0)) || ((x119.Y0 == x118.Y0) && (decide (x119.X0 ≤ x118.X0)))) then
        some 8
      else
        (F_shape_CheckRegion_L1 N p0 mF_shape_CheckRegion_L1) (w64 (x116 + 1))
    else
      (F_shape_SetOf N p0).bind fun y123 =>
      (F_shape_Set__Rects N y123).bind fun y125 =>
      (F_slices_Equal_Rect y125 p0).bind fun y127 =>
      if (!y127) then
        some 3
      else
        some 0
noncomputable def F_shape_CheckRegion (N : Nat) (p0 : (List TRect)) : Option Int :=
  (F_shape_CheckRects p0).bind fun y100 =>
  if (y100 != 0) then
    some y100
  else
    F_shape_CheckRegion_L1 N p0 N 1


def F_shape_between (p0 : Int) (p1 : Int) (p2 : Int) (p3 : Int) : Option Int :=
  some (max (max 0 (w64 ((w64 (p2 - p1)) + 1))) (w64 ((w64 (p0 - p3)) + 1)))


def F_shape_Far (p0 : TRect) (p1 : TRect) : Option Int :=
  (F_shape_between p0.X0 p0.X1 p1.X0 p1.X1).bind fun y102 =>
  (F_shape_between p0.Y0 p0.Y1 p1.Y0 p1.Y1).bind fun y103 =>
  some (max y102 y103)


def F_shape_near (p0 : TRect) (p1 : TRect) (p2 : Int) : Option TPoint :=
  some (TPoint.mk (max p0.X0 (w64 (p1.X0 - p2))) (max p0.Y0 (w64 (p1.Y0 - p2))))


def F_shape_less (p0 : TPoint) (p1 : TPoint) : Option Bool :=
  some ((decide (p0.Y < p1.Y)) || ((p0.Y == p1.Y) && (decide (p0.X < p1.X))))

def F_shape_GapOf_L7 (x141 : Int) (x259 : Int) (x260 : Int) : List TRect → Nat → Int → Int → Bool → Option TGap
  | [], iF_shape_GapOf_L7, x299, x300, x301 =>
    some (TGap.mk 0 0 (w64 (x141 - 1)) (TPoint.mk x259 x260) (TPoint.mk x299 x300))
  | xF_shape_GapOf_L7 :: restF_shape_GapOf_L7, iF_shape_GapOf_L7, x299, x300, x301 =>
    (F_shape_near xF_shape_GapOf_L7 (TRect.mk x259 x260 (w64 (x259 + 1)) (w64 (x260 + 1))) x141).bind fun y303 =>
    (F_shape_Far xF_shape_GapOf_L7 (TRect.mk x259 x260 (w64 (x259 + 1)) (w64 (x260 + 1)))).bind fun y305 =>
    (if (y305 == x141) then 
      (if (!x301) then some true else 
        (F_shape_less y303 (TPoint.mk x299 x300)).bind fun y312 =>
        some y312
      ).bind fun g311 =>
      some g311
     else some false).bind fun g309 =>
    if g309 then
      (F_shape_GapOf_L7 x141 x259 x260 restF_shape_GapOf_L7 (iF_shape_GapOf_L7 + 1)) y303.X y303.Y true
    else
      (F_shape_GapOf_L7 x141 x259 x260 restF_shape_GapOf_L7 (iF_shape_GapOf_L7 + 1)) x299 x300 x301
def F_shape_GapOf_L8 (x141 : Int) (kF_shape_GapOf_L6 : Int → Int → Bool → Option TGap) (xF_shape_GapOf_L6 : TRect) : List TRect → Nat → Int → Int → Bool → Option TGap
  | [], iF_shape_GapOf_L8, x350, x351, x352 =>
    kF_shape_GapOf_L6 x350 x351 x352
  | xF_shape_GapOf_L8 :: restF_shape_GapOf_L8, iF_shape_GapOf_L8, x350, x351, x352 =>
    (F_shape_near xF_shape_GapOf_L6 xF_shape_GapOf_L8 x141).bind fun y354 =>
    (F_shape_Far xF_shape_GapOf_L6 xF_shape_GapOf_L8).bind fun y356 =>
    (if (y356 == x141) then 
      (if (!x352) then some true else 
        (F_shape_less y354 (TPoint.mk x350 x351)).bind fun y363 =>
        some y363
      ).bind fun g362 =>
      some g362
     else some false).bind fun g360 =>
    if g360 then
      (F_shape_GapOf_L8 x141 kF_shape_GapOf_L6 xF_shape_GapOf_L6 restF_shape_GapOf_L8 (iF_shape_GapOf_L8 + 1)) y354.X y354.Y true
    else
      (F_shape_GapOf_L8 x141 kF_shape_GapOf_L6 xF_shape_GapOf_L6 restF_shape_GapOf_L8 (iF_shape_GapOf_L8 + 1)) x350 x351 x352
def F_shape_GapOf_L6 (p1 : (List TRect)) (x141 : Int) : List TRect → Nat → Int → Int → Bool → Option TGap
  | [], iF_shape_GapOf_L6, x259, x260, x261 =>
    F_shape_GapOf_L7 x141 x259 x260 p1 0 0 0 false
  | xF_shape_GapOf_L6 :: restF_shape_GapOf_L6, iF_shape_GapOf_L6, x259, x260, x261 =>
    F_shape_GapOf_L8 x141 (F_shape_GapOf_L6 p1 x141 restF_shape_GapOf_L6 (iF_shape_GapOf_L6 + 1)) xF_shape_GapOf_L6 p1 0 x259 x260 x261
def F_shape_GapOf_L9 (kF_shape_GapOf_L3 : Int → Option TGap) (xF_shape_GapOf_L3 : TRect) : List TRect → Nat → Int → Option TGap
  | [], iF_shape_GapOf_L9, x377 =>
    kF_shape_GapOf_L3 x377
  | xF_shape_GapOf_L9 :: restF_shape_GapOf_L9, iF_shape_GapOf_L9, x377 =>
    (F_shape_Far xF_shape_GapOf_L3 xF_shape_GapOf_L9).bind fun y379 =>
    if ((decide (x377 < 0)) || (decide (y379 < x377))) then
      (F_shape_GapOf_L9 kF_shape_GapOf_L3 xF_shape_GapOf_L3 restF_shape_GapOf_L9 (iF_shape_GapOf_L9 + 1)) y379
    else
      (F_shape_GapOf_L9 kF_shape_GapOf_L3 xF_shape_GapOf_L3 restF_shape_GapOf_L9 (iF_shape_GapOf_L9 + 1)) x377
def F_shape_GapOf_L3 (p0 : (List TRect)) (p1 : (List TRect)) : List TRect → Nat → Int → Option TGap
  | [], iF_shape_GapOf_L3, x141 =>
    F_shape_GapOf_L6 p1 x141 p0 0 0 0 false
  | xF_shape_GapOf_L3 :: restF_shape_GapOf_L3, iF_shape_GapOf_L3, x141 =>
    F_shape_GapOf_L9 (F_shape_GapOf_L3 p0 p1 restF_shape_GapOf_L3 (iF_shape_GapOf_L3 + 1)) xF_shape_GapOf_L3 p1 0 x141
def F_shape_GapOf (p0 : (List TRect)) (p1 : (List TRect)) : Option TGap :=
  F_shape_GapOf_L3 p0 p1 p0 0 (-1)

def F_shape_Gaps_L6 (p0 : (List (List TRect))) (p1 : Int) (kF_shape_Gaps_L5 : (List TGap) → Option ((List TGap) × Int)) (xF_shape_Gaps_L5 : (List TRect)) (iF_shape_Gaps_L5 : Nat) : Nat → List TGap → Int → Option ((List TGap) × Int)
  | 0, _, _ => none
  | mF_shape_Gaps_L6 + 1, l238, x239 =>
    if (decide (x239 < (p0.length : Int))) then
      (if ((xF_shape_Gaps_L5.length : Int) == 0) then some true else 
        (idx p0 x239).bind fun x243 =>
        some ((x243.length : Int) == 0)
      ).bind fun g242 =>
      if g242 then
        (F_shape_Gaps_L6 p0 p1 kF_shape_Gaps_L5 xF_shape_Gaps_L5 iF_shape_Gaps_L5 mF_shape_Gaps_L6) l238 (w64 (x239 + 1))
      else
        (idx p0 x239).bind fun x245 =>
        (F_shape_GapOf xF_shape_Gaps_L5 x245).bind fun y247 =>
        if (decide (y247.Distance < 0)) then
          some (([] : List TGap), 12)
        else
          if (decide (y247.Distance < p1)) then
            (apd l238 [(TGap.mk (iF_shape_Gaps_L5 : Int) x239 y247.Distance y247.From y247.To)]).bind fun l250 =>
            (F_shape_Gaps_L6 p0 p1 kF_shape_Gaps_L5 xF_shape_Gaps_L5 iF_shape_Gaps_L5 mF_shape_Gaps_L6) l250 (w64 (x239 + 1))
          else
            (F_shape_Gaps_L6 p0 p1 kF_shape_Gaps_L5 xF_shape_Gaps_L5 iF_shape_Gaps_L5 mF_shape_Gaps_L6) l238 (w64 (x239 + 1))
    else
      kF_shape_Gaps_L5 l238
def F_shape_Gaps_L5 (N : Nat) (p0 : (List (List TRect))) (p1 : Int) : List (List TRect) → Nat → List TGap → Option ((List TGap) × Int)
  | [], iF_shape_Gaps_L5, l208 =>
    some (l208, 0)
  | xF_shape_Gaps_L5 :: restF_shape_Gaps_L5, iF_shape_Gaps_L5, l208 =>
    F_shape_Gaps_L6 p0 p1 (F_shape_Gaps_L5 N p0 p1 restF_shape_Gaps_L5 (iF_shape_Gaps_L5 + 1)) xF_shape_Gaps_L5 iF_shape_Gaps_L5 N l208 (w64 ((iF_shape_Gaps_L5 : Int) + 1))
noncomputable def F_shape_Gaps_L2 (N : Nat) (p0 : (List (List TRect))) (p1 : Int) : List (List TRect) → Nat → Option ((List TGap) × Int)
  | [], iF_shape_Gaps_L2 =>
    (F_shape_within p1 0 100000).bind fun y115 =>
    if (!y115) then
      some (([] : List TGap), 1)
    else
      F_shape_Gaps_L5 N p0 p1 p0 0 ([] : List TGap)
  | xF_shape_Gaps_L2 :: restF_shape_Gaps_L2, iF_shape_Gaps_L2 =>
    (F_shape_CheckRegion N xF_shape_Gaps_L2).bind fun y252 =>
    if (y252 != 0) then
      some (([] : List TGap), y252)
    else
      (F_shape_Gaps_L2 N p0 p1 restF_shape_Gaps_L2 (iF_shape_Gaps_L2 + 1))
noncomputable def F_shape_Gaps_L1 (N : Nat) (p0 : (List (List TRect))) (p1 : Int) : List (List TRect) → Nat → Int → Option ((List TGap) × Int)
  | [], iF_shape_Gaps_L1, x110 =>
    if ((decide (2000 < (p0.length : Int))) || (decide (2000 < x110))) then
      some (([] : List TGap), 2)
    else
      F_shape_Gaps_L2 N p0 p1 p0 0
  | xF_shape_Gaps_L1 :: restF_shape_Gaps_L1, iF_shape_Gaps_L1, x110 =>
    (F_shape_Gaps_L1 N p0 p1 restF_shape_Gaps_L1 (iF_shape_Gaps_L1 + 1)) (w64 (x110 + (xF_shape_Gaps_L1.length : Int)))
noncomputable def F_shape_Gaps (N : Nat) (p0 : (List (List TRect))) (p1 : Int) : Option ((List TGap) × Int) :=
  F_shape_Gaps_L1 N p0 p1 p0 0 0


def F_etchhouseref1_within (p0 : Int) (p1 : Int) (p2 : Int) : Option Bool :=
  some ((decide (p1 ≤ p0)) && (decide (p0 ≤ p2)))


def F_etchhouseref1_At (p0 : Int) : Option Bool :=
  (F_etchhouseref1_within p0 (-1000000) 1000000).bind fun y100 =>
  some y100

def F_etchhouseref1_CheckRects_L1 (p0 : (List TRect)) : Nat → Int → Option Int
  | 0, _ => none
  | mF_etchhouseref1_CheckRects_L1 + 1, x127 =>
    if (decide (x127 < (p0.length : Int))) then
      (idx p0 x127).bind fun x128 =>
      (F_etchhouseref1_At x128.X0).bind fun y130 =>
      (if (!y130) then some true else 
        (F_etchhouseref1_At x128.Y0).bind fun y133 =>
        some (!y133)
      ).bind fun g132 =>
      (if g132 then some true else 
        (F_etchhouseref1_At x128.X1).bind fun y136 =>
        some (!y136)
      ).bind fun g135 =>
      (if g135 then some true else 
        (F_etchhouseref1_At x128.Y1).bind fun y139 =>
        some (!y139)
      ).bind fun g138 =>
      if g138 then
        some 1
      else
        if ((decide (x128.X1 ≤ x128.X0)) || (decide (x128.Y1 ≤ x128.Y0))) then
          some 13
        else
          (F_etchhouseref1_CheckRects_L1 p0 mF_etchhouseref1_CheckRects_L1) (w64 (x127 + 1))
    else
      some 0
def F_etchhouseref1_CheckRects (N : Nat) (p0 : (List TRect)) : Option Int :=
  if (decide (2000 < (p0.length : Int))) then
    some 2
  else
    F_etchhouseref1_CheckRects_L1 p0 N 0


def F_etchhouseref1_before (p0 : TRect) (p1 : TRect) : Option Bool :=
  some ((decide (p0.Y0 < p1.Y0)) || ((p0.Y0 == p1.Y0) && (decide (p0.X0 < p1.X0))))

def F_etchhouseref1_put_L1 (p0 : (List Int)) (p1 : Int) : Nat → Int → Int → Option (List Int)
  | 0, _, _ => none
  | mF_etchhouseref1_put_L1 + 1, x108, x109 =>
    if (decide (x108 < x109)) then
      (idx p0 (w64 (Int.tdiv (w64 (x108 + x109)) 2))).bind fun x110 =>
      if (decide (x110 < p1)) then
        (F_etchhouseref1_put_L1 p0 p1 mF_etchhouseref1_put_L1) (w64 ((w64 (Int.tdiv (w64 (x108 + x109)) 2)) + 1)) x109
      else
        (F_etchhouseref1_put_L1 p0 p1 mF_etchhouseref1_put_L1) x108 (w64 (Int.tdiv (w64 (x108 + x109)) 2))
    else
      (if (decide (x108 < (p0.length : Int))) then 
        (idx p0 x108).bind fun x113 =>
        some (x113 == p1)
       else some false).bind fun g112 =>
      if g112 then
        some p0
      else
        (pre p0 x108).bind fun l114 =>
        (apd ([] : List Int) l114).bind fun l115 =>
        (apd l115 [p1]).bind fun l117 =>
        (cut p0 x108 (p0.length : Int)).bind fun l118 =>
        (apd l117 l118).bind fun l119 =>
        some l119
def F_etchhouseref1_put (N : Nat) (p0 : (List Int)) (p1 : Int) : Option (List Int) :=
  F_etchhouseref1_put_L1 p0 p1 N 0 (p0.length : Int)

def F_etchhouseref1_heights_L1 (N : Nat) (p0 : (List TRect)) : Nat → List Int → Int → Option (List Int)
  | 0, _, _ => none
  | mF_etchhouseref1_heights_L1 + 1, l122, x123 =>
    if (decide (x123 < (p0.length : Int))) then
      (idx p0 x123).bind fun x127 =>
      (idx p0 x123).bind fun x128 =>
      (F_etchhouseref1_put N l122 x127.Y0).bind fun y129 =>
      (F_etchhouseref1_put N y129 x128.Y1).bind fun y131 =>
      (F_etchhouseref1_heights_L1 N p0 mF_etchhouseref1_heights_L1) y131 (w64 (x123 + 1))
    else
      some l122
def F_etchhouseref1_heights (N : Nat) (p0 : (List TRect)) : Option (List Int) :=
  F_etchhouseref1_heights_L1 N p0 N ([] : List Int) 0

def F_etchhouseref1_joined_L2 (p0 : (List TSpan)) (l119 : List TSpan) : Nat → Int → Int → Int → Option (List TSpan)
  | 0, _, _, _ => none
  | mF_etchhouseref1_joined_L2 + 1, x148, x149, x150 =>
    (if (decide (x150 < (p0.length : Int))) then 
      (idx p0 x150).bind fun x153 =>
      some (decide (x153.from_ ≤ x149))
     else some false).bind fun g152 =>
    if g152 then
      (idx p0 x150).bind fun x155 =>
      (idx p0 x150).bind fun x156 =>
      (F_etchhouseref1_joined_L2 p0 l119 mF_etchhouseref1_joined_L2) (min x148 x155.from_) (max x149 x156.to_) (w64 (x150 + 1))
    else
      (apd l119 [(TSpan.mk x148 x149)]).bind fun l158 =>
      (cut p0 x150 (p0.length : Int)).bind fun l159 =>
      (apd l158 l159).bind fun l160 =>
      some l160
def F_etchhouseref1_joined_L1 (N : Nat) (p0 : (List TSpan)) (p1 : TSpan) : Nat → List TSpan → Int → Option (List TSpan)
  | 0, _, _ => none
  | mF_etchhouseref1_joined_L1 + 1, l119, x120 =>
    (if (decide (x120 < (p0.length : Int))) then 
      (idx p0 x120).bind fun x123 =>
      some (decide (x123.to_ < p1.from_))
     else some false).bind fun g122 =>
    if g122 then
      (idx p0 x120).bind fun x124 =>
      (apd l119 [x124]).bind fun l126 =>
      (F_etchhouseref1_joined_L1 N p0 p1 mF_etchhouseref1_joined_L1) l126 (w64 (x120 + 1))
    else
      F_etchhouseref1_joined_L2 p0 l119 N p1.from_ p1.to_ x120
def F_etchhouseref1_joined (N : Nat) (p0 : (List TSpan)) (p1 : TSpan) : Option (List TSpan) :=
  F_etchhouseref1_joined_L1 N p0 p1 N ([] : List TSpan) 0

def F_etchhouseref1_row_L1 (N : Nat) (p0 : (List TRect)) (p1 : Int) : Nat → List TSpan → Int → Option (List TSpan)
  | 0, _, _ => none
  | mF_etchhouseref1_row_L1 + 1, l122, x123 =>
    if (decide (x123 < (p0.length : Int))) then
      (idx p0 x123).bind fun x124 =>
      (if (decide (x124.Y0 ≤ p1)) then 
        (idx p0 x123).bind fun x127 =>
        some (decide (p1 < x127.Y1))
       else some false).bind fun g126 =>
      if g126 then
        (idx p0 x123).bind fun x128 =>
        (idx p0 x123).bind fun x129 =>
        (F_etchhouseref1_joined N l122 (TSpan.mk x128.X0 x129.X1)).bind fun y130 =>
        (F_etchhouseref1_row_L1 N p0 p1 mF_etchhouseref1_row_L1) y130 (w64 (x123 + 1))
      else
        (F_etchhouseref1_row_L1 N p0 p1 mF_etchhouseref1_row_L1) l122 (w64 (x123 + 1))
    else
      some l122
def F_etchhouseref1_row (N : Nat) (p0 : (List TRect)) (p1 : Int) : Option (List TSpan) :=
  F_etchhouseref1_row_L1 N p0 p1 N ([] : List TSpan) 0

def F_etchhouseref1_sameSpans_L1 (p0 : (List TSpan)) (p1 : (List TSpan)) : Nat → Int → Option Bool
  | 0, _ => none
  | mF_etchhouseref1_sameSpans_L1 + 1, x107 =>
    if (decide (x107 < (p0.length : Int))) then
      (idx p0 x107).bind fun x108 =>
      (idx p1 x107).bind fun x109 =>
      if (!(eqTSpan x108 x109)) then
        some false
      else
        (F_etchhouseref1_sameSpans_L1 p0 p1 mF_etchhouseref1_sameSpans_L1) (w64 (x107 + 1))
    else
      some true
def F_etchhouseref1_sameSpans (N : Nat) (p0 : (List TSpan)) (p1 : (List TSpan)) : Option Bool :=
  if ((p0.length : Int) != (p1.length : Int)) then
    some false
  else
    F_etchhouseref1_sameSpans_L1 p0 p1 N 0


def F_etchhouseref1_stacked (N : Nat) (p0 : (List Tetchhouseref1Band)) (p1 : Tetchhouseref1Band) : Option (List Tetchhouseref1Band) :=
  if ((p1.spans.length : Int) == 0) then
    some p0
  else
    (if (decide (0 < (p0.length : Int))) then 
      (idx p0 (w64 ((p0.length : Int) - 1))).bind fun x103 =>
      some (x103.to_ == p1.from_)
     else some false).bind fun g102 =>
    (if g102 then 
      (idx p0 (w64 ((p0.length : Int) - 1))).bind fun x108 =>
      (F_etchhouseref1_sameSpans N x108.spans p1.spans).bind fun y110 =>
      some y110
     else some false).bind fun g107 =>
    if g107 then
      (idx p0 (w64 ((p0.length : Int) - 1))).bind fun x111 =>
      (sets p0 (w64 ((p0.length : Int) - 1)) (Tetchhouseref1Band.mk x111.from_ p1.to_ x111.spans)).bind fun l112 =>
      some l112
    else
      (apd p0 [p1]).bind fun l114 =>
      some l114

def F_etchhouseref1_told_L4 (p0 : (List Tetchhouseref1Band)) (x207 : Int) (kF_etchhouseref1_told_L3 : (List TRect) → Int → Option (List TRect)) : Nat → List TRect → Int → Option (List TRect)
  | 0, _, _ => none
  | mF_etchhouseref1_told_L4 + 1, l242, x243 =>
    (idx p0 x207).bind fun x244 =>
    if (decide (x243 < (x244.spans.length : Int))) then
      (idx p0 x207).bind fun x247 =>
      (idx x247.spans x243).bind fun x249 =>
      (idx p0 x207).bind fun x250 =>
      (idx p0 x207).bind fun x252 =>
      (idx x252.spans x243).bind fun x254 =>
      (idx p0 x207).bind fun x255 =>
      (apd l242 [(TRect.mk x249.from_ x250.from_ x254.to_ x255.to_)]).bind fun l257 =>
      (F_etchhouseref1_told_L4 p0 x207 kF_etchhouseref1_told_L3 mF_etchhouseref1_told_L4) l257 (w64 (x243 + 1))
    else
      kF_etchhouseref1_told_L3 l242 (w64 (x207 + 1))
def F_etchhouseref1_told_L3 (N : Nat) (p0 : (List Tetchhouseref1Band)) : Nat → List TRect → Int → Option (List TRect)
  | 0, _, _ => none
  | mF_etchhouseref1_told_L3 + 1, l206, x207 =>
    if (decide (x207 < (p0.length : Int))) then
      F_etchhouseref1_told_L4 p0 x207 (F_etchhouseref1_told_L3 N p0 mF_etchhouseref1_told_L3) N l206 0
    else
      some l206
def F_etchhouseref1_told (N : Nat) (p0 : (List Tetchhouseref1Band)) : Option (List TRect) :=
  F_etchhouseref1_told_L3 N p0 N ([] : List TRect) 0

def F_etchhouseref1_Canonical_L1 (N : Nat) (p0 : (List TRect)) (y100 : (List Int)) : Nat → List Tetchhouseref1Band → Int → Option (List TRect)
  | 0, _, _ => none
  | mF_etchhouseref1_Canonical_L1 + 1, l128, x129 =>
    if (decide (x129 < (y100.length : Int))) then
      (idx y100 (w64 (x129 - 1))).bind fun x131 =>
      (idx y100 x129).bind fun x132 =>
      (idx y100 (w64 (x129 - 1))).bind fun x133 =>
      (F_etchhouseref1_row N p0 x133).bind fun y134 =>
      (F_etchhouseref1_stacked N l128 (Tetchhouseref1Band.mk x131 x132 y134)).bind fun y138 =>
      (F_etchhouseref1_Canonical_L1 N p0 y100 mF_etchhouseref1_Canonical_L1) y138 (w64 (x129 + 1))
    else
      (F_etchhouseref1_told N l128).bind fun y140 =>
      some y140
def F_etchhouseref1_Canonical (N : Nat) (p0 : (List TRect)) : Option (List TRect) :=
  (F_etchhouseref1_heights N p0).bind fun y100 =>
  F_etchhouseref1_Canonical_L1 N p0 y100 N ([] : List Tetchhouseref1Band) 1

def F_etchhouseref1_SameRects_L1 (p0 : (List TRect)) (p1 : (List TRect)) : Nat → Int → Option Bool
  | 0, _ => none
  | mF_etchhouseref1_SameRects_L1 + 1, x107 =>
    if (decide (x107 < (p0.length : Int))) then
      (idx p0 x107).bind fun x108 =>
      (idx p1 x107).bind fun x109 =>
      if (!(eqTRect x108 x109)) then
        some false
      else
        (F_etchhouseref1_SameRects_L1 p0 p1 mF_etchhouseref1_SameRects_L1) (w64 (x107 + 1))
    else
      some true
def F_etchhouseref1_SameRects (N : Nat) (p0 : (List TRect)) (p1 : (List TRect)) : Option Bool :=
  if ((p0.length : Int) != (p1.length : Int)) then
    some false
  else
    F_etchhouseref1_SameRects_L1 p0 p1 N 0

def F_etchhouseref1_CheckRegion_L1 (N : Nat) (p0 : (List TRect)) : Nat → Int → Option Int
  | 0, _ => none
  | mF_etchhouseref1_CheckRegion_L1 + 1, x110 =>
    if (decide (x110 < (p0.length : Int))) then
      (idx p0 (w64 (x110 - 1))).bind fun x111 =>
      (idx p0 x110).bind fun x112 =>
      (F_etchhouseref1_before x111 x112).bind fun y113 =>
      if (!y113) then
        some 8
      else
        (F_etchhouseref1_CheckRegion_L1 N p0 mF_etchhouseref1_CheckRegion_L1) (w64 (x110 + 1))
    else
      (F_etchhouseref1_Canonical N p0).bind fun y114 =>
      (F_etchhouseref1_SameRects N p0 y114).bind fun y116 =>
      if (!y116) then
        some 3
      else
        some 0
def F_etchhouseref1_CheckRegion (N : Nat) (p0 : (List TRect)) : Option Int :=
  (F_etchhouseref1_CheckRects N p0).bind fun y100 =>
  if (y100 != 0) then
    some y100
  else
    F_etchhouseref1_CheckRegion_L1 N p0 N 1


def F_etchhouseref1_far (p0 : Int) (p1 : Int) (p2 : Int) (p3 : Int) : Option Int :=
  some (max (max 0 (w64 (p2 - (w64 (p1 - 1))))) (w64 (p0 - (w64 (p3 - 1)))))


def F_etchhouseref1_farRects (p0 : TRect) (p1 : TRect) : Option Int :=
  (F_etchhouseref1_far p0.X0 p0.X1 p1.X0 p1.X1).bind fun y102 =>
  (F_etchhouseref1_far p0.Y0 p0.Y1 p1.Y0 p1.Y1).bind fun y103 =>
  some (max y102 y103)

def F_etchhouseref1_farRegions_L4 (p0 : (List TRect)) (p1 : (List TRect)) (x144 : Int) (kF_etchhouseref1_farRegions_L3 : Int → Int → Option Int) : Nat → Int → Int → Option Int
  | 0, _, _ => none
  | mF_etchhouseref1_farRegions_L4 + 1, x157, x158 =>
    if (decide (x158 < (p1.length : Int))) then
      (idx p0 x144).bind fun x159 =>
      (idx p1 x158).bind fun x160 =>
      (F_etchhouseref1_farRects x159 x160).bind fun y161 =>
      (F_etchhouseref1_farRegions_L4 p0 p1 x144 kF_etchhouseref1_farRegions_L3 mF_etchhouseref1_farRegions_L4) (min x157 y161) (w64 (x158 + 1))
    else
      kF_etchhouseref1_farRegions_L3 x157 (w64 (x144 + 1))
def F_etchhouseref1_farRegions_L3 (N : Nat) (p0 : (List TRect)) (p1 : (List TRect)) : Nat → Int → Int → Option Int
  | 0, _, _ => none
  | mF_etchhouseref1_farRegions_L3 + 1, x143, x144 =>
    if (decide (x144 < (p0.length : Int))) then
      F_etchhouseref1_farRegions_L4 p0 p1 x144 (F_etchhouseref1_farRegions_L3 N p0 p1 mF_etchhouseref1_farRegions_L3) N x143 0
    else
      some x143
def F_etchhouseref1_farRegions (N : Nat) (p0 : (List TRect)) (p1 : (List TRect)) : Option Int :=
  (idx p0 0).bind fun x100 =>
  (idx p1 0).bind fun x101 =>
  (F_etchhouseref1_farRects x100 x101).bind fun y102 =>
  F_etchhouseref1_farRegions_L3 N p0 p1 N y102 0

def F_etchhouseref1_nearest_L4 (p0 : (List TRect)) (p1 : (List TRect)) (p2 : Int) (x215 : Int) (kF_etchhouseref1_nearest_L3 : Int → Int → Bool → Int → Option (TPoint × Bool)) : Nat → Int → Int → Bool → Int → Option (TPoint × Bool)
  | 0, _, _, _, _ => none
  | mF_etchhouseref1_nearest_L4 + 1, x250, x251, x252, x253 =>
    if (decide (x253 < (p1.length : Int))) then
      (idx p0 x215).bind fun x254 =>
      (idx p1 x253).bind fun x255 =>
      (idx p0 x215).bind fun x256 =>
      (idx p1 x253).bind fun x257 =>
      (idx p0 x215).bind fun x258 =>
      (idx p1 x253).bind fun x259 =>
      (if (decide ((w64 ((min x258.X1 (w64 (x259.X1 + p2))) - 1)) < (max x254.X0 (w64 (x255.X0 - p2))))) then some true else 
        (idx p0 x215).bind fun x263 =>
        (idx p1 x253).bind fun x264 =>
        some (decide ((w64 ((min x263.Y1 (w64 (x264.Y1 + p2))) - 1)) < (max x256.Y0 (w64 (x257.Y0 - p2)))))
      ).bind fun g262 =>
      if g262 then
        (F_etchhouseref1_nearest_L4 p0 p1 p2 x215 kF_etchhouseref1_nearest_L3 mF_etchhouseref1_nearest_L4) x250 x251 x252 (w64 (x253 + 1))
      else
        if (((!x252) || (decide ((max x256.Y0 (w64 (x257.Y0 - p2))) < x251))) || (((max x256.Y0 (w64 (x257.Y0 - p2))) == x251) && (decide ((max x254.X0 (w64 (x255.X0 - p2))) < x250)))) then
          (F_etchhouseref1_nearest_L4 p0 p1 p2 x215 kF_etchhouseref1_nearest_L3 mF_etchhouseref1_nearest_L4) (max x254.X0 (w64 (x255.X0 - p2))) (max x256.Y0 (w64 (x257.Y0 - p2))) true (w64 (x253 + 1))
        else
          (F_etchhouseref1_nearest_L4 p0 p1 p2 x215 kF_etchhouseref1_nearest_L3 mF_etchhouseref1_nearest_L4) x250 x251 x252 (w64 (x253 + 1))
    else
      kF_etchhouseref1_nearest_L3 x250 x251 x252 (w64 (x215 + 1))
def F_etchhouseref1_nearest_L3 (N : Nat) (p0 : (List TRect)) (p1 : (List TRect)) (p2 : Int) : Nat → Int → Int → Bool → Int → Option (TPoint × Bool)
  | 0, _, _, _, _ => none
  | mF_etchhouseref1_nearest_L3 + 1, x212, x213, x214, x215 =>
    if (decide (x215 < (p0.length : Int))) then
      F_etchhouseref1_nearest_L4 p0 p1 p2 x215 (F_etchhouseref1_nearest_L3 N p0 p1 p2 mF_etchhouseref1_nearest_L3) N x212 x213 x214 0
    else
      some ((TPoint.mk x212 x213), x214)
def F_etchhouseref1_nearest (N : Nat) (p0 : (List TRect)) (p1 : (List TRect)) (p2 : Int) : Option (TPoint × Bool) :=
  F_etchhouseref1_nearest_L3 N p0 p1 p2 N 0 0 false 0


def F_etchhouseref1_GapOf (N : Nat) (p0 : (List TRect)) (p1 : (List TRect)) : Option TGap :=
  (F_etchhouseref1_farRegions N p0 p1).bind fun y101 =>
  (F_etchhouseref1_nearest N p0 p1 y101).bind fun y102 =>
  (F_etchhouseref1_nearest N p1 [(TRect.mk y102.1.X y102.1.Y (w64 (y102.1.X + 1)) (w64 (y102.1.Y + 1)))] y101).bind fun y105 =>
  some (TGap.mk 0 0 (w64 (y101 - 1)) y102.1 y105.1)

def F_etchhouseref1_Gaps_L6 (N : Nat) (p0 : (List (List TRect))) (p1 : Int) (x301 : Int) (kF_etchhouseref1_Gaps_L5 : (List TGap) → Int → Option ((List TGap) × Int)) : Nat → List TGap → Int → Option ((List TGap) × Int)
  | 0, _, _ => none
  | mF_etchhouseref1_Gaps_L6 + 1, l358, x359 =>
    if (decide (x359 < (p0.length : Int))) then
      (idx p0 x301).bind fun x360 =>
      (if ((x360.length : Int) == 0) then some true else 
        (idx p0 x359).bind fun x365 =>
        some ((x365.length : Int) == 0)
      ).bind fun g364 =>
      if g364 then
        (F_etchhouseref1_Gaps_L6 N p0 p1 x301 kF_etchhouseref1_Gaps_L5 mF_etchhouseref1_Gaps_L6) l358 (w64 (x359 + 1))
      else
        (idx p0 x301).bind fun x367 =>
        (idx p0 x359).bind fun x369 =>
        (F_etchhouseref1_farRegions N x367 x369).bind fun y371 =>
        if (y371 == 0) then
          some (([] : List TGap), 12)
        else
          (idx p0 x301).bind fun x372 =>
          (idx p0 x359).bind fun x374 =>
          (F_etchhouseref1_farRegions N x372 x374).bind fun y376 =>
          if (decide ((w64 (y376 - 1)) < p1)) then
            (idx p0 x301).bind fun x378 =>
            (idx p0 x359).bind fun x380 =>
            (F_etchhouseref1_GapOf N x378 x380).bind fun y382 =>
            (apd l358 [(TGap.mk x301 x359 y382.Distance y382.From y382.To)]).bind fun l384 =>
            (F_etchhouseref1_Gaps_L6 N p0 p1 x301 kF_etchhouseref1_Gaps_L5 mF_etchhouseref1_Gaps_L6) l384 (w64 (x359 + 1))
          else
            (F_etchhouseref1_Gaps_L6 N p0 p1 x301 kF_etchhouseref1_Gaps_L5 mF_etchhouseref1_Gaps_L6) l358 (w64 (x359 + 1))
    else
      kF_etchhouseref1_Gaps_L5 l358 (w64 (x301 + 1))
def F_etchhouseref1_Gaps_L5 (N : Nat) (p0 : (List (List TRect))) (p1 : Int) : Nat → List TGap → Int → Option ((List TGap) × Int)
  | 0, _, _ => none
  | mF_etchhouseref1_Gaps_L5 + 1, l300, x301 =>
    if (decide (x301 < (p0.length : Int))) then
      F_etchhouseref1_Gaps_L6 N p0 p1 x301 (F_etchhouseref1_Gaps_L5 N p0 p1 mF_etchhouseref1_Gaps_L5) N l300 (w64 (x301 + 1))
    else
      some (l300, 0)
def F_etchhouseref1_Gaps_L2 (N : Nat) (p0 : (List (List TRect))) (p1 : Int) : Nat → Int → Option ((List TGap) × Int)
  | 0, _ => none
  | mF_etchhouseref1_Gaps_L2 + 1, x123 =>
    if (decide (x123 < (p0.length : Int))) then
      (idx p0 x123).bind fun x124 =>
      (F_etchhouseref1_CheckRegion N x124).bind fun y126 =>
      if (y126 != 0) then
        some (([] : List TGap), y126)
      else
        (F_etchhouseref1_Gaps_L2 N p0 p1 mF_etchhouseref1_Gaps_L2) (w64 (x123 + 1))
    else
      (F_etchhouseref1_within p1 0 100000).bind fun y127 =>
      if (!y127) then
        some (([] : List TGap), 1)
      else
        F_etchhouseref1_Gaps_L5 N p0 p1 N ([] : List TGap) 0
def F_etchhouseref1_Gaps_L1 (N : Nat) (p0 : (List (List TRect))) (p1 : Int) : Nat → Int → Int → Option ((List TGap) × Int)
  | 0, _, _ => none
  | mF_etchhouseref1_Gaps_L1 + 1, x110, x111 =>
    if (decide (x111 < (p0.length : Int))) then
      (idx p0 x111).bind fun x112 =>
      (F_etchhouseref1_Gaps_L1 N p0 p1 mF_etchhouseref1_Gaps_L1) (w64 (x110 + (x112.length : Int))) (w64 (x111 + 1))
    else
      if ((decide (2000 < (p0.length : Int))) || (decide (2000 < x110))) then
        some (([] : List TGap), 2)
      else
        F_etchhouseref1_Gaps_L2 N p0 p1 N 0
def F_etchhouseref1_Gaps (N : Nat) (p0 : (List (List TRect))) (p1 : Int) : Option ((List TGap) × Int) :=
  F_etchhouseref1_Gaps_L1 N p0 p1 N 0 0

def F_slices_Equal_Gap_L1 (p1 : (List TGap)) : List TGap → Nat → Option Bool
  | [], iF_slices_Equal_Gap_L1 =>
    some true
  | xF_slices_Equal_Gap_L1 :: restF_slices_Equal_Gap_L1, iF_slices_Equal_Gap_L1 =>
    (idx p1 (iF_slices_Equal_Gap_L1 : Int)).bind fun x103 =>
    if (!(eqTGap xF_slices_Equal_Gap_L1 x103)) then
      some false
    else
      (F_slices_Equal_Gap_L1 p1 restF_slices_Equal_Gap_L1 (iF_slices_Equal_Gap_L1 + 1))
def F_slices_Equal_Gap (p0 : (List TGap)) (p1 : (List TGap)) : Option Bool :=
  if ((p0.length : Int) != (p1.length : Int)) then
    some false
  else
    F_slices_Equal_Gap_L1 p1 p0 0

def F_shape_AreaOf_L1 : List TRect → Nat → Int → Option Int
  | [], iF_shape_AreaOf_L1, x110 =>
    some x110
  | xF_shape_AreaOf_L1 :: restF_shape_AreaOf_L1, iF_shape_AreaOf_L1, x110 =>
    (F_shape_AreaOf_L1 restF_shape_AreaOf_L1 (iF_shape_AreaOf_L1 + 1)) (w64 (x110 + (w64 ((w64 (xF_shape_AreaOf_L1.X1 - xF_shape_AreaOf_L1.X0)) * (w64 (xF_shape_AreaOf_L1.Y1 - xF_shape_AreaOf_L1.Y0))))))
def F_shape_AreaOf (p0 : (List TRect)) : Option Int :=
  F_shape_AreaOf_L1 p0 0 0


noncomputable def F_shape_Area (N : Nat) (p0 : (List TRect)) : Option (Int × Int) :=
  (F_shape_CheckRegion N p0).bind fun y100 =>
  if (y100 != 0) then
    some (0, y100)
  else
    (F_shape_AreaOf p0).bind fun y101 =>
    some (y101, 0)


noncomputable def F_etchhouselaw1_awake (N : Nat)  : Option Bool :=
  (F_shape_Area N [(TRect.mk 0 0 2 3)]).bind fun y101 =>
  some ((y101.2 == 0) && (y101.1 == 6))


noncomputable def F_etchhouselaw1_GapsMatchSpec (N : Nat) (p0 : (List (List TRect))) (p1 : Int) : Option Bool :=
  (F_shape_Gaps N p0 p1).bind fun y100 =>
  (F_etchhouseref1_Gaps N p0 p1).bind fun y102 =>
  (F_slices_Equal_Gap y100.1 y102.1).bind fun y104 =>
  (if (y104 && (y100.2 == y102.2)) then 
    (F_etchhouselaw1_awake N).bind fun y107 =>
    some y107
   else some false).bind fun g106 =>
  some g106

def F_shape_Set__Many_L1 : List TBand → Nat → Int → Option Int
  | [], iF_shape_Set__Many_L1, x112 =>
    some x112
  | xF_shape_Set__Many_L1 :: restF_shape_Set__Many_L1, iF_shape_Set__Many_L1, x112 =>
    (F_shape_Set__Many_L1 restF_shape_Set__Many_L1 (iF_shape_Set__Many_L1 + 1)) (w64 (x112 + (w64 (Int.tdiv (xF_shape_Set__Many_L1.Xs.length : Int) 2))))
def F_shape_Set__Many (p0 : (List TBand)) : Option Int :=
  F_shape_Set__Many_L1 p0 0 0


def F_shape_Set__Told (N : Nat) (p0 : (List TBand)) : Option ((List TRect) × Int) :=
  (F_shape_Set__Many p0).bind fun y100 =>
  if (decide (2000 < y100)) then
    some (([] : List TRect), 2)
  else
    (F_shape_Set__Rects N p0).bind fun y101 =>
    some (y101, 0)


noncomputable def F_shape_Region (N : Nat) (p0 : (List TRect)) : Option ((List TRect) × Int) :=
  (F_shape_CheckRects p0).bind fun y100 =>
  if (y100 != 0) then
    some (([] : List TRect), y100)
  else
    (F_shape_SetOf N p0).bind fun y101 =>
    (F_shape_Set__Told N y101).bind fun y103 =>
    some (y103.1, y103.2)

end Go.Proofs.Ytcebbfodkadggaa
