/- The plain functions: what each function of the program computes; none where it would panic. -/
import Derived.Test.YtcjeebkoafonpaaGreatDoorXT
namespace Go.Proofs.YtcjeebkoafonpaaGreatDoor
open Go.RowKit

def F_shape_within (p0 : Int) (p1 : Int) (p2 : Int) : Option Bool :=
  some ((decide (p1 ≤ p0)) && (decide (p0 ≤ p2)))


def F_shape_IsAt (p0 : Int) : Option Bool :=
  (F_shape_within p0 (-1000000) 1000000).bind fun y100 =>
  some y100


def F_shape_isRect (p0 : TRect) : Option Bool :=
  (F_shape_IsAt p0.X0).bind fun y101 =>
  (if y101 then 
    (F_shape_IsAt p0.Y0).bind fun y104 =>
    some y104
   else some false).bind fun g103 =>
  (if g103 then 
    (F_shape_IsAt p0.X1).bind fun y107 =>
    some y107
   else some false).bind fun g106 =>
  (if g106 then 
    (F_shape_IsAt p0.Y1).bind fun y110 =>
    some y110
   else some false).bind fun g109 =>
  some g109

def F_shape_CheckRects_L1 : List TRect → Nat → Option Int
  | [], iL1 =>
    some 0
  | xL1 :: restL1, iL1 =>
    (F_shape_isRect xL1).bind fun y105 =>
    if (!y105) then
      some 1
    else
      if ((decide (xL1.X1 ≤ xL1.X0)) || (decide (xL1.Y1 ≤ xL1.Y0))) then
        some 13
      else
        (F_shape_CheckRects_L1 restL1 (iL1 + 1))
def F_shape_CheckRects (p0 : (List TRect)) : Option Int :=
  if (decide (2000 < (p0.length : Int))) then
    some 2
  else
    F_shape_CheckRects_L1 p0 0


def F_slices_Clone_Rect (p0 : (List TRect)) : Option (List TRect) :=
  (apd ([] : List TRect) p0).bind fun l101 =>
  some l101



def F_shape_SetOf_1 (p0 : TRect) (p1 : TRect) : Option Int :=
  some (w64 (p0.Y0 - p1.Y0))




def F_shape_SetOf_2 (p0 : TRect) (q0 : (List Int)) (q1 : Int) : Option Bool :=
  (idx q0 q1).bind fun x101 =>
  some (decide (p0.Y1 ≤ x101))

def F_slices_IndexFunc_Rect_L1 (p1 : TRect → Option Bool) : List TRect → Nat → Option Int
  | [], iL1 =>
    some (-1)
  | xL1 :: restL1, iL1 =>
    (p1 xL1).bind fun y103 =>
    if y103 then
      some (iL1 : Int)
    else
      (F_slices_IndexFunc_Rect_L1 p1 restL1 (iL1 + 1))
def F_slices_IndexFunc_Rect (p0 : (List TRect)) (p1 : TRect → Option Bool) : Option Int :=
  F_slices_IndexFunc_Rect_L1 p1 p0 0

def F_slices_DeleteFunc_Rect_L1 (p1 : TRect → Option Bool) : Nat → List TRect → Int → Int → Option (List TRect)
  | 0, _, _, _ => none
  | mL1 + 1, l120, x121, x122 =>
    if (decide (x122 < (l120.length : Int))) then
      (idx l120 x122).bind fun x123 =>
      (p1 x123).bind fun y125 =>
      if (!y125) then
        (idx l120 x121).bind fun x126 =>
        (sets l120 x121 x123).bind fun l127 =>
        (F_slices_DeleteFunc_Rect_L1 p1 mL1) l127 (w64 (x121 + 1)) (w64 (x122 + 1))
      else
        (F_slices_DeleteFunc_Rect_L1 p1 mL1) l120 x121 (w64 (x122 + 1))
    else
      (cut l120 x121 (l120.length : Int)).bind fun l128 =>
      (pre (clr l120 x121 (l128).length (TRect.mk 0 0 0 0)) x121).bind fun l129 =>
      some l129
def F_slices_DeleteFunc_Rect (N : Nat) (p0 : (List TRect)) (p1 : TRect → Option Bool) : Option (List TRect) :=
  (F_slices_IndexFunc_Rect p0 p1).bind fun y100 =>
  if (y100 == (-1)) then
    some p0
  else
    F_slices_DeleteFunc_Rect_L1 p1 N p0 y100 (w64 (y100 + 1))


def F_shape_stretches_1 (p0 : TRect) (p1 : TRect) : Option Int :=
  some (w64 (p0.X0 - p1.X0))

def F_shape_stretches_L1 (y100 : (List TRect)) : List TRect → Nat → List Int → Option ((List Int) × (List TRect))
  | [], iL1, l128 =>
    some (l128, y100)
  | xL1 :: restL1, iL1, l128 =>
    (if (decide (0 ≤ (w64 ((l128.length : Int) - 1)))) then 
      (idx l128 (w64 ((l128.length : Int) - 1))).bind fun x132 =>
      some (decide (xL1.X0 ≤ x132))
     else some false).bind fun g131 =>
    if g131 then
      (idx l128 (w64 ((l128.length : Int) - 1))).bind fun x133 =>
      (idx l128 (w64 ((l128.length : Int) - 1))).bind fun x134 =>
      (sets l128 (w64 ((l128.length : Int) - 1)) (max x133 xL1.X1)).bind fun l135 =>
      (F_shape_stretches_L1 y100 restL1 (iL1 + 1)) l135
    else
      (apd l128 [xL1.X0, xL1.X1]).bind fun l137 =>
      (F_shape_stretches_L1 y100 restL1 (iL1 + 1)) l137
noncomputable def F_shape_stretches (p0 : (List TRect)) : Option ((List Int) × (List TRect)) :=
  (srtF p0 (fun z0 z1 => F_shape_stretches_1 z0 z1)).bind fun y100 =>
  F_shape_stretches_L1 y100 y100 0 ([] : List Int)

def F_slices_Equal_int_L1 (p1 : (List Int)) : List Int → Nat → Option Bool
  | [], iL1 =>
    some true
  | xL1 :: restL1, iL1 =>
    (idx p1 (iL1 : Int)).bind fun x103 =>
    if (xL1 != x103) then
      some false
    else
      (F_slices_Equal_int_L1 p1 restL1 (iL1 + 1))
def F_slices_Equal_int (p0 : (List Int)) (p1 : (List Int)) : Option Bool :=
  if ((p0.length : Int) != (p1.length : Int)) then
    some false
  else
    F_slices_Equal_int_L1 p1 p0 0


def F_shape_Set__push (p0 : (List TBand)) (p1 : TBand) : Option (List TBand) :=
  if (((p1.Xs.length : Int) == 0) || (decide (p1.Y1 ≤ p1.Y0))) then
    some p0
  else
    (if (decide (0 ≤ (w64 ((p0.length : Int) - 1)))) then 
      (idx p0 (w64 ((p0.length : Int) - 1))).bind fun x103 =>
      some (x103.Y1 == p1.Y0)
     else some false).bind fun g102 =>
    (if g102 then 
      (idx p0 (w64 ((p0.length : Int) - 1))).bind fun x108 =>
      (F_slices_Equal_int x108.Xs p1.Xs).bind fun y110 =>
      some y110
     else some false).bind fun g107 =>
    if g107 then
      (idx p0 (w64 ((p0.length : Int) - 1))).bind fun x111 =>
      (sets p0 (w64 ((p0.length : Int) - 1)) (TBand.mk x111.Y0 p1.Y1 x111.Xs)).bind fun l112 =>
      some l112
    else
      (apd p0 [p1]).bind fun l114 =>
      some l114

noncomputable def F_shape_SetOf_L5 (y102 : (List TRect)) (y122 : (List Int)) (x229 : Int) (l230 : List TBand) (kL4 : Int → (List TBand) → (List TRect) → Int → Option (List TBand)) : Nat → List TRect → Int → Option (List TBand)
  | 0, _, _ => none
  | mL5 + 1, l257, x258 =>
    (if (decide (x258 < (y102.length : Int))) then 
      (idx y102 x258).bind fun x262 =>
      (idx y122 x229).bind fun x263 =>
      some (decide (x262.Y0 ≤ x263))
     else some false).bind fun g261 =>
    if g261 then
      (idx y102 x258).bind fun x264 =>
      (apd l257 [x264]).bind fun l266 =>
      (F_shape_SetOf_L5 y102 y122 x229 l230 kL4 mL5) l266 (w64 (x258 + 1))
    else
      (idx y122 x229).bind fun x268 =>
      (idx y122 (w64 (x229 + 1))).bind fun x269 =>
      (F_shape_stretches l257).bind fun y270 =>
      (F_shape_Set__push l230 (TBand.mk x268 x269 y270.1)).bind fun y274 =>
      kL4 (w64 (x229 + 1)) y274 y270.2 x258
noncomputable def F_shape_SetOf_L4 (N : Nat) (y102 : (List TRect)) (y122 : (List Int)) : Nat → Int → List TBand → List TRect → Int → Option (List TBand)
  | 0, _, _, _, _ => none
  | mL4 + 1, x229, l230, l231, x232 =>
    if (decide ((w64 (x229 + 1)) < (y122.length : Int))) then
      (F_slices_DeleteFunc_Rect N l231 (fun z0 => F_shape_SetOf_2 z0 y122 x229)).bind fun y233 =>
      F_shape_SetOf_L5 y102 y122 x229 l230 (F_shape_SetOf_L4 N y102 y122 mL4) N y233 x232
    else
      some l230
noncomputable def F_shape_SetOf_L1 (N : Nat) (y102 : (List TRect)) : List TRect → Nat → List Int → Option (List TBand)
  | [], iL1, l119 =>
    (srtI l119).bind fun y120 =>
    (cpI y120).bind fun y122 =>
    F_shape_SetOf_L4 N y102 y122 N 0 ([] : List TBand) ([] : List TRect) 0
  | xL1 :: restL1, iL1, l119 =>
    (apd l119 [xL1.Y0, xL1.Y1]).bind fun l279 =>
    (F_shape_SetOf_L1 N y102 restL1 (iL1 + 1)) l279
noncomputable def F_shape_SetOf (N : Nat) (p0 : (List TRect)) : Option (List TBand) :=
  (F_slices_Clone_Rect p0).bind fun y100 =>
  (srtF y100 (fun z0 z1 => F_shape_SetOf_1 z0 z1)).bind fun y102 =>
  F_shape_SetOf_L1 N y102 y102 0 ([] : List Int)

def F_shape_Set__Rects_L4 (kL3 : (List TRect) → Option (List TRect)) (xL3 : TBand) : Nat → List TRect → Int → Option (List TRect)
  | 0, _, _ => none
  | mL4 + 1, l169, x170 =>
    if (decide (x170 < (xL3.Xs.length : Int))) then
      (idx xL3.Xs x170).bind fun x172 =>
      (idx xL3.Xs (w64 (x170 + 1))).bind fun x173 =>
      (apd l169 [(TRect.mk x172 xL3.Y0 x173 xL3.Y1)]).bind fun l174 =>
      (F_shape_Set__Rects_L4 kL3 xL3 mL4) l174 (w64 (x170 + 2))
    else
      kL3 l169
def F_shape_Set__Rects_L3 (N : Nat) : List TBand → Nat → List TRect → Option (List TRect)
  | [], iL3, l152 =>
    some l152
  | xL3 :: restL3, iL3, l152 =>
    F_shape_Set__Rects_L4 (F_shape_Set__Rects_L3 N restL3 (iL3 + 1)) xL3 N l152 0
def F_shape_Set__Rects (N : Nat) (p0 : (List TBand)) : Option (List TRect) :=
  F_shape_Set__Rects_L3 N p0 0 ([] : List TRect)

def F_slices_Equal_Rect_L1 (p1 : (List TRect)) : List TRect → Nat → Option Bool
  | [], iL1 =>
    some true
  | xL1 :: restL1, iL1 =>
    (idx p1 (iL1 : Int)).bind fun x103 =>
    if (!(eqTRect xL1 x103)) then
      some false
    else
      (F_slices_Equal_Rect_L1 p1 restL1 (iL1 + 1))
def F_slices_Equal_Rect (p0 : (List TRect)) (p1 : (List TRect)) : Option Bool :=
  if ((p0.length : Int) != (p1.length : Int)) then
    some false
  else
    F_slices_Equal_Rect_L1 p1 p0 0

noncomputable def F_shape_CheckRegion_L1 (N : Nat) (p0 : (List TRect)) : Nat → Int → Option Int
  | 0, _ => none
  | mL1 + 1, x116 =>
    if (decide (x116 < (p0.length : Int))) then
      (idx p0 (w64 (x116 - 1))).bind fun x118 =>
      (idx p0 x116).bind fun x119 =>
      if ((decide (x119.Y0 < x118.Y0)) || ((x119.Y0 == x118.Y0) && (decide (x119.X0 ≤ x118.X0)))) then
        some 8
      else
        (F_shape_CheckRegion_L1 N p0 mL1) (w64 (x116 + 1))
    else
      (F_shape_SetOf N p0).bind fun y123 =>
      (F_shape_Set__Rects N y123).bind fun y125 =>
      (F_slices_Equal_Rect y125 p0).bind fun y127 =>
      if (!y127) then
        some 3
      else
        some 0
noncomputable def F_shape_CheckRegion (N : Nat) (p0 : (List TRect)) : Option Int :=
  (F_shape_CheckRects p0).bind fun y100 =>
  if (y100 != 0) then
    some y100
  else
    F_shape_CheckRegion_L1 N p0 N 1


def F_shape_Set__sides_1 (p0 : Int) (p1 : Int) (p2 : Int) (p3 : Int) (q0 : (List TSide)) : Option (List TSide) :=
  (apd q0 [(TSide.mk (TPoint.mk p0 p1) (TPoint.mk p2 p3))]).bind fun l101 =>
  some l101

def F_shape_line_J8 (p2 : Bool → Bool → Option Bool) (l232 : List Int) (x235 : Bool) (kL7 : (List Int) → (List Int) → (List Int) → Bool → Bool → Bool → Option (List Int)) (x249 : Int) (l256 : List Int) (x257 : Bool) (l264 : List Int) (x265 : Bool) : Option (List Int) :=
  (p2 x257 x265).bind fun y268 =>
  if (y268 != x235) then
    (apd l232 [x249]).bind fun l270 =>
    kL7 l256 l264 l270 x257 x265 y268
  else
    kL7 l256 l264 l232 x257 x265 x235
def F_shape_line_J9 (p2 : Bool → Bool → Option Bool) (l231 : List Int) (l232 : List Int) (x234 : Bool) (x235 : Bool) (kL7 : (List Int) → (List Int) → (List Int) → Bool → Bool → Bool → Option (List Int)) (x249 : Int) (l256 : List Int) (x257 : Bool) : Option (List Int) :=
  (if (decide (0 < (l231.length : Int))) then 
    (idx l231 0).bind fun x273 =>
    some (x273 == x249)
   else some false).bind fun g272 =>
  if g272 then
    (cut l231 1 (l231.length : Int)).bind fun l274 =>
    F_shape_line_J8 p2 l232 x235 kL7 x249 l256 x257 l274 (!x234)
  else
    F_shape_line_J8 p2 l232 x235 kL7 x249 l256 x257 l231 x234
def F_shape_line_J10 (p2 : Bool → Bool → Option Bool) (l230 : List Int) (l231 : List Int) (l232 : List Int) (x233 : Bool) (x234 : Bool) (x235 : Bool) (kL7 : (List Int) → (List Int) → (List Int) → Bool → Bool → Bool → Option (List Int)) (x249 : Int) : Option (List Int) :=
  (if (decide (0 < (l230.length : Int))) then 
    (idx l230 0).bind fun x277 =>
    some (x277 == x249)
   else some false).bind fun g276 =>
  if g276 then
    (cut l230 1 (l230.length : Int)).bind fun l278 =>
    F_shape_line_J9 p2 l231 l232 x234 x235 kL7 x249 l278 (!x233)
  else
    F_shape_line_J9 p2 l231 l232 x234 x235 kL7 x249 l230 x233
def F_shape_line_L7 (p2 : Bool → Bool → Option Bool) : Nat → List Int → List Int → List Int → Bool → Bool → Bool → Option (List Int)
  | 0, _, _, _, _, _, _ => none
  | mL7 + 1, l230, l231, l232, x233, x234, x235 =>
    if ((decide (0 < (l230.length : Int))) || (decide (0 < (l231.length : Int)))) then
      (if ((l231.length : Int) == 0) then some true else 
        (if (decide (0 < (l230.length : Int))) then 
          (idx l230 0).bind fun x288 =>
          (idx l231 0).bind fun x289 =>
          some (decide (x288 ≤ x289))
         else some false).bind fun g287 =>
        some g287
      ).bind fun g284 =>
      if g284 then
        (idx l230 0).bind fun x290 =>
        F_shape_line_J10 p2 l230 l231 l232 x233 x234 x235 (F_shape_line_L7 p2 mL7) x290
      else
        (idx l231 0).bind fun x291 =>
        F_shape_line_J10 p2 l230 l231 l232 x233 x234 x235 (F_shape_line_L7 p2 mL7) x291
    else
      some l232
def F_shape_line (N : Nat) (p0 : (List Int)) (p1 : (List Int)) (p2 : Bool → Bool → Option Bool) : Option (List Int) :=
  F_shape_line_L7 p2 N p0 p1 ([] : List Int) false false false


def F_shape_Set__sides_2_1 (p0 : Bool) (p1 : Bool) : Option Bool :=
  some (p0 && (!p1))


def F_shape_Set__sides_2_2 (p0 : Bool) (p1 : Bool) : Option Bool :=
  some (p1 && (!p0))

def F_shape_Set__sides_2__sides_1_L2 (p0 : Int) (y122 : (List Int)) : Nat → List TSide → Int → Option (List TSide)
  | 0, _, _ => none
  | mL2 + 1, l138, x139 =>
    if (decide (x139 < (y122.length : Int))) then
      (idx y122 x139).bind fun x140 =>
      (idx y122 (w64 (x139 + 1))).bind fun x141 =>
      (F_shape_Set__sides_1 x140 p0 x141 p0 l138).bind fun y142 =>
      (F_shape_Set__sides_2__sides_1_L2 p0 y122 mL2) y142 (w64 (x139 + 2))
    else
      some l138
def F_shape_Set__sides_2__sides_1_L1 (N : Nat) (p0 : Int) (p1 : (List Int)) (p2 : (List Int)) (y100 : (List Int)) : Nat → List TSide → Int → Option (List TSide)
  | 0, _, _ => none
  | mL1 + 1, l116, x117 =>
    if (decide (x117 < (y100.length : Int))) then
      (idx y100 (w64 (x117 + 1))).bind fun x118 =>
      (idx y100 x117).bind fun x119 =>
      (F_shape_Set__sides_1 x118 p0 x119 p0 l116).bind fun y120 =>
      (F_shape_Set__sides_2__sides_1_L1 N p0 p1 p2 y100 mL1) y120 (w64 (x117 + 2))
    else
      (F_shape_line N p1 p2 (fun z0 z1 => F_shape_Set__sides_2_2 z0 z1)).bind fun y122 =>
      F_shape_Set__sides_2__sides_1_L2 p0 y122 N l116 0
def F_shape_Set__sides_2__sides_1 (N : Nat) (p0 : Int) (p1 : (List Int)) (p2 : (List Int)) (q1 : (List TSide)) : Option (List TSide) :=
  (F_shape_line N p1 p2 (fun z0 z1 => F_shape_Set__sides_2_1 z0 z1)).bind fun y100 =>
  F_shape_Set__sides_2__sides_1_L1 N p0 p1 p2 y100 N q1 0

def F_shape_Set__sides_J7 (N : Nat) (p0 : (List TBand)) (kL5 : (List TSide) → Option (List TSide)) (xL5 : TBand) (iL5 : Nat) (l288 : List TSide) : Option (List TSide) :=
  (if ((w64 ((iL5 : Int) + 1)) == (p0.length : Int)) then some true else 
    (idx p0 (w64 ((iL5 : Int) + 1))).bind fun x294 =>
    some (decide (xL5.Y1 < x294.Y0))
  ).bind fun g293 =>
  if g293 then
    (F_shape_Set__sides_2__sides_1 N xL5.Y1 xL5.Xs [] l288).bind fun y296 =>
    kL5 y296
  else
    kL5 l288
def F_shape_Set__sides_L6 (N : Nat) (p0 : (List TBand)) (kL5 : (List TSide) → Option (List TSide)) (xL5 : TBand) (iL5 : Nat) : Nat → List TSide → Int → Option (List TSide)
  | 0, _, _ => none
  | mL6 + 1, l267, x268 =>
    if (decide (x268 < (xL5.Xs.length : Int))) then
      (idx xL5.Xs x268).bind fun x269 =>
      (idx xL5.Xs x268).bind fun x270 =>
      (F_shape_Set__sides_1 x269 xL5.Y1 x270 xL5.Y0 l267).bind fun y271 =>
      (idx xL5.Xs (w64 (x268 + 1))).bind fun x273 =>
      (idx xL5.Xs (w64 (x268 + 1))).bind fun x274 =>
      (F_shape_Set__sides_1 x273 xL5.Y0 x274 xL5.Y1 y271).bind fun y275 =>
      (F_shape_Set__sides_L6 N p0 kL5 xL5 iL5 mL6) y275 (w64 (x268 + 2))
    else
      (if ((iL5 : Int) == 0) then some true else 
        (idx p0 (w64 ((iL5 : Int) - 1))).bind fun x301 =>
        some (decide (x301.Y1 < xL5.Y0))
      ).bind fun g300 =>
      if g300 then
        (F_shape_Set__sides_2__sides_1 N xL5.Y0 [] xL5.Xs l267).bind fun y303 =>
        F_shape_Set__sides_J7 N p0 kL5 xL5 iL5 y303
      else
        (idx p0 (w64 ((iL5 : Int) - 1))).bind fun x305 =>
        (F_shape_Set__sides_2__sides_1 N xL5.Y0 x305.Xs xL5.Xs l267).bind fun y307 =>
        F_shape_Set__sides_J7 N p0 kL5 xL5 iL5 y307
def F_shape_Set__sides_L5 (N : Nat) (p0 : (List TBand)) : List TBand → Nat → List TSide → Option (List TSide)
  | [], iL5, l242 =>
    some l242
  | xL5 :: restL5, iL5, l242 =>
    F_shape_Set__sides_L6 N p0 (F_shape_Set__sides_L5 N p0 restL5 (iL5 + 1)) xL5 iL5 N l242 0
def F_shape_Set__sides (N : Nat) (p0 : (List TBand)) : Option (List TSide) :=
  F_shape_Set__sides_L5 N p0 p0 0 ([] : List TSide)


def F_shape_side__direction_1 (p0 : Int) : Option Int :=
  some (min 1 (max (-1) p0))


def F_shape_side__direction (p0 : TSide) : Option TPoint :=
  (F_shape_side__direction_1 (w64 (p0.to_.X - p0.from_.X))).bind fun y102 =>
  (F_shape_side__direction_1 (w64 (p0.to_.Y - p0.from_.Y))).bind fun y103 =>
  some (TPoint.mk y102 y103)


def F_shape_Set__Borders_1 (p0 : TSide) : Option TPoint :=
  (F_shape_side__direction p0).bind fun y102 =>
  some (TPoint.mk (w64 (0 - y102.Y)) y102.X)


def F_shape_less (p0 : TPoint) (p1 : TPoint) : Option Bool :=
  some ((decide (p0.Y < p1.Y)) || ((p0.Y == p1.Y) && (decide (p0.X < p1.X))))


def F_slices_Concat_Point_L2 : List (List TPoint) → Nat → List TPoint → Option (List TPoint)
  | [], iL2, l125 =>
    some l125
  | xL2 :: restL2, iL2, l125 =>
    (apd l125 xL2).bind fun l127 =>
    (F_slices_Concat_Point_L2 restL2 (iL2 + 1)) l127
def F_slices_Concat_Point_L1 (p0 : (List (List TPoint))) : List (List TPoint) → Nat → Int → Option (List TPoint)
  | [], iL1, x110 =>
    (grN x110).bind fun y111 =>
    F_slices_Concat_Point_L2 p0 0 y111
  | xL1 :: restL1, iL1, x110 =>
    if (decide ((w64 (x110 + (xL1.length : Int))) < 0)) then
      none
    else
      (F_slices_Concat_Point_L1 p0 restL1 (iL1 + 1)) (w64 (x110 + (xL1.length : Int)))
def F_slices_Concat_Point (p0 : (List (List TPoint))) : Option (List TPoint) :=
  F_slices_Concat_Point_L1 p0 p0 0 0

def F_shape_corners_L2 (l122 : List TPoint) : List TPoint → Nat → Int → Option (List TPoint)
  | [], iL2, x137 =>
    (cut l122 x137 (l122.length : Int)).bind fun l138 =>
    (pre l122 x137).bind fun l139 =>
    (F_slices_Concat_Point [l138, l139]).bind fun y143 =>
    some y143
  | xL2 :: restL2, iL2, x137 =>
    (idx l122 x137).bind fun x146 =>
    (F_shape_less xL2 x146).bind fun y147 =>
    if y147 then
      (F_shape_corners_L2 l122 restL2 (iL2 + 1)) (iL2 : Int)
    else
      (F_shape_corners_L2 l122 restL2 (iL2 + 1)) x137
def F_shape_corners_L1 (p0 : (List TSide)) : List TSide → Nat → List TPoint → Option (List TPoint)
  | [], iL1, l122 =>
    F_shape_corners_L2 l122 l122 0 0
  | xL1 :: restL1, iL1, l122 =>
    (F_shape_side__direction xL1).bind fun y149 =>
    (md (w64 ((w64 ((iL1 : Int) + (p0.length : Int))) - 1)) (p0.length : Int)).bind fun q150 =>
    (idx p0 q150).bind fun x151 =>
    (F_shape_side__direction x151).bind fun y152 =>
    if (!(eqTPoint y149 y152)) then
      (apd l122 [xL1.from_]).bind fun l154 =>
      (F_shape_corners_L1 p0 restL1 (iL1 + 1)) l154
    else
      (F_shape_corners_L1 p0 restL1 (iL1 + 1)) l122
def F_shape_corners (p0 : (List TSide)) : Option (List TPoint) :=
  F_shape_corners_L1 p0 p0 0 ([] : List TPoint)


def F_shape_Set__Borders_4_J1 (x112 : Bool) : Option Int :=
  if x112 then
    some (-1)
  else
    some 1
def F_shape_Set__Borders_4 (p0 : (List TPoint)) (p1 : (List TPoint)) : Option Int :=
  (idx p0 0).bind fun x115 =>
  (idx p1 0).bind fun x116 =>
  (F_shape_less x115 x116).bind fun y117 =>
  if y117 then
    F_shape_Set__Borders_4_J1 y117
  else
    (idx p0 0).bind fun x118 =>
    (idx p1 0).bind fun x119 =>
    (if (eqTPoint x118 x119) then 
      (idx p1 1).bind fun x124 =>
      (idx p0 1).bind fun x125 =>
      (F_shape_less x124 x125).bind fun y126 =>
      some y126
     else some false).bind fun g123 =>
    F_shape_Set__Borders_4_J1 g123


def F_shape_Set__Borders_2__Borders_1 (p0 : TSide) (p1 : TSide) (q0 : (List ((Int × Int) × List Int))) : Option Bool :=
  (kmgetO okP q0 (p0.to_.X, p0.to_.Y)).bind fun l102 =>
  (if ((l102.length : Int) == 1) then some true else 
    (F_shape_side__direction p1).bind fun y106 =>
    (F_shape_Set__Borders_1 p0).bind fun y107 =>
    some (eqTPoint y106 y107)
  ).bind fun g105 =>
  some g105

def F_shape_Set__Borders_3__Borders_2__Borders_1_L1 (p0 : TSide) (q1 : (List Bool)) (q3 : (List TSide)) (q4 : (List ((Int × Int) × List Int))) : List Int → Nat → Option Int
  | [], iL1 =>
    some (-1)
  | xL1 :: restL1, iL1 =>
    (idx q1 xL1).bind fun x110 =>
    (if (!x110) then 
      (idx q3 xL1).bind fun x114 =>
      (F_shape_Set__Borders_2__Borders_1 p0 x114 q4).bind fun y115 =>
      some y115
     else some false).bind fun g113 =>
    if g113 then
      some xL1
    else
      (F_shape_Set__Borders_3__Borders_2__Borders_1_L1 p0 q1 q3 q4 restL1 (iL1 + 1))
def F_shape_Set__Borders_3__Borders_2__Borders_1 (p0 : TSide) (q0 : (List ((Int × Int) × List Int))) (q1 : (List Bool)) (q3 : (List TSide)) (q4 : (List ((Int × Int) × List Int))) : Option Int :=
  (kmgetO okP q0 (p0.to_.X, p0.to_.Y)).bind fun l101 =>
  F_shape_Set__Borders_3__Borders_2__Borders_1_L1 p0 q1 q3 q4 l101 0

def F_shape_Set__Borders_J10 (l403 : List (List TPoint)) (kL8 : (List Bool) → (List (List TPoint)) → Option (List (List TPoint))) (l453 : List Bool) (l454 : List TSide) : Option (List (List TPoint)) :=
  (F_shape_corners l454).bind fun y457 =>
  (apd l403 [y457]).bind fun l462 =>
  kL8 l453 l462
def F_shape_Set__Borders_L11 (y100 : (List TSide)) (m123 : List ((Int × Int) × List Int)) (l403 : List (List TPoint)) (kL8 : (List Bool) → (List (List TPoint)) → Option (List (List TPoint))) (xL8 : TSide) : Nat → List Bool → List TSide → Int → Option (List (List TPoint))
  | 0, _, _, _ => none
  | mL11 + 1, l493, l494, x495 =>
    if (decide (0 ≤ x495)) then
      (idx l493 x495).bind fun x496 =>
      (sets l493 x495 true).bind fun l497 =>
      (idx y100 x495).bind fun x498 =>
      (apd l494 [x498]).bind fun l500 =>
      (idx y100 x495).bind fun x501 =>
      (if (eqTPoint x501.to_ xL8.from_) then 
        (idx y100 x495).bind fun x505 =>
        (F_shape_Set__Borders_2__Borders_1 x505 xL8 m123).bind fun y506 =>
        some y506
       else some false).bind fun g504 =>
      if g504 then
        F_shape_Set__Borders_J10 l403 kL8 l497 l500
      else
        (idx y100 x495).bind fun x507 =>
        (F_shape_Set__Borders_3__Borders_2__Borders_1 x507 m123 l497 y100 m123).bind fun y508 =>
        (F_shape_Set__Borders_L11 y100 m123 l403 kL8 xL8 mL11) l497 l500 y508
    else
      F_shape_Set__Borders_J10 l403 kL8 l493 l494
noncomputable def F_shape_Set__Borders_L8 (N : Nat) (y100 : (List TSide)) (m123 : List ((Int × Int) × List Int)) : List TSide → Nat → List Bool → List (List TPoint) → Option (List (List TPoint))
  | [], iL8, l402, l403 =>
    (srtU l403 (fun z0 z1 => F_shape_Set__Borders_4 z0 z1)).bind fun y404 =>
    some y404
  | xL8 :: restL8, iL8, l402, l403 =>
    (idx l402 (iL8 : Int)).bind fun x406 =>
    if x406 then
      (F_shape_Set__Borders_L8 N y100 m123 restL8 (iL8 + 1)) l402 l403
    else
      F_shape_Set__Borders_L11 y100 m123 l403 (F_shape_Set__Borders_L8 N y100 m123 restL8 (iL8 + 1)) xL8 N l402 ([] : List TSide) (iL8 : Int)
noncomputable def F_shape_Set__Borders_L1 (N : Nat) (y100 : (List TSide)) : List TSide → Nat → List ((Int × Int) × List Int) → Option (List (List TPoint))
  | [], iL1, m123 =>
    (mkl false (y100.length : Int)).bind fun l126 =>
    F_shape_Set__Borders_L8 N y100 m123 y100 0 l126 ([] : List (List TPoint))
  | xL1 :: restL1, iL1, m123 =>
    (kmgetO okP m123 (xL1.from_.X, xL1.from_.Y)).bind fun l511 =>
    (apd l511 [(iL1 : Int)]).bind fun l512 =>
    (F_shape_Set__Borders_L1 N y100 restL1 (iL1 + 1)) (kmput m123 (xL1.from_.X, xL1.from_.Y) l512)
noncomputable def F_shape_Set__Borders (N : Nat) (p0 : (List TBand)) : Option (List (List TPoint)) :=
  (F_shape_Set__sides N p0).bind fun y100 =>
  F_shape_Set__Borders_L1 N y100 y100 0 ([] : List ((Int × Int) × List Int))

def F_shape_Outlines_L1 (y103 : (List (List TPoint))) : List (List TPoint) → Nat → Int → Option ((List (List TPoint)) × Int)
  | [], iL1, x115 =>
    if (decide (2000 < x115)) then
      some (([] : List (List TPoint)), 2)
    else
      some (y103, 0)
  | xL1 :: restL1, iL1, x115 =>
    (F_shape_Outlines_L1 y103 restL1 (iL1 + 1)) (w64 (x115 + (xL1.length : Int)))
noncomputable def F_shape_Outlines (N : Nat) (p0 : (List TRect)) : Option ((List (List TPoint)) × Int) :=
  (F_shape_CheckRegion N p0).bind fun y100 =>
  if (y100 != 0) then
    some (([] : List (List TPoint)), y100)
  else
    (F_shape_SetOf N p0).bind fun y101 =>
    (F_shape_Set__Borders N y101).bind fun y103 =>
    F_shape_Outlines_L1 y103 y103 0 0


def F_plot_Of_1 (p0 : TRow) : Option Int :=
  some (max p0.area (w64 (0 - p0.area)))


def F_cmp_isNaN_int (p0 : Int) : Option Bool :=
  some (p0 != p0)


def F_cmp_Compare_int (p0 : Int) (p1 : Int) : Option Int :=
  (F_cmp_isNaN_int p0).bind fun y100 =>
  (F_cmp_isNaN_int p1).bind fun y101 =>
  if y100 then
    if y101 then
      some 0
    else
      some (-1)
  else
    if y101 then
      some 1
    else
      if (decide (p0 < p1)) then
        some (-1)
      else
        if (decide (p1 < p0)) then
          some 1
        else
          some 0


def F_plot_Of_2__Of_1 (p0 : TRow) (p1 : TRow) : Option Int :=
  (F_plot_Of_1 p1).bind fun y102 =>
  (F_plot_Of_1 p0).bind fun y103 =>
  (F_cmp_Compare_int y102 y103).bind fun y104 =>
  some y104

def F_slices_insertionSortCmpFunc_row__Of_2__Of_1_L4 (p1 : Int) (x243 : Int) (kL3 : (List TRow) → Int → Option (List TRow)) : Nat → List TRow → Int → Option (List TRow)
  | 0, _, _ => none
  | mL4 + 1, l290, x291 =>
    (if (decide (p1 < x291)) then 
      (idx l290 x291).bind fun x298 =>
      (idx l290 (w64 (x291 - 1))).bind fun x300 =>
      (F_plot_Of_2__Of_1 x298 x300).bind fun y302 =>
      some (decide (y302 < 0))
     else some false).bind fun g297 =>
    if g297 then
      (idx l290 (w64 (x291 - 1))).bind fun x304 =>
      (idx l290 x291).bind fun x306 =>
      (idx l290 x291).bind fun x308 =>
      (sets l290 x291 x304).bind fun l309 =>
      (idx l309 (w64 (x291 - 1))).bind fun x310 =>
      (sets l309 (w64 (x291 - 1)) x306).bind fun l311 =>
      (F_slices_insertionSortCmpFunc_row__Of_2__Of_1_L4 p1 x243 kL3 mL4) l311 (w64 (x291 - 1))
    else
      kL3 l290 (w64 (x243 + 1))
def F_slices_insertionSortCmpFunc_row__Of_2__Of_1_L3 (N : Nat) (p1 : Int) (p2 : Int) : Nat → List TRow → Int → Option (List TRow)
  | 0, _, _ => none
  | mL3 + 1, l242, x243 =>
    if (decide (x243 < p2)) then
      F_slices_insertionSortCmpFunc_row__Of_2__Of_1_L4 p1 x243 (F_slices_insertionSortCmpFunc_row__Of_2__Of_1_L3 N p1 p2 mL3) N l242 x243
    else
      some l242
def F_slices_insertionSortCmpFunc_row__Of_2__Of_1 (N : Nat) (p0 : (List TRow)) (p1 : Int) (p2 : Int) : Option (List TRow) :=
  F_slices_insertionSortCmpFunc_row__Of_2__Of_1_L3 N p1 p2 N p0 (w64 (p1 + 1))

def F_slices_swapRangeCmpFunc_row__Of_2__Of_1_L1 (p1 : Int) (p2 : Int) (p3 : Int) : Nat → List TRow → Int → Option (List TRow)
  | 0, _, _ => none
  | mL1 + 1, l124, x125 =>
    if (decide (x125 < p3)) then
      (idx l124 (w64 (p2 + x125))).bind fun x127 =>
      (idx l124 (w64 (p1 + x125))).bind fun x129 =>
      (idx l124 (w64 (p1 + x125))).bind fun x131 =>
      (sets l124 (w64 (p1 + x125)) x127).bind fun l132 =>
      (idx l132 (w64 (p2 + x125))).bind fun x133 =>
      (sets l132 (w64 (p2 + x125)) x129).bind fun l134 =>
      (F_slices_swapRangeCmpFunc_row__Of_2__Of_1_L1 p1 p2 p3 mL1) l134 (w64 (x125 + 1))
    else
      some l124
def F_slices_swapRangeCmpFunc_row__Of_2__Of_1 (N : Nat) (p0 : (List TRow)) (p1 : Int) (p2 : Int) (p3 : Int) : Option (List TRow) :=
  F_slices_swapRangeCmpFunc_row__Of_2__Of_1_L1 p1 p2 p3 N p0 0

def F_slices_rotateCmpFunc_row__Of_2__Of_1_L1 (N : Nat) (p2 : Int) : Nat → List TRow → Int → Int → Option (List TRow)
  | 0, _, _, _ => none
  | mL1 + 1, l117, x118, x119 =>
    if (x118 != x119) then
      if (decide (x119 < x118)) then
        (F_slices_swapRangeCmpFunc_row__Of_2__Of_1 N l117 (w64 (p2 - x118)) p2 x119).bind fun y120 =>
        (F_slices_rotateCmpFunc_row__Of_2__Of_1_L1 N p2 mL1) y120 (w64 (x118 - x119)) x119
      else
        (F_slices_swapRangeCmpFunc_row__Of_2__Of_1 N l117 (w64 (p2 - x118)) (w64 ((w64 (p2 + x119)) - x118)) x118).bind fun y122 =>
        (F_slices_rotateCmpFunc_row__Of_2__Of_1_L1 N p2 mL1) y122 x118 (w64 (x119 - x118))
    else
      (F_slices_swapRangeCmpFunc_row__Of_2__Of_1 N l117 (w64 (p2 - x118)) p2 x118).bind fun y124 =>
      some y124
def F_slices_rotateCmpFunc_row__Of_2__Of_1 (N : Nat) (p0 : (List TRow)) (p1 : Int) (p2 : Int) (p3 : Int) : Option (List TRow) :=
  F_slices_rotateCmpFunc_row__Of_2__Of_1_L1 N p2 N p0 (w64 (p2 - p1)) (w64 (p3 - p2))

def F_slices_symMergeCmpFunc_row__Of_2__Of_1_L2 (x120 : Int) : Nat → List TRow → Int → Option (List TRow)
  | 0, _, _ => none
  | mL2 + 1, l153, x154 =>
    if (decide (x154 < (w64 (x120 - 1)))) then
      (idx l153 (w64 (x154 + 1))).bind fun x156 =>
      (idx l153 x154).bind fun x158 =>
      (idx l153 x154).bind fun x160 =>
      (sets l153 x154 x156).bind fun l161 =>
      (idx l161 (w64 (x154 + 1))).bind fun x162 =>
      (sets l161 (w64 (x154 + 1)) x158).bind fun l163 =>
      (F_slices_symMergeCmpFunc_row__Of_2__Of_1_L2 x120 mL2) l163 (w64 (x154 + 1))
    else
      some l153
def F_slices_symMergeCmpFunc_row__Of_2__Of_1_L1 (N : Nat) (p0 : (List TRow)) (p1 : Int) : Nat → Int → Int → Option (List TRow)
  | 0, _, _ => none
  | mL1 + 1, x120, x121 =>
    if (decide (x120 < x121)) then
      (uO (w64 (x120 + x121))).bind fun q122 =>
      (uO (q122 / 2)).bind fun q123 =>
      (idx p0 q123).bind fun x124 =>
      (idx p0 p1).bind fun x126 =>
      (F_plot_Of_2__Of_1 x124 x126).bind fun y128 =>
      if (decide (y128 < 0)) then
        (F_slices_symMergeCmpFunc_row__Of_2__Of_1_L1 N p0 p1 mL1) (w64 (q123 + 1)) x121
      else
        (F_slices_symMergeCmpFunc_row__Of_2__Of_1_L1 N p0 p1 mL1) x120 q123
    else
      F_slices_symMergeCmpFunc_row__Of_2__Of_1_L2 x120 N p0 p1
def F_slices_symMergeCmpFunc_row__Of_2__Of_1_L4 (x184 : Int) : Nat → List TRow → Int → Option (List TRow)
  | 0, _, _ => none
  | mL4 + 1, l217, x218 =>
    if (decide (x184 < x218)) then
      (idx l217 (w64 (x218 - 1))).bind fun x220 =>
      (idx l217 x218).bind fun x222 =>
      (idx l217 x218).bind fun x224 =>
      (sets l217 x218 x220).bind fun l225 =>
      (idx l225 (w64 (x218 - 1))).bind fun x226 =>
      (sets l225 (w64 (x218 - 1)) x222).bind fun l227 =>
      (F_slices_symMergeCmpFunc_row__Of_2__Of_1_L4 x184 mL4) l227 (w64 (x218 - 1))
    else
      some l217
def F_slices_symMergeCmpFunc_row__Of_2__Of_1_L3 (N : Nat) (p0 : (List TRow)) (p2 : Int) : Nat → Int → Int → Option (List TRow)
  | 0, _, _ => none
  | mL3 + 1, x184, x185 =>
    if (decide (x184 < x185)) then
      (uO (w64 (x184 + x185))).bind fun q186 =>
      (uO (q186 / 2)).bind fun q187 =>
      (idx p0 p2).bind fun x188 =>
      (idx p0 q187).bind fun x190 =>
      (F_plot_Of_2__Of_1 x188 x190).bind fun y192 =>
      if (!(decide (y192 < 0))) then
        (F_slices_symMergeCmpFunc_row__Of_2__Of_1_L3 N p0 p2 mL3) (w64 (q187 + 1)) x185
      else
        (F_slices_symMergeCmpFunc_row__Of_2__Of_1_L3 N p0 p2 mL3) x184 q187
    else
      F_slices_symMergeCmpFunc_row__Of_2__Of_1_L4 x184 N p0 p2
def F_slices_symMergeCmpFunc_row__Of_2__Of_1_J6 (p2 : Int) (p3 : Int) (rec : (List TRow) → Int → Int → Int → Option (List TRow)) (q229 : Int) (x254 : Int) (l270 : List TRow) : Option (List TRow) :=
  if ((decide (q229 < (w64 ((w64 (q229 + p2)) - x254)))) && (decide ((w64 ((w64 (q229 + p2)) - x254)) < p3))) then
    (rec l270 q229 (w64 ((w64 (q229 + p2)) - x254)) p3).bind fun y273 =>
    some y273
  else
    some l270
def F_slices_symMergeCmpFunc_row__Of_2__Of_1_J7 (p1 : Int) (p2 : Int) (p3 : Int) (rec : (List TRow) → Int → Int → Int → Option (List TRow)) (q229 : Int) (x254 : Int) (l265 : List TRow) : Option (List TRow) :=
  if ((decide (p1 < x254)) && (decide (x254 < q229))) then
    (rec l265 p1 x254 q229).bind fun y275 =>
    F_slices_symMergeCmpFunc_row__Of_2__Of_1_J6 p2 p3 rec q229 x254 y275
  else
    F_slices_symMergeCmpFunc_row__Of_2__Of_1_J6 p2 p3 rec q229 x254 l265
def F_slices_symMergeCmpFunc_row__Of_2__Of_1_L5 (N : Nat) (p0 : (List TRow)) (p1 : Int) (p2 : Int) (p3 : Int) (rec : (List TRow) → Int → Int → Int → Option (List TRow)) (q229 : Int) : Nat → Int → Int → Option (List TRow)
  | 0, _, _ => none
  | mL5 + 1, x254, x255 =>
    if (decide (x254 < x255)) then
      (uO (w64 (x254 + x255))).bind fun q256 =>
      (uO (q256 / 2)).bind fun q257 =>
      (idx p0 (w64 ((w64 ((w64 (q229 + p2)) - 1)) - q257))).bind fun x258 =>
      (idx p0 q257).bind fun x260 =>
      (F_plot_Of_2__Of_1 x258 x260).bind fun y262 =>
      if (!(decide (y262 < 0))) then
        (F_slices_symMergeCmpFunc_row__Of_2__Of_1_L5 N p0 p1 p2 p3 rec q229 mL5) (w64 (q257 + 1)) x255
      else
        (F_slices_symMergeCmpFunc_row__Of_2__Of_1_L5 N p0 p1 p2 p3 rec q229 mL5) x254 q257
    else
      if ((decide (x254 < p2)) && (decide (p2 < (w64 ((w64 (q229 + p2)) - x254))))) then
        (F_slices_rotateCmpFunc_row__Of_2__Of_1 N p0 x254 p2 (w64 ((w64 (q229 + p2)) - x254))).bind fun y277 =>
        F_slices_symMergeCmpFunc_row__Of_2__Of_1_J7 p1 p2 p3 rec q229 x254 y277
      else
        F_slices_symMergeCmpFunc_row__Of_2__Of_1_J7 p1 p2 p3 rec q229 x254 p0
def F_slices_symMergeCmpFunc_row__Of_2__Of_1_J8 (N : Nat) (p0 : (List TRow)) (p1 : Int) (p2 : Int) (p3 : Int) (rec : (List TRow) → Int → Int → Int → Option (List TRow)) (q229 : Int) (x230 : Int) (x231 : Int) : Option (List TRow) :=
  F_slices_symMergeCmpFunc_row__Of_2__Of_1_L5 N p0 p1 p2 p3 rec q229 N x230 x231
def F_slices_symMergeCmpFunc_row__Of_2__Of_1_b (N : Nat) (rec : (List TRow) → Int → Int → Int → Option (List TRow)) (p0 : (List TRow)) (p1 : Int) (p2 : Int) (p3 : Int) : Option (List TRow) :=
  if ((w64 (p2 - p1)) == 1) then
    F_slices_symMergeCmpFunc_row__Of_2__Of_1_L1 N p0 p1 N p2 p3
  else
    if ((w64 (p3 - p2)) == 1) then
      F_slices_symMergeCmpFunc_row__Of_2__Of_1_L3 N p0 p2 N p1 p2
    else
      (uO (w64 (p1 + p3))).bind fun q228 =>
      (uO (q228 / 2)).bind fun q229 =>
      if (decide (q229 < p2)) then
        F_slices_symMergeCmpFunc_row__Of_2__Of_1_J8 N p0 p1 p2 p3 rec q229 (w64 ((w64 (q229 + p2)) - p3)) q229
      else
        F_slices_symMergeCmpFunc_row__Of_2__Of_1_J8 N p0 p1 p2 p3 rec q229 p1 p2
def F_slices_symMergeCmpFunc_row__Of_2__Of_1 : Nat → (List TRow) → Int → Int → Int → Option (List TRow)
  | 0 => fun _ _ _ _ => none
  | N + 1 => F_slices_symMergeCmpFunc_row__Of_2__Of_1_b N (F_slices_symMergeCmpFunc_row__Of_2__Of_1 N)

def F_slices_stableCmpFunc_row__Of_2__Of_1_J8 (x177 : Int) (kL6 : (List TRow) → Int → Option (List TRow)) (l198 : List TRow) : Option (List TRow) :=
  kL6 l198 (w64 (x177 * 2))
def F_slices_stableCmpFunc_row__Of_2__Of_1_L7 (N : Nat) (p1 : Int) (x177 : Int) (kL6 : (List TRow) → Int → Option (List TRow)) : Nat → List TRow → Int → Int → Option (List TRow)
  | 0, _, _, _ => none
  | mL7 + 1, l191, x192, x193 =>
    if (decide (x193 ≤ p1)) then
      (F_slices_symMergeCmpFunc_row__Of_2__Of_1 N l191 x192 (w64 (x192 + x177)) x193).bind fun y194 =>
      (F_slices_stableCmpFunc_row__Of_2__Of_1_L7 N p1 x177 kL6 mL7) y194 x193 (w64 (x193 + (w64 (2 * x177))))
    else
      if (decide ((w64 (x192 + x177)) < p1)) then
        (F_slices_symMergeCmpFunc_row__Of_2__Of_1 N l191 x192 (w64 (x192 + x177)) p1).bind fun y201 =>
        F_slices_stableCmpFunc_row__Of_2__Of_1_J8 x177 kL6 y201
      else
        F_slices_stableCmpFunc_row__Of_2__Of_1_J8 x177 kL6 l191
def F_slices_stableCmpFunc_row__Of_2__Of_1_L6 (N : Nat) (p1 : Int) : Nat → List TRow → Int → Option (List TRow)
  | 0, _, _ => none
  | mL6 + 1, l176, x177 =>
    if (decide (x177 < p1)) then
      F_slices_stableCmpFunc_row__Of_2__Of_1_L7 N p1 x177 (F_slices_stableCmpFunc_row__Of_2__Of_1_L6 N p1 mL6) N l176 0 (w64 (2 * x177))
    else
      some l176
def F_slices_stableCmpFunc_row__Of_2__Of_1_L1 (N : Nat) (p1 : Int) : Nat → List TRow → Int → Int → Option (List TRow)
  | 0, _, _, _ => none
  | mL1 + 1, l113, x114, x115 =>
    if (decide (x115 ≤ p1)) then
      (F_slices_insertionSortCmpFunc_row__Of_2__Of_1 N l113 x114 x115).bind fun y116 =>
      (F_slices_stableCmpFunc_row__Of_2__Of_1_L1 N p1 mL1) y116 x115 (w64 (x115 + 20))
    else
      (F_slices_insertionSortCmpFunc_row__Of_2__Of_1 N l113 x114 p1).bind fun y118 =>
      F_slices_stableCmpFunc_row__Of_2__Of_1_L6 N p1 N y118 20
def F_slices_stableCmpFunc_row__Of_2__Of_1 (N : Nat) (p0 : (List TRow)) (p1 : Int) : Option (List TRow) :=
  F_slices_stableCmpFunc_row__Of_2__Of_1_L1 N p1 N p0 0 20


def F_slices_SortStableFunc_row__Of_2__Of_1 (N : Nat) (p0 : (List TRow)) : Option (List TRow) :=
  (F_slices_stableCmpFunc_row__Of_2__Of_1 N p0 (p0.length : Int)).bind fun y100 =>
  some y100

def F_plot_Of_J9 (kL8 : (List TPlotStep) → Int → Option (TPlot × Int)) (xL8 : TRow) (l218 : List TPlotStep) (x219 : Int) : Option (TPlot × Int) :=
  (apd l218 ([(TPlotStep.mk 7 (⟨#[]⟩) (TPoint.mk 0 0) xL8.points 0 0 [])])).bind fun l223 =>
  kL8 l223 x219
def F_plot_Of_J10 (l209 : List TPlotStep) (x210 : Int) (kL8 : (List TPlotStep) → Int → Option (TPlot × Int)) (xL8 : TRow) (x213 : Int) : Option (TPlot × Int) :=
  if (x213 != x210) then
    (apd l209 ([(TPlotStep.mk x213 (⟨#[]⟩) (TPoint.mk 0 0) [] 0 0 [])])).bind fun l225 =>
    F_plot_Of_J9 kL8 xL8 l225 x213
  else
    F_plot_Of_J9 kL8 xL8 l209 x210
def F_plot_Of_L8 : List TRow → Nat → List TPlotStep → Int → Option (TPlot × Int)
  | [], iL8, l209, x210 =>
    some ((TPlot.mk 1 [] l209), 0)
  | xL8 :: restL8, iL8, l209, x210 =>
    if (decide (xL8.area < 0)) then
      F_plot_Of_J10 l209 x210 (F_plot_Of_L8 restL8 (iL8 + 1)) xL8 2
    else
      F_plot_Of_J10 l209 x210 (F_plot_Of_L8 restL8 (iL8 + 1)) xL8 1
def F_plot_Of_L11 (l161 : List TRow) (kL3 : (List TRow) → Option (TPlot × Int)) (xL3 : (List TPoint)) : List TPoint → Nat → Int → Option (TPlot × Int)
  | [], iL11, x244 =>
    (apd l161 [(TRow.mk xL3 x244)]).bind fun l246 =>
    kL3 l246
  | xL11 :: restL11, iL11, x244 =>
    (md (w64 ((iL11 : Int) + 1)) (xL3.length : Int)).bind fun q248 =>
    (idx xL3 q248).bind fun x249 =>
    (F_plot_Of_L11 l161 kL3 xL3 restL11 (iL11 + 1)) (w64 (x244 + (w64 ((w64 (xL11.X * x249.Y)) - (w64 (x249.X * xL11.Y))))))
def F_plot_Of_L3 (N : Nat) : List (List TPoint) → Nat → List TRow → Option (TPlot × Int)
  | [], iL3, l161 =>
    (F_slices_SortStableFunc_row__Of_2__Of_1 N l161).bind fun y163 =>
    F_plot_Of_L8 y163 0 ([] : List TPlotStep) 1
  | xL3 :: restL3, iL3, l161 =>
    F_plot_Of_L11 l161 (F_plot_Of_L3 N restL3 (iL3 + 1)) xL3 xL3 0 0
noncomputable def F_plot_Of (N : Nat) (p0 : (List TRect)) : Option (TPlot × Int) :=
  (F_shape_Outlines N p0).bind fun y101 =>
  if (y101.2 != 0) then
    some ((TPlot.mk 0 [] []), y101.2)
  else
    F_plot_Of_L3 N y101.1 0 ([] : List TRow)


def F_plot_within (p0 : Int) (p1 : Int) (p2 : Int) : Option Bool :=
  some ((decide (p1 ≤ p0)) && (decide (p0 ≤ p2)))


def F_plot_isAt (p0 : Int) (p1 : Int) : Option Bool :=
  (dv (-1000000) p1).bind fun q100 =>
  (dv 1000000 p1).bind fun q101 =>
  (F_plot_within p0 q100 q101).bind fun y102 =>
  some y102

def F_plot_count_J4 (x116 : Int) (kL3 : Int → Option Int) : Option Int :=
  if (decide (3000 < (w64 (x116 + 1)))) then
    none
  else
    kL3 (w64 (x116 + 1))
def F_plot_count_L3 : List TPlotStep → Nat → Int → Option Int
  | [], iL3, x116 =>
    some x116
  | xL3 :: restL3, iL3, x116 =>
    if (decide (0 < (xL3.Steps.length : Int))) then
      none
    else
      F_plot_count_J4 x116 (F_plot_count_L3 restL3 (iL3 + 1))
def F_plot_count_b (N : Nat) (rec : (List TPlotStep) → Option Int) (p0 : (List TPlotStep)) : Option Int :=
  F_plot_count_L3 p0 0 0
def F_plot_count : Nat → (List TPlotStep) → Option Int
  | 0 => fun _ => none
  | N + 1 => F_plot_count_b N (F_plot_count N)

def F_plot_fieldsOf_J1 (p0 : Int) (x101 : Bool) : Option TFields :=
  if x101 then
    none
  else
    if (p0 == 7) then
      some (TFields.mk false false true false)
    else
      if (p0 == 8) then
        none
      else
        some (TFields.mk false false false false)
def F_plot_fieldsOf (p0 : Int) : Option TFields :=
  if (p0 == 3) then
    none
  else
    if (p0 == 4) then
      F_plot_fieldsOf_J1 p0 (p0 == 4)
    else
      if (p0 == 5) then
        F_plot_fieldsOf_J1 p0 (p0 == 5)
      else
        F_plot_fieldsOf_J1 p0 (p0 == 6)


def F_plot_toolAt (p0 : TPlot) (p1 : ByteArray) : Option Int :=
  none


def F_plot_isPoint (p0 : TPoint) (p1 : Int) : Option Bool :=
  (F_plot_isAt p0.X p1).bind fun y101 =>
  (if y101 then 
    (F_plot_isAt p0.Y p1).bind fun y104 =>
    some y104
   else some false).bind fun g103 =>
  some g103


def F_plot_checkStep_1 (p0 : TPoint) (q0 : TPlot) : Option Bool :=
  (F_plot_isPoint p0 q0.Unit).bind fun y101 =>
  some (!y101)

def F_slices_IndexFunc_Point_L1 (p1 : TPoint → Option Bool) : List TPoint → Nat → Option Int
  | [], iL1 =>
    some (-1)
  | xL1 :: restL1, iL1 =>
    (p1 xL1).bind fun y103 =>
    if y103 then
      some (iL1 : Int)
    else
      (F_slices_IndexFunc_Point_L1 p1 restL1 (iL1 + 1))
def F_slices_IndexFunc_Point (p0 : (List TPoint)) (p1 : TPoint → Option Bool) : Option Int :=
  F_slices_IndexFunc_Point_L1 p1 p0 0


def F_slices_ContainsFunc_Point (p0 : (List TPoint)) (p1 : TPoint → Option Bool) : Option Bool :=
  (F_slices_IndexFunc_Point p0 p1).bind fun y100 =>
  some (decide (0 ≤ y100))

def F_shape_IsRow_L1 (p0 : (List TPoint)) : List TPoint → Nat → Option Bool
  | [], iL1 =>
    some true
  | xL1 :: restL1, iL1 =>
    (md (w64 ((iL1 : Int) + 1)) (p0.length : Int)).bind fun q107 =>
    (idx p0 q107).bind fun x108 =>
    if ((xL1.X == x108.X) == (xL1.Y == x108.Y)) then
      some false
    else
      (F_shape_IsRow_L1 p0 restL1 (iL1 + 1))
def F_shape_IsRow (p0 : (List TPoint)) : Option Bool :=
  if (decide ((p0.length : Int) < 4)) then
    some false
  else
    F_shape_IsRow_L1 p0 p0 0

def F_plot_checkStep_J1 (p0 : TPlot) (p1 : TPlotStep) (y103 : TFields) (x105 : Bool) : Option Int :=
  if x105 then
    some 3
  else
    (if y103.name then 
      (F_plot_toolAt p0 p1.Name).bind fun y110 =>
      some (decide (y110 < 0))
     else some false).bind fun g109 =>
    if g109 then
      some 5
    else
      (F_plot_isPoint p1.At p0.Unit).bind fun y111 =>
      (if (!y111) then some true else 
        (F_slices_ContainsFunc_Point p1.Points (fun z0 => F_plot_checkStep_1 z0 p0)).bind fun y114 =>
        some y114
      ).bind fun g113 =>
      if g113 then
        some 1
      else
        if (decide (2000 < (p1.Points.length : Int))) then
          some 2
        else
          (if y103.points then 
            (F_shape_IsRow p1.Points).bind fun y117 =>
            some (!y117)
           else some false).bind fun g116 =>
          if g116 then
            some 3
          else
            if (!y103.repeat_) then
              some 0
            else
              none
def F_plot_checkStep (p0 : TPlot) (p1 : TPlotStep) (p2 : Int) : Option Int :=
  (F_plot_within p1.Kind 1 8).bind fun y102 =>
  if (!y102) then
    some 4
  else
    (F_plot_fieldsOf p1.Kind).bind fun y103 =>
    if ((!y103.name) && (!sEq p1.Name ByteArray.empty)) then
      F_plot_checkStep_J1 p0 p1 y103 ((!y103.name) && (!sEq p1.Name ByteArray.empty))
    else
      if ((!y103.at_) && (!(eqTPoint p1.At (TPoint.mk 0 0)))) then
        F_plot_checkStep_J1 p0 p1 y103 ((!y103.at_) && (!(eqTPoint p1.At (TPoint.mk 0 0))))
      else
        if ((!y103.points) && (decide (0 < (p1.Points.length : Int)))) then
          F_plot_checkStep_J1 p0 p1 y103 ((!y103.points) && (decide (0 < (p1.Points.length : Int))))
        else
          F_plot_checkStep_J1 p0 p1 y103 ((!y103.repeat_) && (((p1.NX != 0) || (p1.NY != 0)) || (decide (0 < (p1.Steps.length : Int)))))

def F_plot_checkSteps_L1 (p0 : TPlot) (p2 : Int) (rec : TPlot → (List TPlotStep) → Int → Option Int) : List TPlotStep → Nat → Option Int
  | [], iL1 =>
    some 0
  | xL1 :: restL1, iL1 =>
    (F_plot_checkStep p0 xL1 p2).bind fun y109 =>
    if (y109 != 0) then
      some y109
    else
      (rec p0 xL1.Steps (w64 (p2 + 1))).bind fun y110 =>
      if (y110 != 0) then
        some y110
      else
        (F_plot_checkSteps_L1 p0 p2 rec restL1 (iL1 + 1))
def F_plot_checkSteps_b (N : Nat) (rec : TPlot → (List TPlotStep) → Int → Option Int) (p0 : TPlot) (p1 : (List TPlotStep)) (p2 : Int) : Option Int :=
  F_plot_checkSteps_L1 p0 p2 rec p1 0
def F_plot_checkSteps : Nat → TPlot → (List TPlotStep) → Int → Option Int
  | 0 => fun _ _ _ => none
  | N + 1 => F_plot_checkSteps_b N (F_plot_checkSteps N)

def F_plot_CheckPlot_L1 (N : Nat) (p0 : TPlot) : List TPlotTool → Nat → Option Int
  | [], iL1 =>
    (F_plot_count N p0.Steps).bind fun y102 =>
    if (decide (3000 < y102)) then
      some 2
    else
      (F_plot_checkSteps N p0 p0.Steps 0).bind fun y103 =>
      some y103
  | xL1 :: restL1, iL1 =>
    none
def F_plot_CheckPlot (N : Nat) (p0 : TPlot) : Option Int :=
  (F_plot_within p0.Unit 1 1000).bind fun y101 =>
  if (!y101) then
    some 1
  else
    if (decide (200 < (p0.Tools.length : Int))) then
      some 2
    else
      F_plot_CheckPlot_L1 N p0 p0.Tools 0



def F_plot_writeSteps_L1 (p0 : ByteArray) : List TPlotStep → Nat → Option ByteArray
  | [], iL1 =>
    some p0
  | xL1 :: restL1, iL1 =>
    none
def F_plot_writeSteps_b (N : Nat) (rec : ByteArray → (List TPlotStep) → Option ByteArray) (p0 : ByteArray) (p1 : (List TPlotStep)) : Option ByteArray :=
  F_plot_writeSteps_L1 p0 p1 0
def F_plot_writeSteps : Nat → ByteArray → (List TPlotStep) → Option ByteArray
  | 0 => fun _ _ => none
  | N + 1 => F_plot_writeSteps_b N (F_plot_writeSteps N)



def F_plot_Text_L1 (N : Nat) (p0 : TPlot) (y106 : ByteArray) : List TPlotTool → Nat → Option (ByteArray × Int)
  | [], iL1 =>
    (F_plot_writeSteps N y106 p0.Steps).bind fun y108 =>
    (sbL y108).bind fun y110 =>
    if (decide (200000 < y110.1)) then
      some (ByteArray.empty, 2)
    else
      (sbS y110.2).bind fun y112 =>
      some (y112.1, 0)
  | xL1 :: restL1, iL1 =>
    none
def F_plot_Text (N : Nat) (p0 : TPlot) : Option (ByteArray × Int) :=
  (F_plot_CheckPlot N p0).bind fun y101 =>
  if (y101 != 0) then
    some (ByteArray.empty, y101)
  else
    (itoaS p0.Unit).bind fun y103 =>
    (catS (⟨#[117, 110, 105, 116, 32]⟩) y103).bind fun t104 =>
    (catS t104 (⟨#[10]⟩)).bind fun t105 =>
    (sbW ByteArray.empty t105).bind fun y106 =>
    F_plot_Text_L1 N p0 y106 p0.Tools 0


def F_etchhouselaw3_awake (N : Nat)  : Option Bool :=
  (F_plot_Text N (TPlot.mk 7 [] [])).bind fun y100 =>
  some ((y100.2 == 0) && (sEq y100.1 (⟨#[117, 110, 105, 116, 32, 55, 10]⟩)))

def F_plot_newMachine_L1 (p0 : TPlot) : List TPlotTool → Nat → Option TMachine
  | [], iL1 =>
    some (TMachine.mk p0 [] [] false (-1) (TPoint.mk 0 0) false 0 0)
  | xL1 :: restL1, iL1 =>
    none
def F_plot_newMachine (p0 : TPlot) : Option TMachine :=
  F_plot_newMachine_L1 p0 p0.Tools 0


def F_plot_machine__moved (p0 : TMachine) (p1 : TPoint) (p2 : TPoint) : Option TPoint :=
  some (TPoint.mk (w64 ((w64 (p1.X * p0.p.Unit)) + p2.X)) (w64 ((w64 (p1.Y * p0.p.Unit)) + p2.Y)))


def F_shape_IsPoint (p0 : TPoint) : Option Bool :=
  (F_shape_IsAt p0.X).bind fun y101 =>
  (if y101 then 
    (F_shape_IsAt p0.Y).bind fun y104 =>
    some y104
   else some false).bind fun g103 =>
  some g103

def F_shape_Set__Around_L1 (x105 : TBand) (x110 : TBand) : List TBand → Nat → Int → Int → Option TRect
  | [], iL1, x133, x134 =>
    some (TRect.mk x133 x105.Y0 x134 x110.Y1)
  | xL1 :: restL1, iL1, x133, x134 =>
    (idx xL1.Xs 0).bind fun x138 =>
    (idx xL1.Xs (w64 ((xL1.Xs.length : Int) - 1))).bind fun x139 =>
    (F_shape_Set__Around_L1 x105 x110 restL1 (iL1 + 1)) (min x133 x138) (max x134 x139)
def F_shape_Set__Around (p0 : (List TBand)) : Option TRect :=
  (idx p0 0).bind fun x102 =>
  (idx x102.Xs 0).bind fun x104 =>
  (idx p0 0).bind fun x105 =>
  (idx p0 0).bind fun x107 =>
  (idx x107.Xs 1).bind fun x109 =>
  (idx p0 (w64 ((p0.length : Int) - 1))).bind fun x110 =>
  F_shape_Set__Around_L1 x105 x110 p0 0 x104 x109


def F_shape_Set__Fits (p0 : (List TBand)) : Option Bool :=
  (if ((p0.length : Int) == 0) then some true else 
    (F_shape_Set__Around p0).bind fun y103 =>
    (F_shape_isRect y103).bind fun y104 =>
    some y104
  ).bind fun g102 =>
  some g102


def F_shape_Set__at (p0 : (List TBand)) (p1 : Int) (p2 : Int) : Option ((List Int) × Int) :=
  if ((p0.length : Int) == 0) then
    some (([] : List Int), p2)
  else
    (idx p0 0).bind fun x102 =>
    if (decide (p1 < x102.Y0)) then
      (idx p0 0).bind fun x104 =>
      some ([], (min p2 x104.Y0))
    else
      (idx p0 0).bind fun x106 =>
      (idx p0 0).bind fun x108 =>
      some (x106.Xs, (min p2 x108.Y1))

def F_shape_Merge_J4 (l152 : List (List TBand)) (x153 : Int) (kL3 : Int → Int → (List (List TBand)) → Int → Option (List TBand)) (x154 : (List TBand)) (x160 : Int) (x161 : Int) : Option (List TBand) :=
  (idx x154 0).bind fun x164 =>
  (idx x154 (w64 ((x154.length : Int) - 1))).bind fun x166 =>
  kL3 (min x160 x164.Y0) (max x161 x166.Y1) l152 (w64 (x153 + 1))
def F_shape_Merge_L11 (N : Nat) (p2 : Bool → Bool → Option Bool) (x151 : Int) (l294 : List TBand) (x295 : Int) (kL9 : (List TBand) → (List TBand) → (List TBand) → Int → Option (List TBand)) (l311 : List TBand) : Nat → List TBand → Option (List TBand)
  | 0, _ => none
  | mL11 + 1, l333 =>
    (if (decide (0 < (l333.length : Int))) then 
      (idx l333 0).bind fun x337 =>
      some (decide (x337.Y1 ≤ x295))
     else some false).bind fun g336 =>
    if g336 then
      (cut l333 1 (l333.length : Int)).bind fun l339 =>
      (F_shape_Merge_L11 N p2 x151 l294 x295 kL9 l311 mL11) l339
    else
      (F_shape_Set__at l311 x295 x151).bind fun y340 =>
      (F_shape_Set__at l333 x295 x151).bind fun y342 =>
      (F_shape_line N y340.1 y342.1 p2).bind fun y344 =>
      (F_shape_Set__push l294 (TBand.mk x295 (min y340.2 y342.2) y344)).bind fun y348 =>
      kL9 l311 l333 y348 (min y340.2 y342.2)
def F_shape_Merge_L10 (N : Nat) (p2 : Bool → Bool → Option Bool) (x151 : Int) (l293 : List TBand) (l294 : List TBand) (x295 : Int) (kL9 : (List TBand) → (List TBand) → (List TBand) → Int → Option (List TBand)) : Nat → List TBand → Option (List TBand)
  | 0, _ => none
  | mL10 + 1, l311 =>
    (if (decide (0 < (l311.length : Int))) then 
      (idx l311 0).bind fun x315 =>
      some (decide (x315.Y1 ≤ x295))
     else some false).bind fun g314 =>
    if g314 then
      (cut l311 1 (l311.length : Int)).bind fun l317 =>
      (F_shape_Merge_L10 N p2 x151 l293 l294 x295 kL9 mL10) l317
    else
      F_shape_Merge_L11 N p2 x151 l294 x295 kL9 l311 N l293
def F_shape_Merge_L9 (N : Nat) (p2 : Bool → Bool → Option Bool) (x151 : Int) : Nat → List TBand → List TBand → List TBand → Int → Option (List TBand)
  | 0, _, _, _, _ => none
  | mL9 + 1, l292, l293, l294, x295 =>
    if (decide (x295 < x151)) then
      F_shape_Merge_L10 N p2 x151 l293 l294 x295 (F_shape_Merge_L9 N p2 x151 mL9) N l292
    else
      some l294
def F_shape_Merge_L3 (N : Nat) (p0 : (List TBand)) (p1 : (List TBand)) (p2 : Bool → Bool → Option Bool) : Nat → Int → Int → List (List TBand) → Int → Option (List TBand)
  | 0, _, _, _, _ => none
  | mL3 + 1, x150, x151, l152, x153 =>
    if (decide (x153 < 2)) then
      (idx l152 x153).bind fun x154 =>
      if (decide (0 < (x154.length : Int))) then
        if ((x153 == 0) || ((p0.length : Int) == 0)) then
          (idx x154 0).bind fun x168 =>
          (idx x154 (w64 ((x154.length : Int) - 1))).bind fun x170 =>
          F_shape_Merge_J4 l152 x153 (F_shape_Merge_L3 N p0 p1 p2 mL3) x154 x168.Y0 x170.Y1
        else
          F_shape_Merge_J4 l152 x153 (F_shape_Merge_L3 N p0 p1 p2 mL3) x154 x150 x151
      else
        (F_shape_Merge_L3 N p0 p1 p2 mL3) x150 x151 l152 (w64 (x153 + 1))
    else
      F_shape_Merge_L9 N p2 x151 N p0 p1 ([] : List TBand) x150
def F_shape_Merge (N : Nat) (p0 : (List TBand)) (p1 : (List TBand)) (p2 : Bool → Bool → Option Bool) : Option (List TBand) :=
  if ((w64 ((p0.length : Int) + (p1.length : Int))) == 0) then
    some ([] : List TBand)
  else
    F_shape_Merge_L3 N p0 p1 p2 N 0 0 [p0, p1] 0


def F_shape_Set__Less_1 (p0 : Bool) (p1 : Bool) : Option Bool :=
  some (p0 && (!p1))


def F_shape_Set__Less (N : Nat) (p0 : (List TBand)) (p1 : (List TBand)) : Option (List TBand) :=
  (F_shape_Merge N p0 p1 (fun z0 z1 => F_shape_Set__Less_1 z0 z1)).bind fun y100 =>
  some y100


def F_shape_Set__Or_1 (p0 : Bool) (p1 : Bool) : Option Bool :=
  some (p0 || p1)


def F_shape_Set__Or (N : Nat) (p0 : (List TBand)) (p1 : (List TBand)) : Option (List TBand) :=
  (F_shape_Merge N p0 p1 (fun z0 z1 => F_shape_Set__Or_1 z0 z1)).bind fun y100 =>
  some y100

def F_shape_Set__Many_L1 : List TBand → Nat → Int → Option Int
  | [], iL1, x112 =>
    some x112
  | xL1 :: restL1, iL1, x112 =>
    (F_shape_Set__Many_L1 restL1 (iL1 + 1)) (w64 (x112 + (w64 (Int.tdiv (xL1.Xs.length : Int) 2))))
def F_shape_Set__Many (p0 : (List TBand)) : Option Int :=
  F_shape_Set__Many_L1 p0 0 0

def F_plot_machine__draw_J1 (l109 : List TBand) : Option (Int × (List TBand)) :=
  (F_shape_Set__Many l109).bind fun y112 =>
  if (decide (2000 < y112)) then
    some (2, l109)
  else
    some (0, l109)
def F_plot_machine__draw (N : Nat) (p0 : TMachine) (p1 : (List TBand)) : Option (Int × (List TBand)) :=
  (F_shape_Set__Fits p1).bind fun y113 =>
  if (!y113) then
    some (1, p0.image)
  else
    if p0.clear then
      (F_shape_Set__Less N p0.image p1).bind fun y116 =>
      F_plot_machine__draw_J1 y116
    else
      (F_shape_Set__Or N p0.image p1).bind fun y120 =>
      F_plot_machine__draw_J1 y120


def F_shape_Around_1 (p0 : TRect) (p1 : TRect) : Option Int :=
  some (w64 (p0.X0 - p1.X0))

def F_shape_Around_L7 (y191 : (List Int)) (l297 : List TBand) (x298 : Int) (kL6 : (List TBand) → Int → Option (List TBand)) : List TRect → Nat → List Int → Option (List TBand)
  | [], iL7, l329 =>
    (idx y191 x298).bind fun x330 =>
    (idx y191 (w64 (x298 + 1))).bind fun x331 =>
    (F_shape_Set__push l297 (TBand.mk x330 x331 l329)).bind fun y334 =>
    kL6 y334 (w64 (x298 + 1))
  | xL7 :: restL7, iL7, l329 =>
    (idx y191 x298).bind fun x337 =>
    (if (decide (x337 < xL7.Y0)) then some true else 
      (idx y191 x298).bind fun x340 =>
      some (decide (xL7.Y1 ≤ x340))
    ).bind fun g339 =>
    if g339 then
      (F_shape_Around_L7 y191 l297 x298 kL6 restL7 (iL7 + 1)) l329
    else
      (if (decide (0 < (l329.length : Int))) then 
        (idx l329 (w64 ((l329.length : Int) - 1))).bind fun x343 =>
        some (x343 == xL7.X0)
       else some false).bind fun g342 =>
      if g342 then
        (pre l329 (w64 ((l329.length : Int) - 1))).bind fun l344 =>
        (F_shape_Around_L7 y191 l297 x298 kL6 restL7 (iL7 + 1)) l344
      else
        (apd l329 [xL7.X0]).bind fun l346 =>
        (F_shape_Around_L7 y191 l297 x298 kL6 restL7 (iL7 + 1)) l346
def F_shape_Around_L6 (y191 : (List Int)) (y193 : (List TRect)) : Nat → List TBand → Int → Option (List TBand)
  | 0, _, _ => none
  | mL6 + 1, l297, x298 =>
    if (decide ((w64 (x298 + 1)) < (y191.length : Int))) then
      F_shape_Around_L7 y191 l297 x298 (F_shape_Around_L6 y191 y193 mL6) y193 0 ([] : List Int)
    else
      some l297
def F_shape_Around_L8 (kL3 : (List Int) → (List TRect) → Option (List TBand)) (xL3 : (List TPoint)) : List TPoint → Nat → List Int → List TRect → Option (List TBand)
  | [], iL8, l375, l376 =>
    kL3 l375 l376
  | xL8 :: restL8, iL8, l375, l376 =>
    (md (w64 ((iL8 : Int) + 1)) (xL3.length : Int)).bind fun q378 =>
    (idx xL3 q378).bind fun x379 =>
    (apd l375 [xL8.Y]).bind fun l382 =>
    if (xL8.X == x379.X) then
      (apd l376 [(TRect.mk xL8.X (min xL8.Y x379.Y) 0 (max xL8.Y x379.Y))]).bind fun l384 =>
      (F_shape_Around_L8 kL3 xL3 restL8 (iL8 + 1)) l382 l384
    else
      (F_shape_Around_L8 kL3 xL3 restL8 (iL8 + 1)) l382 l376
noncomputable def F_shape_Around_L3 (N : Nat) : List (List TPoint) → Nat → List Int → List TRect → Option (List TBand)
  | [], iL3, l187, l188 =>
    (srtI l187).bind fun y189 =>
    (cpI y189).bind fun y191 =>
    (srtF l188 (fun z0 z1 => F_shape_Around_1 z0 z1)).bind fun y193 =>
    F_shape_Around_L6 y191 y193 N ([] : List TBand) 0
  | xL3 :: restL3, iL3, l187, l188 =>
    F_shape_Around_L8 (F_shape_Around_L3 N restL3 (iL3 + 1)) xL3 xL3 0 l187 l188
noncomputable def F_shape_Around (N : Nat) (p0 : (List (List TPoint))) : Option (List TBand) :=
  F_shape_Around_L3 N p0 0 ([] : List Int) ([] : List TRect)


def F_plot_machine__area_1 (p0 : TPoint) : Option Bool :=
  (F_shape_IsPoint p0).bind fun y101 =>
  some (!y101)

noncomputable def F_plot_machine__area_L1 (N : Nat) (p0 : TMachine) (p2 : TPoint) : List TPoint → Nat → List TPoint → Option (Int × (List TBand))
  | [], iL1, l117 =>
    (F_shape_Around N [l117]).bind fun y121 =>
    (F_shape_Set__Many y121).bind fun y123 =>
    if (decide (2000 < y123)) then
      some (2, p0.image)
    else
      (F_slices_ContainsFunc_Point l117 (fun z0 => F_plot_machine__area_1 z0)).bind fun y124 =>
      if y124 then
        some (1, p0.image)
      else
        (F_plot_machine__draw N p0 y121).bind fun y127 =>
        some (y127.1, y127.2)
  | xL1 :: restL1, iL1, l117 =>
    (F_plot_machine__moved p0 xL1 p2).bind fun y130 =>
    (apd l117 [y130]).bind fun l132 =>
    (F_plot_machine__area_L1 N p0 p2 restL1 (iL1 + 1)) l132
noncomputable def F_plot_machine__area (N : Nat) (p0 : TMachine) (p1 : (List TPoint)) (p2 : TPoint) : Option (Int × (List TBand)) :=
  F_plot_machine__area_L1 N p0 p2 p1 0 ([] : List TPoint)

def F_plot_machine__step_J2 (p0 : TMachine) (x109 : Bool) : Option (Int × Bool × (List TBand)) :=
  some (0, x109, p0.image)
noncomputable def F_plot_machine__step_J3 (N : Nat) (p0 : TMachine) (p1 : TPlotStep) (p2 : TPoint) (x112 : Bool) : Option (Int × Bool × (List TBand)) :=
  if x112 then
    F_plot_machine__step_J2 p0 (p1.Kind == 2)
  else
    if (p1.Kind == 3) then
      none
    else
      if (p1.Kind == 4) then
        none
      else
        if (p1.Kind == 5) then
          none
        else
          if (p1.Kind == 6) then
            none
          else
            if (p1.Kind == 7) then
              (F_plot_machine__area N p0 p1.Points p2).bind fun y115 =>
              some (y115.1, p0.clear, y115.2)
            else
              if (p1.Kind == 8) then
                none
              else
                F_plot_machine__step_J2 p0 p0.clear
noncomputable def F_plot_machine__step (rec : TMachine → (List TPlotStep) → TPoint → Option (Int × Bool × (List TBand))) (N : Nat) (p0 : TMachine) (p1 : TPlotStep) (p2 : TPoint) : Option (Int × Bool × (List TBand)) :=
  (F_plot_machine__moved p0 p1.At p2).bind fun y102 =>
  if (p1.Kind == 1) then
    F_plot_machine__step_J3 N p0 p1 p2 (p1.Kind == 1)
  else
    F_plot_machine__step_J3 N p0 p1 p2 (p1.Kind == 2)

noncomputable def F_plot_machine__run_L1 (N : Nat) (p0 : TMachine) (p2 : TPoint) (rec : TMachine → (List TPlotStep) → TPoint → Option (Int × Bool × (List TBand))) : List TPlotStep → Nat → List TBand → Bool → Option (Int × Bool × (List TBand))
  | [], iL1, l120, x121 =>
    some (0, x121, l120)
  | xL1 :: restL1, iL1, l120, x121 =>
    (F_plot_machine__step rec N (TMachine.mk p0.p p0.tools l120 x121 p0.tool p0.place p0.placed p0.off p0.on) xL1 p2).bind fun y124 =>
    if (y124.1 != 0) then
      some (y124.1, y124.2.1, y124.2.2)
    else
      (F_plot_machine__run_L1 N p0 p2 rec restL1 (iL1 + 1)) y124.2.2 y124.2.1
noncomputable def F_plot_machine__run_b (N : Nat) (rec : TMachine → (List TPlotStep) → TPoint → Option (Int × Bool × (List TBand))) (p0 : TMachine) (p1 : (List TPlotStep)) (p2 : TPoint) : Option (Int × Bool × (List TBand)) :=
  F_plot_machine__run_L1 N p0 p2 rec p1 0 p0.image p0.clear
noncomputable def F_plot_machine__run : Nat → TMachine → (List TPlotStep) → TPoint → Option (Int × Bool × (List TBand))
  | 0 => fun _ _ _ => none
  | N + 1 => F_plot_machine__run_b N (F_plot_machine__run N)


noncomputable def F_plot_drawn (N : Nat) (p0 : TPlot) : Option (TMachine × Int) :=
  (F_plot_newMachine p0).bind fun y101 =>
  (F_plot_machine__run N y101 p0.Steps (TPoint.mk 0 0)).bind fun y103 =>
  some ((TMachine.mk y101.p y101.tools y103.2.2 y103.2.1 y101.tool y101.place y101.placed y101.off y101.on), y103.1)


noncomputable def F_plot_ImageOf (N : Nat) (p0 : TPlot) : Option ((List TBand) × Int) :=
  (F_plot_CheckPlot N p0).bind fun y101 =>
  if (y101 != 0) then
    some (([] : List TBand), y101)
  else
    (F_plot_drawn N p0).bind fun y102 =>
    if (y102.2 != 0) then
      some (([] : List TBand), y102.2)
    else
      some (y102.1.image, 0)


noncomputable def F_plot_Image (N : Nat) (p0 : TPlot) : Option ((List TRect) × Int) :=
  (F_plot_ImageOf N p0).bind fun y101 =>
  (F_shape_Set__Rects N y101.1).bind fun y103 =>
  some (y103, y101.2)


def F_plot_Short_1 (p0 : Int) : Option Int :=
  some p0


def F_slices_Clone_PlotTool (p0 : (List TPlotTool)) : Option (List TPlotTool) :=
  (apd ([] : List TPlotTool) p0).bind fun l101 =>
  some l101


def F_slices_Clone_PlotStep (p0 : (List TPlotStep)) : Option (List TPlotStep) :=
  (apd ([] : List TPlotStep) p0).bind fun l101 =>
  some l101


def F_slices_Clone_Point (p0 : (List TPoint)) : Option (List TPoint) :=
  (apd ([] : List TPoint) p0).bind fun l101 =>
  some l101

def F_slices_Index_int_L1 (p1 : Int) : List Int → Nat → Option Int
  | [], iL1 =>
    some (-1)
  | xL1 :: restL1, iL1 =>
    if (p1 == xL1) then
      some (iL1 : Int)
    else
      (F_slices_Index_int_L1 p1 restL1 (iL1 + 1))
def F_slices_Index_int (p0 : (List Int)) (p1 : Int) : Option Int :=
  F_slices_Index_int_L1 p1 p0 0


def F_slices_Contains_int (p0 : (List Int)) (p1 : Int) : Option Bool :=
  (F_slices_Index_int p0 p1).bind fun y100 =>
  some (decide (0 ≤ y100))

def F_plot_next_L1 (p1 : (List Int)) : List TPlotStep → Nat → Option Int
  | [], iL1 =>
    some 0
  | xL1 :: restL1, iL1 =>
    (F_slices_Contains_int p1 xL1.Kind).bind fun y107 =>
    if y107 then
      some xL1.Kind
    else
      (F_plot_next_L1 p1 restL1 (iL1 + 1))
def F_plot_next (p0 : (List TPlotStep)) (p1 : (List Int)) : Option Int :=
  F_plot_next_L1 p1 p0 0


def F_plot_draws (p0 : Int) : Option Bool :=
  some ((((p0 == 5) || (p0 == 6)) || (p0 == 7)) || (p0 == 8))

def F_plot_needless_J1 (p0 : TPlotStep) (p1 : TKnown) (p2 : (List TPlotStep)) (x102 : Bool) : Option Bool :=
  if x102 then
    (F_plot_next p2 [1, 2, 5, 6, 7, 8]).bind fun y106 =>
    (if (p0.Kind == p1.dark) then some true else 
      (F_plot_draws y106).bind fun y109 =>
      some (!y109)
    ).bind fun g108 =>
    some g108
  else
    if (p0.Kind == 3) then
      none
    else
      if (p0.Kind == 4) then
        none
      else
        if (p0.Kind == 6) then
          none
        else
          some false
def F_plot_needless (p0 : TPlotStep) (p1 : TKnown) (p2 : (List TPlotStep)) : Option Bool :=
  if (p0.Kind == 1) then
    F_plot_needless_J1 p0 p1 p2 (p0.Kind == 1)
  else
    F_plot_needless_J1 p0 p1 p2 (p0.Kind == 2)

def F_plot_known__behind_J3 (p0 : TKnown) (x109 : Int) (x110 : Int) (x111 : ByteArray) (x112 : Int) (x113 : Int) (l114 : List TPoint) (x115 : Int) (x116 : Int) (l117 : List TPlotStep) : Option TKnown :=
  some (TKnown.mk x109 p0.tool p0.place p0.placed (TPlotStep.mk x110 x111 (TPoint.mk x112 x113) l114 x115 x116 l117))
def F_plot_known__behind_J4 (p0 : TKnown) (p1 : TPlotStep) (x123 : Bool) : Option TKnown :=
  if x123 then
    none
  else
    if (p1.Kind == 7) then
      F_plot_known__behind_J3 p0 p0.dark 0 (⟨#[]⟩) 0 0 [] 0 0 []
    else
      if (p1.Kind == 8) then
        none
      else
        F_plot_known__behind_J3 p0 p0.dark p0.last.Kind p0.last.Name p0.last.At.X p0.last.At.Y p0.last.Points p0.last.NX p0.last.NY p0.last.Steps
def F_plot_known__behind_J5 (p0 : TKnown) (p1 : TPlotStep) (x120 : Bool) : Option TKnown :=
  if x120 then
    F_plot_known__behind_J3 p0 p1.Kind p0.last.Kind p0.last.Name p0.last.At.X p0.last.At.Y p0.last.Points p0.last.NX p0.last.NY p0.last.Steps
  else
    if (p1.Kind == 3) then
      none
    else
      if (p1.Kind == 4) then
        none
      else
        if (p1.Kind == 5) then
          F_plot_known__behind_J4 p0 p1 (p1.Kind == 5)
        else
          F_plot_known__behind_J4 p0 p1 (p1.Kind == 6)
def F_plot_known__behind (p0 : TKnown) (p1 : TPlotStep) : Option TKnown :=
  if (p1.Kind == 1) then
    F_plot_known__behind_J5 p0 p1 (p1.Kind == 1)
  else
    F_plot_known__behind_J5 p0 p1 (p1.Kind == 2)

def F_plot_without_L1 (p0 : (List TPlotStep)) : List TPlotStep → Nat → Int → ByteArray → Int → Int → Bool → Int → ByteArray → Int → Int → List TPoint → Int → Int → List TPlotStep → Option Int
  | [], iL1, x157, x158, x159, x160, x161, x162, x163, x164, x165, l166, x167, x168, l169 =>
    some (-1)
  | xL1 :: restL1, iL1, x157, x158, x159, x160, x161, x162, x163, x164, x165, l166, x167, x168, l169 =>
    (cut p0 (w64 ((iL1 : Int) + 1)) (p0.length : Int)).bind fun l172 =>
    (F_plot_needless xL1 (TKnown.mk x157 x158 (TPoint.mk x159 x160) x161 (TPlotStep.mk x162 x163 (TPoint.mk x164 x165) l166 x167 x168 l169)) l172).bind fun y173 =>
    if y173 then
      some (iL1 : Int)
    else
      (F_plot_known__behind (TKnown.mk x157 x158 (TPoint.mk x159 x160) x161 (TPlotStep.mk x162 x163 (TPoint.mk x164 x165) l166 x167 x168 l169)) xL1).bind fun y174 =>
      (F_plot_without_L1 p0 restL1 (iL1 + 1)) y174.dark y174.tool y174.place.X y174.place.Y y174.placed y174.last.Kind y174.last.Name y174.last.At.X y174.last.At.Y y174.last.Points y174.last.NX y174.last.NY y174.last.Steps
def F_plot_without (p0 : (List TPlotStep)) : Option Int :=
  F_plot_without_L1 p0 p0 0 1 (⟨#[]⟩) 0 0 false 0 (⟨#[]⟩) 0 0 [] 0 0 []

def F_plot_ownTools__changed_2__Short_1_L1 (y100 : (List TPlotTool)) : Nat → Option (List TPlotTool)
  | 0 => none
  | mL1 + 1 =>
    if (decide (0 < (y100.length : Int))) then
      none
    else
      some y100
def F_plot_ownTools__changed_2__Short_1 (N : Nat) (p0 : (List TPlotTool)) : Option (List TPlotTool) :=
  (F_slices_Clone_PlotTool p0).bind fun y100 =>
  F_plot_ownTools__changed_2__Short_1_L1 y100 N


def F_plot_changed_1__Short_1 (p0 : TPoint) : Option TPoint :=
  (F_plot_Short_1 p0.X).bind fun y102 =>
  (F_plot_Short_1 p0.Y).bind fun y103 =>
  some (TPoint.mk y102 y103)

def F_plot_changed_3__changed_1__Short_1_L1 (y100 : TPoint) : List TPoint → Nat → List TPoint → Option (Int × Int × (List TPoint))
  | [], iL1, l115 =>
    some (y100.X, y100.Y, l115)
  | xL1 :: restL1, iL1, l115 =>
    (idx l115 (iL1 : Int)).bind fun x116 =>
    (F_plot_changed_1__Short_1 x116).bind fun y117 =>
    (idx l115 (iL1 : Int)).bind fun x118 =>
    (sets l115 (iL1 : Int) y117).bind fun l119 =>
    (F_plot_changed_3__changed_1__Short_1_L1 y100 restL1 (iL1 + 1)) l119
def F_plot_changed_3__changed_1__Short_1 (p0 : TPlotStep) : Option (Int × Int × (List TPoint)) :=
  (F_plot_changed_1__Short_1 p0.At).bind fun y100 =>
  F_plot_changed_3__changed_1__Short_1_L1 y100 p0.Points 0 p0.Points

def F_plot_own__changed_3__changed_1__Short_1_L1 (rec : (List TPlotStep) → Option (List TPlotStep)) (y100 : (List TPlotStep)) : Nat → List TPlotStep → Int → Option (List TPlotStep)
  | 0, _, _ => none
  | mL1 + 1, l154, x155 =>
    if (decide (x155 < (y100.length : Int))) then
      (idx l154 x155).bind fun x156 =>
      (F_slices_Clone_Point x156.Points).bind fun y158 =>
      (idx l154 x155).bind fun x160 =>
      (idx l154 x155).bind fun x162 =>
      (rec x160.Steps).bind fun y163 =>
      (idx l154 x155).bind fun x165 =>
      (idx l154 x155).bind fun x166 =>
      (F_plot_changed_3__changed_1__Short_1 (TPlotStep.mk x160.Kind x160.Name x160.At y158 x160.NX x160.NY y163)).bind fun y167 =>
      (F_plot_own__changed_3__changed_1__Short_1_L1 rec y100 mL1) ((l154).set (x155).toNat (TPlotStep.mk x160.Kind x160.Name (TPoint.mk y167.1 y167.2.1) y167.2.2 x160.NX x160.NY y163)) (w64 (x155 + 1))
    else
      some l154
def F_plot_own__changed_3__changed_1__Short_1_b (N : Nat) (rec : (List TPlotStep) → Option (List TPlotStep)) (p0 : (List TPlotStep)) : Option (List TPlotStep) :=
  (F_slices_Clone_PlotStep p0).bind fun y100 =>
  F_plot_own__changed_3__changed_1__Short_1_L1 rec y100 N y100 0
def F_plot_own__changed_3__changed_1__Short_1 : Nat → (List TPlotStep) → Option (List TPlotStep)
  | 0 => fun _ => none
  | N + 1 => F_plot_own__changed_3__changed_1__Short_1_b N (F_plot_own__changed_3__changed_1__Short_1 N)


def F_plot_changed__Short_1 (N : Nat) (p0 : TPlot) : Option TPlot :=
  (F_plot_ownTools__changed_2__Short_1 N p0.Tools).bind fun y104 =>
  (F_plot_own__changed_3__changed_1__Short_1 N p0.Steps).bind fun y106 =>
  some (TPlot.mk p0.Unit y104 y106)

def F_plot_Short_L1 (y103 : TPlot) : Nat → Option (TPlot × Int)
  | 0 => none
  | mL1 + 1 =>
    (F_plot_without y103.Steps).bind fun y107 =>
    if (decide (y107 < 0)) then
      some (y103, 0)
    else
      none
def F_plot_Short (N : Nat) (p0 : TPlot) : Option (TPlot × Int) :=
  (F_plot_CheckPlot N p0).bind fun y102 =>
  if (y102 != 0) then
    some ((TPlot.mk 0 [] []), y102)
  else
    (F_plot_changed__Short_1 N p0).bind fun y103 =>
    F_plot_Short_L1 y103 N

def F_etchhouseref3_samePoints_L1 (p0 : (List TPoint)) (p1 : (List TPoint)) : Nat → Int → Option Bool
  | 0, _ => none
  | mL1 + 1, x107 =>
    if (decide (x107 < (p0.length : Int))) then
      (idx p0 x107).bind fun x108 =>
      (idx p1 x107).bind fun x109 =>
      if (!(eqTPoint x108 x109)) then
        some false
      else
        (F_etchhouseref3_samePoints_L1 p0 p1 mL1) (w64 (x107 + 1))
    else
      some true
def F_etchhouseref3_samePoints (N : Nat) (p0 : (List TPoint)) (p1 : (List TPoint)) : Option Bool :=
  if ((p0.length : Int) != (p1.length : Int)) then
    some false
  else
    F_etchhouseref3_samePoints_L1 p0 p1 N 0

def F_etchhouseref3_sameSteps_L1 (N : Nat) (p0 : (List TPlotStep)) (p1 : (List TPlotStep)) (rec : (List TPlotStep) → (List TPlotStep) → Option Bool) : Nat → Int → Option Bool
  | 0, _ => none
  | mL1 + 1, x131 =>
    if (decide (x131 < (p0.length : Int))) then
      (idx p0 x131).bind fun x133 =>
      (idx p1 x131).bind fun x135 =>
      (if (((((x133.Kind != x135.Kind) || (!sEq x133.Name x135.Name)) || (!(eqTPoint x133.At x135.At))) || (x133.NX != x135.NX)) || (x133.NY != x135.NY)) then some true else 
        (F_etchhouseref3_samePoints N x133.Points x135.Points).bind fun y141 =>
        some (!y141)
      ).bind fun g140 =>
      (if g140 then some true else 
        (rec x133.Steps x135.Steps).bind fun y144 =>
        some (!y144)
      ).bind fun g143 =>
      if g143 then
        some false
      else
        (F_etchhouseref3_sameSteps_L1 N p0 p1 rec mL1) (w64 (x131 + 1))
    else
      some true
def F_etchhouseref3_sameSteps_b (N : Nat) (rec : (List TPlotStep) → (List TPlotStep) → Option Bool) (p0 : (List TPlotStep)) (p1 : (List TPlotStep)) : Option Bool :=
  if ((p0.length : Int) != (p1.length : Int)) then
    some false
  else
    F_etchhouseref3_sameSteps_L1 N p0 p1 rec N 0
def F_etchhouseref3_sameSteps : Nat → (List TPlotStep) → (List TPlotStep) → Option Bool
  | 0 => fun _ _ => none
  | N + 1 => F_etchhouseref3_sameSteps_b N (F_etchhouseref3_sameSteps N)

def F_etchhouseref3_SamePlot_L1 (p0 : TPlot) : Nat → Option Bool
  | 0 => none
  | mL1 + 1 =>
    if (decide (0 < (p0.Tools.length : Int))) then
      none
    else
      some true
def F_etchhouseref3_SamePlot (N : Nat) (p0 : TPlot) (p1 : TPlot) : Option Bool :=
  (if ((p0.Unit != p1.Unit) || ((p0.Tools.length : Int) != (p1.Tools.length : Int))) then some true else 
    (F_etchhouseref3_sameSteps N p0.Steps p1.Steps).bind fun y104 =>
    some (!y104)
  ).bind fun g103 =>
  if g103 then
    some false
  else
    F_etchhouseref3_SamePlot_L1 p0 N


noncomputable def F_etchhouselaw3_PlotsOfDrawIt (N : Nat) (p0 : (List TRect)) : Option Bool :=
  (F_plot_Of N p0).bind fun y100 =>
  if (y100.2 != 0) then
    (if ((y100.1.Steps.length : Int) == 0) then 
      (F_etchhouselaw3_awake N).bind fun y105 =>
      some y105
     else some false).bind fun g104 =>
    some g104
  else
    (F_plot_Image N y100.1).bind fun y110 =>
    if (y110.2 != 0) then
      (if (y110.2 == 2) then 
        (F_etchhouselaw3_awake N).bind fun y114 =>
        some y114
       else some false).bind fun g113 =>
      some g113
    else
      (F_plot_Short N y100.1).bind fun y115 =>
      (F_slices_Equal_Rect y110.1 p0).bind fun y118 =>
      (if (y118 && (y115.2 == 0)) then 
        (F_etchhouseref3_SamePlot N y115.1 y100.1).bind fun y121 =>
        some y121
       else some false).bind fun g120 =>
      (if g120 then 
        (F_etchhouselaw3_awake N).bind fun y124 =>
        some y124
       else some false).bind fun g123 =>
      some g123

end Go.Proofs.YtcjeebkoafonpaaGreatDoor
