/- The plain functions: what each function of the program computes; none where it would panic. -/
import Derived.Test.YtcjeebkoafonpaaGreatDoorXT
namespace Go.Proofs.YtcjeebkoafonpaaGreatDoor
open Go.RowKit

def F_shape_within (p0 : Int) (p1 : Int) (p2 : Int) : Option Bool :=
  some ((decide (p1 ≤ p0)) && (decide (p0 ≤ p2)))


def F_shape_IsAt (p0 : Int) : Option Bool :=
  (F_shape_within p0 (-1000000) 1000000).bind fun y100 =>
  some y100


def F_shape_isRect (p0 : TRect) : Option Bool :=
  (F_shape_IsAt p0.X0).bind fun y101 =>
  (if y101 then 
    (F_shape_IsAt p0.Y0).bind fun y104 =>
    some y104
   else some false).bind fun g103 =>
  (if g103 then 
    (F_shape_IsAt p0.X1).bind fun y107 =>
    some y107
   else some false).bind fun g106 =>
  (if g106 then 
    (F_shape_IsAt p0.Y1).bind fun y110 =>
    some y110
   else some false).bind fun g109 =>
  some g109

def F_shape_CheckRects_L1 : List TRect → Nat → Option Int
  | [], iL1 =>
    some 0
  | xL1 :: restL1, iL1 =>
    (F_shape_isRect xL1).bind fun y105 =>
    if (!y105) then
      some 1
    else
      if ((decide (xL1.X1 ≤ xL1.X0)) || (decide (xL1.Y1 ≤ xL1.Y0))) then
        some 13
      else
        (F_shape_CheckRects_L1 restL1 (iL1 + 1))
def F_shape_CheckRects (p0 : (List TRect)) : Option Int :=
  if (decide (2000 < (p0.length : Int))) then
    some 2
  else
    F_shape_CheckRects_L1 p0 0


def F_slices_Clone_Rect (p0 : (List TRect)) : Option (List TRect) :=
  (apd ([] : List TRect) p0).bind fun l101 =>
  some l101



def F_shape_SetOf_1 (p0 : TRect) (p1 : TRect) : Option Int :=
  some (w64 (p0.Y0 - p1.Y0))




def F_shape_SetOf_2 (p0 : TRect) (q0 : (List Int)) (q1 : Int) : Option Bool :=
  (idx q0 q1).bind fun x101 =>
  some (decide (p0.Y1 ≤ x101))

def F_slices_IndexFunc_Rect_L1 (p1 : TRect → Option Bool) : List TRect → Nat → Option Int
  | [], iL1 =>
    some (-1)
  | xL1 :: restL1, iL1 =>
    (p1 xL1).bind fun y103 =>
    if y103 then
      some (iL1 : Int)
    else
      (F_slices_IndexFunc_Rect_L1 p1 restL1 (iL1 + 1))
def F_slices_IndexFunc_Rect (p0 : (List TRect)) (p1 : TRect → Option Bool) : Option Int :=
  F_slices_IndexFunc_Rect_L1 p1 p0 0

def F_slices_DeleteFunc_Rect_L1 (p1 : TRect → Option Bool) : Nat → List TRect → Int → Int → Option (List TRect)
  | 0, _, _, _ => none
  | mL1 + 1, l120, x121, x122 =>
    if (decide (x122 < (l120.length : Int))) then
      (idx l120 x122).bind fun x123 =>
      (p1 x123).bind fun y125 =>
      if (!y125) then
        (idx l120 x121).bind fun x126 =>
        (sets l120 x121 x123).bind fun l127 =>
        (F_slices_DeleteFunc_Rect_L1 p1 mL1) l127 (w64 (x121 + 1)) (w64 (x122 + 1))
      else
        (F_slices_DeleteFunc_Rect_L1 p1 mL1) l120 x121 (w64 (x122 + 1))
    else
      (cut l120 x121 (l120.length : Int)).bind fun l128 =>
      (pre (clr l120 x121 (l128).length (TRect.mk 0 0 0 0)) x121).bind fun l129 =>
      some l129
def F_slices_DeleteFunc_Rect (N : Nat) (p0 : (List TRect)) (p1 : TRect → Option Bool) : Option (List TRect) :=
  (F_slices_IndexFunc_Rect p0 p1).bind fun y100 =>
  if (y100 == (-1)) then
    some p0
  else
    F_slices_DeleteFunc_Rect_L1 p1 N p0 y100 (w64 (y100 + 1))


def F_shape_stretches_1 (p0 : TRect) (p1 : TRect) : Option Int :=
  some (w64 (p0.X0 - p1.X0))

def F_shape_stretches_L1 (y100 : (List TRect)) : List TRect → Nat → List Int → Option ((List Int) × (List TRect))
  | [], iL1, l128 =>
    some (l128, y100)
  | xL1 :: restL1, iL1, l128 =>
    (if (decide (0 ≤ (w64 ((l128.length : Int) - 1)))) then 
      (idx l128 (w64 ((l128.length : Int) - 1))).bind fun x132 =>
      some (decide (xL1.X0 ≤ x132))
     else some false).bind fun g131 =>
    if g131 then
      (idx l128 (w64 ((l128.length : Int) - 1))).bind fun x133 =>
      (idx l128 (w64 ((l128.length : Int) - 1))).bind fun x134 =>
      (sets l128 (w64 ((l128.length : Int) - 1)) (max x133 xL1.X1)).bind fun l135 =>
      (F_shape_stretches_L1 y100 restL1 (iL1 + 1)) l135
    else
      (apd l128 [xL1.X0, xL1.X1]).bind fun l137 =>
      (F_shape_stretches_L1 y100 restL1 (iL1 + 1)) l137
noncomputable def F_shape_stretches (p0 : (List TRect)) : Option ((List Int) × (List TRect)) :=
  (srtF p0 (fun z0 z1 => F_shape_stretches_1 z0 z1)).bind fun y100 =>
  F_shape_stretches_L1 y100 y100 0 ([] : List Int)

def F_slices_Equal_int_L1 (p1 : (List Int)) : List Int → Nat → Option Bool
  | [], iL1 =>
    some true
  | xL1 :: restL1, iL1 =>
    (idx p1 (iL1 : Int)).bind fun x103 =>
    if (xL1 != x103) then
      some false
    else
      (F_slices_Equal_int_L1 p1 restL1 (iL1 + 1))
def F_slices_Equal_int (p0 : (List Int)) (p1 : (List Int)) : Option Bool :=
  if ((p0.length : Int) != (p1.length : Int)) then
    some false
  else
    F_slices_Equal_int_L1 p1 p0 0


def F_shape_Set__push (p0 : (List TBand)) (p1 : TBand) : Option (List TBand) :=
  if (((p1.Xs.length : Int) == 0) || (decide (p1.Y1 ≤ p1.Y0))) then
    some p0
  else
    (if (decide (0 ≤ (w64 ((p0.length : Int) - 1)))) then 
      (idx p0 (w64 ((p0.length : Int) - 1))).bind fun x103 =>
      some (x103.Y1 == p1.Y0)
     else some false).bind fun g102 =>
    (if g102 then 
      (idx p0 (w64 ((p0.length : Int) - 1))).bind fun x108 =>
      (F_slices_Equal_int x108.Xs p1.Xs).bind fun y110 =>
      some y110
     else some false).bind fun g107 =>
    if g107 then
      (idx p0 (w64 ((p0.length : Int) - 1))).bind fun x111 =>
      (sets p0 (w64 ((p0.length : Int) - 1)) (TBand.mk x111.Y0 p1.Y1 x111.Xs)).bind fun l112 =>
      some l112
    else
      (apd p0 [p1]).bind fun l114 =>
      some l114

noncomputable def F_shape_SetOf_L5 (y102 : (List TRect)) (y122 : (List Int)) (x229 : Int) (l230 : List TBand) (kL4 : Int → (List TBand) → (List TRect) → Int → Option (List TBand)) : Nat → List TRect → Int → Option (List TBand)
  | 0, _, _ => none
  | mL5 + 1, l257, x258 =>
    (if (decide (x258 < (y102.length : Int))) then 
      (idx y102 x258).bind fun x262 =>
      (idx y122 x229).bind fun x263 =>
      some (decide (x262.Y0 ≤ x263))
     else some false).bind fun g261 =>
    if g261 then
      (idx y102 x258).bind fun x264 =>
      (apd l257 [x264]).bind fun l266 =>
      (F_shape_SetOf_L5 y102 y122 x229 l230 kL4 mL5) l266 (w64 (x258 + 1))
    else
      (idx y122 x229).bind fun x268 =>
      (idx y122 (w64 (x229 + 1))).bind fun x269 =>
      (F_shape_stretches l257).bind fun y270 =>
      (F_shape_Set__push l230 (TBand.mk x268 x269 y270.1)).bind fun y274 =>
      kL4 (w64 (x229 + 1)) y274 y270.2 x258
noncomputable def F_shape_SetOf_L4 (N : Nat) (y102 : (List TRect)) (y122 : (List Int)) : Nat → Int → List TBand → List TRect → Int → Option (List TBand)
  | 0, _, _, _, _ => none
  | mL4 + 1, x229, l230, l231, x232 =>
    if (decide ((w64 (x229 + 1)) < (y122.length : Int))) then
      (F_slices_DeleteFunc_Rect N l231 (fun z0 => F_shape_SetOf_2 z0 y122 x229)).bind fun y233 =>
      F_shape_SetOf_L5 y102 y122 x229 l230 (F_shape_SetOf_L4 N y102 y122 mL4) N y233 x232
    else
      some l230
noncomputable def F_shape_SetOf_L1 (N : Nat) (y102 : (List TRect)) : List TRect → Nat → List Int → Option (List TBand)
  | [], iL1, l119 =>
    (srtI l119).bind fun y120 =>
    (cpI y120).bind fun y122 =>
    F_shape_SetOf_L4 N y102 y122 N 0 ([] : List TBand) ([] : List TRect) 0
  | xL1 :: restL1, iL1, l119 =>
    (apd l119 [xL1.Y0, xL1.Y1]).bind fun l279 =>
    (F_shape_SetOf_L1 N y102 restL1 (iL1 + 1)) l279
noncomputable def F_shape_SetOf (N : Nat) (p0 : (List TRect)) : Option (List TBand) :=
  (F_slices_Clone_Rect p0).bind fun y100 =>
  (srtF y100 (fun z0 z1 => F_shape_SetOf_1 z0 z1)).bind fun y102 =>
  F_shape_SetOf_L1 N y102 y102 0 ([] : List Int)

def F_shape_Set__Rects_L4 (kL3 : (List TRect) → Option (List TRect)) (xL3 : TBand) : Nat → List TRect → Int → Option (List TRect)
  | 0, _, _ => none
  | mL4 + 1, l169, x170 =>
    if (decide (x170 < (xL3.Xs.length : Int))) then
      (idx xL3.Xs x170).bind fun x172 =>
      (idx xL3.Xs (w64 (x170 + 1))).bind fun x173 =>
      (apd l169 [(TRect.mk x172 xL3.Y0 x173 xL3.Y1)]).bind fun l174 =>
      (F_shape_Set__Rects_L4 kL3 xL3 mL4) l174 (w64 (x170 + 2))
    else
      kL3 l169
def F_shape_Set__Rects_L3 (N : Nat) : List TBand → Nat → List TRect → Option (List TRect)
  | [], iL3, l152 =>
    some l152
  | xL3 :: restL3, iL3, l152 =>
    F_shape_Set__Rects_L4 (F_shape_Set__Rects_L3 N restL3 (iL3 + 1)) xL3 N l152 0
def F_shape_Set__Rects (N : Nat) (p0 : (List TBand)) : Option (List TRect) :=
  F_shape_Set__Rects_L3 N p0 0 ([] : List TRect)

def F_slices_Equal_Rect_L1 (p1 : (List TRect)) : List TRect → Nat → Option Bool
  | [], iL1 =>
    some true
  | xL1 :: restL1, iL1 =>
    (idx p1 (iL1 : Int)).bind fun x103 =>
    if (!(eqTRect xL1 x103)) then
      some false
    else
      (F_slices_Equal_Rect_L1 p1 restL1 (iL1 + 1))
def F_slices_Equal_Rect (p0 : (List TRect)) (p1 : (List TRect)) : Option Bool :=
  if ((p0.length : Int) != (p1.length : Int)) then
    some false
  else
    F_slices_Equal_Rect_L1 p1 p0 0

noncomputable def F_shape_CheckRegion_L1 (N : Nat) (p0 : (List TRect)) : Nat → Int → Option Int
  | 0, _ => none
  | mL1 + 1, x116 =>
    if (decide (x116 < (p0.length : Int))) then
      (idx p0 (w64 (x116 - 1))).bind fun x118 =>
      (idx p0 x116).bind fun x119 =>
      if ((decide (x119.Y0 < x118.Y0)) || ((x119.Y0 == x118.Y0) && (decide (x119.X0 ≤ x118.X0)))) then
        some 8
      else
        (F_shape_CheckRegion_L1 N p0 mL1) (w64 (x116 + 1))
    else
      (F_shape_SetOf N p0).bind fun y123 =>
      (F_shape_Set__Rects N y123).bind fun y125 =>
      (F_slices_Equal_Rect y125 p0).bind fun y127 =>
      if (!y127) then
        some 3
      else
        some 0
noncomputable def F_shape_CheckRegion (N : Nat) (p0 : (List TRect)) : Option Int :=
  (F_shape_CheckRects p0).bind fun y100 =>
  if (y100 != 0) then
    some y100
  else
    F_shape_CheckRegion_L1 N p0 N 1


def F_shape_Set__sides_1 (p0 : Int) (p1 : Int) (p2 : Int) (p3 : Int) (q0 : (List TSide)) : Option (List TSide) :=
  (apd q0 [(TSide.mk (TPoint.mk p0 p1) (TPoint.mk p2 p3))]).bind fun l101 =>
  some l101

def F_shape_line_J8 (p2 : Bool → Bool → Option Bool) (l232 : List Int) (x235 : Bool) (kL7 : (List Int) → (List Int) → (List Int) → Bool → Bool → Bool → Option (List Int)) (x249 : Int) (l256 : List Int) (x257 : Bool) (l264 : List Int) (x265 : Bool) : Option (List Int) :=
  (p2 x257 x265).bind fun y268 =>
  if (y268 != x235) then
    (apd l232 [x249]).bind fun l270 =>
    kL7 l256 l264 l270 x257 x265 y268
  else
    kL7 l256 l264 l232 x257 x265 x235
def F_shape_line_J9 (p2 : Bool → Bool → Option Bool) (l231 : List Int) (l232 : List Int) (x234 : Bool) (x235 : Bool) (kL7 : (List Int) → (List Int) → (List Int) → Bool → Bool → Bool → Option (List Int)) (x249 : Int) (l256 : List Int) (x257 : Bool) : Option (List Int) :=
  (if (decide (0 < (l231.length : Int))) then 
    (idx l231 0).bind fun x273 =>
    some (x273 == x249)
   else some false).bind fun g272 =>
  if g272 then
    (cut l231 1 (l231.length : Int)).bind fun l274 =>
    F_shape_line_J8 p2 l232 x235 kL7 x249 l256 x257 l274 (!x234)
  else
    F_shape_line_J8 p2 l232 x235 kL7 x249 l256 x257 l231 x234
def F_shape_line_J10 (p2 : Bool → Bool → Option Bool) (l230 : List Int) (l231 : List Int) (l232 : List Int) (x233 : Bool) (x234 : Bool) (x235 : Bool) (kL7 : (List Int) → (List Int) → (List Int) → Bool → Bool → Bool → Option (List Int)) (x249 : Int) : Option (List Int) :=
  (if (decide (0 < (l230.length : Int))) then 
    (idx l230 0).bind fun x277 =>
    some (x277 == x249)
   else some false).bind fun g276 =>
  if g276 then
    (cut l230 1 (l230.length : Int)).bind fun l278 =>
    F_shape_line_J9 p2 l231 l232 x234 x235 kL7 x249 l278 (!x233)
  else
    F_shape_line_J9 p2 l231 l232 x234 x235 kL7 x249 l230 x233
def F_shape_line_L7 (p2 : Bool → Bool → Option Bool) : Nat → List Int → List Int → List Int → Bool → Bool → Bool → Option (List Int)
  | 0, _, _, _, _, _, _ => none
  | mL7 + 1, l230, l231, l232, x233, x234, x235 =>
    if ((decide (0 < (l230.length : Int))) || (decide (0 < (l231.length : Int)))) then
      (if ((l231.length : Int) == 0) then some true else 
        (if (decide (0 < (l230.length : Int))) then 
          (idx l230 0).bind fun x288 =>
          (idx l231 0).bind fun x289 =>
          some (decide (x288 ≤ x289))
         else some false).bind fun g287 =>
        some g287
      ).bind fun g284 =>
      if g284 then
        (idx l230 0).bind fun x290 =>
        F_shape_line_J10 p2 l230 l231 l232 x233 x234 x235 (F_shape_line_L7 p2 mL7) x290
      else
        (idx l231 0).bind fun x291 =>
        F_shape_line_J10 p2 l230 l231 l232 x233 x234 x235 (F_shape_line_L7 p2 mL7) x291
    else
      some l232
def F_shape_line (N : Nat) (p0 : (List Int)) (p1 : (List Int)) (p2 : Bool → Bool → Option Bool) : Option (List Int) :=
  F_shape_line_L7 p2 N p0 p1 ([] : List Int) false false false


def F_shape_Set__sides_2_1 (p0 : Bool) (p1 : Bool) : Option Bool :=
  some (p0 && (!p1))


def F_shape_Set__sides_2_2 (p0 : Bool) (p1 : Bool) : Option Bool :=
  some (p1 && (!p0))

def F_shape_Set__sides_2__sides_1_L2 (p0 : Int) (y122 : (List Int)) : Nat → List TSide → Int → Option (List TSide)
  | 0, _, _ => none
  | mL2 + 1, l138, x139 =>
    if (decide (x139 < (y122.length : Int))) then
      (idx y122 x139).bind fun x140 =>
      (idx y122 (w64 (x139 + 1))).bind fun x141 =>
      (F_shape_Set__sides_1 x140 p0 x141 p0 l138).bind fun y142 =>
      (F_shape_Set__sides_2__sides_1_L2 p0 y122 mL2) y142 (w64 (x139 + 2))
    else
      some l138
def F_shape_Set__sides_2__sides_1_L1 (N : Nat) (p0 : Int) (p1 : (List Int)) (p2 : (List Int)) (y100 : (List Int)) : Nat → List TSide → Int → Option (List TSide)
  | 0, _, _ => none
  | mL1 + 1, l116, x117 =>
    if (decide (x117 < (y100.length : Int))) then
      (idx y100 (w64 (x117 + 1))).bind fun x118 =>
      (idx y100 x117).bind fun x119 =>
      (F_shape_Set__sides_1 x118 p0 x119 p0 l116).bind fun y120 =>
      (F_shape_Set__sides_2__sides_1_L1 N p0 p1 p2 y100 mL1) y120 (w64 (x117 + 2))
    else
      (F_shape_line N p1 p2 (fun z0 z1 => F_shape_Set__sides_2_2 z0 z1)).bind fun y122 =>
      F_shape_Set__sides_2__sides_1_L2 p0 y122 N l116 0
def F_shape_Set__sides_2__sides_1 (N : Nat) (p0 : Int) (p1 : (List Int)) (p2 : (List Int)) (q1 : (List TSide)) : Option (List TSide) :=
  (F_shape_line N p1 p2 (fun z0 z1 => F_shape_Set__sides_2_1 z0 z1)).bind fun y100 =>
  F_shape_Set__sides_2__sides_1_L1 N p0 p1 p2 y100 N q1 0

def F_shape_Set__sides_J7 (N : Nat) (p0 : (List TBand)) (kL5 : (List TSide) → Option (List TSide)) (xL5 : TBand) (iL5 : Nat) (l288 : List TSide) : Option (List TSide) :=
  (if ((w64 ((iL5 : Int) + 1)) == (p0.length : Int)) then some true else 
    (idx p0 (w64 ((iL5 : Int) + 1))).bind fun x294 =>
    some (decide (xL5.Y1 < x294.Y0))
  ).bind fun g293 =>
  if g293 then
    (F_shape_Set__sides_2__sides_1 N xL5.Y1 xL5.Xs [] l288).bind fun y296 =>
    kL5 y296
  else
    kL5 l288
def F_shape_Set__sides_L6 (N : Nat) (p0 : (List TBand)) (kL5 : (List TSide) → Option (List TSide)) (xL5 : TBand) (iL5 : Nat) : Nat → List TSide → Int → Option (List TSide)
  | 0, _, _ => none
  | mL6 + 1, l267, x268 =>
    if (decide (x268 < (xL5.Xs.length : Int))) then
      (idx xL5.Xs x268).bind fun x269 =>
      (idx xL5.Xs x268).bind fun x270 =>
      (F_shape_Set__sides_1 x269 xL5.Y1 x270 xL5.Y0 l267).bind fun y271 =>
      (idx xL5.Xs (w64 (x268 + 1))).bind fun x273 =>
      (idx xL5.Xs (w64 (x268 + 1))).bind fun x274 =>
      (F_shape_Set__sides_1 x273 xL5.Y0 x274 xL5.Y1 y271).bind fun y275 =>
      (F_shape_Set__sides_L6 N p0 kL5 xL5 iL5 mL6) y275 (w64 (x268 + 2))
    else
      (if ((iL5 : Int) == 0) then some true else 
        (idx p0 (w64 ((iL5 : Int) - 1))).bind fun x301 =>
        some (decide (x301.Y1 < xL5.Y0))
      ).bind fun g300 =>
      if g300 then
        (F_shape_Set__sides_2__sides_1 N xL5.Y0 [] xL5.Xs l267).bind fun y303 =>
        F_shape_Set__sides_J7 N p0 kL5 xL5 iL5 y303
      else
        (idx p0 (w64 ((iL5 : Int) - 1))).bind fun x305 =>
        (F_shape_Set__sides_2__sides_1 N xL5.Y0 x305.Xs xL5.Xs l267).bind fun y307 =>
        F_shape_Set__sides_J7 N p0 kL5 xL5 iL5 y307
def F_shape_Set__sides_L5 (N : Nat) (p0 : (List TBand)) : List TBand → Nat → List TSide → Option (List TSide)
  | [], iL5, l242 =>
    some l242
  | xL5 :: restL5, iL5, l242 =>
    F_shape_Set__sides_L6 N p0 (F_shape_Set__sides_L5 N p0 restL5 (iL5 + 1)) xL5 iL5 N l242 0
def F_shape_Set__sides (N : Nat) (p0 : (List TBand)) : Option (List TSide) :=
  F_shape_Set__sides_L5 N p0 p0 0 ([] : List TSide)


def F_shape_side__direction_1 (p0 : Int) : Option Int :=
  some (min 1 (max (-1) p0))


def F_shape_side__direction (p0 : TSide) : Option TPoint :=
  (F_shape_side__direction_1 (w64 (p0.to_.X - p0.from_.X))).bind fun y102 =>
  (F_shape_side__direction_1 (w64 (p0.to_.Y - p0.from_.Y))).bind fun y103 =>
  some (TPoint.mk y102 y103)


def F_shape_Set__Borders_1 (p0 : TSide) : Option TPoint :=
  (F_shape_side__direction p0).bind fun y102 =>
  some (TPoint.mk (w64 (0 - y102.Y)) y102.X)


def F_shape_less (p0 : TPoint) (p1 : TPoint) : Option Bool :=
  some ((decide (p0.Y < p1.Y)) || ((p0.Y == p1.Y) && (decide (p0.X < p1.X))))


def F_slices_Concat_Point_L2 : List (List TPoint) → Nat → List TPoint → Option (List TPoint)
  | [], iL2, l125 =>
    some l125
  | xL2 :: restL2, iL2, l125 =>
    (apd l125 xL2).bind fun l127 =>
    (F_slices_Concat_Point_L2 restL2 (iL2 + 1)) l127
def F_slices_Concat_Point_L1 (p0 : (List (List TPoint))) : List (List TPoint) → Nat → Int → Option (List TPoint)
  | [], iL1, x110 =>
    (grN x110).bind fun y111 =>
    F_slices_Concat_Point_L2 p0 0 y111
  | xL1 :: restL1, iL1, x110 =>
    if (decide ((w64 (x110 + (xL1.length : Int))) < 0)) then
      none
    else
      (F_slices_Concat_Point_L1 p0 restL1 (iL1 + 1)) (w64 (x110 + (xL1.length : Int)))
def F_slices_Concat_Point (p0 : (List (List TPoint))) : Option (List TPoint) :=
  F_slices_Concat_Point_L1 p0 p0 0 0

def F_shape_corners_L2 (l122 : List TPoint) : List TPoint → Nat → Int → Option (List TPoint)
  | [], iL2, x137 =>
    (cut l122 x137 (l122.length : Int)).bind fun l138 =>
    (pre l122 x137).bind fun l139 =>
    (F_slices_Concat_Point [l138, l139]).bind fun y143 =>
    some y143
  | xL2 :: restL2, iL2, x137 =>
    (idx l122 x137).bind fun x146 =>
    (F_shape_less xL2 x146).bind fun y147 =>
    if y147 then
      (F_shape_corners_L2 l122 restL2 (iL2 + 1)) (iL2 : Int)
    else
      (F_shape_corners_L2 l122 restL2 (iL2 + 1)) x137
def F_shape_corners_L1 (p0 : (List TSide)) : List TSide → Nat → List TPoint → Option (List TPoint)
  | [], iL1, l122 =>
    F_shape_corners_L2 l122 l122 0 0
  | xL1 :: restL1, iL1, l122 =>
    (F_shape_side__direction xL1).bind fun y149 =>
    (md (w64 ((w64 ((iL1 : Int) + (p0.length : Int))) - 1)) (p0.length : Int)).bind fun q150 =>
    (idx p0 q150).bind fun x151 =>
    (F_shape_side__direction x151).bind fun y152 =>
    if (!(eqTPoint y149 y152)) then
      (apd l122 [xL1.from_]).bind fun l154 =>
      (F_shape_corners_L1 p0 restL1 (iL1 + 1)) l154
    else
      (F_shape_corners_L1 p0 restL1 (iL1 + 1)) l122
def F_shape_corners (p0 : (List TSide)) : Option (List TPoint) :=
  F_shape_corners_L1 p0 p0 0 ([] : List TPoint)


def F_shape_Set__Borders_4_J1 (x112 : Bool) : Option Int :=
  if x112 then
    some (-1)
  else
    some 1
def F_shape_Set__Borders_4 (p0 : (List TPoint)) (p1 : (List TPoint)) : Option Int :=
  (idx p0 0).bind fun x115 =>
  (idx p1 0).bind fun x116 =>
  (F_shape_less x115 x116).bind fun y117 =>
  if y117 then
    F_shape_Set__Borders_4_J1 y117
  else
    (idx p0 0).bind fun x118 =>
    (idx p1 0).bind fun x119 =>
    (if (eqTPoint x118 x119) then 
      (idx p1 1).bind fun x124 =>
      (idx p0 1).bind fun x125 =>
      (F_shape_less x124 x125).bind fun y126 =>
      some y126
     else some false).bind fun g123 =>
    F_shape_Set__Borders_4_J1 g123


def F_shape_Set__Borders_2__Borders_1 (p0 : TSide) (p1 : TSide) (q0 : (List ((Int × Int) × List Int))) : Option Bool :=
  (kmgetO okP q0 (p0.to_.X, p0.to_.Y)).bind fun l102 =>
  (if ((l102.length : Int) == 1) then some true else 
    (F_shape_side__direction p1).bind fun y106 =>
    (F_shape_Set__Borders_1 p0).bind fun y107 =>
    some (eqTPoint y106 y107)
  ).bind fun g105 =>
  some g105

def F_shape_Set__Borders_3__Borders_2__Borders_1_L1 (p0 : TSide) (q1 : (List Bool)) (q3 : (List TSide)) (q4 : (List ((Int × Int) × List Int))) : List Int → Nat → Option Int
  | [], iL1 =>
    some (-1)
  | xL1 :: restL1, iL1 =>
    (idx q1 xL1).bind fun x110 =>
    (if (!x110) then 
      (idx q3 xL1).bind fun x114 =>
      (F_shape_Set__Borders_2__Borders_1 p0 x114 q4).bind fun y115 =>
      some y115
     else some false).bind fun g113 =>
    if g113 then
      some xL1
    else
      (F_shape_Set__Borders_3__Borders_2__Borders_1_L1 p0 q1 q3 q4 restL1 (iL1 + 1))
def F_shape_Set__Borders_3__Borders_2__Borders_1 (p0 : TSide) (q0 : (List ((Int × Int) × List Int))) (q1 : (List Bool)) (q3 : (List TSide)) (q4 : (List ((Int × Int) × List Int))) : Option Int :=
  (kmgetO okP q0 (p0.to_.X, p0.to_.Y)).bind fun l101 =>
  F_shape_Set__Borders_3__Borders_2__Borders_1_L1 p0 q1 q3 q4 l101 0

def F_shape_Set__Borders_J10 (l403 : List (List TPoint)) (kL8 : (List Bool) → (List (List TPoint)) → Option (List (List TPoint))) (l453 : List Bool) (l454 : List TSide) : Option (List (List TPoint)) :=
  (F_shape_corners l454).bind fun y457 =>
  (apd l403 [y457]).bind fun l462 =>
  kL8 l453 l462
def F_shape_Set__Borders_L11 (y100 : (List TSide)) (m123 : List ((Int × Int) × List Int)) (l403 : List (List TPoint)) (kL8 : (List Bool) → (List (List TPoint)) → Option (List (List TPoint))) (xL8 : TSide) : Nat → List Bool → List TSide → Int → Option (List (List TPoint))
  | 0, _, _, _ => none
  | mL11 + 1, l493, l494, x495 =>
    if (decide (0 ≤ x495)) then
      (idx l493 x495).bind fun x496 =>
      (sets l493 x495 true).bind fun l497 =>
      (idx y100 x495).bind fun x498 =>
      (apd l494 [x498]).bind fun l500 =>
      (idx y100 x495).bind fun x501 =>
      (if (eqTPoint x501.to_ xL8.from_) then 
        (idx y100 x495).bind fun x505 =>
        (F_shape_Set__Borders_2__Borders_1 x505 xL8 m123).bind fun y506 =>
        some y506
       else some false).bind fun g504 =>
      if g504 then
        F_shape_Set__Borders_J10 l403 kL8 l497 l500
      else
        (idx y100 x495).bind fun x507 =>
        (F_shape_Set__Borders_3__Borders_2__Borders_1 x507 m123 l497 y100 m123).bind fun y508 =>
        (F_shape_Set__Borders_L11 y100 m123 l403 kL8 xL8 mL11) l497 l500 y508
    else
      F_shape_Set__Borders_J10 l403 kL8 l493 l494
noncomputable def F_shape_Set__Borders_L8 (N : Nat) (y100 : (List TSide)) (m123 : List ((Int × Int) × List Int)) : List TSide → Nat → List Bool → List (List TPoint) → Option (List (List TPoint))
  | [], iL8, l402, l403 =>
    (srtU l403 (fun z0 z1 => F_shape_Set__Borders_4 z0 z1)).bind fun y404 =>
    some y404
  | xL8 :: restL8, iL8, l402, l403 =>
    (idx l402 (iL8 : Int)).bind fun x406 =>
    if x406 then
      (F_shape_Set__Borders_L8 N y100 m123 restL8 (iL8 + 1)) l402 l403
    else
      F_shape_Set__Borders_L11 y100 m123 l403 (F_shape_Set__Borders_L8 N y100 m123 restL8 (iL8 + 1)) xL8 N l402 ([] : List TSide) (iL8 : Int)
noncomputable def F_shape_Set__Borders_L1 (N : Nat) (y100 : (List TSide)) : List TSide → Nat → List ((Int × Int) × List Int) → Option (List (List TPoint))
  | [], iL1, m123 =>
    (mkl false (y100.length : Int)).bind fun l126 =>
    F_shape_Set__Borders_L8 N y100 m123 y100 0 l126 ([] : List (List TPoint))
  | xL1 :: restL1, iL1, m123 =>
    (kmgetO okP m123 (xL1.from_.X, xL1.from_.Y)).bind fun l511 =>
    (apd l511 [(iL1 : Int)]).bind fun l512 =>
    (F_shape_Set__Borders_L1 N y100 restL1 (iL1 + 1)) (kmput m123 (xL1.from_.X, xL1.from_.Y) l512)
noncomputable def F_shape_Set__Borders (N : Nat) (p0 : (List TBand)) : Option (List (List TPoint)) :=
  (F_shape_Set__sides N p0).bind fun y100 =>
  F_shape_Set__Borders_L1 N y100 y100 0 ([] : List ((Int × Int) × List Int))

def F_shape_Outlines_L1 (y103 : (List (List TPoint))) : List (List TPoint) → Nat → Int → Option ((List (List TPoint)) × Int)
  | [], iL1, x115 =>
    if (decide (2000 < x115)) then
      some (([] : List (List TPoint)), 2)
    else
      some (y103, 0)
  | xL1 :: restL1, iL1, x115 =>
    (F_shape_Outlines_L1 y103 restL1 (iL1 + 1)) (w64 (x115 + (xL1.length : Int)))
noncomputable def F_shape_Outlines (N : Nat) (p0 : (List TRect)) : Option ((List (List TPoint)) × Int) :=
  (F_shape_CheckRegion N p0).bind fun y100 =>
  if (y100 != 0) then
    some (([] : List (List TPoint)), y100)
  else
    (F_shape_SetOf N p0).bind fun y101 =>
    (F_shape_Set__Borders N y101).bind fun y103 =>
    F_shape_Outlines_L1 y103 y103 0 0


def F_plot_Of_1 (p0 : TRow) : Option Int :=
  some (max p0.area (w64 (0 - p0.area)))


def F_cmp_isNaN_int (p0 : Int) : Option Bool :=
  some (p0 != p0)


def F_cmp_Compare_int (p0 : Int) (p1 : Int) : Option Int :=
  (F_cmp_isNaN_int p0).bind fun y100 =>
  (F_cmp_isNaN_int p1).bind fun y101 =>
  if y100 then
    if y101 then
      some 0
    else
      some (-1)
  else
    if y101 then
      some 1
    else
      if (decide (p0 < p1)) then
        some (-1)
      else
        if (decide (p1 < p0)) then
          some 1
        else
          some 0


def F_plot_Of_2__Of_1 (p0 : TRow) (p1 : TRow) : Option Int :=
  (F_plot_Of_1 p1).bind fun y102 =>
  (F_plot_Of_1 p0).bind fun y103 =>
  (F_cmp_Compare_int y102 y103).bind fun y104 =>
  some y104

def F_slices_insertionSortCmpFunc_row__Of_2__Of_1_L4 (p1 : Int) (x243 : Int) (kL3 : (List TRow) → Int → Option (List TRow)) : Nat → List TRow → Int → Option (List TRow)
  | 0, _, _ => none
  | mL4 + 1, l290, x291 =>
    (if (decide (p1 < x291)) then 
      (idx l290 x291).bind fun x298 =>
      (idx l290 (w64 (x291 - 1))).bind fun x300 =>
      (F_plot_Of_2__Of_1 x298 x300).bind fun y302 =>
      some (decide (y302 < 0))
     else some false).bind fun g297 =>
    if g297 then
      (idx l290 (w64 (x291 - 1))).bind fun x304 =>
      (idx l290 x291).bind fun x306 =>
      (idx l290 x291).bind fun x308 =>
      (sets l290 x291 x304).bind fun l309 =>
      (idx l309 (w64 (x291 - 1))).bind fun x310 =>
      (sets l309 (w64 (x291 - 1)) x306).bind fun l311 =>
      (F_slices_insertionSortCmpFunc_row__Of_2__Of_1_L4 p1 x243 kL3 mL4) l311 (w64 (x291 - 1))
    else
      kL3 l290 (w64 (x243 + 1))
def F_slices_insertionSortCmpFunc_row__Of_2__Of_1_L3 (N : Nat) (p1 : Int) (p2 : Int) : Nat → List TRow → Int → Option (List TRow)
  | 0, _, _ => none
  | mL3 + 1, l242, x243 =>
    if (decide (x243 < p2)) then
      F_slices_insertionSortCmpFunc_row__Of_2__Of_1_L4 p1 x243 (F_slices_insertionSortCmpFunc_row__Of_2__Of_1_L3 N p1 p2 mL3) N l242 x243
    else
      some l242
def F_slices_insertionSortCmpFunc_row__Of_2__Of_1 (N : Nat) (p0 : (List TRow)) (p1 : Int) (p2 : Int) : Option (List TRow) :=
  F_slices_insertionSortCmpFunc_row__Of_2__Of_1_L3 N p1 p2 N p0 (w64 (p1 + 1))

def F_slices_swapRangeCmpFunc_row__Of_2__Of_1_L1 (p1 : Int) (p2 : Int) (p3 : Int) : Nat → List TRow → Int → Option (List TRow)
  | 0, _, _ => none
  | mL1 + 1, l124, x125 =>
    if (decide (x125 < p3)) then
      (idx l124 (w64 (p2 + x125))).bind fun x127 =>
      (idx l124 (w64 (p1 + x125))).bind fun x129 =>
      (idx l124 (w64 (p1 + x125))).bind fun x131 =>
      (sets l124 (w64 (p1 + x125)) x127).bind fun l132 =>
      (idx l132 (w64 (p2 + x125))).bind fun x133 =>
      (sets l132 (w64 (p2 + x125)) x129).bind fun l134 =>
      (F_slices_swapRangeCmpFunc_row__Of_2__Of_1_L1 p1 p2 p3 mL1) l134 (w64 (x125 + 1))
    else
      some l124
def F_slices_swapRangeCmpFunc_row__Of_2__Of_1 (N : Nat) (p0 : (List TRow)) (p1 : Int) (p2 : Int) (p3 : Int) : Option (List TRow) :=
  F_slices_swapRangeCmpFunc_row__Of_2__Of_1_L1 p1 p2 p3 N p0 0

def F_slices_rotateCmpFunc_row__Of_2__Of_1_L1 (N : Nat) (p2 : Int) : Nat → List TRow → Int → Int → Option (List TRow)
  | 0, _, _, _ => none
  | mL1 + 1, l117, x118, x119 =>
    if (x118 != x119) then
      if (decide (x119 < x118)) then
        (F_slices_swapRangeCmpFunc_row__Of_2__Of_1 N l117 (w64 (p2 - x118)) p2 x119).bind fun y120 =>
        (F_slices_rotateCmpFunc_row__Of_2__Of_1_L1 N p2 mL1) y120 (w64 (x118 - x119)) x119
      else
        (F_slices_swapRangeCmpFunc_row__Of_2__Of_1 N l117 (w64 (p2 - x118)) (w64 ((w64 (p2 + x119)) - x118)) x118).bind fun y122 =>
        (F_slices_rotateCmpFunc_row__Of_2__Of_1_L1 N p2 mL1) y122 x118 (w64 (x119 - x118))
    else
      (F_slices_swapRangeCmpFunc_row__Of_2__Of_1 N l117 (w64 (p2 - x118)) p2 x118).bind fun y124 =>
      some y124
def F_slices_rotateCmpFunc_row__Of_2__Of_1 (N : Nat) (p0 : (List TRow)) (p1 : Int) (p2 : Int) (p3 : Int) : Option (List TRow) :=
  F_slices_rotateCmpFunc_row__Of_2__Of_1_L1 N p2 N p0 (w64 (p2 - p1)) (w64 (p3 - p2))

def F_slices_symMergeCmpFunc_row__Of_2__Of_1_L2 (x120 : Int) : Nat → List TRow → Int → Option (List TRow)
  | 0, _, _ => none
  | mL2 + 1, l153, x154 =>
    if (decide (x154 < (w64 (x120 - 1)))) then
      (idx l153 (w64 (x154 + 1))).bind fun x156 =>
      (idx l153 x154).bind fun x158 =>
      (idx l153 x154).bind fun x160 =>
      (sets l153 x154 x156).bind fun l161 =>
      (idx l161 (w64 (x154 + 1))).bind fun x162 =>
      (sets l161 (w64 (x154 + 1)) x158).bind fun l163 =>
      (F_slices_symMergeCmpFunc_row__Of_2__Of_1_L2 x120 mL2) l163 (w64 (x154 + 1))
    else
      some l153
def F_slices_symMergeCmpFunc_row__Of_2__Of_1_L1 (N : Nat) (p0 : (List TRow)) (p1 : Int) : Nat → Int → Int → Option (List TRow)
  | 0, _, _ => none
  | mL1 + 1, x120, x121 =>
    if (decide (x120 < x121)) then
      (uO (w64 (x120 + x121))).bind fun q122 =>
      (uO (q122 / 2)).bind fun q123 =>
      (idx p0 q123).bind fun x124 =>
      (idx p0 p1).bind fun x126 =>
      (F_plot_Of_2__Of_1 x124 x126).bind fun y128 =>
      if (decide (y128 < 0)) then
        (F_slices_symMergeCmpFunc_row__Of_2__Of_1_L1 N p0 p1 mL1) (w64 (q123 + 1)) x121
      else
        (F_slices_symMergeCmpFunc_row__Of_2__Of_1_L1 N p0 p1 mL1) x120 q123
    else
      F_slices_symMergeCmpFunc_row__Of_2__Of_1_L2 x120 N p0 p1
def F_slices_symMergeCmpFunc_row__Of_2__Of_1_L4 (x184 : Int) : Nat → List TRow → Int → Option (List TRow)
  | 0, _, _ => none
  | mL4 + 1, l217, x218 =>
    if (decide (x184 < x218)) then
      (idx l217 (w64 (x218 - 1))).bind fun x220 =>
      (idx l217 x218).bind fun x222 =>
      (idx l217 x218).bind fun x224 =>
      (sets l217 x218 x220).bind fun l225 =>
      (idx l225 (w64 (x218 - 1))).bind fun x226 =>
      (sets l225 (w64 (x218 - 1)) x222).bind fun l227 =>
      (F_slices_symMergeCmpFunc_row__Of_2__Of_1_L4 x184 mL4) l227 (w64 (x218 - 1))
    else
      some l217
def F_slices_symMergeCmpFunc_row__Of_2__Of_1_L3 (N : Nat) (p0 : (List TRow)) (p2 : Int) : Nat → Int → Int → Option (List TRow)
  | 0, _, _ => none
  | mL3 + 1, x184, x185 =>
    if (decide (x184 < x185)) then
      (uO (w64 (x184 + x185))).bind fun q186 =>
      (uO (q186 / 2)).bind fun q187 =>
      (idx p0 p2).bind fun x188 =>
      (idx p0 q187).bind fun x190 =>
      (F_plot_Of_2__Of_1 x188 x190).bind fun y192 =>
      if (!(decide (y192 < 0))) then
        (F_slices_symMergeCmpFunc_row__Of_2__Of_1_L3 N p0 p2 mL3) (w64 (q187 + 1)) x185
      else
        (F_slices_symMergeCmpFunc_row__Of_2__Of_1_L3 N p0 p2 mL3) x184 q187
    else
      F_slices_symMergeCmpFunc_row__Of_2__Of_1_L4 x184 N p0 p2
def F_slices_symMergeCmpFunc_row__Of_2__Of_1_J6 (p2 : Int) (p3 : Int) (rec : (List TRow) → Int → Int → Int → Option (List TRow)) (q229 : Int) (x254 : Int) (l270 : List TRow) : Option (List TRow) :=
  if ((decide (q229 < (w64 ((w64 (q229 + p2)) - x254)))) && (decide ((w64 ((w64 (q229 + p2)) - x254)) < p3))) then
    (rec l270 q229 (w64 ((w64 (q229 + p2)) - x254)) p3).bind fun y273 =>
    some y273
  else
    some l270
def F_slices_symMergeCmpFunc_row__Of_2__Of_1_J7 (p1 : Int) (p2 : Int) (p3 : Int) (rec : (List TRow) → Int → Int → Int → Option (List TRow)) (q229 : Int) (x254 : Int) (l265 : List TRow) : Option (List TRow) :=
  if ((decide (p1 < x254)) && (decide (x254 < q229))) then
    (rec l265 p1 x254 q229).bind fun y275 =>
    F_slices_symMergeCmpFunc_row__Of_2__Of_1_J6 p2 p3 rec q229 x254 y275
  else
    F_slices_symMergeCmpFunc_row__Of_2__Of_1_J6 p2 p3 rec q229 x254 l265
def F_slices_symMergeCmpFunc_row__Of_2__Of_1_L5 (N : Nat) (p0 : (List TRow)) (p1 : Int) (p2 : Int) (p3 : Int) (rec : (List TRow) → Int → Int → Int → Option (List TRow)) (q229 : Int) : Nat → Int → Int → Option (List TRow)
  | 0, _, _ => none
  | mL5 + 1, x254, x255 =>
    if (decide (x254 < x255)) then
      (uO (w64 (x254 + x255))).bind fun q256 =>
      (uO (q256 / 2)).bind fun q257 =>
      (idx p0 (w64 ((w64 ((w64 (q229 + p2)) - 1)) - q257))).bind fun x258 =>
      (idx p0 q257).bind fun x260 =>
      (F_plot_Of_2__Of_1 x258 x260).bind fun y262 =>
      if (!(decide (y262 < 0))) then
        (F_slices_symMergeCmpFunc_row__Of_2__Of_1_L5 N p0 p1 p2 p3 rec q229 mL5) (w64 (q257 + 1)) x255
      else
        (F_slices_symMergeCmpFunc_row__Of_2__Of_1_L5 N p0 p1 p2 p3 rec q229 mL5) x254 q257
    else
      if ((decide (x254 < p2)) && (decide (p2 < (w64 ((w64 (q229 + p2)) - x254))))) then
        (F_slices_rotateCmpFunc_row__Of_2__Of_1 N p0 x254 p2 (w64 ((w64 (q229 + p2)) - x254))).bind fun y277 =>
        F_slices_symMergeCmpFunc_row__Of_2__Of_1_J7 p1 p2 p3 rec q229 x254 y277
      else
        F_slices_symMergeCmpFunc_row__Of_2__Of_1_J7 p1 p2 p3 rec q229 x254 p0
def F_slices_symMergeCmpFunc_row__Of_2__Of_1_J8 (N : Nat) (p0 : (List TRow)) (p1 : Int) (p2 : Int) (p3 : Int) (rec : (List TRow) → Int → Int → Int → Option (List TRow)) (q229 : Int) (x230 : Int) (x231 : Int) : Option (List TRow) :=
  F_slices_symMergeCmpFunc_row__Of_2__Of_1_L5 N p0 p1 p2 p3 rec q229 N x230 x231
def F_slices_symMergeCmpFunc_row__Of_2__Of_1_b (N : Nat) (rec : (List TRow) → Int → Int → Int → Option (List TRow)) (p0 : (List TRow)) (p1 : Int) (p2 : Int) (p3 : Int) : Option (List TRow) :=
  if ((w64 (p2 - p1)) == 1) then
    F_slices_symMergeCmpFunc_row__Of_2__Of_1_L1 N p0 p1 N p2 p3
  else
    if ((w64 (p3 - p2)) == 1) then
      F_slices_symMergeCmpFunc_row__Of_2__Of_1_L3 N p0 p2 N p1 p2
    else
      (uO (w64 (p1 + p3))).bind fun q228 =>
      (uO (q228 / 2)).bind fun q229 =>
      if (decide (q229 < p2)) then
        F_slices_symMergeCmpFunc_row__Of_2__Of_1_J8 N p0 p1 p2 p3 rec q229 (w64 ((w64 (q229 + p2)) - p3)) q229
      else
        F_slices_symMergeCmpFunc_row__Of_2__Of_1_J8 N p0 p1 p2 p3 rec q229 p1 p2
def F_slices_symMergeCmpFunc_row__Of_2__Of_1 : Nat → (List TRow) → Int → Int → Int → Option (List TRow)
  | 0 => fun _ _ _ _ => none
  | N + 1 => F_slices_symMergeCmpFunc_row__Of_2__Of_1_b N (F_slices_symMergeCmpFunc_row__Of_2__Of_1 N)

def F_slices_stableCmpFunc_row__Of_2__Of_1_J8 (x177 : Int) (kL6 : (List TRow) → Int → Option (List TRow)) (l198 : List TRow) : Option (List TRow) :=
  kL6 l198 (w64 (x177 * 2))
def F_slices_stableCmpFunc_row__Of_2__Of_1_L7 (N : Nat) (p1 : Int) (x177 : Int) (kL6 : (List TRow) → Int → Option (List TRow)) : Nat → List TRow → Int → Int → Option (List TRow)
  | 0, _, _, _ => none
  | mL7 + 1, l191, x192, x193 =>
    if (decide (x193 ≤ p1)) then
      (F_slices_symMergeCmpFunc_row__Of_2__Of_1 N l191 x192 (w64 (x192 + x177)) x193).bind fun y194 =>
      (F_slices_stableCmpFunc_row__Of_2__Of_1_L7 N p1 x177 kL6 mL7) y194 x193 (w64 (x193 + (w64 (2 * x177))))
    else
      if (decide ((w64 (x192 + x177)) < p1)) then
        (F_slices_symMergeCmpFunc_row__Of_2__Of_1 N l191 x192 (w64 (x192 + x177)) p1).bind fun y201 =>
        F_slices_stableCmpFunc_row__Of_2__Of_1_J8 x177 kL6 y201
      else
        F_slices_stableCmpFunc_row__Of_2__Of_1_J8 x177 kL6 l191
def F_slices_stableCmpFunc_row__Of_2__Of_1_L6 (N : Nat) (p1 : Int) : Nat → List TRow → Int → Option (List TRow)
  | 0, _, _ => none
  | mL6 + 1, l176, x177 =>
    if (decide (x177 < p1)) then
      F_slices_stableCmpFunc_row__Of_2__Of_1_L7 N p1 x177 (F_slices_stableCmpFunc_row__Of_2__Of_1_L6 N p1 mL6) N l176 0 (w64 (2 * x177))
    else
      some l176
def F_slices_stableCmpFunc_row__Of_2__Of_1_L1 (N : Nat) (p1 : Int) : Nat → List TRow → Int → Int → Option (List TRow)
  | 0, _, _, _ => none
  | mL1 + 1, l113, x114, x115 =>
    if (decide (x115 ≤ p1)) then
      (F_slices_insertionSortCmpFunc_row__Of_2__Of_1 N l113 x114 x115).bind fun y116 =>
      (F_slices_stableCmpFunc_row__Of_2__Of_1_L1 N p1 mL1) y116 x115 (w64 (x115 + 20))
    else
      (F_slices_insertionSortCmpFunc_row__Of_2__Of_1 N l113 x114 p1).bind fun y118 =>
      F_slices_stableCmpFunc_row__Of_2__Of_1_L6 N p1 N y118 20
def F_slices_stableCmpFunc_row__Of_2__Of_1 (N : Nat) (p0 : (List TRow)) (p1 : Int) : Option (List TRow) :=
  F_slices_stableCmpFunc_row__Of_2__Of_1_L1 N p1 N p0 0 20


def F_slices_SortStableFunc_row__Of_2__Of_1 (N : Nat) (p0 : (List TRow)) : Option (List TRow) :=
  (F_slices_stableCmpFunc_row__Of_2__Of_1 N p0 (p0.length : Int)).bind fun y100 =>
  some y100

def F_plot_Of_J9 (kL8 : (List TPlotStep) → Int → Option (TPlot × Int)) (xL8 : TRow) (l218 : List TPlotStep) (x219 : Int) : Option (TPlot × Int) :=
  (apd l218 ([(TPlotStep.mk 7 (⟨#[]⟩) (TPoint.mk 0 0) xL8.points 0 0 [])])).bind fun l223 =>
  kL8 l223 x219
def F_plot_Of_J10 (l209 : List TPlotStep) (x210 : Int) (kL8 : (List TPlotStep) → Int → Option (TPlot × Int)) (xL8 : TRow) (x213 : Int) : Option (TPlot × Int) :=
  if (x213 != x210) then
    (apd l209 ([(TPlotStep.mk x213 (⟨#[]⟩) (TPoint.mk 0 0) [] 0 0 [])])).bind fun l225 =>
    F_plot_Of_J9 kL8 xL8 l225 x213
  else
    F_plot_Of_J9 kL8 xL8 l209 x210
def F_plot_Of_L8 : List TRow → Nat → List TPlotStep → Int → Option (TPlot × Int)
  | [], iL8, l209, x210 =>
    some ((TPlot.mk 1 [] l209), 0)
  | xL8 :: restL8, iL8, l209, x210 =>
    if (decide (xL8.area < 0)) then
      F_plot_Of_J10 l209 x210 (F_plot_Of_L8 restL8 (iL8 + 1)) xL8 2
    else
      F_plot_Of_J10 l209 x210 (F_plot_Of_L8 restL8 (iL8 + 1)) xL8 1
def F_plot_Of_L11 (l161 : List TRow) (kL3 : (List TRow) → Option (TPlot × Int)) (xL3 : (List TPoint)) : List TPoint → Nat → Int → Option (TPlot × Int)
  | [], iL11, x244 =>
    (apd l161 [(TRow.mk xL3 x244)]).bind fun l246 =>
    kL3 l246
  | xL11 :: restL11, iL11, x244 =>
    (md (w64 ((iL11 : Int) + 1)) (xL3.length : Int)).bind fun q248 =>
    (idx xL3 q248).bind fun x249 =>
    (F_plot_Of_L11 l161 kL3 xL3 restL11 (iL11 + 1)) (w64 (x244 + (w64 ((w64 (xL11.X * x249.Y)) - (w64 (x249.X * xL11.Y))))))
def F_plot_Of_L3 (N : Nat) : List (List TPoint) → Nat → List TRow → Option (TPlot × Int)
  | [], iL3, l161 =>
    (F_slices_SortStableFunc_row__Of_2__Of_1 N l161).bind fun y163 =>
    F_plot_Of_L8 y163 0 ([] : List TPlotStep) 1
  | xL3 :: restL3, iL3, l161 =>
    F_plot_Of_L11 l161 (F_plot_Of_L3 N restL3 (iL3 + 1)) xL3 xL3 0 0
noncomputable def F_plot_Of (N : Nat) (p0 : (List TRect)) : Option (TPlot × Int) :=
  (F_shape_Outlines N p0).bind fun y101 =>
  if (y101.2 != 0) then
    some ((TPlot.mk 0 [] []), y101.2)
  else
    F_plot_Of_L3 N y101.1 0 ([] : List TRow)


def F_etchhouseref1_within (p0 : Int) (p1 : Int) (p2 : Int) : Option Bool :=
  some ((decide (p1 ≤ p0)) && (decide (p0 ≤ p2)))


def F_etchhouseref1_At (p0 : Int) : Option Bool :=
  (F_etchhouseref1_within p0 (-1000000) 1000000).bind fun y100 =>
  some y100

def F_etchhouseref1_CheckRects_L1 (p0 : (List TRect)) : Nat → Int → Option Int
  | 0, _ => none
  | mL1 + 1, x127 =>
    if (decide (x127 < (p0.length : Int))) then
      (idx p0 x127).bind fun x128 =>
      (F_etchhouseref1_At x128.X0).bind fun y130 =>
      (if (!y130) then some true else 
        (F_etchhouseref1_At x128.Y0).bind fun y133 =>
        some (!y133)
      ).bind fun g132 =>
      (if g132 then some true else 
        (F_etchhouseref1_At x128.X1).bind fun y136 =>
        some (!y136)
      ).bind fun g135 =>
      (if g135 then some true else 
        (F_etchhouseref1_At x128.Y1).bind fun y139 =>
        some (!y139)
      ).bind fun g138 =>
      if g138 then
        some 1
      else
        if ((decide (x128.X1 ≤ x128.X0)) || (decide (x128.Y1 ≤ x128.Y0))) then
          some 13
        else
          (F_etchhouseref1_CheckRects_L1 p0 mL1) (w64 (x127 + 1))
    else
      some 0
def F_etchhouseref1_CheckRects (N : Nat) (p0 : (List TRect)) : Option Int :=
  if (decide (2000 < (p0.length : Int))) then
    some 2
  else
    F_etchhouseref1_CheckRects_L1 p0 N 0


def F_etchhouseref1_before (p0 : TRect) (p1 : TRect) : Option Bool :=
  some ((decide (p0.Y0 < p1.Y0)) || ((p0.Y0 == p1.Y0) && (decide (p0.X0 < p1.X0))))

def F_etchhouseref1_put_L1 (p0 : (List Int)) (p1 : Int) : Nat → Int → Int → Option (List Int)
  | 0, _, _ => none
  | mL1 + 1, x108, x109 =>
    if (decide (x108 < x109)) then
      (idx p0 (w64 (Int.tdiv (w64 (x108 + x109)) 2))).bind fun x110 =>
      if (decide (x110 < p1)) then
        (F_etchhouseref1_put_L1 p0 p1 mL1) (w64 ((w64 (Int.tdiv (w64 (x108 + x109)) 2)) + 1)) x109
      else
        (F_etchhouseref1_put_L1 p0 p1 mL1) x108 (w64 (Int.tdiv (w64 (x108 + x109)) 2))
    else
      (if (decide (x108 < (p0.length : Int))) then 
        (idx p0 x108).bind fun x113 =>
        some (x113 == p1)
       else some false).bind fun g112 =>
      if g112 then
        some p0
      else
        (pre p0 x108).bind fun l114 =>
        (apd ([] : List Int) l114).bind fun l115 =>
        (apd l115 [p1]).bind fun l117 =>
        (cut p0 x108 (p0.length : Int)).bind fun l118 =>
        (apd l117 l118).bind fun l119 =>
        some l119
def F_etchhouseref1_put (N : Nat) (p0 : (List Int)) (p1 : Int) : Option (List Int) :=
  F_etchhouseref1_put_L1 p0 p1 N 0 (p0.length : Int)

def F_etchhouseref1_heights_L1 (N : Nat) (p0 : (List TRect)) : Nat → List Int → Int → Option (List Int)
  | 0, _, _ => none
  | mL1 + 1, l122, x123 =>
    if (decide (x123 < (p0.length : Int))) then
      (idx p0 x123).bind fun x127 =>
      (idx p0 x123).bind fun x128 =>
      (F_etchhouseref1_put N l122 x127.Y0).bind fun y129 =>
      (F_etchhouseref1_put N y129 x128.Y1).bind fun y131 =>
      (F_etchhouseref1_heights_L1 N p0 mL1) y131 (w64 (x123 + 1))
    else
      some l122
def F_etchhouseref1_heights (N : Nat) (p0 : (List TRect)) : Option (List Int) :=
  F_etchhouseref1_heights_L1 N p0 N ([] : List Int) 0

def F_etchhouseref1_joined_L2 (p0 : (List TSpan)) (l119 : List TSpan) : Nat → Int → Int → Int → Option (List TSpan)
  | 0, _, _, _ => none
  | mL2 + 1, x148, x149, x150 =>
    (if (decide (x150 < (p0.length : Int))) then 
      (idx p0 x150).bind fun x153 =>
      some (decide (x153.from_ ≤ x149))
     else some false).bind fun g152 =>
    if g152 then
      (idx p0 x150).bind fun x155 =>
      (idx p0 x150).bind fun x156 =>
      (F_etchhouseref1_joined_L2 p0 l119 mL2) (min x148 x155.from_) (max x149 x156.to_) (w64 (x150 + 1))
    else
      (apd l119 [(TSpan.mk x148 x149)]).bind fun l158 =>
      (cut p0 x150 (p0.length : Int)).bind fun l159 =>
      (apd l158 l159).bind fun l160 =>
      some l160
def F_etchhouseref1_joined_L1 (N : Nat) (p0 : (List TSpan)) (p1 : TSpan) : Nat → List TSpan → Int → Option (List TSpan)
  | 0, _, _ => none
  | mL1 + 1, l119, x120 =>
    (if (decide (x120 < (p0.length : Int))) then 
      (idx p0 x120).bind fun x123 =>
      some (decide (x123.to_ < p1.from_))
     else some false).bind fun g122 =>
    if g122 then
      (idx p0 x120).bind fun x124 =>
      (apd l119 [x124]).bind fun l126 =>
      (F_etchhouseref1_joined_L1 N p0 p1 mL1) l126 (w64 (x120 + 1))
    else
      F_etchhouseref1_joined_L2 p0 l119 N p1.from_ p1.to_ x120
def F_etchhouseref1_joined (N : Nat) (p0 : (List TSpan)) (p1 : TSpan) : Option (List TSpan) :=
  F_etchhouseref1_joined_L1 N p0 p1 N ([] : List TSpan) 0

def F_etchhouseref1_row_L1 (N : Nat) (p0 : (List TRect)) (p1 : Int) : Nat → List TSpan → Int → Option (List TSpan)
  | 0, _, _ => none
  | mL1 + 1, l122, x123 =>
    if (decide (x123 < (p0.length : Int))) then
      (idx p0 x123).bind fun x124 =>
      (if (decide (x124.Y0 ≤ p1)) then 
        (idx p0 x123).bind fun x127 =>
        some (decide (p1 < x127.Y1))
       else some false).bind fun g126 =>
      if g126 then
        (idx p0 x123).bind fun x128 =>
        (idx p0 x123).bind fun x129 =>
        (F_etchhouseref1_joined N l122 (TSpan.mk x128.X0 x129.X1)).bind fun y130 =>
        (F_etchhouseref1_row_L1 N p0 p1 mL1) y130 (w64 (x123 + 1))
      else
        (F_etchhouseref1_row_L1 N p0 p1 mL1) l122 (w64 (x123 + 1))
    else
      some l122
def F_etchhouseref1_row (N : Nat) (p0 : (List TRect)) (p1 : Int) : Option (List TSpan) :=
  F_etchhouseref1_row_L1 N p0 p1 N ([] : List TSpan) 0

def F_etchhouseref1_sameSpans_L1 (p0 : (List TSpan)) (p1 : (List TSpan)) : Nat → Int → Option Bool
  | 0, _ => none
  | mL1 + 1, x107 =>
    if (decide (x107 < (p0.length : Int))) then
      (idx p0 x107).bind fun x108 =>
      (idx p1 x107).bind fun x109 =>
      if (!(eqTSpan x108 x109)) then
        some false
      else
        (F_etchhouseref1_sameSpans_L1 p0 p1 mL1) (w64 (x107 + 1))
    else
      some true
def F_etchhouseref1_sameSpans (N : Nat) (p0 : (List TSpan)) (p1 : (List TSpan)) : Option Bool :=
  if ((p0.length : Int) != (p1.length : Int)) then
    some false
  else
    F_etchhouseref1_sameSpans_L1 p0 p1 N 0


def F_etchhouseref1_stacked (N : Nat) (p0 : (List Tetchhouseref1Band)) (p1 : Tetchhouseref1Band) : Option (List Tetchhouseref1Band) :=
  if ((p1.spans.length : Int) == 0) then
    some p0
  else
    (if (decide (0 < (p0.length : Int))) then 
      (idx p0 (w64 ((p0.length : Int) - 1))).bind fun x103 =>
      some (x103.to_ == p1.from_)
     else some false).bind fun g102 =>
    (if g102 then 
      (idx p0 (w64 ((p0.length : Int) - 1))).bind fun x108 =>
      (F_etchhouseref1_sameSpans N x108.spans p1.spans).bind fun y110 =>
      some y110
     else some false).bind fun g107 =>
    if g107 then
      (idx p0 (w64 ((p0.length : Int) - 1))).bind fun x111 =>
      (sets p0 (w64 ((p0.length : Int) - 1)) (Tetchhouseref1Band.mk x111.from_ p1.to_ x111.spans)).bind fun l112 =>
      some l112
    else
      (apd p0 [p1]).bind fun l114 =>
      some l114

def F_etchhouseref1_told_L4 (p0 : (List Tetchhouseref1Band)) (x207 : Int) (kL3 : (List TRect) → Int → Option (List TRect)) : Nat → List TRect → Int → Option (List TRect)
  | 0, _, _ => none
  | mL4 + 1, l242, x243 =>
    (idx p0 x207).bind fun x244 =>
    if (decide (x243 < (x244.spans.length : Int))) then
      (idx p0 x207).bind fun x247 =>
      (idx x247.spans x243).bind fun x249 =>
      (idx p0 x207).bind fun x250 =>
      (idx p0 x207).bind fun x252 =>
      (idx x252.spans x243).bind fun x254 =>
      (idx p0 x207).bind fun x255 =>
      (apd l242 [(TRect.mk x249.from_ x250.from_ x254.to_ x255.to_)]).bind fun l257 =>
      (F_etchhouseref1_told_L4 p0 x207 kL3 mL4) l257 (w64 (x243 + 1))
    else
      kL3 l242 (w64 (x207 + 1))
def F_etchhouseref1_told_L3 (N : Nat) (p0 : (List Tetchhouseref1Band)) : Nat → List TRect → Int → Option (List TRect)
  | 0, _, _ => none
  | mL3 + 1, l206, x207 =>
    if (decide (x207 < (p0.length : Int))) then
      F_etchhouseref1_told_L4 p0 x207 (F_etchhouseref1_told_L3 N p0 mL3) N l206 0
    else
      some l206
def F_etchhouseref1_told (N : Nat) (p0 : (List Tetchhouseref1Band)) : Option (List TRect) :=
  F_etchhouseref1_told_L3 N p0 N ([] : List TRect) 0

def F_etchhouseref1_Canonical_L1 (N : Nat) (p0 : (List TRect)) (y100 : (List Int)) : Nat → List Tetchhouseref1Band → Int → Option (List TRect)
  | 0, _, _ => none
  | mL1 + 1, l128, x129 =>
    if (decide (x129 < (y100.length : Int))) then
      (idx y100 (w64 (x129 - 1))).bind fun x131 =>
      (idx y100 x129).bind fun x132 =>
      (idx y100 (w64 (x129 - 1))).bind fun x133 =>
      (F_etchhouseref1_row N p0 x133).bind fun y134 =>
      (F_etchhouseref1_stacked N l128 (Tetchhouseref1Band.mk x131 x132 y134)).bind fun y138 =>
      (F_etchhouseref1_Canonical_L1 N p0 y100 mL1) y138 (w64 (x129 + 1))
    else
      (F_etchhouseref1_told N l128).bind fun y140 =>
      some y140
def F_etchhouseref1_Canonical (N : Nat) (p0 : (List TRect)) : Option (List TRect) :=
  (F_etchhouseref1_heights N p0).bind fun y100 =>
  F_etchhouseref1_Canonical_L1 N p0 y100 N ([] : List Tetchhouseref1Band) 1

def F_etchhouseref1_SameRects_L1 (p0 : (List TRect)) (p1 : (List TRect)) : Nat → Int → Option Bool
  | 0, _ => none
  | mL1 + 1, x107 =>
    if (decide (x107 < (p0.length : Int))) then
      (idx p0 x107).bind fun x108 =>
      (idx p1 x107).bind fun x109 =>
      if (!(eqTRect x108 x109)) then
        some false
      else
        (F_etchhouseref1_SameRects_L1 p0 p1 mL1) (w64 (x107 + 1))
    else
      some true
def F_etchhouseref1_SameRects (N : Nat) (p0 : (List TRect)) (p1 : (List TRect)) : Option Bool :=
  if ((p0.length : Int) != (p1.length : Int)) then
    some false
  else
    F_etchhouseref1_SameRects_L1 p0 p1 N 0

def F_etchhouseref1_CheckRegion_L1 (N : Nat) (p0 : (List TRect)) : Nat → Int → Option Int
  | 0, _ => none
  | mL1 + 1, x110 =>
    if (decide (x110 < (p0.length : Int))) then
      (idx p0 (w64 (x110 - 1))).bind fun x111 =>
      (idx p0 x110).bind fun x112 =>
      (F_etchhouseref1_before x111 x112).bind fun y113 =>
      if (!y113) then
        some 8
      else
        (F_etchhouseref1_CheckRegion_L1 N p0 mL1) (w64 (x110 + 1))
    else
      (F_etchhouseref1_Canonical N p0).bind fun y114 =>
      (F_etchhouseref1_SameRects N p0 y114).bind fun y116 =>
      if (!y116) then
        some 3
      else
        some 0
def F_etchhouseref1_CheckRegion (N : Nat) (p0 : (List TRect)) : Option Int :=
  (F_etchhouseref1_CheckRects N p0).bind fun y100 =>
  if (y100 != 0) then
    some y100
  else
    F_etchhouseref1_CheckRegion_L1 N p0 N 1

def F_etchhouseref1_inside_L1 (p0 : (List TSpan)) (p1 : Int) : Nat → Int → Option Bool
  | 0, _ => none
  | mL1 + 1, x111 =>
    if (decide (x111 < (p0.length : Int))) then
      (idx p0 x111).bind fun x112 =>
      (if (decide (x112.from_ ≤ p1)) then 
        (idx p0 x111).bind fun x115 =>
        some (decide (p1 < x115.to_))
       else some false).bind fun g114 =>
      if g114 then
        some true
      else
        (F_etchhouseref1_inside_L1 p0 p1 mL1) (w64 (x111 + 1))
    else
      some false
def F_etchhouseref1_inside (N : Nat) (p0 : (List TSpan)) (p1 : Int) : Option Bool :=
  F_etchhouseref1_inside_L1 p0 p1 N 0

def F_etchhouseref1_cellsOf_L5 (N : Nat) (l139 : List Int) (l220 : List (List Bool)) (x221 : Int) (kL4 : (List (List Bool)) → Int → Option TCells) (y223 : (List TSpan)) : Nat → List Bool → Int → Option TCells
  | 0, _, _ => none
  | mL5 + 1, l241, x242 =>
    if (decide (x242 < (l139.length : Int))) then
      (idx l139 (w64 (x242 - 1))).bind fun x243 =>
      (F_etchhouseref1_inside N y223 x243).bind fun y244 =>
      (idx l241 (w64 (x242 - 1))).bind fun x245 =>
      (sets l241 (w64 (x242 - 1)) y244).bind fun l246 =>
      (F_etchhouseref1_cellsOf_L5 N l139 l220 x221 kL4 y223 mL5) l246 (w64 (x242 + 1))
    else
      (apd l220 [l241]).bind fun l250 =>
      kL4 l250 (w64 (x221 + 1))
def F_etchhouseref1_cellsOf_L4 (N : Nat) (p0 : (List TRect)) (l139 : List Int) (l140 : List Int) : Nat → List (List Bool) → Int → Option TCells
  | 0, _, _ => none
  | mL4 + 1, l220, x221 =>
    if (decide (x221 < (l140.length : Int))) then
      (idx l140 (w64 (x221 - 1))).bind fun x222 =>
      (F_etchhouseref1_row N p0 x222).bind fun y223 =>
      (mkl false (l139.length : Int)).bind fun l225 =>
      F_etchhouseref1_cellsOf_L5 N l139 l220 x221 (F_etchhouseref1_cellsOf_L4 N p0 l139 l140 mL4) y223 N l225 1
    else
      some (TCells.mk l139 l140 l220)
def F_etchhouseref1_cellsOf_L1 (N : Nat) (p0 : (List TRect)) : Nat → List Int → List Int → Int → Option TCells
  | 0, _, _, _ => none
  | mL1 + 1, l139, l140, x141 =>
    if (decide (x141 < (p0.length : Int))) then
      (idx p0 x141).bind fun x143 =>
      (idx p0 x141).bind fun x144 =>
      (F_etchhouseref1_put N l139 x143.X0).bind fun y145 =>
      (F_etchhouseref1_put N y145 x144.X1).bind fun y147 =>
      (idx p0 x141).bind fun x150 =>
      (idx p0 x141).bind fun x151 =>
      (F_etchhouseref1_put N l140 x150.Y0).bind fun y152 =>
      (F_etchhouseref1_put N y152 x151.Y1).bind fun y154 =>
      (F_etchhouseref1_cellsOf_L1 N p0 mL1) y147 y154 (w64 (x141 + 1))
    else
      F_etchhouseref1_cellsOf_L4 N p0 l139 l140 N ([] : List (List Bool)) 1
def F_etchhouseref1_cellsOf (N : Nat) (p0 : (List TRect)) : Option TCells :=
  F_etchhouseref1_cellsOf_L1 N p0 N [] [] 0


def F_etchhouseref1_cells__has (p0 : TCells) (p1 : Int) (p2 : Int) : Option Bool :=
  (if ((((decide (0 ≤ p2)) && (decide (p2 < (p0.in_.length : Int)))) && (decide (0 ≤ p1))) && (decide (p1 < (w64 ((p0.xs.length : Int) - 1))))) then 
    (idx p0.in_ p2).bind fun x105 =>
    (idx x105 p1).bind fun x107 =>
    some x107
   else some false).bind fun g104 =>
  some g104

def F_etchhouseref1_sides_J29 (y100 : TCells) (x348 : Int) (x430 : Int) (kL28 : (List Tetchhouseref1Side) → Int → Option (List Tetchhouseref1Side)) (x434 : Int) (x436 : Int) (x437 : Int) (l453 : List Tetchhouseref1Side) : Option (List Tetchhouseref1Side) :=
  (F_etchhouseref1_cells__has y100 (w64 (x430 - 1)) x348).bind fun y456 =>
  if (!y456) then
    (apd l453 [(Tetchhouseref1Side.mk (TPoint.mk x434 x437) (TPoint.mk x434 x436))]).bind fun l458 =>
    kL28 l458 (w64 (x430 + 1))
  else
    kL28 l453 (w64 (x430 + 1))
def F_etchhouseref1_sides_J30 (y100 : TCells) (x348 : Int) (x430 : Int) (kL28 : (List Tetchhouseref1Side) → Int → Option (List Tetchhouseref1Side)) (x434 : Int) (x435 : Int) (x436 : Int) (x437 : Int) (l447 : List Tetchhouseref1Side) : Option (List Tetchhouseref1Side) :=
  (F_etchhouseref1_cells__has y100 x430 (w64 (x348 + 1))).bind fun y459 =>
  if (!y459) then
    (apd l447 [(Tetchhouseref1Side.mk (TPoint.mk x435 x437) (TPoint.mk x434 x437))]).bind fun l461 =>
    F_etchhouseref1_sides_J29 y100 x348 x430 kL28 x434 x436 x437 l461
  else
    F_etchhouseref1_sides_J29 y100 x348 x430 kL28 x434 x436 x437 l447
def F_etchhouseref1_sides_J31 (y100 : TCells) (x348 : Int) (x430 : Int) (kL28 : (List Tetchhouseref1Side) → Int → Option (List Tetchhouseref1Side)) (x434 : Int) (x435 : Int) (x436 : Int) (x437 : Int) (l441 : List Tetchhouseref1Side) : Option (List Tetchhouseref1Side) :=
  (F_etchhouseref1_cells__has y100 (w64 (x430 + 1)) x348).bind fun y462 =>
  if (!y462) then
    (apd l441 [(Tetchhouseref1Side.mk (TPoint.mk x435 x436) (TPoint.mk x435 x437))]).bind fun l464 =>
    F_etchhouseref1_sides_J30 y100 x348 x430 kL28 x434 x435 x436 x437 l464
  else
    F_etchhouseref1_sides_J30 y100 x348 x430 kL28 x434 x435 x436 x437 l441
def F_etchhouseref1_sides_L28 (y100 : TCells) (x348 : Int) (kL21 : (List Tetchhouseref1Side) → Int → Option (List Tetchhouseref1Side)) : Nat → List Tetchhouseref1Side → Int → Option (List Tetchhouseref1Side)
  | 0, _, _ => none
  | mL28 + 1, l429, x430 =>
    if (decide (x430 < (w64 ((y100.xs.length : Int) - 1)))) then
      (idx y100.in_ x348).bind fun x431 =>
      (idx x431 x430).bind fun x433 =>
      if (!x433) then
        (F_etchhouseref1_sides_L28 y100 x348 kL21 mL28) l429 (w64 (x430 + 1))
      else
        (idx y100.xs x430).bind fun x434 =>
        (idx y100.xs (w64 (x430 + 1))).bind fun x435 =>
        (idx y100.ys x348).bind fun x436 =>
        (idx y100.ys (w64 (x348 + 1))).bind fun x437 =>
        (F_etchhouseref1_cells__has y100 x430 (w64 (x348 - 1))).bind fun y465 =>
        if (!y465) then
          (apd l429 [(Tetchhouseref1Side.mk (TPoint.mk x434 x436) (TPoint.mk x435 x436))]).bind fun l467 =>
          F_etchhouseref1_sides_J31 y100 x348 x430 (F_etchhouseref1_sides_L28 y100 x348 kL21 mL28) x434 x435 x436 x437 l467
        else
          F_etchhouseref1_sides_J31 y100 x348 x430 (F_etchhouseref1_sides_L28 y100 x348 kL21 mL28) x434 x435 x436 x437 l429
    else
      kL21 l429 (w64 (x348 + 1))
def F_etchhouseref1_sides_L21 (N : Nat) (y100 : TCells) : Nat → List Tetchhouseref1Side → Int → Option (List Tetchhouseref1Side)
  | 0, _, _ => none
  | mL21 + 1, l347, x348 =>
    if (decide (x348 < (y100.in_.length : Int))) then
      F_etchhouseref1_sides_L28 y100 x348 (F_etchhouseref1_sides_L21 N y100 mL21) N l347 0
    else
      some l347
def F_etchhouseref1_sides (N : Nat) (p0 : (List TRect)) : Option (List Tetchhouseref1Side) :=
  (F_etchhouseref1_cellsOf N p0).bind fun y100 =>
  F_etchhouseref1_sides_L21 N y100 N ([] : List Tetchhouseref1Side) 0


def F_etchhouseref1_sign (p0 : Int) : Option Int :=
  if (decide (p0 < 0)) then
    some (-1)
  else
    if (decide (0 < p0)) then
      some 1
    else
      some 0


def F_etchhouseref1_way (p0 : Tetchhouseref1Side) : Option TPoint :=
  (F_etchhouseref1_sign (w64 (p0.to_.X - p0.from_.X))).bind fun y102 =>
  (F_etchhouseref1_sign (w64 (p0.to_.Y - p0.from_.Y))).bind fun y103 =>
  some (TPoint.mk y102 y103)

def F_etchhouseref1_next_L1 (p0 : (List Tetchhouseref1Side)) (p1 : (List Bool)) (p2 : Tetchhouseref1Side) (y101 : TPoint) : Nat → Int → Int → Option Int
  | 0, _, _ => none
  | mL1 + 1, x123, x124 =>
    if (decide (x124 < (p0.length : Int))) then
      (idx p1 x124).bind fun x125 =>
      (if x125 then some true else 
        (idx p0 x124).bind fun x128 =>
        some (!(eqTPoint x128.from_ p2.to_))
      ).bind fun g127 =>
      if g127 then
        (F_etchhouseref1_next_L1 p0 p1 p2 y101 mL1) x123 (w64 (x124 + 1))
      else
        (idx p0 x124).bind fun x129 =>
        (F_etchhouseref1_way x129).bind fun y130 =>
        if ((decide (x123 < 0)) || (decide (0 < (w64 ((w64 (y101.X * y130.Y)) - (w64 (y101.Y * y130.X))))))) then
          (F_etchhouseref1_next_L1 p0 p1 p2 y101 mL1) x124 (w64 (x124 + 1))
        else
          (F_etchhouseref1_next_L1 p0 p1 p2 y101 mL1) x123 (w64 (x124 + 1))
    else
      some x123
def F_etchhouseref1_next (N : Nat) (p0 : (List Tetchhouseref1Side)) (p1 : (List Bool)) (p2 : Tetchhouseref1Side) : Option Int :=
  (F_etchhouseref1_way p2).bind fun y101 =>
  F_etchhouseref1_next_L1 p0 p1 p2 y101 N (-1) 0


def F_etchhouseref1_less (p0 : TPoint) (p1 : TPoint) : Option Bool :=
  some ((decide (p0.Y < p1.Y)) || ((p0.Y == p1.Y) && (decide (p0.X < p1.X))))

def F_etchhouseref1_corners_L2 (l124 : List TPoint) : Nat → Int → Int → Option (List TPoint)
  | 0, _, _ => none
  | mL2 + 1, x152, x153 =>
    if (decide (x153 < (l124.length : Int))) then
      (idx l124 x153).bind fun x154 =>
      (idx l124 x152).bind fun x155 =>
      (F_etchhouseref1_less x154 x155).bind fun y156 =>
      if y156 then
        (F_etchhouseref1_corners_L2 l124 mL2) x153 (w64 (x153 + 1))
      else
        (F_etchhouseref1_corners_L2 l124 mL2) x152 (w64 (x153 + 1))
    else
      (cut l124 x152 (l124.length : Int)).bind fun l157 =>
      (apd ([] : List TPoint) l157).bind fun l158 =>
      (pre l124 x152).bind fun l159 =>
      (apd l158 l159).bind fun l160 =>
      some l160
def F_etchhouseref1_corners_L1 (N : Nat) (p0 : (List Tetchhouseref1Side)) : Nat → List TPoint → Int → Option (List TPoint)
  | 0, _, _ => none
  | mL1 + 1, l124, x125 =>
    if (decide (x125 < (p0.length : Int))) then
      (md (w64 ((w64 (x125 + (p0.length : Int))) - 1)) (p0.length : Int)).bind fun q126 =>
      (idx p0 q126).bind fun x127 =>
      (F_etchhouseref1_way x127).bind fun y129 =>
      (idx p0 x125).bind fun x130 =>
      (F_etchhouseref1_way x130).bind fun y131 =>
      if (!(eqTPoint y129 y131)) then
        (idx p0 x125).bind fun x132 =>
        (apd l124 [x132.from_]).bind fun l134 =>
        (F_etchhouseref1_corners_L1 N p0 mL1) l134 (w64 (x125 + 1))
      else
        (F_etchhouseref1_corners_L1 N p0 mL1) l124 (w64 (x125 + 1))
    else
      F_etchhouseref1_corners_L2 l124 N 0 0
def F_etchhouseref1_corners (N : Nat) (p0 : (List Tetchhouseref1Side)) : Option (List TPoint) :=
  F_etchhouseref1_corners_L1 N p0 N ([] : List TPoint) 0

def F_etchhouseref1_OutlinesOf_L7 (l652 : List (List TPoint)) (x653 : Int) (kL5 : (List Bool) → (List (List TPoint)) → Int → Option (List (List TPoint))) (l678 : List Bool) (y688 : (List TPoint)) : Nat → Int → Option (List (List TPoint))
  | 0, _ => none
  | mL7 + 1, x839 =>
    (if (decide (0 < x839)) then 
      (idx y688 0).bind fun x877 =>
      (idx l652 (w64 (x839 - 1))).bind fun x878 =>
      (idx x878 0).bind fun x880 =>
      (F_etchhouseref1_less x877 x880).bind fun y881 =>
      (if y881 then some true else 
        (idx y688 0).bind fun x898 =>
        (idx l652 (w64 (x839 - 1))).bind fun x899 =>
        (idx x899 0).bind fun x901 =>
        (if (eqTPoint x898 x901) then 
          (idx l652 (w64 (x839 - 1))).bind fun x908 =>
          (idx x908 1).bind fun x910 =>
          (idx y688 1).bind fun x911 =>
          (F_etchhouseref1_less x910 x911).bind fun y912 =>
          some y912
         else some false).bind fun g907 =>
        some g907
      ).bind fun g897 =>
      some g897
     else some false).bind fun g876 =>
    if g876 then
      (F_etchhouseref1_OutlinesOf_L7 l652 x653 kL5 l678 y688 mL7) (w64 (x839 - 1))
    else
      (pre l652 x839).bind fun l913 =>
      (apd ([] : List (List TPoint)) l913).bind fun l916 =>
      (apd l916 [y688]).bind fun l920 =>
      (cut l652 x839 (l652.length : Int)).bind fun l921 =>
      (apd l920 l921).bind fun l922 =>
      kL5 l678 l922 (w64 (x653 + 1))
def F_etchhouseref1_OutlinesOf_L6 (N : Nat) (y100 : (List Tetchhouseref1Side)) (l652 : List (List TPoint)) (x653 : Int) (kL5 : (List Bool) → (List (List TPoint)) → Int → Option (List (List TPoint))) : Nat → List Bool → List Tetchhouseref1Side → Int → Option (List (List TPoint))
  | 0, _, _, _ => none
  | mL6 + 1, l678, l679, x680 =>
    if (decide (0 ≤ x680)) then
      (idx l678 x680).bind fun x681 =>
      (sets l678 x680 true).bind fun l682 =>
      (idx y100 x680).bind fun x683 =>
      (apd l679 [x683]).bind fun l685 =>
      (idx y100 x680).bind fun x686 =>
      (F_etchhouseref1_next N y100 l682 x686).bind fun y687 =>
      (F_etchhouseref1_OutlinesOf_L6 N y100 l652 x653 kL5 mL6) l682 l685 y687
    else
      (F_etchhouseref1_corners N l679).bind fun y688 =>
      F_etchhouseref1_OutlinesOf_L7 l652 x653 kL5 l678 y688 N (l652.length : Int)
def F_etchhouseref1_OutlinesOf_L5 (N : Nat) (y100 : (List Tetchhouseref1Side)) : Nat → List Bool → List (List TPoint) → Int → Option (List (List TPoint))
  | 0, _, _, _ => none
  | mL5 + 1, l651, l652, x653 =>
    if (decide (x653 < (y100.length : Int))) then
      (idx l651 x653).bind fun x654 =>
      if x654 then
        (F_etchhouseref1_OutlinesOf_L5 N y100 mL5) l651 l652 (w64 (x653 + 1))
      else
        F_etchhouseref1_OutlinesOf_L6 N y100 l652 x653 (F_etchhouseref1_OutlinesOf_L5 N y100 mL5) N l651 ([] : List Tetchhouseref1Side) x653
    else
      some l652
def F_etchhouseref1_OutlinesOf (N : Nat) (p0 : (List TRect)) : Option (List (List TPoint)) :=
  (F_etchhouseref1_sides N p0).bind fun y100 =>
  (mkl false (y100.length : Int)).bind fun l102 =>
  F_etchhouseref1_OutlinesOf_L5 N y100 N l102 ([] : List (List TPoint)) 0

def F_etchhouseref1_Outlines_L1 (y101 : (List (List TPoint))) : Nat → Int → Int → Option ((List (List TPoint)) × Int)
  | 0, _, _ => none
  | mL1 + 1, x113, x114 =>
    if (decide (x114 < (y101.length : Int))) then
      (idx y101 x114).bind fun x115 =>
      (F_etchhouseref1_Outlines_L1 y101 mL1) (w64 (x113 + (x115.length : Int))) (w64 (x114 + 1))
    else
      if (decide (2000 < x113)) then
        some (([] : List (List TPoint)), 2)
      else
        some (y101, 0)
def F_etchhouseref1_Outlines (N : Nat) (p0 : (List TRect)) : Option ((List (List TPoint)) × Int) :=
  (F_etchhouseref1_CheckRegion N p0).bind fun y100 =>
  if (y100 != 0) then
    some (([] : List (List TPoint)), y100)
  else
    (F_etchhouseref1_OutlinesOf N p0).bind fun y101 =>
    F_etchhouseref1_Outlines_L1 y101 N 0 0

def F_etchhouseref3_around_L1 (p0 : (List TPoint)) : Nat → Int → Int → Option Int
  | 0, _, _ => none
  | mL1 + 1, x120, x121 =>
    if (decide (x121 < (p0.length : Int))) then
      (idx p0 x121).bind fun x123 =>
      (md (w64 (x121 + 1)) (p0.length : Int)).bind fun q124 =>
      (idx p0 q124).bind fun x125 =>
      (F_etchhouseref3_around_L1 p0 mL1) (w64 (x120 + (w64 ((w64 (x123.X * x125.Y)) - (w64 (x125.X * x123.Y)))))) (w64 (x121 + 1))
    else
      some x120
def F_etchhouseref3_around (N : Nat) (p0 : (List TPoint)) : Option Int :=
  F_etchhouseref3_around_L1 p0 N 0 0


def F_etchhouseref3_size (p0 : Int) : Option Int :=
  some (max p0 (w64 (0 - p0)))


def F_etchhouseref3_within (p0 : Int) (p1 : Int) (p2 : Int) : Option Bool :=
  some ((decide (p1 ≤ p0)) && (decide (p0 ≤ p2)))


def F_etchhouseref3_fits (p0 : Int) (p1 : Int) : Option Bool :=
  (F_etchhouseref1_At p0).bind fun y100 =>
  (if y100 then 
    (F_etchhouseref1_At (w64 (p0 * p1))).bind fun y103 =>
    some y103
   else some false).bind fun g102 =>
  some g102

def F_etchhouseref3_count_J6 (p0 : (List TPlotStep)) (rec : (List TPlotStep) → Option Int) (x144 : Int) (x145 : Int) (kL5 : Int → Int → Option Int) : Option Int :=
  (idx p0 x145).bind fun x156 =>
  (rec x156.Steps).bind fun y158 =>
  kL5 (w64 ((w64 (x144 + 1)) + (w64 ((w64 (1 * 1)) * y158)))) (w64 (x145 + 1))
def F_etchhouseref3_count_J7 (p0 : (List TPlotStep)) (rec : (List TPlotStep) → Option Int) (x144 : Int) (x145 : Int) (kL5 : Int → Int → Option Int) : Option Int :=
  (idx p0 x145).bind fun x159 =>
  (F_etchhouseref3_within x159.NY 1 100).bind fun y161 =>
  if y161 then
    none
  else
    F_etchhouseref3_count_J6 p0 rec x144 x145 kL5
def F_etchhouseref3_count_L5 (p0 : (List TPlotStep)) (rec : (List TPlotStep) → Option Int) : Nat → Int → Int → Option Int
  | 0, _, _ => none
  | mL5 + 1, x144, x145 =>
    if ((decide (x145 < (p0.length : Int))) && (decide (x144 ≤ 3000))) then
      (idx p0 x145).bind fun x162 =>
      (F_etchhouseref3_within x162.NX 1 100).bind fun y164 =>
      if y164 then
        none
      else
        F_etchhouseref3_count_J7 p0 rec x144 x145 (F_etchhouseref3_count_L5 p0 rec mL5)
    else
      some (min x144 3001)
def F_etchhouseref3_count_b (N : Nat) (rec : (List TPlotStep) → Option Int) (p0 : (List TPlotStep)) : Option Int :=
  F_etchhouseref3_count_L5 p0 rec N 0 0
def F_etchhouseref3_count : Nat → (List TPlotStep) → Option Int
  | 0 => fun _ => none
  | N + 1 => F_etchhouseref3_count_b N (F_etchhouseref3_count N)

def F_etchhouseref3_fields_J2 (p0 : TPlotStep) (x104 : Bool) (x105 : Bool) : Option Bool :=
  some ((((x104 || (sEq p0.Name ByteArray.empty)) && (eqTPoint p0.At (TPoint.mk 0 0))) && (x105 || ((p0.Points.length : Int) == 0))) && (((p0.NX == 0) && (p0.NY == 0)) && ((p0.Steps.length : Int) == 0)))
def F_etchhouseref3_fields_J3 (p0 : TPlotStep) (x108 : Bool) : Option Bool :=
  if x108 then
    none
  else
    if (p0.Kind == 7) then
      F_etchhouseref3_fields_J2 p0 false true
    else
      if (p0.Kind == 8) then
        none
      else
        F_etchhouseref3_fields_J2 p0 false false
def F_etchhouseref3_fields (p0 : TPlotStep) : Option Bool :=
  if (p0.Kind == 3) then
    F_etchhouseref3_fields_J2 p0 true false
  else
    if (p0.Kind == 4) then
      F_etchhouseref3_fields_J3 p0 (p0.Kind == 4)
    else
      if (p0.Kind == 5) then
        F_etchhouseref3_fields_J3 p0 (p0.Kind == 5)
      else
        F_etchhouseref3_fields_J3 p0 (p0.Kind == 6)


def F_etchhouseref3_tool (p0 : TPlot) (p1 : ByteArray) : Option Int :=
  none


def F_etchhouseref3_pointFits (p0 : TPoint) (p1 : Int) : Option Bool :=
  (F_etchhouseref3_fits p0.X p1).bind fun y101 =>
  (if y101 then 
    (F_etchhouseref3_fits p0.Y p1).bind fun y104 =>
    some y104
   else some false).bind fun g103 =>
  some g103

def F_etchhouseref3_checkArea_L2 (p0 : (List TPoint)) : Nat → Int → Option Int
  | 0, _ => none
  | mL2 + 1, x127 =>
    if (decide (x127 < (p0.length : Int))) then
      (idx p0 x127).bind fun x129 =>
      (md (w64 (x127 + 1)) (p0.length : Int)).bind fun q130 =>
      (idx p0 q130).bind fun x131 =>
      if ((x129.X == x131.X) == (x129.Y == x131.Y)) then
        some 3
      else
        (F_etchhouseref3_checkArea_L2 p0 mL2) (w64 (x127 + 1))
    else
      some 0
def F_etchhouseref3_checkArea_L1 (N : Nat) (p0 : (List TPoint)) (p1 : Int) : Nat → Int → Option Int
  | 0, _ => none
  | mL1 + 1, x107 =>
    if (decide (x107 < (p0.length : Int))) then
      (idx p0 x107).bind fun x108 =>
      (F_etchhouseref3_pointFits x108 p1).bind fun y109 =>
      if (!y109) then
        some 1
      else
        (F_etchhouseref3_checkArea_L1 N p0 p1 mL1) (w64 (x107 + 1))
    else
      if (decide (2000 < (p0.length : Int))) then
        some 2
      else
        if (decide ((p0.length : Int) < 4)) then
          some 3
        else
          F_etchhouseref3_checkArea_L2 p0 N 0
def F_etchhouseref3_checkArea (N : Nat) (p0 : (List TPoint)) (p1 : Int) : Option Int :=
  F_etchhouseref3_checkArea_L1 N p0 p1 N 0

def F_etchhouseref3_checkStep_J1 : Option Int :=
  some 0
def F_etchhouseref3_checkStep (N : Nat) (p0 : TPlot) (p1 : TPlotStep) (p2 : Int) : Option Int :=
  (F_etchhouseref3_within p1.Kind 1 8).bind fun y102 =>
  if (!y102) then
    some 4
  else
    (F_etchhouseref3_fields p1).bind fun y103 =>
    if (!y103) then
      some 3
    else
      (if (p1.Kind == 3) then 
        (F_etchhouseref3_tool p0 p1.Name).bind fun y106 =>
        some (decide (y106 < 0))
       else some false).bind fun g105 =>
      if g105 then
        some 5
      else
        (F_etchhouseref3_pointFits p1.At p0.Unit).bind fun y107 =>
        if (!y107) then
          some 1
        else
          if (p1.Kind == 7) then
            (F_etchhouseref3_checkArea N p1.Points p0.Unit).bind fun y108 =>
            some y108
          else
            if (p1.Kind == 8) then
              none
            else
              F_etchhouseref3_checkStep_J1

def F_etchhouseref3_checkSteps_L1 (N : Nat) (p0 : TPlot) (p1 : (List TPlotStep)) (p2 : Int) (rec : TPlot → (List TPlotStep) → Int → Option Int) : Nat → Int → Option Int
  | 0, _ => none
  | mL1 + 1, x116 =>
    if (decide (x116 < (p1.length : Int))) then
      (idx p1 x116).bind fun x117 =>
      (F_etchhouseref3_checkStep N p0 x117 p2).bind fun y119 =>
      if (y119 != 0) then
        some y119
      else
        (idx p1 x116).bind fun x120 =>
        (rec p0 x120.Steps (w64 (p2 + 1))).bind fun y122 =>
        if (y122 != 0) then
          some y122
        else
          (F_etchhouseref3_checkSteps_L1 N p0 p1 p2 rec mL1) (w64 (x116 + 1))
    else
      some 0
def F_etchhouseref3_checkSteps_b (N : Nat) (rec : TPlot → (List TPlotStep) → Int → Option Int) (p0 : TPlot) (p1 : (List TPlotStep)) (p2 : Int) : Option Int :=
  F_etchhouseref3_checkSteps_L1 N p0 p1 p2 rec N 0
def F_etchhouseref3_checkSteps : Nat → TPlot → (List TPlotStep) → Int → Option Int
  | 0 => fun _ _ _ => none
  | N + 1 => F_etchhouseref3_checkSteps_b N (F_etchhouseref3_checkSteps N)

def F_etchhouseref3_CheckPlot_L1 (N : Nat) (p0 : TPlot) : Nat → Option Int
  | 0 => none
  | mL1 + 1 =>
    if (decide (0 < (p0.Tools.length : Int))) then
      none
    else
      (F_etchhouseref3_count N p0.Steps).bind fun y102 =>
      if (decide (3000 < y102)) then
        some 2
      else
        (F_etchhouseref3_checkSteps N p0 p0.Steps 0).bind fun y103 =>
        some y103
def F_etchhouseref3_CheckPlot (N : Nat) (p0 : TPlot) : Option Int :=
  (F_etchhouseref3_within p0.Unit 1 1000).bind fun y101 =>
  if (!y101) then
    some 1
  else
    if (decide (200 < (p0.Tools.length : Int))) then
      some 2
    else
      F_etchhouseref3_CheckPlot_L1 N p0 N


def F_etchhouseref3_right (N : Nat) (p0 : TPlot) : Option (TPlot × Int) :=
  (F_etchhouseref3_CheckPlot N p0).bind fun y102 =>
  if (y102 != 0) then
    some ((TPlot.mk 0 [] []), y102)
  else
    some (p0, 0)

def F_etchhouseref3_Of_L4 (N : Nat) (y101 : ((List (List TPoint)) × Int)) (l239 : List (List TPoint)) (x240 : Int) (kL3 : (List (List TPoint)) → Int → Option (TPlot × Int)) : Nat → Int → Option (TPlot × Int)
  | 0, _ => none
  | mL4 + 1, x278 =>
    (if (decide (0 < x278)) then 
      (idx l239 (w64 (x278 - 1))).bind fun x288 =>
      (F_etchhouseref3_around N x288).bind fun y290 =>
      (F_etchhouseref3_size y290).bind fun y291 =>
      (idx y101.1 x240).bind fun x292 =>
      (F_etchhouseref3_around N x292).bind fun y294 =>
      (F_etchhouseref3_size y294).bind fun y295 =>
      some (decide (y291 < y295))
     else some false).bind fun g287 =>
    if g287 then
      (F_etchhouseref3_Of_L4 N y101 l239 x240 kL3 mL4) (w64 (x278 - 1))
    else
      (pre l239 x278).bind fun l296 =>
      (apd ([] : List (List TPoint)) l296).bind fun l299 =>
      (idx y101.1 x240).bind fun x300 =>
      (apd l299 [x300]).bind fun l303 =>
      (cut l239 x278 (l239.length : Int)).bind fun l304 =>
      (apd l303 l304).bind fun l305 =>
      kL3 l305 (w64 (x240 + 1))
def F_etchhouseref3_Of_J10 (l239 : List (List TPoint)) (x362 : Int) (kL9 : (List TPlotStep) → Int → Int → Option (TPlot × Int)) (l371 : List TPlotStep) (x372 : Int) : Option (TPlot × Int) :=
  (idx l239 x362).bind fun x376 =>
  (apd l371 ([(TPlotStep.mk 7 (⟨#[]⟩) (TPoint.mk 0 0) x376 0 0 [])])).bind fun l378 =>
  kL9 l378 x372 (w64 (x362 + 1))
def F_etchhouseref3_Of_J11 (l239 : List (List TPoint)) (l360 : List TPlotStep) (x361 : Int) (x362 : Int) (kL9 : (List TPlotStep) → Int → Int → Option (TPlot × Int)) (x366 : Int) : Option (TPlot × Int) :=
  if (x366 != x361) then
    (apd l360 ([(TPlotStep.mk x366 (⟨#[]⟩) (TPoint.mk 0 0) [] 0 0 [])])).bind fun l380 =>
    F_etchhouseref3_Of_J10 l239 x362 kL9 l380 x366
  else
    F_etchhouseref3_Of_J10 l239 x362 kL9 l360 x361
def F_etchhouseref3_Of_L9 (N : Nat) (l239 : List (List TPoint)) : Nat → List TPlotStep → Int → Int → Option (TPlot × Int)
  | 0, _, _, _ => none
  | mL9 + 1, l360, x361, x362 =>
    if (decide (x362 < (l239.length : Int))) then
      (idx l239 x362).bind fun x381 =>
      (F_etchhouseref3_around N x381).bind fun y383 =>
      if (decide (y383 < 0)) then
        F_etchhouseref3_Of_J11 l239 l360 x361 x362 (F_etchhouseref3_Of_L9 N l239 mL9) 2
      else
        F_etchhouseref3_Of_J11 l239 l360 x361 x362 (F_etchhouseref3_Of_L9 N l239 mL9) 1
    else
      (F_etchhouseref3_right N (TPlot.mk 1 [] l360)).bind fun y386 =>
      some (y386.1, y386.2)
def F_etchhouseref3_Of_L3 (N : Nat) (y101 : ((List (List TPoint)) × Int)) : Nat → List (List TPoint) → Int → Option (TPlot × Int)
  | 0, _, _ => none
  | mL3 + 1, l239, x240 =>
    if (decide (x240 < (y101.1.length : Int))) then
      F_etchhouseref3_Of_L4 N y101 l239 x240 (F_etchhouseref3_Of_L3 N y101 mL3) N (l239.length : Int)
    else
      F_etchhouseref3_Of_L9 N l239 N ([] : List TPlotStep) 1 0
def F_etchhouseref3_Of (N : Nat) (p0 : (List TRect)) : Option (TPlot × Int) :=
  (F_etchhouseref1_Outlines N p0).bind fun y101 =>
  if (y101.2 != 0) then
    some ((TPlot.mk 0 [] []), y101.2)
  else
    F_etchhouseref3_Of_L3 N y101 N ([] : List (List TPoint)) 0

def F_etchhouseref3_samePoints_L1 (p0 : (List TPoint)) (p1 : (List TPoint)) : Nat → Int → Option Bool
  | 0, _ => none
  | mL1 + 1, x107 =>
    if (decide (x107 < (p0.length : Int))) then
      (idx p0 x107).bind fun x108 =>
      (idx p1 x107).bind fun x109 =>
      if (!(eqTPoint x108 x109)) then
        some false
      else
        (F_etchhouseref3_samePoints_L1 p0 p1 mL1) (w64 (x107 + 1))
    else
      some true
def F_etchhouseref3_samePoints (N : Nat) (p0 : (List TPoint)) (p1 : (List TPoint)) : Option Bool :=
  if ((p0.length : Int) != (p1.length : Int)) then
    some false
  else
    F_etchhouseref3_samePoints_L1 p0 p1 N 0

def F_etchhouseref3_sameSteps_L1 (N : Nat) (p0 : (List TPlotStep)) (p1 : (List TPlotStep)) (rec : (List TPlotStep) → (List TPlotStep) → Option Bool) : Nat → Int → Option Bool
  | 0, _ => none
  | mL1 + 1, x131 =>
    if (decide (x131 < (p0.length : Int))) then
      (idx p0 x131).bind fun x133 =>
      (idx p1 x131).bind fun x135 =>
      (if (((((x133.Kind != x135.Kind) || (!sEq x133.Name x135.Name)) || (!(eqTPoint x133.At x135.At))) || (x133.NX != x135.NX)) || (x133.NY != x135.NY)) then some true else 
        (F_etchhouseref3_samePoints N x133.Points x135.Points).bind fun y141 =>
        some (!y141)
      ).bind fun g140 =>
      (if g140 then some true else 
        (rec x133.Steps x135.Steps).bind fun y144 =>
        some (!y144)
      ).bind fun g143 =>
      if g143 then
        some false
      else
        (F_etchhouseref3_sameSteps_L1 N p0 p1 rec mL1) (w64 (x131 + 1))
    else
      some true
def F_etchhouseref3_sameSteps_b (N : Nat) (rec : (List TPlotStep) → (List TPlotStep) → Option Bool) (p0 : (List TPlotStep)) (p1 : (List TPlotStep)) : Option Bool :=
  if ((p0.length : Int) != (p1.length : Int)) then
    some false
  else
    F_etchhouseref3_sameSteps_L1 N p0 p1 rec N 0
def F_etchhouseref3_sameSteps : Nat → (List TPlotStep) → (List TPlotStep) → Option Bool
  | 0 => fun _ _ => none
  | N + 1 => F_etchhouseref3_sameSteps_b N (F_etchhouseref3_sameSteps N)

def F_etchhouseref3_SamePlot_L1 (p0 : TPlot) : Nat → Option Bool
  | 0 => none
  | mL1 + 1 =>
    if (decide (0 < (p0.Tools.length : Int))) then
      none
    else
      some true
def F_etchhouseref3_SamePlot (N : Nat) (p0 : TPlot) (p1 : TPlot) : Option Bool :=
  (if ((p0.Unit != p1.Unit) || ((p0.Tools.length : Int) != (p1.Tools.length : Int))) then some true else 
    (F_etchhouseref3_sameSteps N p0.Steps p1.Steps).bind fun y104 =>
    some (!y104)
  ).bind fun g103 =>
  if g103 then
    some false
  else
    F_etchhouseref3_SamePlot_L1 p0 N


def F_plot_within (p0 : Int) (p1 : Int) (p2 : Int) : Option Bool :=
  some ((decide (p1 ≤ p0)) && (decide (p0 ≤ p2)))

def F_plot_count_L1 : List TPlotStep → Nat → Option Int
  | [], iL1 =>
    some 0
  | xL1 :: restL1, iL1 =>
    none
def F_plot_count_b (N : Nat) (rec : (List TPlotStep) → Option Int) (p0 : (List TPlotStep)) : Option Int :=
  F_plot_count_L1 p0 0
def F_plot_count : Nat → (List TPlotStep) → Option Int
  | 0 => fun _ => none
  | N + 1 => F_plot_count_b N (F_plot_count N)

def F_plot_checkSteps_L1 : List TPlotStep → Nat → Option Int
  | [], iL1 =>
    some 0
  | xL1 :: restL1, iL1 =>
    none
def F_plot_checkSteps_b (N : Nat) (rec : TPlot → (List TPlotStep) → Int → Option Int) (p0 : TPlot) (p1 : (List TPlotStep)) (p2 : Int) : Option Int :=
  F_plot_checkSteps_L1 p1 0
def F_plot_checkSteps : Nat → TPlot → (List TPlotStep) → Int → Option Int
  | 0 => fun _ _ _ => none
  | N + 1 => F_plot_checkSteps_b N (F_plot_checkSteps N)

def F_plot_CheckPlot_L1 (N : Nat) (p0 : TPlot) : List TPlotTool → Nat → Option Int
  | [], iL1 =>
    (F_plot_count N p0.Steps).bind fun y102 =>
    if (decide (3000 < y102)) then
      some 2
    else
      (F_plot_checkSteps N p0 p0.Steps 0).bind fun y103 =>
      some y103
  | xL1 :: restL1, iL1 =>
    none
def F_plot_CheckPlot (N : Nat) (p0 : TPlot) : Option Int :=
  (F_plot_within p0.Unit 1 1000).bind fun y101 =>
  if (!y101) then
    some 1
  else
    if (decide (200 < (p0.Tools.length : Int))) then
      some 2
    else
      F_plot_CheckPlot_L1 N p0 p0.Tools 0



def F_plot_writeSteps_L1 (p0 : ByteArray) : List TPlotStep → Nat → Option ByteArray
  | [], iL1 =>
    some p0
  | xL1 :: restL1, iL1 =>
    none
def F_plot_writeSteps_b (N : Nat) (rec : ByteArray → (List TPlotStep) → Option ByteArray) (p0 : ByteArray) (p1 : (List TPlotStep)) : Option ByteArray :=
  F_plot_writeSteps_L1 p0 p1 0
def F_plot_writeSteps : Nat → ByteArray → (List TPlotStep) → Option ByteArray
  | 0 => fun _ _ => none
  | N + 1 => F_plot_writeSteps_b N (F_plot_writeSteps N)



def F_plot_Text_L1 (N : Nat) (p0 : TPlot) (y106 : ByteArray) : List TPlotTool → Nat → Option (ByteArray × Int)
  | [], iL1 =>
    (F_plot_writeSteps N y106 p0.Steps).bind fun y108 =>
    (sbL y108).bind fun y110 =>
    if (decide (200000 < y110.1)) then
      some (ByteArray.empty, 2)
    else
      (sbS y110.2).bind fun y112 =>
      some (y112.1, 0)
  | xL1 :: restL1, iL1 =>
    none
def F_plot_Text (N : Nat) (p0 : TPlot) : Option (ByteArray × Int) :=
  (F_plot_CheckPlot N p0).bind fun y101 =>
  if (y101 != 0) then
    some (ByteArray.empty, y101)
  else
    (itoaS p0.Unit).bind fun y103 =>
    (catS (⟨#[117, 110, 105, 116, 32]⟩) y103).bind fun t104 =>
    (catS t104 (⟨#[10]⟩)).bind fun t105 =>
    (sbW ByteArray.empty t105).bind fun y106 =>
    F_plot_Text_L1 N p0 y106 p0.Tools 0


def F_etchhouselaw3_awake (N : Nat)  : Option Bool :=
  (F_plot_Text N (TPlot.mk 7 [] [])).bind fun y100 =>
  some ((y100.2 == 0) && (sEq y100.1 (⟨#[117, 110, 105, 116, 32, 55, 10]⟩)))


noncomputable def F_etchhouselaw3_PlotsOfMatchSpec (N : Nat) (p0 : (List TRect)) : Option Bool :=
  (F_plot_Of N p0).bind fun y100 =>
  (F_etchhouseref3_Of N p0).bind fun y103 =>
  (F_etchhouseref3_SamePlot N y100.1 y103.1).bind fun y106 =>
  (if (y106 && (y100.2 == y103.2)) then 
    (F_etchhouselaw3_awake N).bind fun y109 =>
    some y109
   else some false).bind fun g108 =>
  some g108

end Go.Proofs.YtcjeebkoafonpaaGreatDoor
