/- The plain functions: what each function of the program computes; none where it would panic. -/
import Derived.Test.YtacapjleiadkkaaXT
namespace Go.Proofs.Ytacapjleiadkkaa
open Go.RowKit

def F_shape_within (p0 : Int) (p1 : Int) (p2 : Int) : Option Bool :=
  some ((decide (p1 ≤ p0)) && (decide (p0 ≤ p2)))


def F_shape_IsAt (p0 : Int) : Option Bool :=
  (F_shape_within p0 (-1000000) 1000000).bind fun y100 =>
  some y100


def F_shape_isRect (p0 : TRect) : Option Bool :=
  (F_shape_IsAt p0.X0).bind fun y101 =>
  (if y101 then 
    (F_shape_IsAt p0.Y0).bind fun y104 =>
    some y104
   else some false).bind fun g103 =>
  (if g103 then 
    (F_shape_IsAt p0.X1).bind fun y107 =>
    some y107
   else some false).bind fun g106 =>
  (if g106 then 
    (F_shape_IsAt p0.Y1).bind fun y110 =>
    some y110
   else some false).bind fun g109 =>
  some g109

def F_shape_CheckRects_L1 : List TRect → Nat → Option Int
  | [], iL1 =>
    some 0
  | xL1 :: restL1, iL1 =>
    (F_shape_isRect xL1).bind fun y105 =>
    if (!y105) then
      some 1
    else
      if ((decide (xL1.X1 ≤ xL1.X0)) || (decide (xL1.Y1 ≤ xL1.Y0))) then
        some 13
      else
        (F_shape_CheckRects_L1 restL1 (iL1 + 1))
def F_shape_CheckRects (p0 : (List TRect)) : Option Int :=
  if (decide (2000 < (p0.length : Int))) then
    some 2
  else
    F_shape_CheckRects_L1 p0 0


def F_slices_Clone_Rect (p0 : (List TRect)) : Option (List TRect) :=
  (apd ([] : List TRect) p0).bind fun l101 =>
  some l101



def F_shape_SetOf_1 (p0 : TRect) (p1 : TRect) : Option Int :=
  some (w64 (p0.Y0 - p1.Y0))




def F_shape_SetOf_2 (p0 : TRect) (q0 : (List Int)) (q1 : Int) : Option Bool :=
  (idx q0 q1).bind fun x101 =>
  some (decide (p0.Y1 ≤ x101))

def F_slices_IndexFunc_Rect_L1 (p1 : TRect → Option Bool) : List TRect → Nat → Option Int
  | [], iL1 =>
    some (-1)
  | xL1 :: restL1, iL1 =>
    (p1 xL1).bind fun y103 =>
    if y103 then
      some (iL1 : Int)
    else
      (F_slices_IndexFunc_Rect_L1 p1 restL1 (iL1 + 1))
def F_slices_IndexFunc_Rect (p0 : (List TRect)) (p1 : TRect → Option Bool) : Option Int :=
  F_slices_IndexFunc_Rect_L1 p1 p0 0

def F_slices_DeleteFunc_Rect_L1 (p1 : TRect → Option Bool) : Nat → List TRect → Int → Int → Option (List TRect)
  | 0, _, _, _ => none
  | mL1 + 1, l120, x121, x122 =>
    if (decide (x122 < (l120.length : Int))) then
      (idx l120 x122).bind fun x123 =>
      (p1 x123).bind fun y125 =>
      if (!y125) then
        (idx l120 x121).bind fun x126 =>
        (sets l120 x121 x123).bind fun l127 =>
        (F_slices_DeleteFunc_Rect_L1 p1 mL1) l127 (w64 (x121 + 1)) (w64 (x122 + 1))
      else
        (F_slices_DeleteFunc_Rect_L1 p1 mL1) l120 x121 (w64 (x122 + 1))
    else
      (cut l120 x121 (l120.length : Int)).bind fun l128 =>
      (pre (clr l120 x121 (l128).length (TRect.mk 0 0 0 0)) x121).bind fun l129 =>
      some l129
def F_slices_DeleteFunc_Rect (N : Nat) (p0 : (List TRect)) (p1 : TRect → Option Bool) : Option (List TRect) :=
  (F_slices_IndexFunc_Rect p0 p1).bind fun y100 =>
  if (y100 == (-1)) then
    some p0
  else
    F_slices_DeleteFunc_Rect_L1 p1 N p0 y100 (w64 (y100 + 1))


def F_shape_stretches_1 (p0 : TRect) (p1 : TRect) : Option Int :=
  some (w64 (p0.X0 - p1.X0))

def F_shape_stretches_L1 (y100 : (List TRect)) : List TRect → Nat → List Int → Option ((List Int) × (List TRect))
  | [], iL1, l128 =>
    some (l128, y100)
  | xL1 :: restL1, iL1, l128 =>
    (if (decide (0 ≤ (w64 ((l128.length : Int) - 1)))) then 
      (idx l128 (w64 ((l128.length : Int) - 1))).bind fun x132 =>
      some (decide (xL1.X0 ≤ x132))
     else some false).bind fun g131 =>
    if g131 then
      (idx l128 (w64 ((l128.length : Int) - 1))).bind fun x133 =>
      (idx l128 (w64 ((l128.length : Int) - 1))).bind fun x134 =>
      (sets l128 (w64 ((l128.length : Int) - 1)) (max x133 xL1.X1)).bind fun l135 =>
      (F_shape_stretches_L1 y100 restL1 (iL1 + 1)) l135
    else
      (apd l128 [xL1.X0, xL1.X1]).bind fun l137 =>
      (F_shape_stretches_L1 y100 restL1 (iL1 + 1)) l137
noncomputable def F_shape_stretches (p0 : (List TRect)) : Option ((List Int) × (List TRect)) :=
  (srtF p0 (fun z0 z1 => F_shape_stretches_1 z0 z1)).bind fun y100 =>
  F_shape_stretches_L1 y100 y100 0 ([] : List Int)

def F_slices_Equal_int_L1 (p1 : (List Int)) : List Int → Nat → Option Bool
  | [], iL1 =>
    some true
  | xL1 :: restL1, iL1 =>
    (idx p1 (iL1 : Int)).bind fun x103 =>
    if (xL1 != x103) then
      some false
    else
      (F_slices_Equal_int_L1 p1 restL1 (iL1 + 1))
def F_slices_Equal_int (p0 : (List Int)) (p1 : (List Int)) : Option Bool :=
  if ((p0.length : Int) != (p1.length : Int)) then
    some false
  else
    F_slices_Equal_int_L1 p1 p0 0


def F_shape_Set__push (p0 : (List TBand)) (p1 : TBand) : Option (List TBand) :=
  if (((p1.Xs.length : Int) == 0) || (decide (p1.Y1 ≤ p1.Y0))) then
    some p0
  else
    (if (decide (0 ≤ (w64 ((p0.length : Int) - 1)))) then 
      (idx p0 (w64 ((p0.length : Int) - 1))).bind fun x103 =>
      some (x103.Y1 == p1.Y0)
     else some false).bind fun g102 =>
    (if g102 then 
      (idx p0 (w64 ((p0.length : Int) - 1))).bind fun x108 =>
      (F_slices_Equal_int x108.Xs p1.Xs).bind fun y110 =>
      some y110
     else some false).bind fun g107 =>
    if g107 then
      (idx p0 (w64 ((p0.length : Int) - 1))).bind fun x111 =>
      (sets p0 (w64 ((p0.length : Int) - 1)) (TBand.mk x111.Y0 p1.Y1 x111.Xs)).bind fun l112 =>
      some l112
    else
      (apd p0 [p1]).bind fun l114 =>
      some l114

noncomputable def F_shape_SetOf_L5 (y102 : (List TRect)) (y122 : (List Int)) (x229 : Int) (l230 : List TBand) (kL4 : Int → (List TBand) → (List TRect) → Int → Option (List TBand)) : Nat → List TRect → Int → Option (List TBand)
  | 0, _, _ => none
  | mL5 + 1, l257, x258 =>
    (if (decide (x258 < (y102.length : Int))) then 
      (idx y102 x258).bind fun x262 =>
      (idx y122 x229).bind fun x263 =>
      some (decide (x262.Y0 ≤ x263))
     else some false).bind fun g261 =>
    if g261 then
      (idx y102 x258).bind fun x264 =>
      (apd l257 [x264]).bind fun l266 =>
      (F_shape_SetOf_L5 y102 y122 x229 l230 kL4 mL5) l266 (w64 (x258 + 1))
    else
      (idx y122 x229).bind fun x268 =>
      (idx y122 (w64 (x229 + 1))).bind fun x269 =>
      (F_shape_stretches l257).bind fun y270 =>
      (F_shape_Set__push l230 (TBand.mk x268 x269 y270.1)).bind fun y274 =>
      kL4 (w64 (x229 + 1)) y274 y270.2 x258
noncomputable def F_shape_SetOf_L4 (N : Nat) (y102 : (List TRect)) (y122 : (List Int)) : Nat → Int → List TBand → List TRect → Int → Option (List TBand)
  | 0, _, _, _, _ => none
  | mL4 + 1, x229, l230, l231, x232 =>
    if (decide ((w64 (x229 + 1)) < (y122.length : Int))) then
      (F_slices_DeleteFunc_Rect N l231 (fun z0 => F_shape_SetOf_2 z0 y122 x229)).bind fun y233 =>
      F_shape_SetOf_L5 y102 y122 x229 l230 (F_shape_SetOf_L4 N y102 y122 mL4) N y233 x232
    else
      some l230
noncomputable def F_shape_SetOf_L1 (N : Nat) (y102 : (List TRect)) : List TRect → Nat → List Int → Option (List TBand)
  | [], iL1, l119 =>
    (srtI l119).bind fun y120 =>
    (cpI y120).bind fun y122 =>
    F_shape_SetOf_L4 N y102 y122 N 0 ([] : List TBand) ([] : List TRect) 0
  | xL1 :: restL1, iL1, l119 =>
    (apd l119 [xL1.Y0, xL1.Y1]).bind fun l279 =>
    (F_shape_SetOf_L1 N y102 restL1 (iL1 + 1)) l279
noncomputable def F_shape_SetOf (N : Nat) (p0 : (List TRect)) : Option (List TBand) :=
  (F_slices_Clone_Rect p0).bind fun y100 =>
  (srtF y100 (fun z0 z1 => F_shape_SetOf_1 z0 z1)).bind fun y102 =>
  F_shape_SetOf_L1 N y102 y102 0 ([] : List Int)

def F_shape_Set__Rects_L4 (kL3 : (List TRect) → Option (List TRect)) (xL3 : TBand) : Nat → List TRect → Int → Option (List TRect)
  | 0, _, _ => none
  | mL4 + 1, l169, x170 =>
    if (decide (x170 < (xL3.Xs.length : Int))) then
      (idx xL3.Xs x170).bind fun x172 =>
      (idx xL3.Xs (w64 (x170 + 1))).bind fun x173 =>
      (apd l169 [(TRect.mk x172 xL3.Y0 x173 xL3.Y1)]).bind fun l174 =>
      (F_shape_Set__Rects_L4 kL3 xL3 mL4) l174 (w64 (x170 + 2))
    else
      kL3 l169
def F_shape_Set__Rects_L3 (N : Nat) : List TBand → Nat → List TRect → Option (List TRect)
  | [], iL3, l152 =>
    some l152
  | xL3 :: restL3, iL3, l152 =>
    F_shape_Set__Rects_L4 (F_shape_Set__Rects_L3 N restL3 (iL3 + 1)) xL3 N l152 0
def F_shape_Set__Rects (N : Nat) (p0 : (List TBand)) : Option (List TRect) :=
  F_shape_Set__Rects_L3 N p0 0 ([] : List TRect)

def F_slices_Equal_Rect_L1 (p1 : (List TRect)) : List TRect → Nat → Option Bool
  | [], iL1 =>
    some true
  | xL1 :: restL1, iL1 =>
    (idx p1 (iL1 : Int)).bind fun x103 =>
    if (!(eqTRect xL1 x103)) then
      some false
    else
      (F_slices_Equal_Rect_L1 p1 restL1 (iL1 + 1))
def F_slices_Equal_Rect (p0 : (List TRect)) (p1 : (List TRect)) : Option Bool :=
  if ((p0.length : Int) != (p1.length : Int)) then
    some false
  else
    F_slices_Equal_Rect_L1 p1 p0 0

noncomputable def F_shape_CheckRegion_L1 (N : Nat) (p0 : (List TRect)) : Nat → Int → Option Int
  | 0, _ => none
  | mL1 + 1, x116 =>
    if (decide (x116 < (p0.length : Int))) then
      (idx p0 (w64 (x116 - 1))).bind fun x118 =>
      (idx p0 x116).bind fun x119 =>
      if ((decide (x119.Y0 < x118.Y0)) || ((x119.Y0 == x118.Y0) && (decide (x119.X0 ≤ x118.X0)))) then
        some 8
      else
        (F_shape_CheckRegion_L1 N p0 mL1) (w64 (x116 + 1))
    else
      (F_shape_SetOf N p0).bind fun y123 =>
      (F_shape_Set__Rects N y123).bind fun y125 =>
      (F_slices_Equal_Rect y125 p0).bind fun y127 =>
      if (!y127) then
        some 3
      else
        some 0
noncomputable def F_shape_CheckRegion (N : Nat) (p0 : (List TRect)) : Option Int :=
  (F_shape_CheckRects p0).bind fun y100 =>
  if (y100 != 0) then
    some y100
  else
    F_shape_CheckRegion_L1 N p0 N 1


def F_shape_Set__sides_1 (p0 : Int) (p1 : Int) (p2 : Int) (p3 : Int) (q0 : (List TSide)) : Option (List TSide) :=
  (apd q0 [(TSide.mk (TPoint.mk p0 p1) (TPoint.mk p2 p3))]).bind fun l101 =>
  some l101

def F_shape_line_J8 (p2 : Bool → Bool → Option Bool) (l232 : List Int) (x235 : Bool) (kL7 : (List Int) → (List Int) → (List Int) → Bool → Bool → Bool → Option (List Int)) (x249 : Int) (l256 : List Int) (x257 : Bool) (l264 : List Int) (x265 : Bool) : Option (List Int) :=
  (p2 x257 x265).bind fun y268 =>
  if (y268 != x235) then
    (apd l232 [x249]).bind fun l270 =>
    kL7 l256 l264 l270 x257 x265 y268
  else
    kL7 l256 l264 l232 x257 x265 x235
def F_shape_line_J9 (p2 : Bool → Bool → Option Bool) (l231 : List Int) (l232 : List Int) (x234 : Bool) (x235 : Bool) (kL7 : (List Int) → (List Int) → (List Int) → Bool → Bool → Bool → Option (List Int)) (x249 : Int) (l256 : List Int) (x257 : Bool) : Option (List Int) :=
  (if (decide (0 < (l231.length : Int))) then 
    (idx l231 0).bind fun x273 =>
    some (x273 == x249)
   else some false).bind fun g272 =>
  if g272 then
    (cut l231 1 (l231.length : Int)).bind fun l274 =>
    F_shape_line_J8 p2 l232 x235 kL7 x249 l256 x257 l274 (!x234)
  else
    F_shape_line_J8 p2 l232 x235 kL7 x249 l256 x257 l231 x234
def F_shape_line_J10 (p2 : Bool → Bool → Option Bool) (l230 : List Int) (l231 : List Int) (l232 : List Int) (x233 : Bool) (x234 : Bool) (x235 : Bool) (kL7 : (List Int) → (List Int) → (List Int) → Bool → Bool → Bool → Option (List Int)) (x249 : Int) : Option (List Int) :=
  (if (decide (0 < (l230.length : Int))) then 
    (idx l230 0).bind fun x277 =>
    some (x277 == x249)
   else some false).bind fun g276 =>
  if g276 then
    (cut l230 1 (l230.length : Int)).bind fun l278 =>
    F_shape_line_J9 p2 l231 l232 x234 x235 kL7 x249 l278 (!x233)
  else
    F_shape_line_J9 p2 l231 l232 x234 x235 kL7 x249 l230 x233
def F_shape_line_L7 (p2 : Bool → Bool → Option Bool) : Nat → List Int → List Int → List Int → Bool → Bool → Bool → Option (List Int)
  | 0, _, _, _, _, _, _ => none
  | mL7 + 1, l230, l231, l232, x233, x234, x235 =>
    if ((decide (0 < (l230.length : Int))) || (decide (0 < (l231.length : Int)))) then
      (if ((l231.length : Int) == 0) then some true else 
        (if (decide (0 < (l230.length : Int))) then 
          (idx l230 0).bind fun x288 =>
          (idx l231 0).bind fun x289 =>
          some (decide (x288 ≤ x289))
         else some false).bind fun g287 =>
        some g287
      ).bind fun g284 =>
      if g284 then
        (idx l230 0).bind fun x290 =>
        F_shape_line_J10 p2 l230 l231 l232 x233 x234 x235 (F_shape_line_L7 p2 mL7) x290
      else
        (idx l231 0).bind fun x291 =>
        F_shape_line_J10 p2 l230 l231 l232 x233 x234 x235 (F_shape_line_L7 p2 mL7) x291
    else
      some l232
def F_shape_line (N : Nat) (p0 : (List Int)) (p1 : (List Int)) (p2 : Bool → Bool → Option Bool) : Option (List Int) :=
  F_shape_line_L7 p2 N p0 p1 ([] : List Int) false false false


def F_shape_Set__sides_2_1 (p0 : Bool) (p1 : Bool) : Option Bool :=
  some (p0 && (!p1))


def F_shape_Set__sides_2_2 (p0 : Bool) (p1 : Bool) : Option Bool :=
  some (p1 && (!p0))

def F_shape_Set__sides_2__sides_1_L2 (p0 : Int) (y122 : (List Int)) : Nat → List TSide → Int → Option (List TSide)
  | 0, _, _ => none
  | mL2 + 1, l138, x139 =>
    if (decide (x139 < (y122.length : Int))) then
      (idx y122 x139).bind fun x140 =>
      (idx y122 (w64 (x139 + 1))).bind fun x141 =>
      (F_shape_Set__sides_1 x140 p0 x141 p0 l138).bind fun y142 =>
      (F_shape_Set__sides_2__sides_1_L2 p0 y122 mL2) y142 (w64 (x139 + 2))
    else
      some l138
def F_shape_Set__sides_2__sides_1_L1 (N : Nat) (p0 : Int) (p1 : (List Int)) (p2 : (List Int)) (y100 : (List Int)) : Nat → List TSide → Int → Option (List TSide)
  | 0, _, _ => none
  | mL1 + 1, l116, x117 =>
    if (decide (x117 < (y100.length : Int))) then
      (idx y100 (w64 (x117 + 1))).bind fun x118 =>
      (idx y100 x117).bind fun x119 =>
      (F_shape_Set__sides_1 x118 p0 x119 p0 l116).bind fun y120 =>
      (F_shape_Set__sides_2__sides_1_L1 N p0 p1 p2 y100 mL1) y120 (w64 (x117 + 2))
    else
      (F_shape_line N p1 p2 (fun z0 z1 => F_shape_Set__sides_2_2 z0 z1)).bind fun y122 =>
      F_shape_Set__sides_2__sides_1_L2 p0 y122 N l116 0
def F_shape_Set__sides_2__sides_1 (N : Nat) (p0 : Int) (p1 : (List Int)) (p2 : (List Int)) (q1 : (List TSide)) : Option (List TSide) :=
  (F_shape_line N p1 p2 (fun z0 z1 => F_shape_Set__sides_2_1 z0 z1)).bind fun y100 =>
  F_shape_Set__sides_2__sides_1_L1 N p0 p1 p2 y100 N q1 0

def F_shape_Set__sides_J7 (N : Nat) (p0 : (List TBand)) (kL5 : (List TSide) → Option (List TSide)) (xL5 : TBand) (iL5 : Nat) (l288 : List TSide) : Option (List TSide) :=
  (if ((w64 ((iL5 : Int) + 1)) == (p0.length : Int)) then some true else 
    (idx p0 (w64 ((iL5 : Int) + 1))).bind fun x294 =>
    some (decide (xL5.Y1 < x294.Y0))
  ).bind fun g293 =>
  if g293 then
    (F_shape_Set__sides_2__sides_1 N xL5.Y1 xL5.Xs [] l288).bind fun y296 =>
    kL5 y296
  else
    kL5 l288
def F_shape_Set__sides_L6 (N : Nat) (p0 : (List TBand)) (kL5 : (List TSide) → Option (List TSide)) (xL5 : TBand) (iL5 : Nat) : Nat → List TSide → Int → Option (List TSide)
  | 0, _, _ => none
  | mL6 + 1, l267, x268 =>
    if (decide (x268 < (xL5.Xs.length : Int))) then
      (idx xL5.Xs x268).bind fun x269 =>
      (idx xL5.Xs x268).bind fun x270 =>
      (F_shape_Set__sides_1 x269 xL5.Y1 x270 xL5.Y0 l267).bind fun y271 =>
      (idx xL5.Xs (w64 (x268 + 1))).bind fun x273 =>
      (idx xL5.Xs (w64 (x268 + 1))).bind fun x274 =>
      (F_shape_Set__sides_1 x273 xL5.Y0 x274 xL5.Y1 y271).bind fun y275 =>
      (F_shape_Set__sides_L6 N p0 kL5 xL5 iL5 mL6) y275 (w64 (x268 + 2))
    else
      (if ((iL5 : Int) == 0) then some true else 
        (idx p0 (w64 ((iL5 : Int) - 1))).bind fun x301 =>
        some (decide (x301.Y1 < xL5.Y0))
      ).bind fun g300 =>
      if g300 then
        (F_shape_Set__sides_2__sides_1 N xL5.Y0 [] xL5.Xs l267).bind fun y303 =>
        F_shape_Set__sides_J7 N p0 kL5 xL5 iL5 y303
      else
        (idx p0 (w64 ((iL5 : Int) - 1))).bind fun x305 =>
        (F_shape_Set__sides_2__sides_1 N xL5.Y0 x305.Xs xL5.Xs l267).bind fun y307 =>
        F_shape_Set__sides_J7 N p0 kL5 xL5 iL5 y307
def F_shape_Set__sides_L5 (N : Nat) (p0 : (List TBand)) : List TBand → Nat → List TSide → Option (List TSide)
  | [], iL5, l242 =>
    some l242
  | xL5 :: restL5, iL5, l242 =>
    F_shape_Set__sides_L6 N p0 (F_shape_Set__sides_L5 N p0 restL5 (iL5 + 1)) xL5 iL5 N l242 0
def F_shape_Set__sides (N : Nat) (p0 : (List TBand)) : Option (List TSide) :=
  F_shape_Set__sides_L5 N p0 p0 0 ([] : List TSide)


def F_shape_side__direction_1 (p0 : Int) : Option Int :=
  some (min 1 (max (-1) p0))


def F_shape_side__direction (p0 : TSide) : Option TPoint :=
  (F_shape_side__direction_1 (w64 (p0.to_.X - p0.from_.X))).bind fun y102 =>
  (F_shape_side__direction_1 (w64 (p0.to_.Y - p0.from_.Y))).bind fun y103 =>
  some (TPoint.mk y102 y103)


def F_shape_Set__Borders_1 (p0 : TSide) : Option TPoint :=
  (F_shape_side__direction p0).bind fun y102 =>
  some (TPoint.mk (w64 (0 - y102.Y)) y102.X)

def F_disp_69 (N : Nat) (x : Nat) (p0 : TSide) : Option TPoint :=
  if x = 30 then F_shape_Set__Borders_1 p0 else
  none


def F_shape_Set__Borders_2 (N : Nat) (p0 : TSide) (p1 : TSide) (q0 : (List ((Int × Int) × List Int))) (q1 : Nat) : Option Bool :=
  (kmgetO okP q0 (p0.to_.X, p0.to_.Y)).bind fun l102 =>
  (if ((l102.length : Int) == 1) then some true else 
    (F_shape_side__direction p1).bind fun y106 =>
    (F_disp_69 N q1 p0).bind fun y107 =>
    some (eqTPoint y106 y107)
  ).bind fun g105 =>
  some g105


def F_shape_less (p0 : TPoint) (p1 : TPoint) : Option Bool :=
  some ((decide (p0.Y < p1.Y)) || ((p0.Y == p1.Y) && (decide (p0.X < p1.X))))


def F_slices_Concat_Point_L2 : List (List TPoint) → Nat → List TPoint → Option (List TPoint)
  | [], iL2, l125 =>
    some l125
  | xL2 :: restL2, iL2, l125 =>
    (apd l125 xL2).bind fun l127 =>
    (F_slices_Concat_Point_L2 restL2 (iL2 + 1)) l127
def F_slices_Concat_Point_L1 (p0 : (List (List TPoint))) : List (List TPoint) → Nat → Int → Option (List TPoint)
  | [], iL1, x110 =>
    (grN x110).bind fun y111 =>
    F_slices_Concat_Point_L2 p0 0 y111
  | xL1 :: restL1, iL1, x110 =>
    if (decide ((w64 (x110 + (xL1.length : Int))) < 0)) then
      none
    else
      (F_slices_Concat_Point_L1 p0 restL1 (iL1 + 1)) (w64 (x110 + (xL1.length : Int)))
def F_slices_Concat_Point (p0 : (List (List TPoint))) : Option (List TPoint) :=
  F_slices_Concat_Point_L1 p0 p0 0 0

def F_shape_corners_L2 (l122 : List TPoint) : List TPoint → Nat → Int → Option (List TPoint)
  | [], iL2, x137 =>
    (cut l122 x137 (l122.length : Int)).bind fun l138 =>
    (pre l122 x137).bind fun l139 =>
    (F_slices_Concat_Point [l138, l139]).bind fun y143 =>
    some y143
  | xL2 :: restL2, iL2, x137 =>
    (idx l122 x137).bind fun x146 =>
    (F_shape_less xL2 x146).bind fun y147 =>
    if y147 then
      (F_shape_corners_L2 l122 restL2 (iL2 + 1)) (iL2 : Int)
    else
      (F_shape_corners_L2 l122 restL2 (iL2 + 1)) x137
def F_shape_corners_L1 (p0 : (List TSide)) : List TSide → Nat → List TPoint → Option (List TPoint)
  | [], iL1, l122 =>
    F_shape_corners_L2 l122 l122 0 0
  | xL1 :: restL1, iL1, l122 =>
    (F_shape_side__direction xL1).bind fun y149 =>
    (md (w64 ((w64 ((iL1 : Int) + (p0.length : Int))) - 1)) (p0.length : Int)).bind fun q150 =>
    (idx p0 q150).bind fun x151 =>
    (F_shape_side__direction x151).bind fun y152 =>
    if (!(eqTPoint y149 y152)) then
      (apd l122 [xL1.from_]).bind fun l154 =>
      (F_shape_corners_L1 p0 restL1 (iL1 + 1)) l154
    else
      (F_shape_corners_L1 p0 restL1 (iL1 + 1)) l122
def F_shape_corners (p0 : (List TSide)) : Option (List TPoint) :=
  F_shape_corners_L1 p0 p0 0 ([] : List TPoint)


def F_shape_Set__Borders_4_J1 (x112 : Bool) : Option Int :=
  if x112 then
    some (-1)
  else
    some 1
def F_shape_Set__Borders_4 (p0 : (List TPoint)) (p1 : (List TPoint)) : Option Int :=
  (idx p0 0).bind fun x115 =>
  (idx p1 0).bind fun x116 =>
  (F_shape_less x115 x116).bind fun y117 =>
  if y117 then
    F_shape_Set__Borders_4_J1 y117
  else
    (idx p0 0).bind fun x118 =>
    (idx p1 0).bind fun x119 =>
    (if (eqTPoint x118 x119) then 
      (idx p1 1).bind fun x124 =>
      (idx p0 1).bind fun x125 =>
      (F_shape_less x124 x125).bind fun y126 =>
      some y126
     else some false).bind fun g123 =>
    F_shape_Set__Borders_4_J1 g123


def F_shape_Set__Borders_2__Borders_1 (p0 : TSide) (p1 : TSide) (q0 : (List ((Int × Int) × List Int))) : Option Bool :=
  (kmgetO okP q0 (p0.to_.X, p0.to_.Y)).bind fun l102 =>
  (if ((l102.length : Int) == 1) then some true else 
    (F_shape_side__direction p1).bind fun y106 =>
    (F_shape_Set__Borders_1 p0).bind fun y107 =>
    some (eqTPoint y106 y107)
  ).bind fun g105 =>
  some g105

def F_shape_Set__Borders_3__Borders_2__Borders_1_L1 (p0 : TSide) (q1 : (List Bool)) (q3 : (List TSide)) (q4 : (List ((Int × Int) × List Int))) : List Int → Nat → Option Int
  | [], iL1 =>
    some (-1)
  | xL1 :: restL1, iL1 =>
    (idx q1 xL1).bind fun x110 =>
    (if (!x110) then 
      (idx q3 xL1).bind fun x114 =>
      (F_shape_Set__Borders_2__Borders_1 p0 x114 q4).bind fun y115 =>
      some y115
     else some false).bind fun g113 =>
    if g113 then
      some xL1
    else
      (F_shape_Set__Borders_3__Borders_2__Borders_1_L1 p0 q1 q3 q4 restL1 (iL1 + 1))
def F_shape_Set__Borders_3__Borders_2__Borders_1 (p0 : TSide) (q0 : (List ((Int × Int) × List Int))) (q1 : (List Bool)) (q3 : (List TSide)) (q4 : (List ((Int × Int) × List Int))) : Option Int :=
  (kmgetO okP q0 (p0.to_.X, p0.to_.Y)).bind fun l101 =>
  F_shape_Set__Borders_3__Borders_2__Borders_1_L1 p0 q1 q3 q4 l101 0

def F_shape_Set__Borders_J10 (l403 : List (List TPoint)) (kL8 : (List Bool) → (List (List TPoint)) → Option (List (List TPoint))) (l453 : List Bool) (l454 : List TSide) : Option (List (List TPoint)) :=
  (F_shape_corners l454).bind fun y457 =>
  (apd l403 [y457]).bind fun l462 =>
  kL8 l453 l462
def F_shape_Set__Borders_L11 (y100 : (List TSide)) (m123 : List ((Int × Int) × List Int)) (l403 : List (List TPoint)) (kL8 : (List Bool) → (List (List TPoint)) → Option (List (List TPoint))) (xL8 : TSide) : Nat → List Bool → List TSide → Int → Option (List (List TPoint))
  | 0, _, _, _ => none
  | mL11 + 1, l493, l494, x495 =>
    if (decide (0 ≤ x495)) then
      (idx l493 x495).bind fun x496 =>
      (sets l493 x495 true).bind fun l497 =>
      (idx y100 x495).bind fun x498 =>
      (apd l494 [x498]).bind fun l500 =>
      (idx y100 x495).bind fun x501 =>
      (if (eqTPoint x501.to_ xL8.from_) then 
        (idx y100 x495).bind fun x505 =>
        (F_shape_Set__Borders_2__Borders_1 x505 xL8 m123).bind fun y506 =>
        some y506
       else some false).bind fun g504 =>
      if g504 then
        F_shape_Set__Borders_J10 l403 kL8 l497 l500
      else
        (idx y100 x495).bind fun x507 =>
        (F_shape_Set__Borders_3__Borders_2__Borders_1 x507 m123 l497 y100 m123).bind fun y508 =>
        (F_shape_Set__Borders_L11 y100 m123 l403 kL8 xL8 mL11) l497 l500 y508
    else
      F_shape_Set__Borders_J10 l403 kL8 l493 l494
noncomputable def F_shape_Set__Borders_L8 (N : Nat) (y100 : (List TSide)) (m123 : List ((Int × Int) × List Int)) : List TSide → Nat → List Bool → List (List TPoint) → Option (List (List TPoint))
  | [], iL8, l402, l403 =>
    (srtU l403 (fun z0 z1 => F_shape_Set__Borders_4 z0 z1)).bind fun y404 =>
    some y404
  | xL8 :: restL8, iL8, l402, l403 =>
    (idx l402 (iL8 : Int)).bind fun x406 =>
    if x406 then
      (F_shape_Set__Borders_L8 N y100 m123 restL8 (iL8 + 1)) l402 l403
    else
      F_shape_Set__Borders_L11 y100 m123 l403 (F_shape_Set__Borders_L8 N y100 m123 restL8 (iL8 + 1)) xL8 N l402 ([] : List TSide) (iL8 : Int)
noncomputable def F_shape_Set__Borders_L1 (N : Nat) (y100 : (List TSide)) : List TSide → Nat → List ((Int × Int) × List Int) → Option (List (List TPoint))
  | [], iL1, m123 =>
    (mkl false (y100.length : Int)).bind fun l126 =>
    F_shape_Set__Borders_L8 N y100 m123 y100 0 l126 ([] : List (List TPoint))
  | xL1 :: restL1, iL1, m123 =>
    (kmgetO okP m123 (xL1.from_.X, xL1.from_.Y)).bind fun l511 =>
    (apd l511 [(iL1 : Int)]).bind fun l512 =>
    (F_shape_Set__Borders_L1 N y100 restL1 (iL1 + 1)) (kmput m123 (xL1.from_.X, xL1.from_.Y) l512)
noncomputable def F_shape_Set__Borders (N : Nat) (p0 : (List TBand)) : Option (List (List TPoint)) :=
  (F_shape_Set__sides N p0).bind fun y100 =>
  F_shape_Set__Borders_L1 N y100 y100 0 ([] : List ((Int × Int) × List Int))

def F_shape_Outlines_L1 (y103 : (List (List TPoint))) : List (List TPoint) → Nat → Int → Option ((List (List TPoint)) × Int)
  | [], iL1, x115 =>
    if (decide (2000 < x115)) then
      some (([] : List (List TPoint)), 2)
    else
      some (y103, 0)
  | xL1 :: restL1, iL1, x115 =>
    (F_shape_Outlines_L1 y103 restL1 (iL1 + 1)) (w64 (x115 + (xL1.length : Int)))
noncomputable def F_shape_Outlines (N : Nat) (p0 : (List TRect)) : Option ((List (List TPoint)) × Int) :=
  (F_shape_CheckRegion N p0).bind fun y100 =>
  if (y100 != 0) then
    some (([] : List (List TPoint)), y100)
  else
    (F_shape_SetOf N p0).bind fun y101 =>
    (F_shape_Set__Borders N y101).bind fun y103 =>
    F_shape_Outlines_L1 y103 y103 0 0

def F_shape_AreaOf_L1 : List TRect → Nat → Int → Option Int
  | [], iL1, x110 =>
    some x110
  | xL1 :: restL1, iL1, x110 =>
    (F_shape_AreaOf_L1 restL1 (iL1 + 1)) (w64 (x110 + (w64 ((w64 (xL1.X1 - xL1.X0)) * (w64 (xL1.Y1 - xL1.Y0))))))
def F_shape_AreaOf (p0 : (List TRect)) : Option Int :=
  F_shape_AreaOf_L1 p0 0 0


noncomputable def F_shape_Area (N : Nat) (p0 : (List TRect)) : Option (Int × Int) :=
  (F_shape_CheckRegion N p0).bind fun y100 =>
  if (y100 != 0) then
    some (0, y100)
  else
    (F_shape_AreaOf p0).bind fun y101 =>
    some (y101, 0)


noncomputable def F_etchhouselaw1_awake (N : Nat)  : Option Bool :=
  (F_shape_Area N [(TRect.mk 0 0 2 3)]).bind fun y101 =>
  some ((y101.2 == 0) && (y101.1 == 6))

def F_slices_IndexFunc_Point_L1 (p1 : TPoint → Option Bool) : List TPoint → Nat → Option Int
  | [], iL1 =>
    some (-1)
  | xL1 :: restL1, iL1 =>
    (p1 xL1).bind fun y103 =>
    if y103 then
      some (iL1 : Int)
    else
      (F_slices_IndexFunc_Point_L1 p1 restL1 (iL1 + 1))
def F_slices_IndexFunc_Point (p0 : (List TPoint)) (p1 : TPoint → Option Bool) : Option Int :=
  F_slices_IndexFunc_Point_L1 p1 p0 0


def F_slices_ContainsFunc_Point (p0 : (List TPoint)) (p1 : TPoint → Option Bool) : Option Bool :=
  (F_slices_IndexFunc_Point p0 p1).bind fun y100 =>
  some (decide (0 ≤ y100))


def F_shape_IsPoint (p0 : TPoint) : Option Bool :=
  (F_shape_IsAt p0.X).bind fun y101 =>
  (if y101 then 
    (F_shape_IsAt p0.Y).bind fun y104 =>
    some y104
   else some false).bind fun g103 =>
  some g103


def F_shape_Filled_1 (p0 : TPoint) : Option Bool :=
  (F_shape_IsPoint p0).bind fun y101 =>
  some (!y101)

def F_shape_IsRow_L1 (p0 : (List TPoint)) : List TPoint → Nat → Option Bool
  | [], iL1 =>
    some true
  | xL1 :: restL1, iL1 =>
    (md (w64 ((iL1 : Int) + 1)) (p0.length : Int)).bind fun q107 =>
    (idx p0 q107).bind fun x108 =>
    if ((xL1.X == x108.X) == (xL1.Y == x108.Y)) then
      some false
    else
      (F_shape_IsRow_L1 p0 restL1 (iL1 + 1))
def F_shape_IsRow (p0 : (List TPoint)) : Option Bool :=
  if (decide ((p0.length : Int) < 4)) then
    some false
  else
    F_shape_IsRow_L1 p0 p0 0


def F_shape_Around_1 (p0 : TRect) (p1 : TRect) : Option Int :=
  some (w64 (p0.X0 - p1.X0))

def F_shape_Around_L7 (y191 : (List Int)) (l297 : List TBand) (x298 : Int) (kL6 : (List TBand) → Int → Option (List TBand)) : List TRect → Nat → List Int → Option (List TBand)
  | [], iL7, l329 =>
    (idx y191 x298).bind fun x330 =>
    (idx y191 (w64 (x298 + 1))).bind fun x331 =>
    (F_shape_Set__push l297 (TBand.mk x330 x331 l329)).bind fun y334 =>
    kL6 y334 (w64 (x298 + 1))
  | xL7 :: restL7, iL7, l329 =>
    (idx y191 x298).bind fun x337 =>
    (if (decide (x337 < xL7.Y0)) then some true else 
      (idx y191 x298).bind fun x340 =>
      some (decide (xL7.Y1 ≤ x340))
    ).bind fun g339 =>
    if g339 then
      (F_shape_Around_L7 y191 l297 x298 kL6 restL7 (iL7 + 1)) l329
    else
      (if (decide (0 < (l329.length : Int))) then 
        (idx l329 (w64 ((l329.length : Int) - 1))).bind fun x343 =>
        some (x343 == xL7.X0)
       else some false).bind fun g342 =>
      if g342 then
        (pre l329 (w64 ((l329.length : Int) - 1))).bind fun l344 =>
        (F_shape_Around_L7 y191 l297 x298 kL6 restL7 (iL7 + 1)) l344
      else
        (apd l329 [xL7.X0]).bind fun l346 =>
        (F_shape_Around_L7 y191 l297 x298 kL6 restL7 (iL7 + 1)) l346
def F_shape_Around_L6 (y191 : (List Int)) (y193 : (List TRect)) : Nat → List TBand → Int → Option (List TBand)
  | 0, _, _ => none
  | mL6 + 1, l297, x298 =>
    if (decide ((w64 (x298 + 1)) < (y191.length : Int))) then
      F_shape_Around_L7 y191 l297 x298 (F_shape_Around_L6 y191 y193 mL6) y193 0 ([] : List Int)
    else
      some l297
def F_shape_Around_L8 (kL3 : (List Int) → (List TRect) → Option (List TBand)) (xL3 : (List TPoint)) : List TPoint → Nat → List Int → List TRect → Option (List TBand)
  | [], iL8, l375, l376 =>
    kL3 l375 l376
  | xL8 :: restL8, iL8, l375, l376 =>
    (md (w64 ((iL8 : Int) + 1)) (xL3.length : Int)).bind fun q378 =>
    (idx xL3 q378).bind fun x379 =>
    (apd l375 [xL8.Y]).bind fun l382 =>
    if (xL8.X == x379.X) then
      (apd l376 [(TRect.mk xL8.X (min xL8.Y x379.Y) 0 (max xL8.Y x379.Y))]).bind fun l384 =>
      (F_shape_Around_L8 kL3 xL3 restL8 (iL8 + 1)) l382 l384
    else
      (F_shape_Around_L8 kL3 xL3 restL8 (iL8 + 1)) l382 l376
noncomputable def F_shape_Around_L3 (N : Nat) : List (List TPoint) → Nat → List Int → List TRect → Option (List TBand)
  | [], iL3, l187, l188 =>
    (srtI l187).bind fun y189 =>
    (cpI y189).bind fun y191 =>
    (srtF l188 (fun z0 z1 => F_shape_Around_1 z0 z1)).bind fun y193 =>
    F_shape_Around_L6 y191 y193 N ([] : List TBand) 0
  | xL3 :: restL3, iL3, l187, l188 =>
    F_shape_Around_L8 (F_shape_Around_L3 N restL3 (iL3 + 1)) xL3 xL3 0 l187 l188
noncomputable def F_shape_Around (N : Nat) (p0 : (List (List TPoint))) : Option (List TBand) :=
  F_shape_Around_L3 N p0 0 ([] : List Int) ([] : List TRect)

def F_shape_Set__Many_L1 : List TBand → Nat → Int → Option Int
  | [], iL1, x112 =>
    some x112
  | xL1 :: restL1, iL1, x112 =>
    (F_shape_Set__Many_L1 restL1 (iL1 + 1)) (w64 (x112 + (w64 (Int.tdiv (xL1.Xs.length : Int) 2))))
def F_shape_Set__Many (p0 : (List TBand)) : Option Int :=
  F_shape_Set__Many_L1 p0 0 0


def F_shape_Set__Told (N : Nat) (p0 : (List TBand)) : Option ((List TRect) × Int) :=
  (F_shape_Set__Many p0).bind fun y100 =>
  if (decide (2000 < y100)) then
    some (([] : List TRect), 2)
  else
    (F_shape_Set__Rects N p0).bind fun y101 =>
    some (y101, 0)

noncomputable def F_shape_Filled_L2 (N : Nat) (p0 : (List (List TPoint))) : List (List TPoint) → Nat → Option ((List TRect) × Int)
  | [], iL2 =>
    (F_shape_Around N p0).bind fun y116 =>
    (F_shape_Set__Told N y116).bind fun y118 =>
    some (y118.1, y118.2)
  | xL2 :: restL2, iL2 =>
    if (decide ((xL2.length : Int) < 4)) then
      some (([] : List TRect), 3)
    else
      (F_slices_ContainsFunc_Point xL2 (fun z0 => F_shape_Filled_1 z0)).bind fun y121 =>
      if y121 then
        some (([] : List TRect), 1)
      else
        (F_shape_IsRow xL2).bind fun y122 =>
        if (!y122) then
          some (([] : List TRect), 3)
        else
          (F_shape_Filled_L2 N p0 restL2 (iL2 + 1))
noncomputable def F_shape_Filled_L1 (N : Nat) (p0 : (List (List TPoint))) : List (List TPoint) → Nat → Int → Option ((List TRect) × Int)
  | [], iL1, x110 =>
    if (decide (2000 < x110)) then
      some (([] : List TRect), 2)
    else
      F_shape_Filled_L2 N p0 p0 0
  | xL1 :: restL1, iL1, x110 =>
    (F_shape_Filled_L1 N p0 restL1 (iL1 + 1)) (w64 (x110 + (xL1.length : Int)))
noncomputable def F_shape_Filled (N : Nat) (p0 : (List (List TPoint))) : Option ((List TRect) × Int) :=
  F_shape_Filled_L1 N p0 p0 0 0


noncomputable def F_etchhouselaw1_OutlinesComeBack (N : Nat) (p0 : (List TRect)) : Option Bool :=
  (F_shape_Outlines N p0).bind fun y100 =>
  if (y100.2 != 0) then
    (if ((y100.1.length : Int) == 0) then 
      (F_etchhouselaw1_awake N).bind fun y104 =>
      some y104
     else some false).bind fun g103 =>
    some g103
  else
    (F_shape_Filled N y100.1).bind fun y105 =>
    (if (y105.2 == 0) then 
      (F_slices_Equal_Rect y105.1 p0).bind fun y109 =>
      some y109
     else some false).bind fun g108 =>
    (if g108 then 
      (F_etchhouselaw1_awake N).bind fun y112 =>
      some y112
     else some false).bind fun g111 =>
    some g111

end Go.Proofs.Ytacapjleiadkkaa
