/- The plain functions: what each function of the program computes; none where it would panic. -/
import Derived.Test.YtejfmgjfdnmmgaaGreatDoorXT
namespace Go.Proofs.YtejfmgjfdnmmgaaGreatDoor
open Go.RowKit

def F_panel_within (p0 : Int) (p1 : Int) (p2 : Int) : Option Bool :=
  some ((decide (p1 ≤ p0)) && (decide (p0 ≤ p2)))

def F_plot_IsName_L1 (p0 : ByteArray) : Nat → Int → Option Bool
  | 0, _ => none
  | mL1 + 1, x105 =>
    if (decide (x105 < (p0.size : Int))) then
      (strAt p0 x105).bind fun c106 =>
      if ((!(((decide (97 ≤ c106)) && (decide (c106 ≤ 122))) || ((decide (65 ≤ c106)) && (decide (c106 ≤ 90))))) && ((x105 == 0) || ((((decide (c106 < 48)) || (decide (57 < c106))) && (c106 != 95)) && (c106 != 45)))) then
        some false
      else
        (F_plot_IsName_L1 p0 mL1) (w64 (x105 + 1))
    else
      some ((decide (1 ≤ (p0.size : Int))) && (decide ((p0.size : Int) ≤ 40)))
def F_plot_IsName (N : Nat) (p0 : ByteArray) : Option Bool :=
  F_plot_IsName_L1 p0 N 0

def F_panel_checkKinds_L1 (N : Nat) (p0 : (List TBoardKind)) : List TBoardKind → Nat → Option Int
  | [], iL1 =>
    some 0
  | xL1 :: restL1, iL1 =>
    (F_plot_IsName N xL1.Name).bind fun y112 =>
    if (!y112) then
      some 5
    else
      (F_panel_within xL1.W 1 1000000).bind fun y113 =>
      (if (!y113) then some true else 
        (F_panel_within xL1.H 1 1000000).bind fun y116 =>
        some (!y116)
      ).bind fun g115 =>
      if g115 then
        some 1
      else
        (if (decide (0 < (iL1 : Int))) then 
          (idx p0 (w64 ((iL1 : Int) - 1))).bind fun x119 =>
          some (sLt xL1.Name x119.Name || sEq xL1.Name x119.Name)
         else some false).bind fun g118 =>
        if g118 then
          some 8
        else
          (F_panel_checkKinds_L1 N p0 restL1 (iL1 + 1))
def F_panel_checkKinds (N : Nat) (p0 : (List TBoardKind)) : Option Int :=
  if (decide (50 < (p0.length : Int))) then
    some 2
  else
    F_panel_checkKinds_L1 N p0 p0 0


def F_panel_kindAt_1 (p0 : TBoardKind) (q0 : ByteArray) : Option Bool :=
  some (sEq p0.Name q0)

def F_slices_IndexFunc_BoardKind_L1 (p1 : TBoardKind → Option Bool) : List TBoardKind → Nat → Option Int
  | [], iL1 =>
    some (-1)
  | xL1 :: restL1, iL1 =>
    (p1 xL1).bind fun y103 =>
    if y103 then
      some (iL1 : Int)
    else
      (F_slices_IndexFunc_BoardKind_L1 p1 restL1 (iL1 + 1))
def F_slices_IndexFunc_BoardKind (p0 : (List TBoardKind)) (p1 : TBoardKind → Option Bool) : Option Int :=
  F_slices_IndexFunc_BoardKind_L1 p1 p0 0


def F_panel_kindAt (p0 : TPanel) (p1 : ByteArray) : Option Int :=
  (F_slices_IndexFunc_BoardKind p0.Kinds (fun z0 => F_panel_kindAt_1 z0 p1)).bind fun y102 =>
  some y102


def F_panel_sizeOf (p0 : TBoardKind) (p1 : Int) : Option (Int × Int) :=
  if ((Int.tmod p1 2) == 1) then
    some (p0.H, p0.W)
  else
    some (p0.W, p0.H)


def F_panel_cellOf (p0 : TPanel) (p1 : TSlot) : Option TRect :=
  (F_panel_kindAt p0 p1.Board).bind fun y103 =>
  (idx p0.Kinds y103).bind fun x104 =>
  (F_panel_sizeOf x104 p1.Quarters).bind fun y105 =>
  some (TRect.mk p1.At.X p1.At.Y (w64 (p1.At.X + y105.1)) (w64 (p1.At.Y + y105.2)))


def F_panel_isOn (p0 : TPanel) (p1 : TRect) : Option Bool :=
  some ((((((decide (p0.Rail ≤ p1.X0)) && (decide (p0.Rail ≤ p1.Y0))) && (decide (p1.X0 ≤ p0.W))) && (decide (p1.Y0 ≤ p0.H))) && (decide (p1.X1 ≤ (w64 (p0.W - p0.Rail))))) && (decide (p1.Y1 ≤ (w64 (p0.H - p0.Rail)))))


def F_panel_isApart (p0 : TRect) (p1 : TRect) (p2 : Int) : Option Bool :=
  some ((((decide ((w64 (p0.X1 + p2)) ≤ p1.X0)) || (decide ((w64 (p1.X1 + p2)) ≤ p0.X0))) || (decide ((w64 (p0.Y1 + p2)) ≤ p1.Y0))) || (decide ((w64 (p1.Y1 + p2)) ≤ p0.Y0)))


def F_panel_cells_1 (p0 : TRect) (q0 : TRect) (q1 : TPanel) : Option Bool :=
  (F_panel_isApart q0 p0 q1.Gap).bind fun y101 =>
  some (!y101)

def F_slices_IndexFunc_Rect_L1 (p1 : TRect → Option Bool) : List TRect → Nat → Option Int
  | [], iL1 =>
    some (-1)
  | xL1 :: restL1, iL1 =>
    (p1 xL1).bind fun y103 =>
    if y103 then
      some (iL1 : Int)
    else
      (F_slices_IndexFunc_Rect_L1 p1 restL1 (iL1 + 1))
def F_slices_IndexFunc_Rect (p0 : (List TRect)) (p1 : TRect → Option Bool) : Option Int :=
  F_slices_IndexFunc_Rect_L1 p1 p0 0


def F_slices_ContainsFunc_Rect (p0 : (List TRect)) (p1 : TRect → Option Bool) : Option Bool :=
  (F_slices_IndexFunc_Rect p0 p1).bind fun y100 =>
  some (decide (0 ≤ y100))

def F_panel_cells_L1 (p0 : TPanel) : List TSlot → Nat → List TRect → Option ((List TRect) × Int)
  | [], iL1, l139 =>
    some (l139, 0)
  | xL1 :: restL1, iL1, l139 =>
    (F_panel_kindAt p0 xL1.Board).bind fun y141 =>
    if (decide (y141 < 0)) then
      some (([] : List TRect), 5)
    else
      (F_panel_within xL1.Quarters 0 3).bind fun y142 =>
      (if (!y142) then some true else 
        (F_panel_within xL1.At.X 0 p0.W).bind fun y145 =>
        some (!y145)
      ).bind fun g144 =>
      (if g144 then some true else 
        (F_panel_within xL1.At.Y 0 p0.H).bind fun y148 =>
        some (!y148)
      ).bind fun g147 =>
      if g147 then
        some (([] : List TRect), 1)
      else
        (F_panel_cellOf p0 xL1).bind fun y149 =>
        (F_panel_isOn p0 y149).bind fun y151 =>
        if (!y151) then
          some (([] : List TRect), 1)
        else
          (F_slices_ContainsFunc_Rect l139 (fun z0 => F_panel_cells_1 z0 y149 p0)).bind fun y152 =>
          if y152 then
            some (([] : List TRect), 12)
          else
            (apd l139 [y149]).bind fun l154 =>
            (F_panel_cells_L1 p0 restL1 (iL1 + 1)) l154
def F_panel_cells (p0 : TPanel) : Option ((List TRect) × Int) :=
  if (decide (500 < (p0.Slots.length : Int))) then
    some (([] : List TRect), 2)
  else
    F_panel_cells_L1 p0 p0.Slots 0 ([] : List TRect)


def F_panel_isOnPanel (p0 : TPanel) (p1 : TPoint) : Option Bool :=
  (F_panel_within p1.X 0 p0.W).bind fun y102 =>
  (if y102 then 
    (F_panel_within p1.Y 0 p0.H).bind fun y105 =>
    some y105
   else some false).bind fun g104 =>
  some g104


def F_panel_isInside (p0 : TRect) (p1 : TPoint) : Option Bool :=
  some ((((decide (p0.X0 < p1.X)) && (decide (p1.X < p0.X1))) && (decide (p0.Y0 < p1.Y))) && (decide (p1.Y < p0.Y1)))


def F_panel_open_1 (p0 : TRect) (q0 : TPoint) : Option Bool :=
  (F_panel_isInside p0 q0).bind fun y101 =>
  some y101

def F_slices_Index_Point_L1 (p1 : TPoint) : List TPoint → Nat → Option Int
  | [], iL1 =>
    some (-1)
  | xL1 :: restL1, iL1 =>
    if (eqTPoint p1 xL1) then
      some (iL1 : Int)
    else
      (F_slices_Index_Point_L1 p1 restL1 (iL1 + 1))
def F_slices_Index_Point (p0 : (List TPoint)) (p1 : TPoint) : Option Int :=
  F_slices_Index_Point_L1 p1 p0 0


def F_slices_Contains_Point (p0 : (List TPoint)) (p1 : TPoint) : Option Bool :=
  (F_slices_Index_Point p0 p1).bind fun y101 =>
  some (decide (0 ≤ y101))

def F_panel_open_L1 (p0 : TPanel) (y112 : ((List TRect) × Int)) : List TPoint → Nat → Option ((List TRect) × Int)
  | [], iL1 =>
    some (y112.1, 0)
  | xL1 :: restL1, iL1 =>
    (F_panel_isOnPanel p0 xL1).bind fun y122 =>
    if (!y122) then
      some (([] : List TRect), 1)
    else
      (F_slices_ContainsFunc_Rect y112.1 (fun z0 => F_panel_open_1 z0 xL1)).bind fun y123 =>
      if y123 then
        some (([] : List TRect), 12)
      else
        (pre p0.Marks (iL1 : Int)).bind fun l124 =>
        (F_slices_Contains_Point l124 xL1).bind fun y125 =>
        if y125 then
          some (([] : List TRect), 7)
        else
          (F_panel_open_L1 p0 y112 restL1 (iL1 + 1))
def F_panel_open (N : Nat) (p0 : TPanel) : Option ((List TRect) × Int) :=
  (F_panel_within p0.W 1 1000000).bind fun y101 =>
  (if (!y101) then some true else 
    (F_panel_within p0.H 1 1000000).bind fun y104 =>
    some (!y104)
  ).bind fun g103 =>
  (if g103 then some true else 
    (F_panel_within p0.Rail 0 1000000).bind fun y107 =>
    some (!y107)
  ).bind fun g106 =>
  (if g106 then some true else 
    (F_panel_within p0.Gap 0 1000000).bind fun y110 =>
    some (!y110)
  ).bind fun g109 =>
  if g109 then
    some (([] : List TRect), 1)
  else
    (F_panel_checkKinds N p0.Kinds).bind fun y111 =>
    if (y111 != 0) then
      some (([] : List TRect), y111)
    else
      (F_panel_cells p0).bind fun y112 =>
      if (y112.2 != 0) then
        some (([] : List TRect), y112.2)
      else
        if (decide (10 < (p0.Marks.length : Int))) then
          some (([] : List TRect), 2)
        else
          F_panel_open_L1 p0 y112 p0.Marks 0


def F_panel_CheckPanel (N : Nat) (p0 : TPanel) : Option Int :=
  (F_panel_open N p0).bind fun y101 =>
  some y101.2

def F_panel_Needed_L1 (p1 : ByteArray) (p2 : Int) : List TSlot → Nat → Int → Option (Int × Int × Int)
  | [], iL1, x114 =>
    if (x114 == 0) then
      some (0, 0, 13)
    else
      (dv (w64 ((w64 (p2 + x114)) - 1)) x114).bind fun q115 =>
      some (q115, (w64 ((w64 (q115 * x114)) - p2)), 0)
  | xL1 :: restL1, iL1, x114 =>
    if (sEq xL1.Board p1) then
      (F_panel_Needed_L1 p1 p2 restL1 (iL1 + 1)) (w64 (x114 + 1))
    else
      (F_panel_Needed_L1 p1 p2 restL1 (iL1 + 1)) x114
def F_panel_Needed (N : Nat) (p0 : TPanel) (p1 : ByteArray) (p2 : Int) : Option (Int × Int × Int) :=
  (F_panel_CheckPanel N p0).bind fun y101 =>
  if (y101 != 0) then
    some (0, 0, y101)
  else
    (F_panel_kindAt p0 p1).bind fun y102 =>
    if (decide (y102 < 0)) then
      some (0, 0, 9)
    else
      (F_panel_within p2 0 1000000).bind fun y103 =>
      if (!y103) then
        some (0, 0, 1)
      else
        F_panel_Needed_L1 p1 p2 p0.Slots 0 0


def F_shape_within (p0 : Int) (p1 : Int) (p2 : Int) : Option Bool :=
  some ((decide (p1 ≤ p0)) && (decide (p0 ≤ p2)))


def F_shape_IsAt (p0 : Int) : Option Bool :=
  (F_shape_within p0 (-1000000) 1000000).bind fun y100 =>
  some y100


def F_shape_isRect (p0 : TRect) : Option Bool :=
  (F_shape_IsAt p0.X0).bind fun y101 =>
  (if y101 then 
    (F_shape_IsAt p0.Y0).bind fun y104 =>
    some y104
   else some false).bind fun g103 =>
  (if g103 then 
    (F_shape_IsAt p0.X1).bind fun y107 =>
    some y107
   else some false).bind fun g106 =>
  (if g106 then 
    (F_shape_IsAt p0.Y1).bind fun y110 =>
    some y110
   else some false).bind fun g109 =>
  some g109

def F_shape_CheckRects_L1 : List TRect → Nat → Option Int
  | [], iL1 =>
    some 0
  | xL1 :: restL1, iL1 =>
    (F_shape_isRect xL1).bind fun y105 =>
    if (!y105) then
      some 1
    else
      if ((decide (xL1.X1 ≤ xL1.X0)) || (decide (xL1.Y1 ≤ xL1.Y0))) then
        some 13
      else
        (F_shape_CheckRects_L1 restL1 (iL1 + 1))
def F_shape_CheckRects (p0 : (List TRect)) : Option Int :=
  if (decide (2000 < (p0.length : Int))) then
    some 2
  else
    F_shape_CheckRects_L1 p0 0


def F_slices_Clone_Rect (p0 : (List TRect)) : Option (List TRect) :=
  (apd ([] : List TRect) p0).bind fun l101 =>
  some l101



def F_shape_SetOf_1 (p0 : TRect) (p1 : TRect) : Option Int :=
  some (w64 (p0.Y0 - p1.Y0))




def F_shape_SetOf_2 (p0 : TRect) (q0 : (List Int)) (q1 : Int) : Option Bool :=
  (idx q0 q1).bind fun x101 =>
  some (decide (p0.Y1 ≤ x101))

def F_slices_DeleteFunc_Rect_L1 (p1 : TRect → Option Bool) : Nat → List TRect → Int → Int → Option (List TRect)
  | 0, _, _, _ => none
  | mL1 + 1, l120, x121, x122 =>
    if (decide (x122 < (l120.length : Int))) then
      (idx l120 x122).bind fun x123 =>
      (p1 x123).bind fun y125 =>
      if (!y125) then
        (idx l120 x121).bind fun x126 =>
        (sets l120 x121 x123).bind fun l127 =>
        (F_slices_DeleteFunc_Rect_L1 p1 mL1) l127 (w64 (x121 + 1)) (w64 (x122 + 1))
      else
        (F_slices_DeleteFunc_Rect_L1 p1 mL1) l120 x121 (w64 (x122 + 1))
    else
      (cut l120 x121 (l120.length : Int)).bind fun l128 =>
      (pre (clr l120 x121 (l128).length (TRect.mk 0 0 0 0)) x121).bind fun l129 =>
      some l129
def F_slices_DeleteFunc_Rect (N : Nat) (p0 : (List TRect)) (p1 : TRect → Option Bool) : Option (List TRect) :=
  (F_slices_IndexFunc_Rect p0 p1).bind fun y100 =>
  if (y100 == (-1)) then
    some p0
  else
    F_slices_DeleteFunc_Rect_L1 p1 N p0 y100 (w64 (y100 + 1))


def F_shape_stretches_1 (p0 : TRect) (p1 : TRect) : Option Int :=
  some (w64 (p0.X0 - p1.X0))

def F_shape_stretches_L1 (y100 : (List TRect)) : List TRect → Nat → List Int → Option ((List Int) × (List TRect))
  | [], iL1, l128 =>
    some (l128, y100)
  | xL1 :: restL1, iL1, l128 =>
    (if (decide (0 ≤ (w64 ((l128.length : Int) - 1)))) then 
      (idx l128 (w64 ((l128.length : Int) - 1))).bind fun x132 =>
      some (decide (xL1.X0 ≤ x132))
     else some false).bind fun g131 =>
    if g131 then
      (idx l128 (w64 ((l128.length : Int) - 1))).bind fun x133 =>
      (idx l128 (w64 ((l128.length : Int) - 1))).bind fun x134 =>
      (sets l128 (w64 ((l128.length : Int) - 1)) (max x133 xL1.X1)).bind fun l135 =>
      (F_shape_stretches_L1 y100 restL1 (iL1 + 1)) l135
    else
      (apd l128 [xL1.X0, xL1.X1]).bind fun l137 =>
      (F_shape_stretches_L1 y100 restL1 (iL1 + 1)) l137
noncomputable def F_shape_stretches (p0 : (List TRect)) : Option ((List Int) × (List TRect)) :=
  (srtF p0 (fun z0 z1 => F_shape_stretches_1 z0 z1)).bind fun y100 =>
  F_shape_stretches_L1 y100 y100 0 ([] : List Int)

def F_slices_Equal_int_L1 (p1 : (List Int)) : List Int → Nat → Option Bool
  | [], iL1 =>
    some true
  | xL1 :: restL1, iL1 =>
    (idx p1 (iL1 : Int)).bind fun x103 =>
    if (xL1 != x103) then
      some false
    else
      (F_slices_Equal_int_L1 p1 restL1 (iL1 + 1))
def F_slices_Equal_int (p0 : (List Int)) (p1 : (List Int)) : Option Bool :=
  if ((p0.length : Int) != (p1.length : Int)) then
    some false
  else
    F_slices_Equal_int_L1 p1 p0 0


def F_shape_Set__push (p0 : (List TBand)) (p1 : TBand) : Option (List TBand) :=
  if (((p1.Xs.length : Int) == 0) || (decide (p1.Y1 ≤ p1.Y0))) then
    some p0
  else
    (if (decide (0 ≤ (w64 ((p0.length : Int) - 1)))) then 
      (idx p0 (w64 ((p0.length : Int) - 1))).bind fun x103 =>
      some (x103.Y1 == p1.Y0)
     else some false).bind fun g102 =>
    (if g102 then 
      (idx p0 (w64 ((p0.length : Int) - 1))).bind fun x108 =>
      (F_slices_Equal_int x108.Xs p1.Xs).bind fun y110 =>
      some y110
     else some false).bind fun g107 =>
    if g107 then
      (idx p0 (w64 ((p0.length : Int) - 1))).bind fun x111 =>
      (sets p0 (w64 ((p0.length : Int) - 1)) (TBand.mk x111.Y0 p1.Y1 x111.Xs)).bind fun l112 =>
      some l112
    else
      (apd p0 [p1]).bind fun l114 =>
      some l114

noncomputable def F_shape_SetOf_L5 (y102 : (List TRect)) (y122 : (List Int)) (x229 : Int) (l230 : List TBand) (kL4 : Int → (List TBand) → (List TRect) → Int → Option (List TBand)) : Nat → List TRect → Int → Option (List TBand)
  | 0, _, _ => none
  | mL5 + 1, l257, x258 =>
    (if (decide (x258 < (y102.length : Int))) then 
      (idx y102 x258).bind fun x262 =>
      (idx y122 x229).bind fun x263 =>
      some (decide (x262.Y0 ≤ x263))
     else some false).bind fun g261 =>
    if g261 then
      (idx y102 x258).bind fun x264 =>
      (apd l257 [x264]).bind fun l266 =>
      (F_shape_SetOf_L5 y102 y122 x229 l230 kL4 mL5) l266 (w64 (x258 + 1))
    else
      (idx y122 x229).bind fun x268 =>
      (idx y122 (w64 (x229 + 1))).bind fun x269 =>
      (F_shape_stretches l257).bind fun y270 =>
      (F_shape_Set__push l230 (TBand.mk x268 x269 y270.1)).bind fun y274 =>
      kL4 (w64 (x229 + 1)) y274 y270.2 x258
noncomputable def F_shape_SetOf_L4 (N : Nat) (y102 : (List TRect)) (y122 : (List Int)) : Nat → Int → List TBand → List TRect → Int → Option (List TBand)
  | 0, _, _, _, _ => none
  | mL4 + 1, x229, l230, l231, x232 =>
    if (decide ((w64 (x229 + 1)) < (y122.length : Int))) then
      (F_slices_DeleteFunc_Rect N l231 (fun z0 => F_shape_SetOf_2 z0 y122 x229)).bind fun y233 =>
      F_shape_SetOf_L5 y102 y122 x229 l230 (F_shape_SetOf_L4 N y102 y122 mL4) N y233 x232
    else
      some l230
noncomputable def F_shape_SetOf_L1 (N : Nat) (y102 : (List TRect)) : List TRect → Nat → List Int → Option (List TBand)
  | [], iL1, l119 =>
    (srtI l119).bind fun y120 =>
    (cpI y120).bind fun y122 =>
    F_shape_SetOf_L4 N y102 y122 N 0 ([] : List TBand) ([] : List TRect) 0
  | xL1 :: restL1, iL1, l119 =>
    (apd l119 [xL1.Y0, xL1.Y1]).bind fun l279 =>
    (F_shape_SetOf_L1 N y102 restL1 (iL1 + 1)) l279
noncomputable def F_shape_SetOf (N : Nat) (p0 : (List TRect)) : Option (List TBand) :=
  (F_slices_Clone_Rect p0).bind fun y100 =>
  (srtF y100 (fun z0 z1 => F_shape_SetOf_1 z0 z1)).bind fun y102 =>
  F_shape_SetOf_L1 N y102 y102 0 ([] : List Int)

def F_shape_Set__Rects_L4 (kL3 : (List TRect) → Option (List TRect)) (xL3 : TBand) : Nat → List TRect → Int → Option (List TRect)
  | 0, _, _ => none
  | mL4 + 1, l169, x170 =>
    if (decide (x170 < (xL3.Xs.length : Int))) then
      (idx xL3.Xs x170).bind fun x172 =>
      (idx xL3.Xs (w64 (x170 + 1))).bind fun x173 =>
      (apd l169 [(TRect.mk x172 xL3.Y0 x173 xL3.Y1)]).bind fun l174 =>
      (F_shape_Set__Rects_L4 kL3 xL3 mL4) l174 (w64 (x170 + 2))
    else
      kL3 l169
def F_shape_Set__Rects_L3 (N : Nat) : List TBand → Nat → List TRect → Option (List TRect)
  | [], iL3, l152 =>
    some l152
  | xL3 :: restL3, iL3, l152 =>
    F_shape_Set__Rects_L4 (F_shape_Set__Rects_L3 N restL3 (iL3 + 1)) xL3 N l152 0
def F_shape_Set__Rects (N : Nat) (p0 : (List TBand)) : Option (List TRect) :=
  F_shape_Set__Rects_L3 N p0 0 ([] : List TRect)

def F_slices_Equal_Rect_L1 (p1 : (List TRect)) : List TRect → Nat → Option Bool
  | [], iL1 =>
    some true
  | xL1 :: restL1, iL1 =>
    (idx p1 (iL1 : Int)).bind fun x103 =>
    if (!(eqTRect xL1 x103)) then
      some false
    else
      (F_slices_Equal_Rect_L1 p1 restL1 (iL1 + 1))
def F_slices_Equal_Rect (p0 : (List TRect)) (p1 : (List TRect)) : Option Bool :=
  if ((p0.length : Int) != (p1.length : Int)) then
    some false
  else
    F_slices_Equal_Rect_L1 p1 p0 0

noncomputable def F_shape_CheckRegion_L1 (N : Nat) (p0 : (List TRect)) : Nat → Int → Option Int
  | 0, _ => none
  | mL1 + 1, x116 =>
    if (decide (x116 < (p0.length : Int))) then
      (idx p0 (w64 (x116 - 1))).bind fun x118 =>
      (idx p0 x116).bind fun x119 =>
      if ((decide (x119.Y0 < x118.Y0)) || ((x119.Y0 == x118.Y0) && (decide (x119.X0 ≤ x118.X0)))) then
        some 8
      else
        (F_shape_CheckRegion_L1 N p0 mL1) (w64 (x116 + 1))
    else
      (F_shape_SetOf N p0).bind fun y123 =>
      (F_shape_Set__Rects N y123).bind fun y125 =>
      (F_slices_Equal_Rect y125 p0).bind fun y127 =>
      if (!y127) then
        some 3
      else
        some 0
noncomputable def F_shape_CheckRegion (N : Nat) (p0 : (List TRect)) : Option Int :=
  (F_shape_CheckRects p0).bind fun y100 =>
  if (y100 != 0) then
    some y100
  else
    F_shape_CheckRegion_L1 N p0 N 1

def F_shape_AreaOf_L1 : List TRect → Nat → Int → Option Int
  | [], iL1, x110 =>
    some x110
  | xL1 :: restL1, iL1, x110 =>
    (F_shape_AreaOf_L1 restL1 (iL1 + 1)) (w64 (x110 + (w64 ((w64 (xL1.X1 - xL1.X0)) * (w64 (xL1.Y1 - xL1.Y0))))))
def F_shape_AreaOf (p0 : (List TRect)) : Option Int :=
  F_shape_AreaOf_L1 p0 0 0


noncomputable def F_shape_Area (N : Nat) (p0 : (List TRect)) : Option (Int × Int) :=
  (F_shape_CheckRegion N p0).bind fun y100 =>
  if (y100 != 0) then
    some (0, y100)
  else
    (F_shape_AreaOf p0).bind fun y101 =>
    some (y101, 0)


noncomputable def F_etchhousetop_alive (N : Nat)  : Option Bool :=
  (F_shape_Area N [(TRect.mk 0 0 2 3)]).bind fun y101 =>
  some ((y101.2 == 0) && (y101.1 == 6))


def F_netlist_IsWord_L1 (p0 : ByteArray) : Nat → Int → Option Bool
  | 0, _ => none
  | mL1 + 1, x111 =>
    if (decide (x111 < (p0.size : Int))) then
      (strAt p0 x111).bind fun c112 =>
      (if ((((decide (c112 < 65)) || (decide (90 < c112))) && ((decide (c112 < 97)) || (decide (122 < c112)))) && ((decide (c112 < 48)) || (decide (57 < c112)))) then 
        (ixbF (⟨#[95, 43, 45, 35]⟩) c112).bind fun y115 =>
        some (decide (y115 < 0))
       else some false).bind fun g114 =>
      if g114 then
        some false
      else
        (F_netlist_IsWord_L1 p0 mL1) (w64 (x111 + 1))
    else
      some ((decide (1 ≤ (p0.size : Int))) && (decide ((p0.size : Int) ≤ 40)))
def F_netlist_IsWord (N : Nat) (p0 : ByteArray) : Option Bool :=
  F_netlist_IsWord_L1 p0 N 0


def F_mount_within (p0 : Int) (p1 : Int) (p2 : Int) : Option Bool :=
  some ((decide (p1 ≤ p0)) && (decide (p0 ≤ p2)))

def F_mount_CheckBodies_L1 (N : Nat) (p0 : (List TBody)) : List TBody → Nat → Option Int
  | [], iL1 =>
    some 0
  | xL1 :: restL1, iL1 =>
    (F_netlist_IsWord N xL1.Type_).bind fun y116 =>
    if (!y116) then
      some 5
    else
      (F_mount_within xL1.W 1 100000).bind fun y117 =>
      (if (!y117) then some true else 
        (F_mount_within xL1.H 1 100000).bind fun y120 =>
        some (!y120)
      ).bind fun g119 =>
      (if g119 then some true else 
        (F_mount_within xL1.Tall 1 100000).bind fun y123 =>
        some (!y123)
      ).bind fun g122 =>
      if g122 then
        some 1
      else
        (F_netlist_IsWord N xL1.Nozzle).bind fun y124 =>
        if (!y124) then
          some 5
        else
          (if (decide (0 < (iL1 : Int))) then 
            (idx p0 (w64 ((iL1 : Int) - 1))).bind fun x127 =>
            some (sLt xL1.Type_ x127.Type_ || sEq xL1.Type_ x127.Type_)
           else some false).bind fun g126 =>
          if g126 then
            some 8
          else
            (F_mount_CheckBodies_L1 N p0 restL1 (iL1 + 1))
def F_mount_CheckBodies (N : Nat) (p0 : (List TBody)) : Option Int :=
  if (decide (200 < (p0.length : Int))) then
    some 2
  else
    F_mount_CheckBodies_L1 N p0 p0 0

def F_slices_BinarySearchFunc_string_L1 (p0 : (List TBody)) (p1 : ByteArray) (p2 : TBody → ByteArray → Option Int) : Nat → Int → Int → Option (Int × Bool)
  | 0, _, _ => none
  | mL1 + 1, x114, x115 =>
    if (decide (x114 < x115)) then
      (uO (w64 (x114 + x115))).bind fun q116 =>
      (uO (q116 / 2)).bind fun q117 =>
      (idx p0 q117).bind fun x118 =>
      (p2 x118 p1).bind fun y119 =>
      if (decide (y119 < 0)) then
        (F_slices_BinarySearchFunc_string_L1 p0 p1 p2 mL1) (w64 (q117 + 1)) x115
      else
        (F_slices_BinarySearchFunc_string_L1 p0 p1 p2 mL1) x114 q117
    else
      (if (decide (x114 < (p0.length : Int))) then 
        (idx p0 x114).bind fun x123 =>
        (p2 x123 p1).bind fun y124 =>
        some (y124 == 0)
       else some false).bind fun g122 =>
      some (x114, g122)
def F_slices_BinarySearchFunc_string (N : Nat) (p0 : (List TBody)) (p1 : ByteArray) (p2 : TBody → ByteArray → Option Int) : Option (Int × Bool) :=
  F_slices_BinarySearchFunc_string_L1 p0 p1 p2 N 0 (p0.length : Int)



def F_mount_bodyOf_1 (p0 : TBody) (p1 : ByteArray) : Option Int :=
  (cmpF p0.Type_ p1).bind fun y101 =>
  some y101


def F_mount_bodyOf (N : Nat) (p0 : (List TBody)) (p1 : ByteArray) : Option (TBody × Bool) :=
  (F_slices_BinarySearchFunc_string N p0 p1 (fun z0 z1 => F_mount_bodyOf_1 z0 z1)).bind fun y101 =>
  if (!y101.2) then
    some ((TBody.mk (⟨#[]⟩) 0 0 0 (⟨#[]⟩)), false)
  else
    (idx p0 y101.1).bind fun x102 =>
    some (x102, true)


def F_slices_IndexFunc_string_L1 (p1 : ByteArray → Option Bool) : List ByteArray → Nat → Option Int
  | [], iL1 =>
    some (-1)
  | xL1 :: restL1, iL1 =>
    (p1 xL1).bind fun y103 =>
    if y103 then
      some (iL1 : Int)
    else
      (F_slices_IndexFunc_string_L1 p1 restL1 (iL1 + 1))
def F_slices_IndexFunc_string (p0 : (List ByteArray)) (p1 : ByteArray → Option Bool) : Option Int :=
  F_slices_IndexFunc_string_L1 p1 p0 0


def F_slices_ContainsFunc_string (p0 : (List ByteArray)) (p1 : ByteArray → Option Bool) : Option Bool :=
  (F_slices_IndexFunc_string p0 p1).bind fun y100 =>
  some (decide (0 ≤ y100))


def F_netlist_IsPath_1 (N : Nat) (p0 : ByteArray) : Option Bool :=
  (F_netlist_IsWord N p0).bind fun y100 =>
  some (!y100)


def F_netlist_IsPath (N : Nat) (p0 : ByteArray) : Option Bool :=
  if (decide ((p0.size : Int) ≤ 200)) then
    (splitF p0 (⟨#[47]⟩)).bind fun y104 =>
    (F_slices_ContainsFunc_string y104 (fun z0 => F_netlist_IsPath_1 N z0)).bind fun y106 =>
    some (!y106)
  else
    some false


def F_shape_IsPoint (p0 : TPoint) : Option Bool :=
  (F_shape_IsAt p0.X).bind fun y101 =>
  (if y101 then 
    (F_shape_IsAt p0.Y).bind fun y104 =>
    some y104
   else some false).bind fun g103 =>
  some g103

def F_mount_CheckPlaces_L1 (N : Nat) (p0 : (List TBody)) (p1 : (List TPlace)) : List TPlace → Nat → Option Int
  | [], iL1 =>
    some 0
  | xL1 :: restL1, iL1 =>
    (F_mount_bodyOf N p0 xL1.Type_).bind fun y115 =>
    (F_netlist_IsPath N xL1.Part).bind fun y117 =>
    if (!y117) then
      some 5
    else
      if (!y115.2) then
        some 9
      else
        (F_shape_IsPoint xL1.At).bind fun y118 =>
        (if (!y118) then some true else 
          (F_mount_within xL1.Quarters 0 3).bind fun y121 =>
          some (!y121)
        ).bind fun g120 =>
        if g120 then
          some 1
        else
          (if (decide (0 < (iL1 : Int))) then 
            (idx p1 (w64 ((iL1 : Int) - 1))).bind fun x124 =>
            some (sLt xL1.Part x124.Part || sEq xL1.Part x124.Part)
           else some false).bind fun g123 =>
          if g123 then
            some 8
          else
            (F_mount_CheckPlaces_L1 N p0 p1 restL1 (iL1 + 1))
def F_mount_CheckPlaces (N : Nat) (p0 : (List TBody)) (p1 : (List TPlace)) : Option Int :=
  (F_mount_CheckBodies N p0).bind fun y100 =>
  if (y100 != 0) then
    some y100
  else
    if (decide (1000 < (p1.length : Int))) then
      some 2
    else
      F_mount_CheckPlaces_L1 N p0 p1 p1 0


def F_mount_isBoards (p0 : Int) : Option Bool :=
  (F_mount_within p0 0 1000).bind fun y100 =>
  some y100

def F_mount_needed_L1 (p1 : Int) : List TPlace → Nat → List (ByteArray × Int) → Option (List (ByteArray × Int))
  | [], iL1, m115 =>
    some m115
  | xL1 :: restL1, iL1, m115 =>
    (kgetO okS m115 xL1.Type_).bind fun g117 =>
    (kputO okS m115 xL1.Type_ (w64 (g117 + p1))).bind fun m118 =>
    (F_mount_needed_L1 p1 restL1 (iL1 + 1)) m118
def F_mount_needed (p0 : (List TPlace)) (p1 : Int) : Option (List (ByteArray × Int)) :=
  F_mount_needed_L1 p1 p0 0 ([] : List (ByteArray × Int))



def F_mount_counts_1 (p0 : TCount) (p1 : TCount) : Option Int :=
  (cmpF p0.Type_ p1.Type_).bind fun y102 =>
  some y102

def cntM (m : List (ByteArray × Int)) : List TCount := (m.filter fun e => decide (0 < e.2)).map fun e => ⟨e.1, e.2⟩
noncomputable def F_mount_counts (p0 : List (ByteArray × Int)) : Option (List TCount) := if p0.length ≤ 4294967296 then permO (cntM p0) (fun l => srtF l (fun z0 z1 => F_mount_counts_1 z0 z1)) else none


noncomputable def F_mount_Needed (N : Nat) (p0 : (List TBody)) (p1 : (List TPlace)) (p2 : Int) : Option ((List TCount) × Int) :=
  (F_mount_CheckPlaces N p0 p1).bind fun y100 =>
  if (y100 != 0) then
    some (([] : List TCount), y100)
  else
    (F_mount_isBoards p2).bind fun y101 =>
    if (!y101) then
      some (([] : List TCount), 1)
    else
      (F_mount_needed p1 p2).bind fun y102 =>
      (F_mount_counts y102).bind fun y104 =>
      some (y104, 0)

noncomputable def F_etchhousetop_TopPartsForPanels_L2 (N : Nat) (p2 : Int) (y101 : (Int × Int × Int)) (y118 : ((List TCount) × Int)) : List TCount → Nat → Option Bool
  | [], iL2 =>
    (F_etchhousetop_alive N).bind fun y134 =>
    some y134
  | xL2 :: restL2, iL2 =>
    (idx y118.1 (iL2 : Int)).bind fun x135 =>
    (if (!sEq xL2.Type_ x135.Type_) then some true else 
      (idx y118.1 (iL2 : Int)).bind fun x138 =>
      some ((w64 (xL2.Many * (w64 (p2 + y101.2.1)))) != x138.Many)
    ).bind fun g137 =>
    if g137 then
      some false
    else
      (F_etchhousetop_TopPartsForPanels_L2 N p2 y101 y118 restL2 (iL2 + 1))
noncomputable def F_etchhousetop_TopPartsForPanels_L1 (N : Nat) (p1 : ByteArray) (p2 : Int) (p3 : (List TBody)) (p4 : (List TPlace)) (y101 : (Int × Int × Int)) : List TSlot → Nat → Int → Option Bool
  | [], iL1, x115 =>
    if (((w64 (y101.1 * x115)) != (w64 (p2 + y101.2.1))) || (decide ((max x115 1) ≤ y101.2.1))) then
      some false
    else
      (F_mount_Needed N p3 p4 1).bind fun y116 =>
      (F_mount_Needed N p3 p4 (w64 (y101.1 * x115))).bind fun y118 =>
      if ((y116.2 != 0) || (y118.2 != 0)) then
        (if ((y116.2 == 0) || ((y116.1.length : Int) == 0)) then 
          (F_etchhousetop_alive N).bind fun y122 =>
          some y122
         else some false).bind fun g121 =>
        some g121
      else
        if (y101.1 == 0) then
          (if ((y118.1.length : Int) == 0) then 
            (F_etchhousetop_alive N).bind fun y125 =>
            some y125
           else some false).bind fun g124 =>
          some g124
        else
          if ((y116.1.length : Int) != (y118.1.length : Int)) then
            some false
          else
            F_etchhousetop_TopPartsForPanels_L2 N p2 y101 y118 y116.1 0
  | xL1 :: restL1, iL1, x115 =>
    if (sEq xL1.Board p1) then
      (F_etchhousetop_TopPartsForPanels_L1 N p1 p2 p3 p4 y101 restL1 (iL1 + 1)) (w64 (x115 + 1))
    else
      (F_etchhousetop_TopPartsForPanels_L1 N p1 p2 p3 p4 y101 restL1 (iL1 + 1)) x115
noncomputable def F_etchhousetop_TopPartsForPanels (N : Nat) (p0 : TPanel) (p1 : ByteArray) (p2 : Int) (p3 : (List TBody)) (p4 : (List TPlace)) : Option Bool :=
  (F_panel_Needed N p0 p1 p2).bind fun y101 =>
  if (y101.2.2 != 0) then
    (if ((y101.1 == 0) && (y101.2.1 == 0)) then 
      (F_etchhousetop_alive N).bind fun y104 =>
      some y104
     else some false).bind fun g103 =>
    some g103
  else
    F_etchhousetop_TopPartsForPanels_L1 N p1 p2 p3 p4 y101 p0.Slots 0 0

end Go.Proofs.YtejfmgjfdnmmgaaGreatDoor
