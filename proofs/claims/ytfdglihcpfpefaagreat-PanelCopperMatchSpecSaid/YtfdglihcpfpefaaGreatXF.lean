/- The plain functions: what each function of the program computes; none where it would panic. -/
import Derived.Test.YtfdglihcpfpefaaGreatXT
namespace Go.Proofs.YtfdglihcpfpefaaGreat
open Go.RowKit

def F_panel_within (p0 : Int) (p1 : Int) (p2 : Int) : Option Bool :=
  some ((decide (p1 ≤ p0)) && (decide (p0 ≤ p2)))

def F_plot_IsName_L1 (p0 : ByteArray) : Nat → Int → Option Bool
  | 0, _ => none
  | mF_plot_IsName_L1 + 1, x105 =>
    if (decide (x105 < (p0.size : Int))) then
      (strAt p0 x105).bind fun c106 =>
      if ((!(((decide (97 ≤ c106)) && (decide (c106 ≤ 122))) || ((decide (65 ≤ c106)) && (decide (c106 ≤ 90))))) && ((x105 == 0) || ((((decide (c106 < 48)) || (decide (57 < c106))) && (c106 != 95)) && (c106 != 45)))) then
        some false
      else
        (F_plot_IsName_L1 p0 mF_plot_IsName_L1) (w64 (x105 + 1))
    else
      some ((decide (1 ≤ (p0.size : Int))) && (decide ((p0.size : Int) ≤ 40)))
def F_plot_IsName (N : Nat) (p0 : ByteArray) : Option Bool :=
  F_plot_IsName_L1 p0 N 0

def F_panel_checkKinds_L1 (N : Nat) (p0 : (List TBoardKind)) : List TBoardKind → Nat → Option Int
  | [], iF_panel_checkKinds_L1 =>
    some 0
  | xF_panel_checkKinds_L1 :: restF_panel_checkKinds_L1, iF_panel_checkKinds_L1 =>
    (F_plot_IsName N xF_panel_checkKinds_L1.Name).bind fun y112 =>
    if (!y112) then
      some 5
    else
      (F_panel_within xF_panel_checkKinds_L1.W 1 1000000).bind fun y113 =>
      (if (!y113) then some true else 
        (F_panel_within xF_panel_checkKinds_L1.H 1 1000000).bind fun y116 =>
        some (!y116)
      ).bind fun g115 =>
      if g115 then
        some 1
      else
        (if (decide (0 < (iF_panel_checkKinds_L1 : Int))) then 
          (idx p0 (w64 ((iF_panel_checkKinds_L1 : Int) - 1))).bind fun x119 =>
          some (sLt xF_panel_checkKinds_L1.Name x119.Name || sEq xF_panel_checkKinds_L1.Name x119.Name)
         else some false).bind fun g118 =>
        if g118 then
          some 8
        else
          (F_panel_checkKinds_L1 N p0 restF_panel_checkKinds_L1 (iF_panel_checkKinds_L1 + 1))
def F_panel_checkKinds (N : Nat) (p0 : (List TBoardKind)) : Option Int :=
  if (decide (50 < (p0.length : Int))) then
    some 2
  else
    F_panel_checkKinds_L1 N p0 p0 0


def F_panel_kindAt_1 (p0 : TBoardKind) (q0 : ByteArray) : Option Bool :=
  some (sEq p0.Name q0)

def F_slices_IndexFunc_BoardKind_L1 (p1 : TBoardKind → Option Bool) : List TBoardKind → Nat → Option Int
  | [], iF_slices_IndexFunc_BoardKind_L1 =>
    some (-1)
  | xF_slices_IndexFunc_BoardKind_L1 :: restF_slices_IndexFunc_BoardKind_L1, iF_slices_IndexFunc_BoardKind_L1 =>
    (p1 xF_slices_IndexFunc_BoardKind_L1).bind fun y103 =>
    if y103 then
      some (iF_slices_IndexFunc_BoardKind_L1 : Int)
    else
      (F_slices_IndexFunc_BoardKind_L1 p1 restF_slices_IndexFunc_BoardKind_L1 (iF_slices_IndexFunc_BoardKind_L1 + 1))
def F_slices_IndexFunc_BoardKind (p0 : (List TBoardKind)) (p1 : TBoardKind → Option Bool) : Option Int :=
  F_slices_IndexFunc_BoardKind_L1 p1 p0 0


def F_panel_kindAt (p0 : TPanel) (p1 : ByteArray) : Option Int :=
  (F_slices_IndexFunc_BoardKind p0.Kinds (fun z0 => F_panel_kindAt_1 z0 p1)).bind fun y102 =>
  some y102


def F_panel_sizeOf (p0 : TBoardKind) (p1 : Int) : Option (Int × Int) :=
  if ((Int.tmod p1 2) == 1) then
    some (p0.H, p0.W)
  else
    some (p0.W, p0.H)


def F_panel_cellOf (p0 : TPanel) (p1 : TSlot) : Option TRect :=
  (F_panel_kindAt p0 p1.Board).bind fun y103 =>
  (idx p0.Kinds y103).bind fun x104 =>
  (F_panel_sizeOf x104 p1.Quarters).bind fun y105 =>
  some (TRect.mk p1.At.X p1.At.Y (w64 (p1.At.X + y105.1)) (w64 (p1.At.Y + y105.2)))


def F_panel_isOn (p0 : TPanel) (p1 : TRect) : Option Bool :=
  some ((((((decide (p0.Rail ≤ p1.X0)) && (decide (p0.Rail ≤ p1.Y0))) && (decide (p1.X0 ≤ p0.W))) && (decide (p1.Y0 ≤ p0.H))) && (decide (p1.X1 ≤ (w64 (p0.W - p0.Rail))))) && (decide (p1.Y1 ≤ (w64 (p0.H - p0.Rail)))))


def F_panel_isApart (p0 : TRect) (p1 : TRect) (p2 : Int) : Option Bool :=
  some ((((decide ((w64 (p0.X1 + p2)) ≤ p1.X0)) || (decide ((w64 (p1.X1 + p2)) ≤ p0.X0))) || (decide ((w64 (p0.Y1 + p2)) ≤ p1.Y0))) || (decide ((w64 (p1.Y1 + p2)) ≤ p0.Y0)))


def F_panel_cells_1 (p0 : TRect) (q0 : TRect) (q1 : TPanel) : Option Bool :=
  (F_panel_isApart q0 p0 q1.Gap).bind fun y101 =>
  some (!y101)

def F_slices_IndexFunc_Rect_L1 (p1 : TRect → Option Bool) : List TRect → Nat → Option Int
  | [], iF_slices_IndexFunc_Rect_L1 =>
    some (-1)
  | xF_slices_IndexFunc_Rect_L1 :: restF_slices_IndexFunc_Rect_L1, iF_slices_IndexFunc_Rect_L1 =>
    (p1 xF_slices_IndexFunc_Rect_L1).bind fun y103 =>
    if y103 then
      some (iF_slices_IndexFunc_Rect_L1 : Int)
    else
      (F_slices_IndexFunc_Rect_L1 p1 restF_slices_IndexFunc_Rect_L1 (iF_slices_IndexFunc_Rect_L1 + 1))
def F_slices_IndexFunc_Rect (p0 : (List TRect)) (p1 : TRect → Option Bool) : Option Int :=
  F_slices_IndexFunc_Rect_L1 p1 p0 0


def F_slices_ContainsFunc_Rect (p0 : (List TRect)) (p1 : TRect → Option Bool) : Option Bool :=
  (F_slices_IndexFunc_Rect p0 p1).bind fun y100 =>
  some (decide (0 ≤ y100))

def F_panel_cells_L1 (p0 : TPanel) : List TSlot → Nat → List TRect → Option ((List TRect) × Int)
  | [], iF_panel_cells_L1, l139 =>
    some (l139, 0)
  | xF_panel_cells_L1 :: restF_panel_cells_L1, iF_panel_cells_L1, l139 =>
    (F_panel_kindAt p0 xF_panel_cells_L1.Board).bind fun y141 =>
    if (decide (y141 < 0)) then
      some (([] : List TRect), 5)
    else
      (F_panel_within xF_panel_cells_L1.Quarters 0 3).bind fun y142 =>
      (if (!y142) then some true else 
        (F_panel_within xF_panel_cells_L1.At.X 0 p0.W).bind fun y145 =>
        some (!y145)
      ).bind fun g144 =>
      (if g144 then some true else 
        (F_panel_within xF_panel_cells_L1.At.Y 0 p0.H).bind fun y148 =>
        some (!y148)
      ).bind fun g147 =>
      if g147 then
        some (([] : List TRect), 1)
      else
        (F_panel_cellOf p0 xF_panel_cells_L1).bind fun y149 =>
        (F_panel_isOn p0 y149).bind fun y151 =>
        if (!y151) then
          some (([] : List TRect), 1)
        else
          (F_slices_ContainsFunc_Rect l139 (fun z0 => F_panel_cells_1 z0 y149 p0)).bind fun y152 =>
          if y152 then
            some (([] : List TRect), 12)
          else
            (apd l139 [y149]).bind fun l154 =>
            (F_panel_cells_L1 p0 restF_panel_cells_L1 (iF_panel_cells_L1 + 1)) l154
def F_panel_cells (p0 : TPanel) : Option ((List TRect) × Int) :=
  if (decide (500 < (p0.Slots.length : Int))) then
    some (([] : List TRect), 2)
  else
    F_panel_cells_L1 p0 p0.Slots 0 ([] : List TRect)


def F_panel_isOnPanel (p0 : TPanel) (p1 : TPoint) : Option Bool :=
  (F_panel_within p1.X 0 p0.W).bind fun y102 =>
  (if y102 then 
    (F_panel_within p1.Y 0 p0.H).bind fun y105 =>
    some y105
   else some false).bind fun g104 =>
  some g104


def F_panel_isInside (p0 : TRect) (p1 : TPoint) : Option Bool :=
  some ((((decide (p0.X0 < p1.X)) && (decide (p1.X < p0.X1))) && (decide (p0.Y0 < p1.Y))) && (decide (p1.Y < p0.Y1)))


def F_panel_open_1 (p0 : TRect) (q0 : TPoint) : Option Bool :=
  (F_panel_isInside p0 q0).bind fun y101 =>
  some y101

def F_slices_Index_Point_L1 (p1 : TPoint) : List TPoint → Nat → Option Int
  | [], iF_slices_Index_Point_L1 =>
    some (-1)
  | xF_slices_Index_Point_L1 :: restF_slices_Index_Point_L1, iF_slices_Index_Point_L1 =>
    if (eqTPoint p1 xF_slices_Index_Point_L1) then
      some (iF_slices_Index_Point_L1 : Int)
    else
      (F_slices_Index_Point_L1 p1 restF_slices_Index_Point_L1 (iF_slices_Index_Point_L1 + 1))
def F_slices_Index_Point (p0 : (List TPoint)) (p1 : TPoint) : Option Int :=
  F_slices_Index_Point_L1 p1 p0 0


def F_slices_Contains_Point (p0 : (List TPoint)) (p1 : TPoint) : Option Bool :=
  (F_slices_Index_Point p0 p1).bind fun y101 =>
  some (decide (0 ≤ y101))

def F_panel_open_L1 (p0 : TPanel) (y112 : ((List TRect) × Int)) : List TPoint → Nat → Option ((List TRect) × Int)
  | [], iF_panel_open_L1 =>
    some (y112.1, 0)
  | xF_panel_open_L1 :: restF_panel_open_L1, iF_panel_open_L1 =>
    (F_panel_isOnPanel p0 xF_panel_open_L1).bind fun y122 =>
    if (!y122) then
      some (([] : List TRect), 1)
    else
      (F_slices_ContainsFunc_Rect y112.1 (fun z0 => F_panel_open_1 z0 xF_panel_open_L1)).bind fun y123 =>
      if y123 then
        some (([] : List TRect), 12)
      else
        (pre p0.Marks (iF_panel_open_L1 : Int)).bind fun l124 =>
        (F_slices_Contains_Point l124 xF_panel_open_L1).bind fun y125 =>
        if y125 then
          some (([] : List TRect), 7)
        else
          (F_panel_open_L1 p0 y112 restF_panel_open_L1 (iF_panel_open_L1 + 1))
def F_panel_open (N : Nat) (p0 : TPanel) : Option ((List TRect) × Int) :=
  (F_panel_within p0.W 1 1000000).bind fun y101 =>
  (if (!y101) then some true else 
    (F_panel_within p0.H 1 1000000).bind fun y104 =>
    some (!y104)
  ).bind fun g103 =>
  (if g103 then some true else 
    (F_panel_within p0.Rail 0 1000000).bind fun y107 =>
    some (!y107)
  ).bind fun g106 =>
  (if g106 then some true else 
    (F_panel_within p0.Gap 0 1000000).bind fun y110 =>
    some (!y110)
  ).bind fun g109 =>
  if g109 then
    some (([] : List TRect), 1)
  else
    (F_panel_checkKinds N p0.Kinds).bind fun y111 =>
    if (y111 != 0) then
      some (([] : List TRect), y111)
    else
      (F_panel_cells p0).bind fun y112 =>
      if (y112.2 != 0) then
        some (([] : List TRect), y112.2)
      else
        if (decide (10 < (p0.Marks.length : Int))) then
          some (([] : List TRect), 2)
        else
          F_panel_open_L1 p0 y112 p0.Marks 0


def F_panel_CheckPanel (N : Nat) (p0 : TPanel) : Option Int :=
  (F_panel_open N p0).bind fun y101 =>
  some y101.2


def F_shape_within (p0 : Int) (p1 : Int) (p2 : Int) : Option Bool :=
  some ((decide (p1 ≤ p0)) && (decide (p0 ≤ p2)))


def F_shape_IsAt (p0 : Int) : Option Bool :=
  (F_shape_within p0 (-1000000) 1000000).bind fun y100 =>
  some y100


def F_shape_isRect (p0 : TRect) : Option Bool :=
  (F_shape_IsAt p0.X0).bind fun y101 =>
  (if y101 then 
    (F_shape_IsAt p0.Y0).bind fun y104 =>
    some y104
   else some false).bind fun g103 =>
  (if g103 then 
    (F_shape_IsAt p0.X1).bind fun y107 =>
    some y107
   else some false).bind fun g106 =>
  (if g106 then 
    (F_shape_IsAt p0.Y1).bind fun y110 =>
    some y110
   else some false).bind fun g109 =>
  some g109

def F_shape_CheckRects_L1 : List TRect → Nat → Option Int
  | [], iF_shape_CheckRects_L1 =>
    some 0
  | xF_shape_CheckRects_L1 :: restF_shape_CheckRects_L1, iF_shape_CheckRects_L1 =>
    (F_shape_isRect xF_shape_CheckRects_L1).bind fun y105 =>
    if (!y105) then
      some 1
    else
      if ((decide (xF_shape_CheckRects_L1.X1 ≤ xF_shape_CheckRects_L1.X0)) || (decide (xF_shape_CheckRects_L1.Y1 ≤ xF_shape_CheckRects_L1.Y0))) then
        some 13
      else
        (F_shape_CheckRects_L1 restF_shape_CheckRects_L1 (iF_shape_CheckRects_L1 + 1))
def F_shape_CheckRects (p0 : (List TRect)) : Option Int :=
  if (decide (2000 < (p0.length : Int))) then
    some 2
  else
    F_shape_CheckRects_L1 p0 0


def F_slices_Clone_Rect (p0 : (List TRect)) : Option (List TRect) :=
  (apd ([] : List TRect) p0).bind fun l101 =>
  some l101



def F_shape_SetOf_1 (p0 : TRect) (p1 : TRect) : Option Int :=
  some (w64 (p0.Y0 - p1.Y0))




def F_shape_SetOf_2 (p0 : TRect) (q0 : (List Int)) (q1 : Int) : Option Bool :=
  (idx q0 q1).bind fun x101 =>
  some (decide (p0.Y1 ≤ x101))

def F_slices_DeleteFunc_Rect_L1 (p1 : TRect → Option Bool) : Nat → List TRect → Int → Int → Option (List TRect)
  | 0, _, _, _ => none
  | mF_slices_DeleteFunc_Rect_L1 + 1, l120, x121, x122 =>
    if (decide (x122 < (l120.length : Int))) then
      (idx l120 x122).bind fun x123 =>
      (p1 x123).bind fun y125 =>
      if (!y125) then
        (idx l120 x121).bind fun x126 =>
        (sets l120 x121 x123).bind fun l127 =>
        (F_slices_DeleteFunc_Rect_L1 p1 mF_slices_DeleteFunc_Rect_L1) l127 (w64 (x121 + 1)) (w64 (x122 + 1))
      else
        (F_slices_DeleteFunc_Rect_L1 p1 mF_slices_DeleteFunc_Rect_L1) l120 x121 (w64 (x122 + 1))
    else
      (cut l120 x121 (l120.length : Int)).bind fun l128 =>
      (pre (clr l120 x121 (l128).length (TRect.mk 0 0 0 0)) x121).bind fun l129 =>
      some l129
def F_slices_DeleteFunc_Rect (N : Nat) (p0 : (List TRect)) (p1 : TRect → Option Bool) : Option (List TRect) :=
  (F_slices_IndexFunc_Rect p0 p1).bind fun y100 =>
  if (y100 == (-1)) then
    some p0
  else
    F_slices_DeleteFunc_Rect_L1 p1 N p0 y100 (w64 (y100 + 1))


def F_shape_stretches_1 (p0 : TRect) (p1 : TRect) : Option Int :=
  some (w64 (p0.X0 - p1.X0))

def F_shape_stretches_L1 (y100 : (List TRect)) : List TRect → Nat → List Int → Option ((List Int) × (List TRect))
  | [], iF_shape_stretches_L1, l128 =>
    some (l128, y100)
  | xF_shape_stretches_L1 :: restF_shape_stretches_L1, iF_shape_stretches_L1, l128 =>
    (if (decide (0 ≤ (w64 ((l128.length : Int) - 1)))) then 
      (idx l128 (w64 ((l128.length : Int) - 1))).bind fun x132 =>
      some (decide (xF_shape_stretches_L1.X0 ≤ x132))
     else some false).bind fun g131 =>
    if g131 then
      (idx l128 (w64 ((l128.length : Int) - 1))).bind fun x133 =>
      (idx l128 (w64 ((l128.length : Int) - 1))).bind fun x134 =>
      (sets l128 (w64 ((l128.length : Int) - 1)) (max x133 xF_shape_stretches_L1.X1)).bind fun l135 =>
      (F_shape_stretches_L1 y100 restF_shape_stretches_L1 (iF_shape_stretches_L1 + 1)) l135
    else
      (apd l128 [xF_shape_stretches_L1.X0, xF_shape_stretches_L1.X1]).bind fun l137 =>
      (F_shape_stretches_L1 y100 restF_shape_stretches_L1 (iF_shape_stretches_L1 + 1)) l137
noncomputable def F_shape_stretches (p0 : (List TRect)) : Option ((List Int) × (List TRect)) :=
  (srtF p0 (fun z0 z1 => F_shape_stretches_1 z0 z1)).bind fun y100 =>
  F_shape_stretches_L1 y100 y100 0 ([] : List Int)

def F_slices_Equal_int_L1 (p1 : (List Int)) : List Int → Nat → Option Bool
  | [], iF_slices_Equal_int_L1 =>
    some true
  | xF_slices_Equal_int_L1 :: restF_slices_Equal_int_L1, iF_slices_Equal_int_L1 =>
    (idx p1 (iF_slices_Equal_int_L1 : Int)).bind fun x103 =>
    if (xF_slices_Equal_int_L1 != x103) then
      some false
    else
      (F_slices_Equal_int_L1 p1 restF_slices_Equal_int_L1 (iF_slices_Equal_int_L1 + 1))
def F_slices_Equal_int (p0 : (List Int)) (p1 : (List Int)) : Option Bool :=
  if ((p0.length : Int) != (p1.length : Int)) then
    some false
  else
    F_slices_Equal_int_L1 p1 p0 0


def F_shape_Set__push (p0 : (List TBand)) (p1 : TBand) : Option (List TBand) :=
  if (((p1.Xs.length : Int) == 0) || (decide (p1.Y1 ≤ p1.Y0))) then
    some p0
  else
    (if (decide (0 ≤ (w64 ((p0.length : Int) - 1)))) then 
      (idx p0 (w64 ((p0.length : Int) - 1))).bind fun x103 =>
      some (x103.Y1 == p1.Y0)
     else some false).bind fun g102 =>
    (if g102 then 
      (idx p0 (w64 ((p0.length : Int) - 1))).bind fun x108 =>
      (F_slices_Equal_int x108.Xs p1.Xs).bind fun y110 =>
      some y110
     else some false).bind fun g107 =>
    if g107 then
      (idx p0 (w64 ((p0.length : Int) - 1))).bind fun x111 =>
      (sets p0 (w64 ((p0.length : Int) - 1)) (TBand.mk x111.Y0 p1.Y1 x111.Xs)).bind fun l112 =>
      some l112
    else
      (apd p0 [p1]).bind fun l114 =>
      some l114

noncomputable def F_shape_SetOf_L5 (y102 : (List TRect)) (y122 : (List Int)) (x229 : Int) (l230 : List TBand) (kF_shape_SetOf_L4 : Int → (List TBand) → (List TRect) → Int → Option (List TBand)) : Nat → List TRect → Int → Option (List TBand)
  | 0, _, _ => none
  | mF_shape_SetOf_L5 + 1, l257, x258 =>
    (if (decide (x258 < (y102.length : Int))) then 
      (idx y102 x258).bind fun x262 =>
      (idx y122 x229).bind fun x263 =>
      some (decide (x262.Y0 ≤ x263))
     else some false).bind fun g261 =>
    if g261 then
      (idx y102 x258).bind fun x264 =>
      (apd l257 [x264]).bind fun l266 =>
      (F_shape_SetOf_L5 y102 y122 x229 l230 kF_shape_SetOf_L4 mF_shape_SetOf_L5) l266 (w64 (x258 + 1))
    else
      (idx y122 x229).bind fun x268 =>
      (idx y122 (w64 (x229 + 1))).bind fun x269 =>
      (F_shape_stretches l257).bind fun y270 =>
      (F_shape_Set__push l230 (TBand.mk x268 x269 y270.1)).bind fun y274 =>
      kF_shape_SetOf_L4 (w64 (x229 + 1)) y274 y270.2 x258
noncomputable def F_shape_SetOf_L4 (N : Nat) (y102 : (List TRect)) (y122 : (List Int)) : Nat → Int → List TBand → List TRect → Int → Option (List TBand)
  | 0, _, _, _, _ => none
  | mF_shape_SetOf_L4 + 1, x229, l230, l231, x232 =>
    if (decide ((w64 (x229 + 1)) < (y122.length : Int))) then
      (F_slices_DeleteFunc_Rect N l231 (fun z0 => F_shape_SetOf_2 z0 y122 x229)).bind fun y233 =>
      F_shape_SetOf_L5 y102 y122 x229 l230 (F_shape_SetOf_L4 N y102 y122 mF_shape_SetOf_L4) N y233 x232
    else
      some l230
noncomputable def F_shape_SetOf_L1 (N : Nat) (y102 : (List TRect)) : List TRect → Nat → List Int → Option (List TBand)
  | [], iF_shape_SetOf_L1, l119 =>
    (srtI l119).bind fun y120 =>
    (cpI y120).bind fun y122 =>
    F_shape_SetOf_L4 N y102 y122 N 0 ([] : List TBand) ([] : List TRect) 0
  | xF_shape_SetOf_L1 :: restF_shape_SetOf_L1, iF_shape_SetOf_L1, l119 =>
    (apd l119 [xF_shape_SetOf_L1.Y0, xF_shape_SetOf_L1.Y1]).bind fun l279 =>
    (F_shape_SetOf_L1 N y102 restF_shape_SetOf_L1 (iF_shape_SetOf_L1 + 1)) l279
noncomputable def F_shape_SetOf (N : Nat) (p0 : (List TRect)) : Option (List TBand) :=
  (F_slices_Clone_Rect p0).bind fun y100 =>
  (srtF y100 (fun z0 z1 => F_shape_SetOf_1 z0 z1)).bind fun y102 =>
  F_shape_SetOf_L1 N y102 y102 0 ([] : List Int)

def F_shape_Set__Rects_L4 (kF_shape_Set__Rects_L3 : (List TRect) → Option (List TRect)) (xF_shape_Set__Rects_L3 : TBand) : Nat → List TRect → Int → Option (List TRect)
  | 0, _, _ => none
  | mF_shape_Set__Rects_L4 + 1, l169, x170 =>
    if (decide (x170 < (xF_shape_Set__Rects_L3.Xs.length : Int))) then
      (idx xF_shape_Set__Rects_L3.Xs x170).bind fun x172 =>
      (idx xF_shape_Set__Rects_L3.Xs (w64 (x170 + 1))).bind fun x173 =>
      (apd l169 [(TRect.mk x172 xF_shape_Set__Rects_L3.Y0 x173 xF_shape_Set__Rects_L3.Y1)]).bind fun l174 =>
      (F_shape_Set__Rects_L4 kF_shape_Set__Rects_L3 xF_shape_Set__Rects_L3 mF_shape_Set__Rects_L4) l174 (w64 (x170 + 2))
    else
      kF_shape_Set__Rects_L3 l169
def F_shape_Set__Rects_L3 (N : Nat) : List TBand → Nat → List TRect → Option (List TRect)
  | [], iF_shape_Set__Rects_L3, l152 =>
    some l152
  | xF_shape_Set__Rects_L3 :: restF_shape_Set__Rects_L3, iF_shape_Set__Rects_L3, l152 =>
    F_shape_Set__Rects_L4 (F_shape_Set__Rects_L3 N restF_shape_Set__Rects_L3 (iF_shape_Set__Rects_L3 + 1)) xF_shape_Set__Rects_L3 N l152 0
def F_shape_Set__Rects (N : Nat) (p0 : (List TBand)) : Option (List TRect) :=
  F_shape_Set__Rects_L3 N p0 0 ([] : List TRect)

def F_slices_Equal_Rect_L1 (p1 : (List TRect)) : List TRect → Nat → Option Bool
  | [], iF_slices_Equal_Rect_L1 =>
    some true
  | xF_slices_Equal_Rect_L1 :: restF_slices_Equal_Rect_L1, iF_slices_Equal_Rect_L1 =>
    (idx p1 (iF_slices_Equal_Rect_L1 : Int)).bind fun x103 =>
    if (!(eqTRect xF_slices_Equal_Rect_L1 x103)) then
      some false
    else
      (F_slices_Equal_Rect_L1 p1 restF_slices_Equal_Rect_L1 (iF_slices_Equal_Rect_L1 + 1))
def F_slices_Equal_Rect (p0 : (List TRect)) (p1 : (List TRect)) : Option Bool :=
  if ((p0.length : Int) != (p1.length : Int)) then
    some false
  else
    F_slices_Equal_Rect_L1 p1 p0 0

noncomputable def F_shape_CheckRegion_L1 (N : Nat) (p0 : (List TRect)) : Nat → Int → Option Int
  | 0, _ => none
  | mF_shape_CheckRegion_L1 + 1, x116 =>
    if (decide (x116 < (p0.length : Int))) then
      (idx p0 (w64 (x116 - 1))).bind fun x118 =>
      (idx p0 x116).bind fun x119 =>
      if ((decide (x119.Y0 < x118.Y0)) || ((x119.Y0 == x118.Y0) && (decide (x119.X0 ≤ x118.X0)))) then
        some 8
      else
        (F_shape_CheckRegion_L1 N p0 mF_shape_CheckRegion_L1) (w64 (x116 + 1))
    else
      (F_shape_SetOf N p0).bind fun y123 =>
      (F_shape_Set__Rects N y123).bind fun y125 =>
      (F_slices_Equal_Rect y125 p0).bind fun y127 =>
      if (!y127) then
        some 3
      else
        some 0
noncomputable def F_shape_CheckRegion (N : Nat) (p0 : (List TRect)) : Option Int :=
  (F_shape_CheckRects p0).bind fun y100 =>
  if (y100 != 0) then
    some y100
  else
    F_shape_CheckRegion_L1 N p0 N 1


def F_shape_Set__at (p0 : (List TBand)) (p1 : Int) (p2 : Int) : Option ((List Int) × Int) :=
  if ((p0.length : Int) == 0) then
    some (([] : List Int), p2)
  else
    (idx p0 0).bind fun x102 =>
    if (decide (p1 < x102.Y0)) then
      (idx p0 0).bind fun x104 =>
      some ([], (min p2 x104.Y0))
    else
      (idx p0 0).bind fun x106 =>
      (idx p0 0).bind fun x108 =>
      some (x106.Xs, (min p2 x108.Y1))

def F_shape_line_J8 (p2 : Bool → Bool → Option Bool) (l232 : List Int) (x235 : Bool) (kF_shape_line_L7 : (List Int) → (List Int) → (List Int) → Bool → Bool → Bool → Option (List Int)) (x249 : Int) (l256 : List Int) (x257 : Bool) (l264 : List Int) (x265 : Bool) : Option (List Int) :=
  (p2 x257 x265).bind fun y268 =>
  if (y268 != x235) then
    (apd l232 [x249]).bind fun l270 =>
    kF_shape_line_L7 l256 l264 l270 x257 x265 y268
  else
    kF_shape_line_L7 l256 l264 l232 x257 x265 x235
def F_shape_line_J9 (p2 : Bool → Bool → Option Bool) (l231 : List Int) (l232 : List Int) (x234 : Bool) (x235 : Bool) (kF_shape_line_L7 : (List Int) → (List Int) → (List Int) → Bool → Bool → Bool → Option (List Int)) (x249 : Int) (l256 : List Int) (x257 : Bool) : Option (List Int) :=
  (if (decide (0 < (l231.length : Int))) then 
    (idx l231 0).bind fun x273 =>
    some (x273 == x249)
   else some false).bind fun g272 =>
  if g272 then
    (cut l231 1 (l231.length : Int)).bind fun l274 =>
    F_shape_line_J8 p2 l232 x235 kF_shape_line_L7 x249 l256 x257 l274 (!x234)
  else
    F_shape_line_J8 p2 l232 x235 kF_shape_line_L7 x249 l256 x257 l231 x234
def F_shape_line_J10 (p2 : Bool → Bool → Option Bool) (l230 : List Int) (l231 : List Int) (l232 : List Int) (x233 : Bool) (x234 : Bool) (x235 : Bool) (kF_shape_line_L7 : (List Int) → (List Int) → (List Int) → Bool → Bool → Bool → Option (List Int)) (x249 : Int) : Option (List Int) :=
  (if (decide (0 < (l230.length : Int))) then 
    (idx l230 0).bind fun x277 =>
    some (x277 == x249)
   else some false).bind fun g276 =>
  if g276 then
    (cut l230 1 (l230.length : Int)).bind fun l278 =>
    F_shape_line_J9 p2 l231 l232 x234 x235 kF_shape_line_L7 x249 l278 (!x233)
  else
    F_shape_line_J9 p2 l231 l232 x234 x235 kF_shape_line_L7 x249 l230 x233
def F_shape_line_L7 (p2 : Bool → Bool → Option Bool) : Nat → List Int → List Int → List Int → Bool → Bool → Bool → Option (List Int)
  | 0, _, _, _, _, _, _ => none
  | mF_shape_line_L7 + 1, l230, l231, l232, x233, x234, x235 =>
    if ((decide (0 < (l230.length : Int))) || (decide (0 < (l231.length : Int)))) then
      (if ((l231.length : Int) == 0) then some true else 
        (if (decide (0 < (l230.length : Int))) then 
          (idx l230 0).bind fun x288 =>
          (idx l231 0).bind fun x289 =>
          some (decide (x288 ≤ x289))
         else some false).bind fun g287 =>
        some g287
      ).bind fun g284 =>
      if g284 then
        (idx l230 0).bind fun x290 =>
        F_shape_line_J10 p2 l230 l231 l232 x233 x234 x235 (F_shape_line_L7 p2 mF_shape_line_L7) x290
      else
        (idx l231 0).bind fun x291 =>
        F_shape_line_J10 p2 l230 l231 l232 x233 x234 x235 (F_shape_line_L7 p2 mF_shape_line_L7) x291
    else
      some l232
def F_shape_line (N : Nat) (p0 : (List Int)) (p1 : (List Int)) (p2 : Bool → Bool → Option Bool) : Option (List Int) :=
  F_shape_line_L7 p2 N p0 p1 ([] : List Int) false false false

def F_shape_Merge_J4 (l152 : List (List TBand)) (x153 : Int) (kF_shape_Merge_L3 : Int → Int → (List (List TBand)) → Int → Option (List TBand)) (x154 : (List TBand)) (x160 : Int) (x161 : Int) : Option (List TBand) :=
  (idx x154 0).bind fun x164 =>
  (idx x154 (w64 ((x154.length : Int) - 1))).bind fun x166 =>
  kF_shape_Merge_L3 (min x160 x164.Y0) (max x161 x166.Y1) l152 (w64 (x153 + 1))
def F_shape_Merge_L11 (N : Nat) (p2 : Bool → Bool → Option Bool) (x151 : Int) (l294 : List TBand) (x295 : Int) (kF_shape_Merge_L9 : (List TBand) → (List TBand) → (List TBand) → Int → Option (List TBand)) (l311 : List TBand) : Nat → List TBand → Option (List TBand)
  | 0, _ => none
  | mF_shape_Merge_L11 + 1, l333 =>
    (if (decide (0 < (l333.length : Int))) then 
      (idx l333 0).bind fun x337 =>
      some (decide (x337.Y1 ≤ x295))
     else some false).bind fun g336 =>
    if g336 then
      (cut l333 1 (l333.length : Int)).bind fun l339 =>
      (F_shape_Merge_L11 N p2 x151 l294 x295 kF_shape_Merge_L9 l311 mF_shape_Merge_L11) l339
    else
      (F_shape_Set__at l311 x295 x151).bind fun y340 =>
      (F_shape_Set__at l333 x295 x151).bind fun y342 =>
      (F_shape_line N y340.1 y342.1 p2).bind fun y344 =>
      (F_shape_Set__push l294 (TBand.mk x295 (min y340.2 y342.2) y344)).bind fun y348 =>
      kF_shape_Merge_L9 l311 l333 y348 (min y340.2 y342.2)
def F_shape_Merge_L10 (N : Nat) (p2 : Bool → Bool → Option Bool) (x151 : Int) (l293 : List TBand) (l294 : List TBand) (x295 : Int) (kF_shape_Merge_L9 : (List TBand) → (List TBand) → (List TBand) → Int → Option (List TBand)) : Nat → List TBand → Option (List TBand)
  | 0, _ => none
  | mF_shape_Merge_L10 + 1, l311 =>
    (if (decide (0 < (l311.length : Int))) then 
      (idx l311 0).bind fun x315 =>
      some (decide (x315.Y1 ≤ x295))
     else some false).bind fun g314 =>
    if g314 then
      (cut l311 1 (l311.length : Int)).bind fun l317 =>
      (F_shape_Merge_L10 N p2 x151 l293 l294 x295 kF_shape_Merge_L9 mF_shape_Merge_L10) l317
    else
      F_shape_Merge_L11 N p2 x151 l294 x295 kF_shape_Merge_L9 l311 N l293
def F_shape_Merge_L9 (N : Nat) (p2 : Bool → Bool → Option Bool) (x151 : Int) : Nat → List TBand → List TBand → List TBand → Int → Option (List TBand)
  | 0, _, _, _, _ => none
  | mF_shape_Merge_L9 + 1, l292, l293, l294, x295 =>
    if (decide (x295 < x151)) then
      F_shape_Merge_L10 N p2 x151 l293 l294 x295 (F_shape_Merge_L9 N p2 x151 mF_shape_Merge_L9) N l292
    else
      some l294
def F_shape_Merge_L3 (N : Nat) (p0 : (List TBand)) (p1 : (List TBand)) (p2 : Bool → Bool → Option Bool) : Nat → Int → Int → List (List TBand) → Int → Option (List TBand)
  | 0, _, _, _, _ => none
  | mF_shape_Merge_L3 + 1, x150, x151, l152, x153 =>
    if (decide (x153 < 2)) then
      (idx l152 x153).bind fun x154 =>
      if (decide (0 < (x154.length : Int))) then
        if ((x153 == 0) || ((p0.length : Int) == 0)) then
          (idx x154 0).bind fun x168 =>
          (idx x154 (w64 ((x154.length : Int) - 1))).bind fun x170 =>
          F_shape_Merge_J4 l152 x153 (F_shape_Merge_L3 N p0 p1 p2 mF_shape_Merge_L3) x154 x168.Y0 x170.Y1
        else
          F_shape_Merge_J4 l152 x153 (F_shape_Merge_L3 N p0 p1 p2 mF_shape_Merge_L3) x154 x150 x151
      else
        (F_shape_Merge_L3 N p0 p1 p2 mF_shape_Merge_L3) x150 x151 l152 (w64 (x153 + 1))
    else
      F_shape_Merge_L9 N p2 x151 N p0 p1 ([] : List TBand) x150
def F_shape_Merge (N : Nat) (p0 : (List TBand)) (p1 : (List TBand)) (p2 : Bool → Bool → Option Bool) : Option (List TBand) :=
  if ((w64 ((p0.length : Int) + (p1.length : Int))) == 0) then
    some ([] : List TBand)
  else
    F_shape_Merge_L3 N p0 p1 p2 N 0 0 [p0, p1] 0


def F_shape_Set__Less_1 (p0 : Bool) (p1 : Bool) : Option Bool :=
  some (p0 && (!p1))


def F_shape_Set__Less (N : Nat) (p0 : (List TBand)) (p1 : (List TBand)) : Option (List TBand) :=
  (F_shape_Merge N p0 p1 (fun z0 z1 => F_shape_Set__Less_1 z0 z1)).bind fun y100 =>
  some y100


def F_shape_Set__In (N : Nat) (p0 : (List TBand)) (p1 : (List TBand)) : Option Bool :=
  (F_shape_Set__Less N p0 p1).bind fun y100 =>
  some ((y100.length : Int) == 0)

def F_panel_turnOf_J1 (p1 : TSlot) (x108 : Int) (x109 : Int) : Option TTurn :=
  some (TTurn.mk false p1.Quarters (TPoint.mk x108 x109))
def F_panel_turnOf (p0 : TPanel) (p1 : TSlot) : Option TTurn :=
  (F_panel_kindAt p0 p1.Board).bind fun y104 =>
  (idx p0.Kinds y104).bind fun x105 =>
  if (p1.Quarters == 1) then
    F_panel_turnOf_J1 p1 (w64 (p1.At.X + x105.H)) p1.At.Y
  else
    if (p1.Quarters == 2) then
      F_panel_turnOf_J1 p1 (w64 (p1.At.X + x105.W)) (w64 (p1.At.Y + x105.H))
    else
      if (p1.Quarters == 3) then
        F_panel_turnOf_J1 p1 p1.At.X (w64 (p1.At.Y + x105.W))
      else
        F_panel_turnOf_J1 p1 p1.At.X p1.At.Y

def F_shape_TurnPoint_L1 (p1 : TTurn) : Nat → Int → Int → Int → Option TPoint
  | 0, _, _, _ => none
  | mF_shape_TurnPoint_L1 + 1, x115, x116, x117 =>
    if (decide (x117 < p1.Quarters)) then
      (F_shape_TurnPoint_L1 p1 mF_shape_TurnPoint_L1) (w64 (0 - x116)) x115 (w64 (x117 + 1))
    else
      some (TPoint.mk (w64 (x115 + p1.At.X)) (w64 (x116 + p1.At.Y)))
def F_shape_TurnPoint_J2 (N : Nat) (p0 : TPoint) (p1 : TTurn) (x103 : Int) : Option TPoint :=
  F_shape_TurnPoint_L1 p1 N x103 p0.Y 0
def F_shape_TurnPoint (N : Nat) (p0 : TPoint) (p1 : TTurn) : Option TPoint :=
  if p1.Flip then
    F_shape_TurnPoint_J2 N p0 p1 (w64 (0 - p0.X))
  else
    F_shape_TurnPoint_J2 N p0 p1 p0.X


def F_shape_TurnRect (N : Nat) (p0 : TRect) (p1 : TTurn) : Option TRect :=
  (F_shape_TurnPoint N (TPoint.mk p0.X0 p0.Y0) p1).bind fun y104 =>
  (F_shape_TurnPoint N (TPoint.mk p0.X1 p0.Y1) p1).bind fun y105 =>
  some (TRect.mk (min y104.X y105.X) (min y104.Y y105.Y) (max y104.X y105.X) (max y104.Y y105.Y))

def F_shape_Set__Many_L1 : List TBand → Nat → Int → Option Int
  | [], iF_shape_Set__Many_L1, x112 =>
    some x112
  | xF_shape_Set__Many_L1 :: restF_shape_Set__Many_L1, iF_shape_Set__Many_L1, x112 =>
    (F_shape_Set__Many_L1 restF_shape_Set__Many_L1 (iF_shape_Set__Many_L1 + 1)) (w64 (x112 + (w64 (Int.tdiv (xF_shape_Set__Many_L1.Xs.length : Int) 2))))
def F_shape_Set__Many (p0 : (List TBand)) : Option Int :=
  F_shape_Set__Many_L1 p0 0 0


def F_shape_Set__Told (N : Nat) (p0 : (List TBand)) : Option ((List TRect) × Int) :=
  (F_shape_Set__Many p0).bind fun y100 =>
  if (decide (2000 < y100)) then
    some (([] : List TRect), 2)
  else
    (F_shape_Set__Rects N p0).bind fun y101 =>
    some (y101, 0)

def F_panel_Copper_L4 (N : Nat) (kF_panel_Copper_L3 : (List TRect) → Option ((List TRect) × Int)) (y179 : TTurn) : List TRect → Nat → List TRect → Option ((List TRect) × Int)
  | [], iF_panel_Copper_L4, l197 =>
    kF_panel_Copper_L3 l197
  | xF_panel_Copper_L4 :: restF_panel_Copper_L4, iF_panel_Copper_L4, l197 =>
    (F_shape_TurnRect N xF_panel_Copper_L4 y179).bind fun y199 =>
    (apd l197 [y199]).bind fun l201 =>
    (F_panel_Copper_L4 N kF_panel_Copper_L3 y179 restF_panel_Copper_L4 (iF_panel_Copper_L4 + 1)) l201
noncomputable def F_panel_Copper_L3 (N : Nat) (p0 : TPanel) (p1 : ByteArray) (p2 : (List TRect)) : List TSlot → Nat → List TRect → Option ((List TRect) × Int)
  | [], iF_panel_Copper_L3, l173 =>
    (F_shape_SetOf N l173).bind fun y174 =>
    (F_shape_Set__Told N y174).bind fun y176 =>
    some (y176.1, y176.2)
  | xF_panel_Copper_L3 :: restF_panel_Copper_L3, iF_panel_Copper_L3, l173 =>
    if (sEq xF_panel_Copper_L3.Board p1) then
      (F_panel_turnOf p0 xF_panel_Copper_L3).bind fun y179 =>
      F_panel_Copper_L4 N (F_panel_Copper_L3 N p0 p1 p2 restF_panel_Copper_L3 (iF_panel_Copper_L3 + 1)) y179 p2 0 l173
    else
      (F_panel_Copper_L3 N p0 p1 p2 restF_panel_Copper_L3 (iF_panel_Copper_L3 + 1)) l173
noncomputable def F_panel_Copper (N : Nat) (p0 : TPanel) (p1 : ByteArray) (p2 : (List TRect)) : Option ((List TRect) × Int) :=
  (F_panel_CheckPanel N p0).bind fun y101 =>
  if (y101 != 0) then
    some (([] : List TRect), y101)
  else
    (F_panel_kindAt p0 p1).bind fun y102 =>
    if (decide (y102 < 0)) then
      some (([] : List TRect), 9)
    else
      (F_shape_CheckRegion N p2).bind fun y103 =>
      if (y103 != 0) then
        some (([] : List TRect), y103)
      else
        (F_shape_SetOf N p2).bind fun y104 =>
        (idx p0.Kinds y102).bind fun x109 =>
        (idx p0.Kinds y102).bind fun x110 =>
        (F_shape_SetOf N [(TRect.mk 0 0 x109.W x110.H)]).bind fun y112 =>
        (F_shape_Set__In N y104 y112).bind fun y116 =>
        if (!y116) then
          some (([] : List TRect), 1)
        else
          F_panel_Copper_L3 N p0 p1 p2 p0.Slots 0 ([] : List TRect)


def F_etchhouseref9_within (p0 : Int) (p1 : Int) (p2 : Int) : Option Bool :=
  some ((decide (p1 ≤ p0)) && (decide (p0 ≤ p2)))


def F_etchhouseref3_within (p0 : Int) (p1 : Int) (p2 : Int) : Option Bool :=
  some ((decide (p1 ≤ p0)) && (decide (p0 ≤ p2)))

def F_etchhouseref3_IsName_L1 (p0 : ByteArray) : Nat → Int → Option Bool
  | 0, _ => none
  | mF_etchhouseref3_IsName_L1 + 1, x105 =>
    if (decide (x105 < (p0.size : Int))) then
      (strAt p0 x105).bind fun c106 =>
      if ((!(((decide (97 ≤ c106)) && (decide (c106 ≤ 122))) || ((decide (65 ≤ c106)) && (decide (c106 ≤ 90))))) && ((x105 == 0) || (((c106 != 95) && (c106 != 45)) && (!((decide (48 ≤ c106)) && (decide (c106 ≤ 57))))))) then
        some false
      else
        (F_etchhouseref3_IsName_L1 p0 mF_etchhouseref3_IsName_L1) (w64 (x105 + 1))
    else
      (F_etchhouseref3_within (p0.size : Int) 1 40).bind fun y107 =>
      some y107
def F_etchhouseref3_IsName (N : Nat) (p0 : ByteArray) : Option Bool :=
  F_etchhouseref3_IsName_L1 p0 N 0

def F_etchhouseref9_kind_L1 (p0 : TPanel) (p1 : ByteArray) : Nat → Int → Option Int
  | 0, _ => none
  | mF_etchhouseref9_kind_L1 + 1, x106 =>
    if (decide (x106 < (p0.Kinds.length : Int))) then
      (idx p0.Kinds x106).bind fun x107 =>
      if (sEq x107.Name p1) then
        some x106
      else
        (F_etchhouseref9_kind_L1 p0 p1 mF_etchhouseref9_kind_L1) (w64 (x106 + 1))
    else
      some (-1)
def F_etchhouseref9_kind (N : Nat) (p0 : TPanel) (p1 : ByteArray) : Option Int :=
  F_etchhouseref9_kind_L1 p0 p1 N 0


def F_etchhouseref9_sizeOf (p0 : TBoardKind) (p1 : Int) : Option (Int × Int) :=
  if ((Int.tmod p1 2) == 1) then
    some (p0.H, p0.W)
  else
    some (p0.W, p0.H)


def F_etchhouseref9_lies (p0 : TPanel) (p1 : TPoint) (p2 : Int) (p3 : Int) : Option Bool :=
  (F_etchhouseref9_within p1.X p0.Rail (w64 ((w64 (p0.W - p0.Rail)) - p2))).bind fun y102 =>
  (if y102 then 
    (F_etchhouseref9_within p1.Y p0.Rail (w64 ((w64 (p0.H - p0.Rail)) - p3))).bind fun y105 =>
    some y105
   else some false).bind fun g104 =>
  some g104


def F_etchhouseref9_cellOf (N : Nat) (p0 : TPanel) (p1 : TSlot) : Option TRect :=
  (F_etchhouseref9_kind N p0 p1.Board).bind fun y103 =>
  (idx p0.Kinds y103).bind fun x104 =>
  (F_etchhouseref9_sizeOf x104 p1.Quarters).bind fun y105 =>
  some (TRect.mk p1.At.X p1.At.Y (w64 (p1.At.X + y105.1)) (w64 (p1.At.Y + y105.2)))


def F_etchhouseref9_apart (p0 : TRect) (p1 : TRect) (p2 : Int) : Option Bool :=
  some ((((decide ((w64 (p0.X1 + p2)) ≤ p1.X0)) || (decide ((w64 (p1.X1 + p2)) ≤ p0.X0))) || (decide ((w64 (p0.Y1 + p2)) ≤ p1.Y0))) || (decide ((w64 (p1.Y1 + p2)) ≤ p0.Y0)))

def F_etchhouseref9_checkSlot_L1 (N : Nat) (p0 : TPanel) (p1 : Int) (x101 : TSlot) : Nat → Int → Option Int
  | 0, _ => none
  | mF_etchhouseref9_checkSlot_L1 + 1, x119 =>
    if (decide (x119 < p1)) then
      (F_etchhouseref9_cellOf N p0 x101).bind fun y120 =>
      (idx p0.Slots x119).bind fun x121 =>
      (F_etchhouseref9_cellOf N p0 x121).bind fun y122 =>
      (F_etchhouseref9_apart y120 y122 p0.Gap).bind fun y123 =>
      if (!y123) then
        some 12
      else
        (F_etchhouseref9_checkSlot_L1 N p0 p1 x101 mF_etchhouseref9_checkSlot_L1) (w64 (x119 + 1))
    else
      some 0
def F_etchhouseref9_checkSlot (N : Nat) (p0 : TPanel) (p1 : Int) : Option Int :=
  (idx p0.Slots p1).bind fun x101 =>
  (F_etchhouseref9_kind N p0 x101.Board).bind fun y103 =>
  if (decide (y103 < 0)) then
    some 5
  else
    (F_etchhouseref9_within x101.Quarters 0 3).bind fun y104 =>
    if (!y104) then
      some 1
    else
      (idx p0.Kinds y103).bind fun x105 =>
      (F_etchhouseref9_sizeOf x105 x101.Quarters).bind fun y106 =>
      (F_etchhouseref9_lies p0 x101.At y106.1 y106.2).bind fun y107 =>
      if (!y107) then
        some 1
      else
        F_etchhouseref9_checkSlot_L1 N p0 p1 x101 N 0

def F_etchhouseref9_checkMark_L2 (p0 : TPanel) (p1 : Int) (x101 : TPoint) : Nat → Int → Option Int
  | 0, _ => none
  | mF_etchhouseref9_checkMark_L2 + 1, x125 =>
    if (decide (x125 < p1)) then
      (idx p0.Marks x125).bind fun x126 =>
      if (eqTPoint x126 x101) then
        some 7
      else
        (F_etchhouseref9_checkMark_L2 p0 p1 x101 mF_etchhouseref9_checkMark_L2) (w64 (x125 + 1))
    else
      some 0
def F_etchhouseref9_checkMark_L1 (N : Nat) (p0 : TPanel) (p1 : Int) (x101 : TPoint) : Nat → Int → Option Int
  | 0, _ => none
  | mF_etchhouseref9_checkMark_L1 + 1, x116 =>
    if (decide (x116 < (p0.Slots.length : Int))) then
      (idx p0.Slots x116).bind fun x118 =>
      (F_etchhouseref9_cellOf N p0 x118).bind fun y119 =>
      if ((((decide (y119.X0 < x101.X)) && (decide (x101.X < y119.X1))) && (decide (y119.Y0 < x101.Y))) && (decide (x101.Y < y119.Y1))) then
        some 12
      else
        (F_etchhouseref9_checkMark_L1 N p0 p1 x101 mF_etchhouseref9_checkMark_L1) (w64 (x116 + 1))
    else
      F_etchhouseref9_checkMark_L2 p0 p1 x101 N 0
def F_etchhouseref9_checkMark (N : Nat) (p0 : TPanel) (p1 : Int) : Option Int :=
  (idx p0.Marks p1).bind fun x101 =>
  (F_etchhouseref9_within x101.X 0 p0.W).bind fun y103 =>
  (if (!y103) then some true else 
    (F_etchhouseref9_within x101.Y 0 p0.H).bind fun y106 =>
    some (!y106)
  ).bind fun g105 =>
  if g105 then
    some 1
  else
    F_etchhouseref9_checkMark_L1 N p0 p1 x101 N 0

def F_etchhouseref9_CheckPanel_L3 (N : Nat) (p0 : TPanel) : Nat → Int → Option Int
  | 0, _ => none
  | mF_etchhouseref9_CheckPanel_L3 + 1, x157 =>
    if (decide (x157 < (p0.Marks.length : Int))) then
      (F_etchhouseref9_checkMark N p0 x157).bind fun y158 =>
      if (y158 != 0) then
        some y158
      else
        (F_etchhouseref9_CheckPanel_L3 N p0 mF_etchhouseref9_CheckPanel_L3) (w64 (x157 + 1))
    else
      some 0
def F_etchhouseref9_CheckPanel_L2 (N : Nat) (p0 : TPanel) : Nat → Int → Option Int
  | 0, _ => none
  | mF_etchhouseref9_CheckPanel_L2 + 1, x150 =>
    if (decide (x150 < (p0.Slots.length : Int))) then
      (F_etchhouseref9_checkSlot N p0 x150).bind fun y151 =>
      if (y151 != 0) then
        some y151
      else
        (F_etchhouseref9_CheckPanel_L2 N p0 mF_etchhouseref9_CheckPanel_L2) (w64 (x150 + 1))
    else
      if (decide (10 < (p0.Marks.length : Int))) then
        some 2
      else
        F_etchhouseref9_CheckPanel_L3 N p0 N 0
def F_etchhouseref9_CheckPanel_L1 (N : Nat) (p0 : TPanel) : Nat → Int → Option Int
  | 0, _ => none
  | mF_etchhouseref9_CheckPanel_L1 + 1, x134 =>
    if (decide (x134 < (p0.Kinds.length : Int))) then
      (idx p0.Kinds x134).bind fun x135 =>
      (F_etchhouseref3_IsName N x135.Name).bind fun y137 =>
      if (!y137) then
        some 5
      else
        (F_etchhouseref9_within x135.W 1 1000000).bind fun y138 =>
        (if (!y138) then some true else 
          (F_etchhouseref9_within x135.H 1 1000000).bind fun y141 =>
          some (!y141)
        ).bind fun g140 =>
        if g140 then
          some 1
        else
          (if (decide (0 < x134)) then 
            (idx p0.Kinds (w64 (x134 - 1))).bind fun x144 =>
            some (sLt x135.Name x144.Name || sEq x135.Name x144.Name)
           else some false).bind fun g143 =>
          if g143 then
            some 8
          else
            (F_etchhouseref9_CheckPanel_L1 N p0 mF_etchhouseref9_CheckPanel_L1) (w64 (x134 + 1))
    else
      if (decide (500 < (p0.Slots.length : Int))) then
        some 2
      else
        F_etchhouseref9_CheckPanel_L2 N p0 N 0
def F_etchhouseref9_CheckPanel (N : Nat) (p0 : TPanel) : Option Int :=
  (F_etchhouseref9_within p0.W 1 1000000).bind fun y101 =>
  (if (!y101) then some true else 
    (F_etchhouseref9_within p0.H 1 1000000).bind fun y104 =>
    some (!y104)
  ).bind fun g103 =>
  (if g103 then some true else 
    (F_etchhouseref9_within p0.Rail 0 1000000).bind fun y107 =>
    some (!y107)
  ).bind fun g106 =>
  (if g106 then some true else 
    (F_etchhouseref9_within p0.Gap 0 1000000).bind fun y110 =>
    some (!y110)
  ).bind fun g109 =>
  if g109 then
    some 1
  else
    if (decide (50 < (p0.Kinds.length : Int))) then
      some 2
    else
      F_etchhouseref9_CheckPanel_L1 N p0 N 0


def F_etchhouseref1_within (p0 : Int) (p1 : Int) (p2 : Int) : Option Bool :=
  some ((decide (p1 ≤ p0)) && (decide (p0 ≤ p2)))


def F_etchhouseref1_At (p0 : Int) : Option Bool :=
  (F_etchhouseref1_within p0 (-1000000) 1000000).bind fun y100 =>
  some y100

def F_etchhouseref1_CheckRects_L1 (p0 : (List TRect)) : Nat → Int → Option Int
  | 0, _ => none
  | mF_etchhouseref1_CheckRects_L1 + 1, x127 =>
    if (decide (x127 < (p0.length : Int))) then
      (idx p0 x127).bind fun x128 =>
      (F_etchhouseref1_At x128.X0).bind fun y130 =>
      (if (!y130) then some true else 
        (F_etchhouseref1_At x128.Y0).bind fun y133 =>
        some (!y133)
      ).bind fun g132 =>
      (if g132 then some true else 
        (F_etchhouseref1_At x128.X1).bind fun y136 =>
        some (!y136)
      ).bind fun g135 =>
      (if g135 then some true else 
        (F_etchhouseref1_At x128.Y1).bind fun y139 =>
        some (!y139)
      ).bind fun g138 =>
      if g138 then
        some 1
      else
        if ((decide (x128.X1 ≤ x128.X0)) || (decide (x128.Y1 ≤ x128.Y0))) then
          some 13
        else
          (F_etchhouseref1_CheckRects_L1 p0 mF_etchhouseref1_CheckRects_L1) (w64 (x127 + 1))
    else
      some 0
def F_etchhouseref1_CheckRects (N : Nat) (p0 : (List TRect)) : Option Int :=
  if (decide (2000 < (p0.length : Int))) then
    some 2
  else
    F_etchhouseref1_CheckRects_L1 p0 N 0


def F_etchhouseref1_before (p0 : TRect) (p1 : TRect) : Option Bool :=
  some ((decide (p0.Y0 < p1.Y0)) || ((p0.Y0 == p1.Y0) && (decide (p0.X0 < p1.X0))))

def F_etchhouseref1_put_L1 (p0 : (List Int)) (p1 : Int) : Nat → Int → Int → Option (List Int)
  | 0, _, _ => none
  | mF_etchhouseref1_put_L1 + 1, x108, x109 =>
    if (decide (x108 < x109)) then
      (idx p0 (w64 (Int.tdiv (w64 (x108 + x109)) 2))).bind fun x110 =>
      if (decide (x110 < p1)) then
        (F_etchhouseref1_put_L1 p0 p1 mF_etchhouseref1_put_L1) (w64 ((w64 (Int.tdiv (w64 (x108 + x109)) 2)) + 1)) x109
      else
        (F_etchhouseref1_put_L1 p0 p1 mF_etchhouseref1_put_L1) x108 (w64 (Int.tdiv (w64 (x108 + x109)) 2))
    else
      (if (decide (x108 < (p0.length : Int))) then 
        (idx p0 x108).bind fun x113 =>
        some (x113 == p1)
       else some false).bind fun g112 =>
      if g112 then
        some p0
      else
        (pre p0 x108).bind fun l114 =>
        (apd ([] : List Int) l114).bind fun l115 =>
        (apd l115 [p1]).bind fun l117 =>
        (cut p0 x108 (p0.length : Int)).bind fun l118 =>
        (apd l117 l118).bind fun l119 =>
        some l119
def F_etchhouseref1_put (N : Nat) (p0 : (List Int)) (p1 : Int) : Option (List Int) :=
  F_etchhouseref1_put_L1 p0 p1 N 0 (p0.length : Int)

def F_etchhouseref1_heights_L1 (N : Nat) (p0 : (List TRect)) : Nat → List Int → Int → Option (List Int)
  | 0, _, _ => none
  | mF_etchhouseref1_heights_L1 + 1, l122, x123 =>
    if (decide (x123 < (p0.length : Int))) then
      (idx p0 x123).bind fun x127 =>
      (idx p0 x123).bind fun x128 =>
      (F_etchhouseref1_put N l122 x127.Y0).bind fun y129 =>
      (F_etchhouseref1_put N y129 x128.Y1).bind fun y131 =>
      (F_etchhouseref1_heights_L1 N p0 mF_etchhouseref1_heights_L1) y131 (w64 (x123 + 1))
    else
      some l122
def F_etchhouseref1_heights (N : Nat) (p0 : (List TRect)) : Option (List Int) :=
  F_etchhouseref1_heights_L1 N p0 N ([] : List Int) 0

def F_etchhouseref1_joined_L2 (p0 : (List TSpan)) (l119 : List TSpan) : Nat → Int → Int → Int → Option (List TSpan)
  | 0, _, _, _ => none
  | mF_etchhouseref1_joined_L2 + 1, x148, x149, x150 =>
    (if (decide (x150 < (p0.length : Int))) then 
      (idx p0 x150).bind fun x153 =>
      some (decide (x153.from_ ≤ x149))
     else some false).bind fun g152 =>
    if g152 then
      (idx p0 x150).bind fun x155 =>
      (idx p0 x150).bind fun x156 =>
      (F_etchhouseref1_joined_L2 p0 l119 mF_etchhouseref1_joined_L2) (min x148 x155.from_) (max x149 x156.to_) (w64 (x150 + 1))
    else
      (apd l119 [(TSpan.mk x148 x149)]).bind fun l158 =>
      (cut p0 x150 (p0.length : Int)).bind fun l159 =>
      (apd l158 l159).bind fun l160 =>
      some l160
def F_etchhouseref1_joined_L1 (N : Nat) (p0 : (List TSpan)) (p1 : TSpan) : Nat → List TSpan → Int → Option (List TSpan)
  | 0, _, _ => none
  | mF_etchhouseref1_joined_L1 + 1, l119, x120 =>
    (if (decide (x120 < (p0.length : Int))) then 
      (idx p0 x120).bind fun x123 =>
      some (decide (x123.to_ < p1.from_))
     else some false).bind fun g122 =>
    if g122 then
      (idx p0 x120).bind fun x124 =>
      (apd l119 [x124]).bind fun l126 =>
      (F_etchhouseref1_joined_L1 N p0 p1 mF_etchhouseref1_joined_L1) l126 (w64 (x120 + 1))
    else
      F_etchhouseref1_joined_L2 p0 l119 N p1.from_ p1.to_ x120
def F_etchhouseref1_joined (N : Nat) (p0 : (List TSpan)) (p1 : TSpan) : Option (List TSpan) :=
  F_etchhouseref1_joined_L1 N p0 p1 N ([] : List TSpan) 0

def F_etchhouseref1_row_L1 (N : Nat) (p0 : (List TRect)) (p1 : Int) : Nat → List TSpan → Int → Option (List TSpan)
  | 0, _, _ => none
  | mF_etchhouseref1_row_L1 + 1, l122, x123 =>
    if (decide (x123 < (p0.length : Int))) then
      (idx p0 x123).bind fun x124 =>
      (if (decide (x124.Y0 ≤ p1)) then 
        (idx p0 x123).bind fun x127 =>
        some (decide (p1 < x127.Y1))
       else some false).bind fun g126 =>
      if g126 then
        (idx p0 x123).bind fun x128 =>
        (idx p0 x123).bind fun x129 =>
        (F_etchhouseref1_joined N l122 (TSpan.mk x128.X0 x129.X1)).bind fun y130 =>
        (F_etchhouseref1_row_L1 N p0 p1 mF_etchhouseref1_row_L1) y130 (w64 (x123 + 1))
      else
        (F_etchhouseref1_row_L1 N p0 p1 mF_etchhouseref1_row_L1) l122 (w64 (x123 + 1))
    else
      some l122
def F_etchhouseref1_row (N : Nat) (p0 : (List TRect)) (p1 : Int) : Option (List TSpan) :=
  F_etchhouseref1_row_L1 N p0 p1 N ([] : List TSpan) 0

def F_etchhouseref1_sameSpans_L1 (p0 : (List TSpan)) (p1 : (List TSpan)) : Nat → Int → Option Bool
  | 0, _ => none
  | mF_etchhouseref1_sameSpans_L1 + 1, x107 =>
    if (decide (x107 < (p0.length : Int))) then
      (idx p0 x107).bind fun x108 =>
      (idx p1 x107).bind fun x109 =>
      if (!(eqTSpan x108 x109)) then
        some false
      else
        (F_etchhouseref1_sameSpans_L1 p0 p1 mF_etchhouseref1_sameSpans_L1) (w64 (x107 + 1))
    else
      some true
def F_etchhouseref1_sameSpans (N : Nat) (p0 : (List TSpan)) (p1 : (List TSpan)) : Option Bool :=
  if ((p0.length : Int) != (p1.length : Int)) then
    some false
  else
    F_etchhouseref1_sameSpans_L1 p0 p1 N 0


def F_etchhouseref1_stacked (N : Nat) (p0 : (List Tetchhouseref1Band)) (p1 : Tetchhouseref1Band) : Option (List Tetchhouseref1Band) :=
  if ((p1.spans.length : Int) == 0) then
    some p0
  else
    (if (decide (0 < (p0.length : Int))) then 
      (idx p0 (w64 ((p0.length : Int) - 1))).bind fun x103 =>
      some (x103.to_ == p1.from_)
     else some false).bind fun g102 =>
    (if g102 then 
      (idx p0 (w64 ((p0.length : Int) - 1))).bind fun x108 =>
      (F_etchhouseref1_sameSpans N x108.spans p1.spans).bind fun y110 =>
      some y110
     else some false).bind fun g107 =>
    if g107 then
      (idx p0 (w64 ((p0.length : Int) - 1))).bind fun x111 =>
      (sets p0 (w64 ((p0.length : Int) - 1)) (Tetchhouseref1Band.mk x111.from_ p1.to_ x111.spans)).bind fun l112 =>
      some l112
    else
      (apd p0 [p1]).bind fun l114 =>
      some l114

def F_etchhouseref1_told_L4 (p0 : (List Tetchhouseref1Band)) (x207 : Int) (kF_etchhouseref1_told_L3 : (List TRect) → Int → Option (List TRect)) : Nat → List TRect → Int → Option (List TRect)
  | 0, _, _ => none
  | mF_etchhouseref1_told_L4 + 1, l242, x243 =>
    (idx p0 x207).bind fun x244 =>
    if (decide (x243 < (x244.spans.length : Int))) then
      (idx p0 x207).bind fun x247 =>
      (idx x247.spans x243).bind fun x249 =>
      (idx p0 x207).bind fun x250 =>
      (idx p0 x207).bind fun x252 =>
      (idx x252.spans x243).bind fun x254 =>
      (idx p0 x207).bind fun x255 =>
      (apd l242 [(TRect.mk x249.from_ x250.from_ x254.to_ x255.to_)]).bind fun l257 =>
      (F_etchhouseref1_told_L4 p0 x207 kF_etchhouseref1_told_L3 mF_etchhouseref1_told_L4) l257 (w64 (x243 + 1))
    else
      kF_etchhouseref1_told_L3 l242 (w64 (x207 + 1))
def F_etchhouseref1_told_L3 (N : Nat) (p0 : (List Tetchhouseref1Band)) : Nat → List TRect → Int → Option (List TRect)
  | 0, _, _ => none
  | mF_etchhouseref1_told_L3 + 1, l206, x207 =>
    if (decide (x207 < (p0.length : Int))) then
      F_etchhouseref1_told_L4 p0 x207 (F_etchhouseref1_told_L3 N p0 mF_etchhouseref1_told_L3) N l206 0
    else
      some l206
def F_etchhouseref1_told (N : Nat) (p0 : (List Tetchhouseref1Band)) : Option (List TRect) :=
  F_etchhouseref1_told_L3 N p0 N ([] : List TRect) 0

def F_etchhouseref1_Canonical_L1 (N : Nat) (p0 : (List TRect)) (y100 : (List Int)) : Nat → List Tetchhouseref1Band → Int → Option (List TRect)
  | 0, _, _ => none
  | mF_etchhouseref1_Canonical_L1 + 1, l128, x129 =>
    if (decide (x129 < (y100.length : Int))) then
      (idx y100 (w64 (x129 - 1))).bind fun x131 =>
      (idx y100 x129).bind fun x132 =>
      (idx y100 (w64 (x129 - 1))).bind fun x133 =>
      (F_etchhouseref1_row N p0 x133).bind fun y134 =>
      (F_etchhouseref1_stacked N l128 (Tetchhouseref1Band.mk x131 x132 y134)).bind fun y138 =>
      (F_etchhouseref1_Canonical_L1 N p0 y100 mF_etchhouseref1_Canonical_L1) y138 (w64 (x129 + 1))
    else
      (F_etchhouseref1_told N l128).bind fun y140 =>
      some y140
def F_etchhouseref1_Canonical (N : Nat) (p0 : (List TRect)) : Option (List TRect) :=
  (F_etchhouseref1_heights N p0).bind fun y100 =>
  F_etchhouseref1_Canonical_L1 N p0 y100 N ([] : List Tetchhouseref1Band) 1

def F_etchhouseref1_SameRects_L1 (p0 : (List TRect)) (p1 : (List TRect)) : Nat → Int → Option Bool
  | 0, _ => none
  | mF_etchhouseref1_SameRects_L1 + 1, x107 =>
    if (decide (x107 < (p0.length : Int))) then
      (idx p0 x107).bind fun x108 =>
      (idx p1 x107).bind fun x109 =>
      if (!(eqTRect x108 x109)) then
        some false
      else
        (F_etchhouseref1_SameRects_L1 p0 p1 mF_etchhouseref1_SameRects_L1) (w64 (x107 + 1))
    else
      some true
def F_etchhouseref1_SameRects (N : Nat) (p0 : (List TRect)) (p1 : (List TRect)) : Option Bool :=
  if ((p0.length : Int) != (p1.length : Int)) then
    some false
  else
    F_etchhouseref1_SameRects_L1 p0 p1 N 0

def F_etchhouseref1_CheckRegion_L1 (N : Nat) (p0 : (List TRect)) : Nat → Int → Option Int
  | 0, _ => none
  | mF_etchhouseref1_CheckRegion_L1 + 1, x110 =>
    if (decide (x110 < (p0.length : Int))) then
      (idx p0 (w64 (x110 - 1))).bind fun x111 =>
      (idx p0 x110).bind fun x112 =>
      (F_etchhouseref1_before x111 x112).bind fun y113 =>
      if (!y113) then
        some 8
      else
        (F_etchhouseref1_CheckRegion_L1 N p0 mF_etchhouseref1_CheckRegion_L1) (w64 (x110 + 1))
    else
      (F_etchhouseref1_Canonical N p0).bind fun y114 =>
      (F_etchhouseref1_SameRects N p0 y114).bind fun y116 =>
      if (!y116) then
        some 3
      else
        some 0
def F_etchhouseref1_CheckRegion (N : Nat) (p0 : (List TRect)) : Option Int :=
  (F_etchhouseref1_CheckRects N p0).bind fun y100 =>
  if (y100 != 0) then
    some y100
  else
    F_etchhouseref1_CheckRegion_L1 N p0 N 1

def F_etchhouseref9_turnOf_J1 (p1 : TSlot) (x107 : Int) (x108 : Int) : Option TTurn :=
  some (TTurn.mk false p1.Quarters (TPoint.mk x107 x108))
def F_etchhouseref9_turnOf (N : Nat) (p0 : TPanel) (p1 : TSlot) : Option TTurn :=
  (F_etchhouseref9_kind N p0 p1.Board).bind fun y104 =>
  (idx p0.Kinds y104).bind fun x105 =>
  if (p1.Quarters == 1) then
    F_etchhouseref9_turnOf_J1 p1 (w64 (p1.At.X + x105.H)) p1.At.Y
  else
    if (p1.Quarters == 2) then
      F_etchhouseref9_turnOf_J1 p1 (w64 (p1.At.X + x105.W)) (w64 (p1.At.Y + x105.H))
    else
      if (p1.Quarters == 3) then
        F_etchhouseref9_turnOf_J1 p1 p1.At.X (w64 (p1.At.Y + x105.W))
      else
        F_etchhouseref9_turnOf_J1 p1 p1.At.X p1.At.Y

def F_etchhouseref1_around_L1 (p1 : TTurn) : Nat → Int → Int → Int → Option TPoint
  | 0, _, _, _ => none
  | mF_etchhouseref1_around_L1 + 1, x115, x116, x117 =>
    if (decide (x117 < p1.Quarters)) then
      (F_etchhouseref1_around_L1 p1 mF_etchhouseref1_around_L1) (w64 (0 - x116)) x115 (w64 (x117 + 1))
    else
      some (TPoint.mk x115 x116)
def F_etchhouseref1_around_J2 (N : Nat) (p0 : TPoint) (p1 : TTurn) (x103 : Int) : Option TPoint :=
  F_etchhouseref1_around_L1 p1 N x103 p0.Y 0
def F_etchhouseref1_around (N : Nat) (p0 : TPoint) (p1 : TTurn) : Option TPoint :=
  if p1.Flip then
    F_etchhouseref1_around_J2 N p0 p1 (w64 (0 - p0.X))
  else
    F_etchhouseref1_around_J2 N p0 p1 p0.X


def F_etchhouseref1_TurnPoint (N : Nat) (p0 : TPoint) (p1 : TTurn) : Option TPoint :=
  (F_etchhouseref1_around N p0 p1).bind fun y103 =>
  some (TPoint.mk (w64 (y103.X + p1.At.X)) (w64 (y103.Y + p1.At.Y)))


def F_etchhouseref1_TurnRect (N : Nat) (p0 : TRect) (p1 : TTurn) : Option TRect :=
  (F_etchhouseref1_TurnPoint N (TPoint.mk p0.X0 p0.Y0) p1).bind fun y104 =>
  (F_etchhouseref1_TurnPoint N (TPoint.mk p0.X1 p0.Y1) p1).bind fun y105 =>
  some (TRect.mk (min y104.X y105.X) (min y104.Y y105.Y) (max y104.X y105.X) (max y104.Y y105.Y))

def F_etchhouseref9_Copper_L5 (N : Nat) (p0 : TPanel) (p1 : ByteArray) (p2 : (List TRect)) (x227 : Int) (kF_etchhouseref9_Copper_L4 : (List TRect) → Int → Option ((List TRect) × Int)) : Nat → List TRect → Int → Option ((List TRect) × Int)
  | 0, _, _ => none
  | mF_etchhouseref9_Copper_L5 + 1, l252, x253 =>
    (if (decide (x253 < (p2.length : Int))) then 
      (idx p0.Slots x227).bind fun x256 =>
      some (sEq x256.Board p1)
     else some false).bind fun g255 =>
    if g255 then
      (idx p2 x253).bind fun x258 =>
      (idx p0.Slots x227).bind fun x259 =>
      (F_etchhouseref9_turnOf N p0 x259).bind fun y260 =>
      (F_etchhouseref1_TurnRect N x258 y260).bind fun y261 =>
      (apd l252 [y261]).bind fun l262 =>
      (F_etchhouseref9_Copper_L5 N p0 p1 p2 x227 kF_etchhouseref9_Copper_L4 mF_etchhouseref9_Copper_L5) l262 (w64 (x253 + 1))
    else
      kF_etchhouseref9_Copper_L4 l252 (w64 (x227 + 1))
def F_etchhouseref9_Copper_L4 (N : Nat) (p0 : TPanel) (p1 : ByteArray) (p2 : (List TRect)) : Nat → List TRect → Int → Option ((List TRect) × Int)
  | 0, _, _ => none
  | mF_etchhouseref9_Copper_L4 + 1, l226, x227 =>
    if (decide (x227 < (p0.Slots.length : Int))) then
      F_etchhouseref9_Copper_L5 N p0 p1 p2 x227 (F_etchhouseref9_Copper_L4 N p0 p1 p2 mF_etchhouseref9_Copper_L4) N l226 0
    else
      (F_etchhouseref1_Canonical N l226).bind fun y263 =>
      if (decide (2000 < (y263.length : Int))) then
        some (([] : List TRect), 2)
      else
        some (y263, 0)
def F_etchhouseref9_Copper_L1 (N : Nat) (p0 : TPanel) (p1 : ByteArray) (p2 : (List TRect)) (y102 : Int) : Nat → Int → Option ((List TRect) × Int)
  | 0, _ => none
  | mF_etchhouseref9_Copper_L1 + 1, x135 =>
    if (decide (x135 < (p2.length : Int))) then
      (idx p2 x135).bind fun x136 =>
      (if (decide (x136.X0 < 0)) then some true else 
        (idx p2 x135).bind fun x139 =>
        some (decide (x139.Y0 < 0))
      ).bind fun g138 =>
      (if g138 then some true else 
        (idx p2 x135).bind fun x143 =>
        (idx p0.Kinds y102).bind fun x144 =>
        some (decide (x144.W < x143.X1))
      ).bind fun g142 =>
      (if g142 then some true else 
        (idx p2 x135).bind fun x148 =>
        (idx p0.Kinds y102).bind fun x149 =>
        some (decide (x149.H < x148.Y1))
      ).bind fun g147 =>
      if g147 then
        some (([] : List TRect), 1)
      else
        (F_etchhouseref9_Copper_L1 N p0 p1 p2 y102 mF_etchhouseref9_Copper_L1) (w64 (x135 + 1))
    else
      F_etchhouseref9_Copper_L4 N p0 p1 p2 N ([] : List TRect) 0
def F_etchhouseref9_Copper (N : Nat) (p0 : TPanel) (p1 : ByteArray) (p2 : (List TRect)) : Option ((List TRect) × Int) :=
  (F_etchhouseref9_CheckPanel N p0).bind fun y101 =>
  if (y101 != 0) then
    some (([] : List TRect), y101)
  else
    (F_etchhouseref9_kind N p0 p1).bind fun y102 =>
    if (decide (y102 < 0)) then
      some (([] : List TRect), 9)
    else
      (F_etchhouseref1_CheckRegion N p2).bind fun y103 =>
      if (y103 != 0) then
        some (([] : List TRect), y103)
      else
        F_etchhouseref9_Copper_L1 N p0 p1 p2 y102 N 0

def F_shape_AreaOf_L1 : List TRect → Nat → Int → Option Int
  | [], iF_shape_AreaOf_L1, x110 =>
    some x110
  | xF_shape_AreaOf_L1 :: restF_shape_AreaOf_L1, iF_shape_AreaOf_L1, x110 =>
    (F_shape_AreaOf_L1 restF_shape_AreaOf_L1 (iF_shape_AreaOf_L1 + 1)) (w64 (x110 + (w64 ((w64 (xF_shape_AreaOf_L1.X1 - xF_shape_AreaOf_L1.X0)) * (w64 (xF_shape_AreaOf_L1.Y1 - xF_shape_AreaOf_L1.Y0))))))
def F_shape_AreaOf (p0 : (List TRect)) : Option Int :=
  F_shape_AreaOf_L1 p0 0 0

def F_panel_Lowest_L1 (p0 : Int) (p1 : Int) : Nat → Int → Int → Option TShare
  | 0, _, _ => none
  | mF_panel_Lowest_L1 + 1, x109, x110 =>
    if (x110 != 0) then
      (md x109 x110).bind fun q111 =>
      (F_panel_Lowest_L1 p0 p1 mF_panel_Lowest_L1) x110 q111
    else
      (dv p0 x109).bind fun q112 =>
      (dv p1 x109).bind fun q113 =>
      some (TShare.mk q112 q113)
def F_panel_Lowest (N : Nat) (p0 : Int) (p1 : Int) : Option TShare :=
  F_panel_Lowest_L1 p0 p1 N p0 p1


def F_panel_Use (N : Nat) (p0 : TPanel) : Option (TShare × Int) :=
  (F_panel_open N p0).bind fun y102 =>
  if (y102.2 != 0) then
    some ((TShare.mk 0 0), y102.2)
  else
    (F_shape_AreaOf y102.1).bind fun y104 =>
    (F_panel_Lowest N y104 (w64 (p0.W * p0.H))).bind fun y105 =>
    some (y105, 0)


def F_etchhouselaw9_awake (N : Nat)  : Option Bool :=
  (F_panel_Use N (TPanel.mk 1 1 0 0 [] [] [])).bind fun y100 =>
  some ((y100.2 == 0) && (eqTShare y100.1 (TShare.mk 0 1)))


noncomputable def F_etchhouselaw9_PanelCopperMatchSpec (N : Nat) (p0 : TPanel) (p1 : ByteArray) (p2 : (List TRect)) : Option Bool :=
  (F_panel_Copper N p0 p1 p2).bind fun y101 =>
  (F_etchhouseref9_Copper N p0 p1 p2).bind fun y103 =>
  (F_slices_Equal_Rect y101.1 y103.1).bind fun y105 =>
  (if (y105 && (y101.2 == y103.2)) then 
    (F_etchhouselaw9_awake N).bind fun y108 =>
    some y108
   else some false).bind fun g107 =>
  some g107

end Go.Proofs.YtfdglihcpfpefaaGreat
