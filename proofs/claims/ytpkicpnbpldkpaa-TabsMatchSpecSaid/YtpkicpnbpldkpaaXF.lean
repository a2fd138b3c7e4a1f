/- The plain functions: what each function of the program computes; none where it would panic. -/
import Derived.Test.YtpkicpnbpldkpaaXT
namespace Go.Proofs.Ytpkicpnbpldkpaa
open Go.RowKit

def F_panel_within (p0 : Int) (p1 : Int) (p2 : Int) : Option Bool :=
  some ((decide (p1 ≤ p0)) && (decide (p0 ≤ p2)))

def F_plot_IsName_L1 (p0 : ByteArray) : Nat → Int → Option Bool
  | 0, _ => none
  | mF_plot_IsName_L1 + 1, x6 =>
    if (decide (x6 < (p0.size : Int))) then
      (strAt p0 x6).bind fun c7 =>
      if ((!(((decide (97 ≤ c7)) && (decide (c7 ≤ 122))) || ((decide (65 ≤ c7)) && (decide (c7 ≤ 90))))) && ((x6 == 0) || ((((decide (c7 < 48)) || (decide (57 < c7))) && (c7 != 95)) && (c7 != 45)))) then
        some false
      else
        (F_plot_IsName_L1 p0 mF_plot_IsName_L1) (w64 (x6 + 1))
    else
      some ((decide (1 ≤ (p0.size : Int))) && (decide ((p0.size : Int) ≤ 40)))
def F_plot_IsName (N : Nat) (p0 : ByteArray) : Option Bool :=
  F_plot_IsName_L1 p0 N 0

def F_panel_checkKinds_L1 (N : Nat) (p0 : (List TBoardKind)) : List TBoardKind → Nat → Option Int
  | [], iF_panel_checkKinds_L1 =>
    some 0
  | xF_panel_checkKinds_L1 :: restF_panel_checkKinds_L1, iF_panel_checkKinds_L1 =>
    (F_plot_IsName N xF_panel_checkKinds_L1.Name).bind fun y11 =>
    if (!y11) then
      some 5
    else
      (F_panel_within xF_panel_checkKinds_L1.W 1 1000000).bind fun y12 =>
      (if (!y12) then some true else 
        (F_panel_within xF_panel_checkKinds_L1.H 1 1000000).bind fun y15 =>
        some (!y15)
      ).bind fun g14 =>
      if g14 then
        some 1
      else
        (if (decide (0 < (iF_panel_checkKinds_L1 : Int))) then 
          (idx p0 (w64 ((iF_panel_checkKinds_L1 : Int) - 1))).bind fun x18 =>
          some (sLt xF_panel_checkKinds_L1.Name x18.Name || sEq xF_panel_checkKinds_L1.Name x18.Name)
         else some false).bind fun g17 =>
        if g17 then
          some 8
        else
          (F_panel_checkKinds_L1 N p0 restF_panel_checkKinds_L1 (iF_panel_checkKinds_L1 + 1))
def F_panel_checkKinds (N : Nat) (p0 : (List TBoardKind)) : Option Int :=
  if (decide (50 < (p0.length : Int))) then
    some 2
  else
    F_panel_checkKinds_L1 N p0 p0 0


def F_panel_kindAt_1 (p0 : TBoardKind) (q0 : ByteArray) : Option Bool :=
  some (sEq p0.Name q0)

def F_slices_IndexFunc_BoardKind_L1 (p1 : TBoardKind → Option Bool) : List TBoardKind → Nat → Option Int
  | [], iF_slices_IndexFunc_BoardKind_L1 =>
    some (-1)
  | xF_slices_IndexFunc_BoardKind_L1 :: restF_slices_IndexFunc_BoardKind_L1, iF_slices_IndexFunc_BoardKind_L1 =>
    (p1 xF_slices_IndexFunc_BoardKind_L1).bind fun y4 =>
    if y4 then
      some (iF_slices_IndexFunc_BoardKind_L1 : Int)
    else
      (F_slices_IndexFunc_BoardKind_L1 p1 restF_slices_IndexFunc_BoardKind_L1 (iF_slices_IndexFunc_BoardKind_L1 + 1))
def F_slices_IndexFunc_BoardKind (p0 : (List TBoardKind)) (p1 : TBoardKind → Option Bool) : Option Int :=
  F_slices_IndexFunc_BoardKind_L1 p1 p0 0


def F_panel_kindAt (p0 : TPanel) (p1 : ByteArray) : Option Int :=
  (F_slices_IndexFunc_BoardKind p0.Kinds (fun z0 => F_panel_kindAt_1 z0 p1)).bind fun y1 =>
  some y1


def F_panel_sizeOf (p0 : TBoardKind) (p1 : Int) : Option (Int × Int) :=
  if ((Int.tmod p1 2) == 1) then
    some (p0.H, p0.W)
  else
    some (p0.W, p0.H)


def F_panel_cellOf (p0 : TPanel) (p1 : TSlot) : Option TRect :=
  (F_panel_kindAt p0 p1.Board).bind fun y1 =>
  (idx p0.Kinds y1).bind fun x2 =>
  (F_panel_sizeOf x2 p1.Quarters).bind fun y3 =>
  some (TRect.mk p1.At.X p1.At.Y (w64 (p1.At.X + y3.1)) (w64 (p1.At.Y + y3.2)))


def F_panel_isOn (p0 : TPanel) (p1 : TRect) : Option Bool :=
  some ((((((decide (p0.Rail ≤ p1.X0)) && (decide (p0.Rail ≤ p1.Y0))) && (decide (p1.X0 ≤ p0.W))) && (decide (p1.Y0 ≤ p0.H))) && (decide (p1.X1 ≤ (w64 (p0.W - p0.Rail))))) && (decide (p1.Y1 ≤ (w64 (p0.H - p0.Rail)))))


def F_panel_isApart (p0 : TRect) (p1 : TRect) (p2 : Int) : Option Bool :=
  some ((((decide ((w64 (p0.X1 + p2)) ≤ p1.X0)) || (decide ((w64 (p1.X1 + p2)) ≤ p0.X0))) || (decide ((w64 (p0.Y1 + p2)) ≤ p1.Y0))) || (decide ((w64 (p1.Y1 + p2)) ≤ p0.Y0)))


def F_panel_cells_1 (p0 : TRect) (q0 : TRect) (q1 : TPanel) : Option Bool :=
  (F_panel_isApart q0 p0 q1.Gap).bind fun y1 =>
  some (!y1)

def F_slices_IndexFunc_Rect_L1 (p1 : TRect → Option Bool) : List TRect → Nat → Option Int
  | [], iF_slices_IndexFunc_Rect_L1 =>
    some (-1)
  | xF_slices_IndexFunc_Rect_L1 :: restF_slices_IndexFunc_Rect_L1, iF_slices_IndexFunc_Rect_L1 =>
    (p1 xF_slices_IndexFunc_Rect_L1).bind fun y4 =>
    if y4 then
      some (iF_slices_IndexFunc_Rect_L1 : Int)
    else
      (F_slices_IndexFunc_Rect_L1 p1 restF_slices_IndexFunc_Rect_L1 (iF_slices_IndexFunc_Rect_L1 + 1))
def F_slices_IndexFunc_Rect (p0 : (List TRect)) (p1 : TRect → Option Bool) : Option Int :=
  F_slices_IndexFunc_Rect_L1 p1 p0 0


def F_slices_ContainsFunc_Rect (p0 : (List TRect)) (p1 : TRect → Option Bool) : Option Bool :=
  (F_slices_IndexFunc_Rect p0 p1).bind fun y1 =>
  some (decide (0 ≤ y1))

def F_panel_cells_L1 (p0 : TPanel) : List TSlot → Nat → List TRect → Option ((List TRect) × Int)
  | [], iF_panel_cells_L1, l33 =>
    some (l33, 0)
  | xF_panel_cells_L1 :: restF_panel_cells_L1, iF_panel_cells_L1, l33 =>
    (F_panel_kindAt p0 xF_panel_cells_L1.Board).bind fun y34 =>
    if (decide (y34 < 0)) then
      some (([] : List TRect), 5)
    else
      (F_panel_within xF_panel_cells_L1.Quarters 0 3).bind fun y35 =>
      (if (!y35) then some true else 
        (F_panel_within xF_panel_cells_L1.At.X 0 p0.W).bind fun y38 =>
        some (!y38)
      ).bind fun g37 =>
      (if g37 then some true else 
        (F_panel_within xF_panel_cells_L1.At.Y 0 p0.H).bind fun y41 =>
        some (!y41)
      ).bind fun g40 =>
      if g40 then
        some (([] : List TRect), 1)
      else
        (F_panel_cellOf p0 xF_panel_cells_L1).bind fun y42 =>
        (F_panel_isOn p0 y42).bind fun y43 =>
        if (!y43) then
          some (([] : List TRect), 1)
        else
          (F_slices_ContainsFunc_Rect l33 (fun z0 => F_panel_cells_1 z0 y42 p0)).bind fun y44 =>
          if y44 then
            some (([] : List TRect), 12)
          else
            (apd l33 [y42]).bind fun l45 =>
            (F_panel_cells_L1 p0 restF_panel_cells_L1 (iF_panel_cells_L1 + 1)) l45
def F_panel_cells (p0 : TPanel) : Option ((List TRect) × Int) :=
  if (decide (500 < (p0.Slots.length : Int))) then
    some (([] : List TRect), 2)
  else
    F_panel_cells_L1 p0 p0.Slots 0 ([] : List TRect)


def F_panel_isOnPanel (p0 : TPanel) (p1 : TPoint) : Option Bool :=
  (F_panel_within p1.X 0 p0.W).bind fun y1 =>
  (if y1 then 
    (F_panel_within p1.Y 0 p0.H).bind fun y4 =>
    some y4
   else some false).bind fun g3 =>
  some g3


def F_panel_isInside (p0 : TRect) (p1 : TPoint) : Option Bool :=
  some ((((decide (p0.X0 < p1.X)) && (decide (p1.X < p0.X1))) && (decide (p0.Y0 < p1.Y))) && (decide (p1.Y < p0.Y1)))


def F_panel_open_1 (p0 : TRect) (q0 : TPoint) : Option Bool :=
  (F_panel_isInside p0 q0).bind fun y1 =>
  some y1

def F_slices_Index_Point_L1 (p1 : TPoint) : List TPoint → Nat → Option Int
  | [], iF_slices_Index_Point_L1 =>
    some (-1)
  | xF_slices_Index_Point_L1 :: restF_slices_Index_Point_L1, iF_slices_Index_Point_L1 =>
    if (eqTPoint p1 xF_slices_Index_Point_L1) then
      some (iF_slices_Index_Point_L1 : Int)
    else
      (F_slices_Index_Point_L1 p1 restF_slices_Index_Point_L1 (iF_slices_Index_Point_L1 + 1))
def F_slices_Index_Point (p0 : (List TPoint)) (p1 : TPoint) : Option Int :=
  F_slices_Index_Point_L1 p1 p0 0


def F_slices_Contains_Point (p0 : (List TPoint)) (p1 : TPoint) : Option Bool :=
  (F_slices_Index_Point p0 p1).bind fun y1 =>
  some (decide (0 ≤ y1))

def F_panel_open_L1 (p0 : TPanel) (y12 : ((List TRect) × Int)) : List TPoint → Nat → Option ((List TRect) × Int)
  | [], iF_panel_open_L1 =>
    some (y12.1, 0)
  | xF_panel_open_L1 :: restF_panel_open_L1, iF_panel_open_L1 =>
    (F_panel_isOnPanel p0 xF_panel_open_L1).bind fun y19 =>
    if (!y19) then
      some (([] : List TRect), 1)
    else
      (F_slices_ContainsFunc_Rect y12.1 (fun z0 => F_panel_open_1 z0 xF_panel_open_L1)).bind fun y20 =>
      if y20 then
        some (([] : List TRect), 12)
      else
        (cut p0.Marks 0 (iF_panel_open_L1 : Int)).bind fun l21 =>
        (F_slices_Contains_Point l21 xF_panel_open_L1).bind fun y22 =>
        if y22 then
          some (([] : List TRect), 7)
        else
          (F_panel_open_L1 p0 y12 restF_panel_open_L1 (iF_panel_open_L1 + 1))
def F_panel_open (N : Nat) (p0 : TPanel) : Option ((List TRect) × Int) :=
  (F_panel_within p0.W 1 1000000).bind fun y1 =>
  (if (!y1) then some true else 
    (F_panel_within p0.H 1 1000000).bind fun y4 =>
    some (!y4)
  ).bind fun g3 =>
  (if g3 then some true else 
    (F_panel_within p0.Rail 0 1000000).bind fun y7 =>
    some (!y7)
  ).bind fun g6 =>
  (if g6 then some true else 
    (F_panel_within p0.Gap 0 1000000).bind fun y10 =>
    some (!y10)
  ).bind fun g9 =>
  if g9 then
    some (([] : List TRect), 1)
  else
    (F_panel_checkKinds N p0.Kinds).bind fun y11 =>
    if (y11 != 0) then
      some (([] : List TRect), y11)
    else
      (F_panel_cells p0).bind fun y12 =>
      if (y12.2 != 0) then
        some (([] : List TRect), y12.2)
      else
        if (decide (10 < (p0.Marks.length : Int))) then
          some (([] : List TRect), 2)
        else
          F_panel_open_L1 p0 y12 p0.Marks 0

def F_panel_Tabs_1_J1 (q1 : Int) (x1 : Int) : Option (Int × Int) :=
  (dv (w64 ((w64 (x1 + q1)) - 1)) q1).bind fun q2 =>
  some (x1, (max 2 q2))
def F_panel_Tabs_1 (p0 : Int) (q0 : TRect) (q1 : Int) : Option (Int × Int) :=
  if ((Int.tmod p0 2) == 1) then
    F_panel_Tabs_1_J1 q1 (w64 (q0.Y1 - q0.Y0))
  else
    F_panel_Tabs_1_J1 q1 (w64 (q0.X1 - q0.X0))

def F_panel_Tabs_L5 (kF_panel_Tabs_L4 : (List TPoint) → Option ((List TPoint) × Int)) (xF_panel_Tabs_L4 : TPoint) (x73 : TPoint) (y74 : (Int × Int)) : Nat → List TPoint → Int → Option ((List TPoint) × Int)
  | 0, _, _ => none
  | mF_panel_Tabs_L5 + 1, l91, x92 =>
    if (decide (x92 < y74.2)) then
      (dv (w64 (y74.1 * x92)) y74.2).bind fun q93 =>
      (dv (w64 (x73.X - xF_panel_Tabs_L4.X)) y74.1).bind fun q95 =>
      (dv (w64 (x73.Y - xF_panel_Tabs_L4.Y)) y74.1).bind fun q96 =>
      (apd l91 [(TPoint.mk (w64 (xF_panel_Tabs_L4.X + (w64 (q95 * q93)))) (w64 (xF_panel_Tabs_L4.Y + (w64 (q96 * q93)))))]).bind fun l97 =>
      (F_panel_Tabs_L5 kF_panel_Tabs_L4 xF_panel_Tabs_L4 x73 y74 mF_panel_Tabs_L5) l97 (w64 (x92 + 1))
    else
      kF_panel_Tabs_L4 l91
def F_panel_Tabs_L4 (N : Nat) (p2 : Int) (x4 : TRect) : List TPoint → Nat → List TPoint → Option ((List TPoint) × Int)
  | [], iF_panel_Tabs_L4, l72 =>
    some (l72, 0)
  | xF_panel_Tabs_L4 :: restF_panel_Tabs_L4, iF_panel_Tabs_L4, l72 =>
    (idx [(TPoint.mk x4.X0 x4.Y0), (TPoint.mk x4.X1 x4.Y0), (TPoint.mk x4.X1 x4.Y1), (TPoint.mk x4.X0 x4.Y1)] (Int.tmod (w64 ((iF_panel_Tabs_L4 : Int) + 1)) 4)).bind fun x73 =>
    (F_panel_Tabs_1 (iF_panel_Tabs_L4 : Int) x4 p2).bind fun y74 =>
    F_panel_Tabs_L5 (F_panel_Tabs_L4 N p2 x4 restF_panel_Tabs_L4 (iF_panel_Tabs_L4 + 1)) xF_panel_Tabs_L4 x73 y74 N l72 1
def F_panel_Tabs_L1 (N : Nat) (p2 : Int) (x4 : TRect) : List TPoint → Nat → Int → Option ((List TPoint) × Int)
  | [], iF_panel_Tabs_L1, x13 =>
    if (decide (2000 < x13)) then
      some (([] : List TPoint), 2)
    else
      F_panel_Tabs_L4 N p2 x4 [(TPoint.mk x4.X0 x4.Y0), (TPoint.mk x4.X1 x4.Y0), (TPoint.mk x4.X1 x4.Y1), (TPoint.mk x4.X0 x4.Y1)] 0 ([] : List TPoint)
  | xF_panel_Tabs_L1 :: restF_panel_Tabs_L1, iF_panel_Tabs_L1, x13 =>
    (F_panel_Tabs_1 (iF_panel_Tabs_L1 : Int) x4 p2).bind fun y98 =>
    (F_panel_Tabs_L1 N p2 x4 restF_panel_Tabs_L1 (iF_panel_Tabs_L1 + 1)) (w64 (x13 + (w64 (y98.2 - 1))))
def F_panel_Tabs (N : Nat) (p0 : TPanel) (p1 : Int) (p2 : Int) : Option ((List TPoint) × Int) :=
  (F_panel_open N p0).bind fun y1 =>
  if (y1.2 != 0) then
    some (([] : List TPoint), y1.2)
  else
    (F_panel_within p1 0 (w64 ((y1.1.length : Int) - 1))).bind fun y2 =>
    if (!y2) then
      some (([] : List TPoint), 9)
    else
      (F_panel_within p2 1 1000000).bind fun y3 =>
      if (!y3) then
        some (([] : List TPoint), 1)
      else
        (idx y1.1 p1).bind fun x4 =>
        F_panel_Tabs_L1 N p2 x4 [(TPoint.mk x4.X0 x4.Y0), (TPoint.mk x4.X1 x4.Y0), (TPoint.mk x4.X1 x4.Y1), (TPoint.mk x4.X0 x4.Y1)] 0 0


def F_etchhouseref9_within (p0 : Int) (p1 : Int) (p2 : Int) : Option Bool :=
  some ((decide (p1 ≤ p0)) && (decide (p0 ≤ p2)))


def F_etchhouseref3_within (p0 : Int) (p1 : Int) (p2 : Int) : Option Bool :=
  some ((decide (p1 ≤ p0)) && (decide (p0 ≤ p2)))

def F_etchhouseref3_IsName_L1 (p0 : ByteArray) : Nat → Int → Option Bool
  | 0, _ => none
  | mF_etchhouseref3_IsName_L1 + 1, x6 =>
    if (decide (x6 < (p0.size : Int))) then
      (strAt p0 x6).bind fun c7 =>
      if ((!(((decide (97 ≤ c7)) && (decide (c7 ≤ 122))) || ((decide (65 ≤ c7)) && (decide (c7 ≤ 90))))) && ((x6 == 0) || (((c7 != 95) && (c7 != 45)) && (!((decide (48 ≤ c7)) && (decide (c7 ≤ 57))))))) then
        some false
      else
        (F_etchhouseref3_IsName_L1 p0 mF_etchhouseref3_IsName_L1) (w64 (x6 + 1))
    else
      (F_etchhouseref3_within (p0.size : Int) 1 40).bind fun y8 =>
      some y8
def F_etchhouseref3_IsName (N : Nat) (p0 : ByteArray) : Option Bool :=
  F_etchhouseref3_IsName_L1 p0 N 0

def F_etchhouseref9_kind_L1 (p0 : TPanel) (p1 : ByteArray) : Nat → Int → Option Int
  | 0, _ => none
  | mF_etchhouseref9_kind_L1 + 1, x6 =>
    if (decide (x6 < (p0.Kinds.length : Int))) then
      (idx p0.Kinds x6).bind fun x7 =>
      if (sEq x7.Name p1) then
        some x6
      else
        (F_etchhouseref9_kind_L1 p0 p1 mF_etchhouseref9_kind_L1) (w64 (x6 + 1))
    else
      some (-1)
def F_etchhouseref9_kind (N : Nat) (p0 : TPanel) (p1 : ByteArray) : Option Int :=
  F_etchhouseref9_kind_L1 p0 p1 N 0


def F_etchhouseref9_sizeOf (p0 : TBoardKind) (p1 : Int) : Option (Int × Int) :=
  if ((Int.tmod p1 2) == 1) then
    some (p0.H, p0.W)
  else
    some (p0.W, p0.H)


def F_etchhouseref9_lies (p0 : TPanel) (p1 : TPoint) (p2 : Int) (p3 : Int) : Option Bool :=
  (F_etchhouseref9_within p1.X p0.Rail (w64 ((w64 (p0.W - p0.Rail)) - p2))).bind fun y1 =>
  (if y1 then 
    (F_etchhouseref9_within p1.Y p0.Rail (w64 ((w64 (p0.H - p0.Rail)) - p3))).bind fun y4 =>
    some y4
   else some false).bind fun g3 =>
  some g3


def F_etchhouseref9_cellOf (N : Nat) (p0 : TPanel) (p1 : TSlot) : Option TRect :=
  (F_etchhouseref9_kind N p0 p1.Board).bind fun y1 =>
  (idx p0.Kinds y1).bind fun x2 =>
  (F_etchhouseref9_sizeOf x2 p1.Quarters).bind fun y3 =>
  some (TRect.mk p1.At.X p1.At.Y (w64 (p1.At.X + y3.1)) (w64 (p1.At.Y + y3.2)))


def F_etchhouseref9_apart (p0 : TRect) (p1 : TRect) (p2 : Int) : Option Bool :=
  some ((((decide ((w64 (p0.X1 + p2)) ≤ p1.X0)) || (decide ((w64 (p1.X1 + p2)) ≤ p0.X0))) || (decide ((w64 (p0.Y1 + p2)) ≤ p1.Y0))) || (decide ((w64 (p1.Y1 + p2)) ≤ p0.Y0)))

def F_etchhouseref9_checkSlot_L1 (N : Nat) (p0 : TPanel) (p1 : Int) (x1 : TSlot) : Nat → Int → Option Int
  | 0, _ => none
  | mF_etchhouseref9_checkSlot_L1 + 1, x18 =>
    if (decide (x18 < p1)) then
      (F_etchhouseref9_cellOf N p0 x1).bind fun y19 =>
      (idx p0.Slots x18).bind fun x20 =>
      (F_etchhouseref9_cellOf N p0 x20).bind fun y21 =>
      (F_etchhouseref9_apart y19 y21 p0.Gap).bind fun y22 =>
      if (!y22) then
        some 12
      else
        (F_etchhouseref9_checkSlot_L1 N p0 p1 x1 mF_etchhouseref9_checkSlot_L1) (w64 (x18 + 1))
    else
      some 0
def F_etchhouseref9_checkSlot (N : Nat) (p0 : TPanel) (p1 : Int) : Option Int :=
  (idx p0.Slots p1).bind fun x1 =>
  (F_etchhouseref9_kind N p0 x1.Board).bind fun y2 =>
  if (decide (y2 < 0)) then
    some 5
  else
    (F_etchhouseref9_within x1.Quarters 0 3).bind fun y3 =>
    if (!y3) then
      some 1
    else
      (idx p0.Kinds y2).bind fun x4 =>
      (F_etchhouseref9_sizeOf x4 x1.Quarters).bind fun y5 =>
      (F_etchhouseref9_lies p0 x1.At y5.1 y5.2).bind fun y6 =>
      if (!y6) then
        some 1
      else
        F_etchhouseref9_checkSlot_L1 N p0 p1 x1 N 0

def F_etchhouseref9_checkMark_L2 (p0 : TPanel) (p1 : Int) (x1 : TPoint) : Nat → Int → Option Int
  | 0, _ => none
  | mF_etchhouseref9_checkMark_L2 + 1, x24 =>
    if (decide (x24 < p1)) then
      (idx p0.Marks x24).bind fun x25 =>
      if (eqTPoint x25 x1) then
        some 7
      else
        (F_etchhouseref9_checkMark_L2 p0 p1 x1 mF_etchhouseref9_checkMark_L2) (w64 (x24 + 1))
    else
      some 0
def F_etchhouseref9_checkMark_L1 (N : Nat) (p0 : TPanel) (p1 : Int) (x1 : TPoint) : Nat → Int → Option Int
  | 0, _ => none
  | mF_etchhouseref9_checkMark_L1 + 1, x15 =>
    if (decide (x15 < (p0.Slots.length : Int))) then
      (idx p0.Slots x15).bind fun x17 =>
      (F_etchhouseref9_cellOf N p0 x17).bind fun y18 =>
      if ((((decide (y18.X0 < x1.X)) && (decide (x1.X < y18.X1))) && (decide (y18.Y0 < x1.Y))) && (decide (x1.Y < y18.Y1))) then
        some 12
      else
        (F_etchhouseref9_checkMark_L1 N p0 p1 x1 mF_etchhouseref9_checkMark_L1) (w64 (x15 + 1))
    else
      F_etchhouseref9_checkMark_L2 p0 p1 x1 N 0
def F_etchhouseref9_checkMark (N : Nat) (p0 : TPanel) (p1 : Int) : Option Int :=
  (idx p0.Marks p1).bind fun x1 =>
  (F_etchhouseref9_within x1.X 0 p0.W).bind fun y2 =>
  (if (!y2) then some true else 
    (F_etchhouseref9_within x1.Y 0 p0.H).bind fun y5 =>
    some (!y5)
  ).bind fun g4 =>
  if g4 then
    some 1
  else
    F_etchhouseref9_checkMark_L1 N p0 p1 x1 N 0

def F_etchhouseref9_CheckPanel_L3 (N : Nat) (p0 : TPanel) : Nat → Int → Option Int
  | 0, _ => none
  | mF_etchhouseref9_CheckPanel_L3 + 1, x54 =>
    if (decide (x54 < (p0.Marks.length : Int))) then
      (F_etchhouseref9_checkMark N p0 x54).bind fun y55 =>
      if (y55 != 0) then
        some y55
      else
        (F_etchhouseref9_CheckPanel_L3 N p0 mF_etchhouseref9_CheckPanel_L3) (w64 (x54 + 1))
    else
      some 0
def F_etchhouseref9_CheckPanel_L2 (N : Nat) (p0 : TPanel) : Nat → Int → Option Int
  | 0, _ => none
  | mF_etchhouseref9_CheckPanel_L2 + 1, x47 =>
    if (decide (x47 < (p0.Slots.length : Int))) then
      (F_etchhouseref9_checkSlot N p0 x47).bind fun y48 =>
      if (y48 != 0) then
        some y48
      else
        (F_etchhouseref9_CheckPanel_L2 N p0 mF_etchhouseref9_CheckPanel_L2) (w64 (x47 + 1))
    else
      if (decide (10 < (p0.Marks.length : Int))) then
        some 2
      else
        F_etchhouseref9_CheckPanel_L3 N p0 N 0
def F_etchhouseref9_CheckPanel_L1 (N : Nat) (p0 : TPanel) : Nat → Int → Option Int
  | 0, _ => none
  | mF_etchhouseref9_CheckPanel_L1 + 1, x32 =>
    if (decide (x32 < (p0.Kinds.length : Int))) then
      (idx p0.Kinds x32).bind fun x33 =>
      (F_etchhouseref3_IsName N x33.Name).bind fun y34 =>
      if (!y34) then
        some 5
      else
        (F_etchhouseref9_within x33.W 1 1000000).bind fun y35 =>
        (if (!y35) then some true else 
          (F_etchhouseref9_within x33.H 1 1000000).bind fun y38 =>
          some (!y38)
        ).bind fun g37 =>
        if g37 then
          some 1
        else
          (if (decide (0 < x32)) then 
            (idx p0.Kinds (w64 (x32 - 1))).bind fun x41 =>
            some (sLt x33.Name x41.Name || sEq x33.Name x41.Name)
           else some false).bind fun g40 =>
          if g40 then
            some 8
          else
            (F_etchhouseref9_CheckPanel_L1 N p0 mF_etchhouseref9_CheckPanel_L1) (w64 (x32 + 1))
    else
      if (decide (500 < (p0.Slots.length : Int))) then
        some 2
      else
        F_etchhouseref9_CheckPanel_L2 N p0 N 0
def F_etchhouseref9_CheckPanel (N : Nat) (p0 : TPanel) : Option Int :=
  (F_etchhouseref9_within p0.W 1 1000000).bind fun y1 =>
  (if (!y1) then some true else 
    (F_etchhouseref9_within p0.H 1 1000000).bind fun y4 =>
    some (!y4)
  ).bind fun g3 =>
  (if g3 then some true else 
    (F_etchhouseref9_within p0.Rail 0 1000000).bind fun y7 =>
    some (!y7)
  ).bind fun g6 =>
  (if g6 then some true else 
    (F_etchhouseref9_within p0.Gap 0 1000000).bind fun y10 =>
    some (!y10)
  ).bind fun g9 =>
  if g9 then
    some 1
  else
    if (decide (50 < (p0.Kinds.length : Int))) then
      some 2
    else
      F_etchhouseref9_CheckPanel_L1 N p0 N 0


def F_etchhouseref9_parts (p0 : Int) (p1 : Int) : Option Int :=
  (dv (w64 ((w64 (p0 + p1)) - 1)) p1).bind fun q1 =>
  some (max 2 q1)

def F_etchhouseref9_Tabs_L6 (y6 : TRect) (x66 : Int) (kF_etchhouseref9_Tabs_L5 : (List TPoint) → Int → Option ((List TPoint) × Int)) (x67 : Int) (y68 : Int) : Nat → List TPoint → Int → Option ((List TPoint) × Int)
  | 0, _, _ => none
  | mF_etchhouseref9_Tabs_L6 + 1, l85, x86 =>
    if (decide (x86 < y68)) then
      (dv (w64 (x86 * x67)) y68).bind fun q87 =>
      if (x66 == 0) then
        (apd l85 [(TPoint.mk (w64 (y6.X0 + q87)) y6.Y0)]).bind fun l88 =>
        (F_etchhouseref9_Tabs_L6 y6 x66 kF_etchhouseref9_Tabs_L5 x67 y68 mF_etchhouseref9_Tabs_L6) l88 (w64 (x86 + 1))
      else
        if (x66 == 1) then
          (apd l85 [(TPoint.mk y6.X1 (w64 (y6.Y0 + q87)))]).bind fun l89 =>
          (F_etchhouseref9_Tabs_L6 y6 x66 kF_etchhouseref9_Tabs_L5 x67 y68 mF_etchhouseref9_Tabs_L6) l89 (w64 (x86 + 1))
        else
          if (x66 == 2) then
            (apd l85 [(TPoint.mk (w64 (y6.X1 - q87)) y6.Y1)]).bind fun l90 =>
            (F_etchhouseref9_Tabs_L6 y6 x66 kF_etchhouseref9_Tabs_L5 x67 y68 mF_etchhouseref9_Tabs_L6) l90 (w64 (x86 + 1))
          else
            if (x66 == 3) then
              (apd l85 [(TPoint.mk y6.X0 (w64 (y6.Y1 - q87)))]).bind fun l91 =>
              (F_etchhouseref9_Tabs_L6 y6 x66 kF_etchhouseref9_Tabs_L5 x67 y68 mF_etchhouseref9_Tabs_L6) l91 (w64 (x86 + 1))
            else
              (F_etchhouseref9_Tabs_L6 y6 x66 kF_etchhouseref9_Tabs_L5 x67 y68 mF_etchhouseref9_Tabs_L6) l85 (w64 (x86 + 1))
    else
      kF_etchhouseref9_Tabs_L5 l85 (w64 (x66 + 1))
def F_etchhouseref9_Tabs_J7 (N : Nat) (p2 : Int) (y6 : TRect) (l65 : List TPoint) (x66 : Int) (kF_etchhouseref9_Tabs_L5 : (List TPoint) → Int → Option ((List TPoint) × Int)) (x67 : Int) : Option ((List TPoint) × Int) :=
  (F_etchhouseref9_parts x67 p2).bind fun y68 =>
  F_etchhouseref9_Tabs_L6 y6 x66 kF_etchhouseref9_Tabs_L5 x67 y68 N l65 1
def F_etchhouseref9_Tabs_L5 (N : Nat) (p2 : Int) (y6 : TRect) : Nat → List TPoint → Int → Option ((List TPoint) × Int)
  | 0, _, _ => none
  | mF_etchhouseref9_Tabs_L5 + 1, l65, x66 =>
    if (decide (x66 < 4)) then
      if ((Int.tmod x66 2) == 1) then
        F_etchhouseref9_Tabs_J7 N p2 y6 l65 x66 (F_etchhouseref9_Tabs_L5 N p2 y6 mF_etchhouseref9_Tabs_L5) (w64 (y6.Y1 - y6.Y0))
      else
        F_etchhouseref9_Tabs_J7 N p2 y6 l65 x66 (F_etchhouseref9_Tabs_L5 N p2 y6 mF_etchhouseref9_Tabs_L5) (w64 (y6.X1 - y6.X0))
    else
      some (l65, 0)
def F_etchhouseref9_Tabs (N : Nat) (p0 : TPanel) (p1 : Int) (p2 : Int) : Option ((List TPoint) × Int) :=
  (F_etchhouseref9_CheckPanel N p0).bind fun y1 =>
  if (y1 != 0) then
    some (([] : List TPoint), y1)
  else
    (F_etchhouseref9_within p1 0 (w64 ((p0.Slots.length : Int) - 1))).bind fun y2 =>
    if (!y2) then
      some (([] : List TPoint), 9)
    else
      (F_etchhouseref9_within p2 1 1000000).bind fun y3 =>
      if (!y3) then
        some (([] : List TPoint), 1)
      else
        (idx p0.Slots p1).bind fun x5 =>
        (F_etchhouseref9_cellOf N p0 x5).bind fun y6 =>
        (F_etchhouseref9_parts (w64 (y6.X1 - y6.X0)) p2).bind fun y7 =>
        (F_etchhouseref9_parts (w64 (y6.Y1 - y6.Y0)) p2).bind fun y8 =>
        if (decide (2000 < (w64 ((w64 (2 * (w64 (y7 - 1)))) + (w64 (2 * (w64 (y8 - 1)))))))) then
          some (([] : List TPoint), 2)
        else
          F_etchhouseref9_Tabs_L5 N p2 y6 N ([] : List TPoint) 0

def F_slices_Equal_Point_L1 (p1 : (List TPoint)) : List TPoint → Nat → Option Bool
  | [], iF_slices_Equal_Point_L1 =>
    some true
  | xF_slices_Equal_Point_L1 :: restF_slices_Equal_Point_L1, iF_slices_Equal_Point_L1 =>
    (idx p1 (iF_slices_Equal_Point_L1 : Int)).bind fun x4 =>
    if (!(eqTPoint xF_slices_Equal_Point_L1 x4)) then
      some false
    else
      (F_slices_Equal_Point_L1 p1 restF_slices_Equal_Point_L1 (iF_slices_Equal_Point_L1 + 1))
def F_slices_Equal_Point (p0 : (List TPoint)) (p1 : (List TPoint)) : Option Bool :=
  if ((p0.length : Int) != (p1.length : Int)) then
    some false
  else
    F_slices_Equal_Point_L1 p1 p0 0

def F_shape_AreaOf_L1 : List TRect → Nat → Int → Option Int
  | [], iF_shape_AreaOf_L1, x9 =>
    some x9
  | xF_shape_AreaOf_L1 :: restF_shape_AreaOf_L1, iF_shape_AreaOf_L1, x9 =>
    (F_shape_AreaOf_L1 restF_shape_AreaOf_L1 (iF_shape_AreaOf_L1 + 1)) (w64 (x9 + (w64 ((w64 (xF_shape_AreaOf_L1.X1 - xF_shape_AreaOf_L1.X0)) * (w64 (xF_shape_AreaOf_L1.Y1 - xF_shape_AreaOf_L1.Y0))))))
def F_shape_AreaOf (p0 : (List TRect)) : Option Int :=
  F_shape_AreaOf_L1 p0 0 0

def F_panel_Lowest_L1 (p0 : Int) (p1 : Int) : Nat → Int → Int → Option TShare
  | 0, _, _ => none
  | mF_panel_Lowest_L1 + 1, x9, x10 =>
    if (x10 != 0) then
      (md x9 x10).bind fun q11 =>
      (F_panel_Lowest_L1 p0 p1 mF_panel_Lowest_L1) x10 q11
    else
      (dv p0 x9).bind fun q12 =>
      (dv p1 x9).bind fun q13 =>
      some (TShare.mk q12 q13)
def F_panel_Lowest (N : Nat) (p0 : Int) (p1 : Int) : Option TShare :=
  F_panel_Lowest_L1 p0 p1 N p0 p1


def F_panel_Use (N : Nat) (p0 : TPanel) : Option (TShare × Int) :=
  (F_panel_open N p0).bind fun y1 =>
  if (y1.2 != 0) then
    some ((TShare.mk 0 0), y1.2)
  else
    (F_shape_AreaOf y1.1).bind fun y2 =>
    (F_panel_Lowest N y2 (w64 (p0.W * p0.H))).bind fun y3 =>
    some (y3, 0)


def F_etchhouselaw9_awake (N : Nat)  : Option Bool :=
  (F_panel_Use N (TPanel.mk 1 1 0 0 [] [] [])).bind fun y1 =>
  some ((y1.2 == 0) && (eqTShare y1.1 (TShare.mk 0 1)))


def F_etchhouselaw9_TabsMatchSpec (N : Nat) (p0 : TPanel) (p1 : Int) (p2 : Int) : Option Bool :=
  (F_panel_Tabs N p0 p1 p2).bind fun y1 =>
  (F_etchhouseref9_Tabs N p0 p1 p2).bind fun y2 =>
  (F_slices_Equal_Point y1.1 y2.1).bind fun y3 =>
  (if (y3 && (y1.2 == y2.2)) then 
    (F_etchhouselaw9_awake N).bind fun y6 =>
    some y6
   else some false).bind fun g5 =>
  some g5

end Go.Proofs.Ytpkicpnbpldkpaa
