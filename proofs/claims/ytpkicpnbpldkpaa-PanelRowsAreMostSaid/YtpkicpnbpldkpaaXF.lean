/- The plain functions: what each function of the program computes; none where it would panic. -/
import Derived.Test.YtpkicpnbpldkpaaXT
namespace Go.Proofs.Ytpkicpnbpldkpaa
open Go.RowKit

def F_panel_within (p0 : Int) (p1 : Int) (p2 : Int) : Option Bool :=
  some ((decide (p1 ≤ p0)) && (decide (p0 ≤ p2)))

def F_plot_IsName_L1 (p0 : ByteArray) : Nat → Int → Option Bool
  | 0, _ => none
  | mF_plot_IsName_L1 + 1, x6 =>
    if (decide (x6 < (p0.size : Int))) then
      (strAt p0 x6).bind fun c7 =>
      if ((!(((decide (97 ≤ c7)) && (decide (c7 ≤ 122))) || ((decide (65 ≤ c7)) && (decide (c7 ≤ 90))))) && ((x6 == 0) || ((((decide (c7 < 48)) || (decide (57 < c7))) && (c7 != 95)) && (c7 != 45)))) then
        some false
      else
        (F_plot_IsName_L1 p0 mF_plot_IsName_L1) (w64 (x6 + 1))
    else
      some ((decide (1 ≤ (p0.size : Int))) && (decide ((p0.size : Int) ≤ 40)))
def F_plot_IsName (N : Nat) (p0 : ByteArray) : Option Bool :=
  F_plot_IsName_L1 p0 N 0

def F_panel_checkKinds_L1 (N : Nat) (p0 : (List TBoardKind)) : List TBoardKind → Nat → Option Int
  | [], iF_panel_checkKinds_L1 =>
    some 0
  | xF_panel_checkKinds_L1 :: restF_panel_checkKinds_L1, iF_panel_checkKinds_L1 =>
    (F_plot_IsName N xF_panel_checkKinds_L1.Name).bind fun y11 =>
    if (!y11) then
      some 5
    else
      (F_panel_within xF_panel_checkKinds_L1.W 1 1000000).bind fun y12 =>
      (if (!y12) then some true else 
        (F_panel_within xF_panel_checkKinds_L1.H 1 1000000).bind fun y15 =>
        some (!y15)
      ).bind fun g14 =>
      if g14 then
        some 1
      else
        (if (decide (0 < (iF_panel_checkKinds_L1 : Int))) then 
          (idx p0 (w64 ((iF_panel_checkKinds_L1 : Int) - 1))).bind fun x18 =>
          some (sLt xF_panel_checkKinds_L1.Name x18.Name || sEq xF_panel_checkKinds_L1.Name x18.Name)
         else some false).bind fun g17 =>
        if g17 then
          some 8
        else
          (F_panel_checkKinds_L1 N p0 restF_panel_checkKinds_L1 (iF_panel_checkKinds_L1 + 1))
def F_panel_checkKinds (N : Nat) (p0 : (List TBoardKind)) : Option Int :=
  if (decide (50 < (p0.length : Int))) then
    some 2
  else
    F_panel_checkKinds_L1 N p0 p0 0


def F_panel_kindAt_1 (p0 : TBoardKind) (q0 : ByteArray) : Option Bool :=
  some (sEq p0.Name q0)

def F_slices_IndexFunc_BoardKind_L1 (p1 : TBoardKind → Option Bool) : List TBoardKind → Nat → Option Int
  | [], iF_slices_IndexFunc_BoardKind_L1 =>
    some (-1)
  | xF_slices_IndexFunc_BoardKind_L1 :: restF_slices_IndexFunc_BoardKind_L1, iF_slices_IndexFunc_BoardKind_L1 =>
    (p1 xF_slices_IndexFunc_BoardKind_L1).bind fun y4 =>
    if y4 then
      some (iF_slices_IndexFunc_BoardKind_L1 : Int)
    else
      (F_slices_IndexFunc_BoardKind_L1 p1 restF_slices_IndexFunc_BoardKind_L1 (iF_slices_IndexFunc_BoardKind_L1 + 1))
def F_slices_IndexFunc_BoardKind (p0 : (List TBoardKind)) (p1 : TBoardKind → Option Bool) : Option Int :=
  F_slices_IndexFunc_BoardKind_L1 p1 p0 0


def F_panel_kindAt (p0 : TPanel) (p1 : ByteArray) : Option Int :=
  (F_slices_IndexFunc_BoardKind p0.Kinds (fun z0 => F_panel_kindAt_1 z0 p1)).bind fun y1 =>
  some y1


def F_panel_sizeOf (p0 : TBoardKind) (p1 : Int) : Option (Int × Int) :=
  if ((Int.tmod p1 2) == 1) then
    some (p0.H, p0.W)
  else
    some (p0.W, p0.H)


def F_panel_cellOf (p0 : TPanel) (p1 : TSlot) : Option TRect :=
  (F_panel_kindAt p0 p1.Board).bind fun y1 =>
  (idx p0.Kinds y1).bind fun x2 =>
  (F_panel_sizeOf x2 p1.Quarters).bind fun y3 =>
  some (TRect.mk p1.At.X p1.At.Y (w64 (p1.At.X + y3.1)) (w64 (p1.At.Y + y3.2)))


def F_panel_isOn (p0 : TPanel) (p1 : TRect) : Option Bool :=
  some ((((((decide (p0.Rail ≤ p1.X0)) && (decide (p0.Rail ≤ p1.Y0))) && (decide (p1.X0 ≤ p0.W))) && (decide (p1.Y0 ≤ p0.H))) && (decide (p1.X1 ≤ (w64 (p0.W - p0.Rail))))) && (decide (p1.Y1 ≤ (w64 (p0.H - p0.Rail)))))


def F_panel_isApart (p0 : TRect) (p1 : TRect) (p2 : Int) : Option Bool :=
  some ((((decide ((w64 (p0.X1 + p2)) ≤ p1.X0)) || (decide ((w64 (p1.X1 + p2)) ≤ p0.X0))) || (decide ((w64 (p0.Y1 + p2)) ≤ p1.Y0))) || (decide ((w64 (p1.Y1 + p2)) ≤ p0.Y0)))


def F_panel_cells_1 (p0 : TRect) (q0 : TRect) (q1 : TPanel) : Option Bool :=
  (F_panel_isApart q0 p0 q1.Gap).bind fun y1 =>
  some (!y1)

def F_slices_IndexFunc_Rect_L1 (p1 : TRect → Option Bool) : List TRect → Nat → Option Int
  | [], iF_slices_IndexFunc_Rect_L1 =>
    some (-1)
  | xF_slices_IndexFunc_Rect_L1 :: restF_slices_IndexFunc_Rect_L1, iF_slices_IndexFunc_Rect_L1 =>
    (p1 xF_slices_IndexFunc_Rect_L1).bind fun y4 =>
    if y4 then
      some (iF_slices_IndexFunc_Rect_L1 : Int)
    else
      (F_slices_IndexFunc_Rect_L1 p1 restF_slices_IndexFunc_Rect_L1 (iF_slices_IndexFunc_Rect_L1 + 1))
def F_slices_IndexFunc_Rect (p0 : (List TRect)) (p1 : TRect → Option Bool) : Option Int :=
  F_slices_IndexFunc_Rect_L1 p1 p0 0


def F_slices_ContainsFunc_Rect (p0 : (List TRect)) (p1 : TRect → Option Bool) : Option Bool :=
  (F_slices_IndexFunc_Rect p0 p1).bind fun y1 =>
  some (decide (0 ≤ y1))

def F_panel_cells_L1 (p0 : TPanel) : List TSlot → Nat → List TRect → Option ((List TRect) × Int)
  | [], iF_panel_cells_L1, l33 =>
    some (l33, 0)
  | xF_panel_cells_L1 :: restF_panel_cells_L1, iF_panel_cells_L1, l33 =>
    (F_panel_kindAt p0 xF_panel_cells_L1.Board).bind fun y34 =>
    if (decide (y34 < 0)) then
      some (([] : List TRect), 5)
    else
      (F_panel_within xF_panel_cells_L1.Quarters 0 3).bind fun y35 =>
      (if (!y35) then some true else 
        (F_panel_within xF_panel_cells_L1.At.X 0 p0.W).bind fun y38 =>
        some (!y38)
      ).bind fun g37 =>
      (if g37 then some true else 
        (F_panel_within xF_panel_cells_L1.At.Y 0 p0.H).bind fun y41 =>
        some (!y41)
      ).bind fun g40 =>
      if g40 then
        some (([] : List TRect), 1)
      else
        (F_panel_cellOf p0 xF_panel_cells_L1).bind fun y42 =>
        (F_panel_isOn p0 y42).bind fun y43 =>
        if (!y43) then
          some (([] : List TRect), 1)
        else
          (F_slices_ContainsFunc_Rect l33 (fun z0 => F_panel_cells_1 z0 y42 p0)).bind fun y44 =>
          if y44 then
            some (([] : List TRect), 12)
          else
            (apd l33 [y42]).bind fun l45 =>
            (F_panel_cells_L1 p0 restF_panel_cells_L1 (iF_panel_cells_L1 + 1)) l45
def F_panel_cells (p0 : TPanel) : Option ((List TRect) × Int) :=
  if (decide (500 < (p0.Slots.length : Int))) then
    some (([] : List TRect), 2)
  else
    F_panel_cells_L1 p0 p0.Slots 0 ([] : List TRect)


def F_panel_isOnPanel (p0 : TPanel) (p1 : TPoint) : Option Bool :=
  (F_panel_within p1.X 0 p0.W).bind fun y1 =>
  (if y1 then 
    (F_panel_within p1.Y 0 p0.H).bind fun y4 =>
    some y4
   else some false).bind fun g3 =>
  some g3


def F_panel_isInside (p0 : TRect) (p1 : TPoint) : Option Bool :=
  some ((((decide (p0.X0 < p1.X)) && (decide (p1.X < p0.X1))) && (decide (p0.Y0 < p1.Y))) && (decide (p1.Y < p0.Y1)))


def F_panel_open_1 (p0 : TRect) (q0 : TPoint) : Option Bool :=
  (F_panel_isInside p0 q0).bind fun y1 =>
  some y1

def F_slices_Index_Point_L1 (p1 : TPoint) : List TPoint → Nat → Option Int
  | [], iF_slices_Index_Point_L1 =>
    some (-1)
  | xF_slices_Index_Point_L1 :: restF_slices_Index_Point_L1, iF_slices_Index_Point_L1 =>
    if (eqTPoint p1 xF_slices_Index_Point_L1) then
      some (iF_slices_Index_Point_L1 : Int)
    else
      (F_slices_Index_Point_L1 p1 restF_slices_Index_Point_L1 (iF_slices_Index_Point_L1 + 1))
def F_slices_Index_Point (p0 : (List TPoint)) (p1 : TPoint) : Option Int :=
  F_slices_Index_Point_L1 p1 p0 0


def F_slices_Contains_Point (p0 : (List TPoint)) (p1 : TPoint) : Option Bool :=
  (F_slices_Index_Point p0 p1).bind fun y1 =>
  some (decide (0 ≤ y1))

def F_panel_open_L1 (p0 : TPanel) (y12 : ((List TRect) × Int)) : List TPoint → Nat → Option ((List TRect) × Int)
  | [], iF_panel_open_L1 =>
    some (y12.1, 0)
  | xF_panel_open_L1 :: restF_panel_open_L1, iF_panel_open_L1 =>
    (F_panel_isOnPanel p0 xF_panel_open_L1).bind fun y19 =>
    if (!y19) then
      some (([] : List TRect), 1)
    else
      (F_slices_ContainsFunc_Rect y12.1 (fun z0 => F_panel_open_1 z0 xF_panel_open_L1)).bind fun y20 =>
      if y20 then
        some (([] : List TRect), 12)
      else
        (cut p0.Marks 0 (iF_panel_open_L1 : Int)).bind fun l21 =>
        (F_slices_Contains_Point l21 xF_panel_open_L1).bind fun y22 =>
        if y22 then
          some (([] : List TRect), 7)
        else
          (F_panel_open_L1 p0 y12 restF_panel_open_L1 (iF_panel_open_L1 + 1))
def F_panel_open (N : Nat) (p0 : TPanel) : Option ((List TRect) × Int) :=
  (F_panel_within p0.W 1 1000000).bind fun y1 =>
  (if (!y1) then some true else 
    (F_panel_within p0.H 1 1000000).bind fun y4 =>
    some (!y4)
  ).bind fun g3 =>
  (if g3 then some true else 
    (F_panel_within p0.Rail 0 1000000).bind fun y7 =>
    some (!y7)
  ).bind fun g6 =>
  (if g6 then some true else 
    (F_panel_within p0.Gap 0 1000000).bind fun y10 =>
    some (!y10)
  ).bind fun g9 =>
  if g9 then
    some (([] : List TRect), 1)
  else
    (F_panel_checkKinds N p0.Kinds).bind fun y11 =>
    if (y11 != 0) then
      some (([] : List TRect), y11)
    else
      (F_panel_cells p0).bind fun y12 =>
      if (y12.2 != 0) then
        some (([] : List TRect), y12.2)
      else
        if (decide (10 < (p0.Marks.length : Int))) then
          some (([] : List TRect), 2)
        else
          F_panel_open_L1 p0 y12 p0.Marks 0


def F_panel_CheckPanel (N : Nat) (p0 : TPanel) : Option Int :=
  (F_panel_open N p0).bind fun y1 =>
  some y1.2

def F_panel_turnOf_J1 (p1 : TSlot) (x5 : Int) (x6 : Int) : Option TTurn :=
  some (TTurn.mk false p1.Quarters (TPoint.mk x5 x6))
def F_panel_turnOf (p0 : TPanel) (p1 : TSlot) : Option TTurn :=
  (F_panel_kindAt p0 p1.Board).bind fun y2 =>
  (idx p0.Kinds y2).bind fun x3 =>
  if (p1.Quarters == 1) then
    F_panel_turnOf_J1 p1 (w64 (p1.At.X + x3.H)) p1.At.Y
  else
    if (p1.Quarters == 2) then
      F_panel_turnOf_J1 p1 (w64 (p1.At.X + x3.W)) (w64 (p1.At.Y + x3.H))
    else
      if (p1.Quarters == 3) then
        F_panel_turnOf_J1 p1 p1.At.X (w64 (p1.At.Y + x3.W))
      else
        F_panel_turnOf_J1 p1 p1.At.X p1.At.Y


def F_panel_SlotTurn (N : Nat) (p0 : TPanel) (p1 : Int) : Option (TTurn × Int) :=
  (F_panel_CheckPanel N p0).bind fun y1 =>
  if (y1 != 0) then
    some ((TTurn.mk false 0 (TPoint.mk 0 0)), y1)
  else
    (F_panel_within p1 0 (w64 ((p0.Slots.length : Int) - 1))).bind fun y2 =>
    if (!y2) then
      some ((TTurn.mk false 0 (TPoint.mk 0 0)), 9)
    else
      (idx p0.Slots p1).bind fun x3 =>
      (F_panel_turnOf p0 x3).bind fun y4 =>
      some (y4, 0)


def F_etchhouseref9_within (p0 : Int) (p1 : Int) (p2 : Int) : Option Bool :=
  some ((decide (p1 ≤ p0)) && (decide (p0 ≤ p2)))


def F_etchhouseref3_within (p0 : Int) (p1 : Int) (p2 : Int) : Option Bool :=
  some ((decide (p1 ≤ p0)) && (decide (p0 ≤ p2)))

def F_etchhouseref3_IsName_L1 (p0 : ByteArray) : Nat → Int → Option Bool
  | 0, _ => none
  | mF_etchhouseref3_IsName_L1 + 1, x6 =>
    if (decide (x6 < (p0.size : Int))) then
      (strAt p0 x6).bind fun c7 =>
      if ((!(((decide (97 ≤ c7)) && (decide (c7 ≤ 122))) || ((decide (65 ≤ c7)) && (decide (c7 ≤ 90))))) && ((x6 == 0) || (((c7 != 95) && (c7 != 45)) && (!((decide (48 ≤ c7)) && (decide (c7 ≤ 57))))))) then
        some false
      else
        (F_etchhouseref3_IsName_L1 p0 mF_etchhouseref3_IsName_L1) (w64 (x6 + 1))
    else
      (F_etchhouseref3_within (p0.size : Int) 1 40).bind fun y8 =>
      some y8
def F_etchhouseref3_IsName (N : Nat) (p0 : ByteArray) : Option Bool :=
  F_etchhouseref3_IsName_L1 p0 N 0

def F_etchhouseref9_kind_L1 (p0 : TPanel) (p1 : ByteArray) : Nat → Int → Option Int
  | 0, _ => none
  | mF_etchhouseref9_kind_L1 + 1, x6 =>
    if (decide (x6 < (p0.Kinds.length : Int))) then
      (idx p0.Kinds x6).bind fun x7 =>
      if (sEq x7.Name p1) then
        some x6
      else
        (F_etchhouseref9_kind_L1 p0 p1 mF_etchhouseref9_kind_L1) (w64 (x6 + 1))
    else
      some (-1)
def F_etchhouseref9_kind (N : Nat) (p0 : TPanel) (p1 : ByteArray) : Option Int :=
  F_etchhouseref9_kind_L1 p0 p1 N 0


def F_etchhouseref9_sizeOf (p0 : TBoardKind) (p1 : Int) : Option (Int × Int) :=
  if ((Int.tmod p1 2) == 1) then
    some (p0.H, p0.W)
  else
    some (p0.W, p0.H)


def F_etchhouseref9_lies (p0 : TPanel) (p1 : TPoint) (p2 : Int) (p3 : Int) : Option Bool :=
  (F_etchhouseref9_within p1.X p0.Rail (w64 ((w64 (p0.W - p0.Rail)) - p2))).bind fun y1 =>
  (if y1 then 
    (F_etchhouseref9_within p1.Y p0.Rail (w64 ((w64 (p0.H - p0.Rail)) - p3))).bind fun y4 =>
    some y4
   else some false).bind fun g3 =>
  some g3


def F_etchhouseref9_cellOf (N : Nat) (p0 : TPanel) (p1 : TSlot) : Option TRect :=
  (F_etchhouseref9_kind N p0 p1.Board).bind fun y1 =>
  (idx p0.Kinds y1).bind fun x2 =>
  (F_etchhouseref9_sizeOf x2 p1.Quarters).bind fun y3 =>
  some (TRect.mk p1.At.X p1.At.Y (w64 (p1.At.X + y3.1)) (w64 (p1.At.Y + y3.2)))


def F_etchhouseref9_apart (p0 : TRect) (p1 : TRect) (p2 : Int) : Option Bool :=
  some ((((decide ((w64 (p0.X1 + p2)) ≤ p1.X0)) || (decide ((w64 (p1.X1 + p2)) ≤ p0.X0))) || (decide ((w64 (p0.Y1 + p2)) ≤ p1.Y0))) || (decide ((w64 (p1.Y1 + p2)) ≤ p0.Y0)))

def F_etchhouseref9_checkSlot_L1 (N : Nat) (p0 : TPanel) (p1 : Int) (x1 : TSlot) : Nat → Int → Option Int
  | 0, _ => none
  | mF_etchhouseref9_checkSlot_L1 + 1, x18 =>
    if (decide (x18 < p1)) then
      (F_etchhouseref9_cellOf N p0 x1).bind fun y19 =>
      (idx p0.Slots x18).bind fun x20 =>
      (F_etchhouseref9_cellOf N p0 x20).bind fun y21 =>
      (F_etchhouseref9_apart y19 y21 p0.Gap).bind fun y22 =>
      if (!y22) then
        some 12
      else
        (F_etchhouseref9_checkSlot_L1 N p0 p1 x1 mF_etchhouseref9_checkSlot_L1) (w64 (x18 + 1))
    else
      some 0
def F_etchhouseref9_checkSlot (N : Nat) (p0 : TPanel) (p1 : Int) : Option Int :=
  (idx p0.Slots p1).bind fun x1 =>
  (F_etchhouseref9_kind N p0 x1.Board).bind fun y2 =>
  if (decide (y2 < 0)) then
    some 5
  else
    (F_etchhouseref9_within x1.Quarters 0 3).bind fun y3 =>
    if (!y3) then
      some 1
    else
      (idx p0.Kinds y2).bind fun x4 =>
      (F_etchhouseref9_sizeOf x4 x1.Quarters).bind fun y5 =>
      (F_etchhouseref9_lies p0 x1.At y5.1 y5.2).bind fun y6 =>
      if (!y6) then
        some 1
      else
        F_etchhouseref9_checkSlot_L1 N p0 p1 x1 N 0

def F_etchhouseref9_checkMark_L2 (p0 : TPanel) (p1 : Int) (x1 : TPoint) : Nat → Int → Option Int
  | 0, _ => none
  | mF_etchhouseref9_checkMark_L2 + 1, x24 =>
    if (decide (x24 < p1)) then
      (idx p0.Marks x24).bind fun x25 =>
      if (eqTPoint x25 x1) then
        some 7
      else
        (F_etchhouseref9_checkMark_L2 p0 p1 x1 mF_etchhouseref9_checkMark_L2) (w64 (x24 + 1))
    else
      some 0
def F_etchhouseref9_checkMark_L1 (N : Nat) (p0 : TPanel) (p1 : Int) (x1 : TPoint) : Nat → Int → Option Int
  | 0, _ => none
  | mF_etchhouseref9_checkMark_L1 + 1, x15 =>
    if (decide (x15 < (p0.Slots.length : Int))) then
      (idx p0.Slots x15).bind fun x17 =>
      (F_etchhouseref9_cellOf N p0 x17).bind fun y18 =>
      if ((((decide (y18.X0 < x1.X)) && (decide (x1.X < y18.X1))) && (decide (y18.Y0 < x1.Y))) && (decide (x1.Y < y18.Y1))) then
        some 12
      else
        (F_etchhouseref9_checkMark_L1 N p0 p1 x1 mF_etchhouseref9_checkMark_L1) (w64 (x15 + 1))
    else
      F_etchhouseref9_checkMark_L2 p0 p1 x1 N 0
def F_etchhouseref9_checkMark (N : Nat) (p0 : TPanel) (p1 : Int) : Option Int :=
  (idx p0.Marks p1).bind fun x1 =>
  (F_etchhouseref9_within x1.X 0 p0.W).bind fun y2 =>
  (if (!y2) then some true else 
    (F_etchhouseref9_within x1.Y 0 p0.H).bind fun y5 =>
    some (!y5)
  ).bind fun g4 =>
  if g4 then
    some 1
  else
    F_etchhouseref9_checkMark_L1 N p0 p1 x1 N 0

def F_etchhouseref9_CheckPanel_L3 (N : Nat) (p0 : TPanel) : Nat → Int → Option Int
  | 0, _ => none
  | mF_etchhouseref9_CheckPanel_L3 + 1, x54 =>
    if (decide (x54 < (p0.Marks.length : Int))) then
      (F_etchhouseref9_checkMark N p0 x54).bind fun y55 =>
      if (y55 != 0) then
        some y55
      else
        (F_etchhouseref9_CheckPanel_L3 N p0 mF_etchhouseref9_CheckPanel_L3) (w64 (x54 + 1))
    else
      some 0
def F_etchhouseref9_CheckPanel_L2 (N : Nat) (p0 : TPanel) : Nat → Int → Option Int
  | 0, _ => none
  | mF_etchhouseref9_CheckPanel_L2 + 1, x47 =>
    if (decide (x47 < (p0.Slots.length : Int))) then
      (F_etchhouseref9_checkSlot N p0 x47).bind fun y48 =>
      if (y48 != 0) then
        some y48
      else
        (F_etchhouseref9_CheckPanel_L2 N p0 mF_etchhouseref9_CheckPanel_L2) (w64 (x47 + 1))
    else
      if (decide (10 < (p0.Marks.length : Int))) then
        some 2
      else
        F_etchhouseref9_CheckPanel_L3 N p0 N 0
def F_etchhouseref9_CheckPanel_L1 (N : Nat) (p0 : TPanel) : Nat → Int → Option Int
  | 0, _ => none
  | mF_etchhouseref9_CheckPanel_L1 + 1, x32 =>
    if (decide (x32 < (p0.Kinds.length : Int))) then
      (idx p0.Kinds x32).bind fun x33 =>
      (F_etchhouseref3_IsName N x33.Name).bind fun y34 =>
      if (!y34) then
        some 5
      else
        (F_etchhouseref9_within x33.W 1 1000000).bind fun y35 =>
        (if (!y35) then some true else 
          (F_etchhouseref9_within x33.H 1 1000000).bind fun y38 =>
          some (!y38)
        ).bind fun g37 =>
        if g37 then
          some 1
        else
          (if (decide (0 < x32)) then 
            (idx p0.Kinds (w64 (x32 - 1))).bind fun x41 =>
            some (sLt x33.Name x41.Name || sEq x33.Name x41.Name)
           else some false).bind fun g40 =>
          if g40 then
            some 8
          else
            (F_etchhouseref9_CheckPanel_L1 N p0 mF_etchhouseref9_CheckPanel_L1) (w64 (x32 + 1))
    else
      if (decide (500 < (p0.Slots.length : Int))) then
        some 2
      else
        F_etchhouseref9_CheckPanel_L2 N p0 N 0
def F_etchhouseref9_CheckPanel (N : Nat) (p0 : TPanel) : Option Int :=
  (F_etchhouseref9_within p0.W 1 1000000).bind fun y1 =>
  (if (!y1) then some true else 
    (F_etchhouseref9_within p0.H 1 1000000).bind fun y4 =>
    some (!y4)
  ).bind fun g3 =>
  (if g3 then some true else 
    (F_etchhouseref9_within p0.Rail 0 1000000).bind fun y7 =>
    some (!y7)
  ).bind fun g6 =>
  (if g6 then some true else 
    (F_etchhouseref9_within p0.Gap 0 1000000).bind fun y10 =>
    some (!y10)
  ).bind fun g9 =>
  if g9 then
    some 1
  else
    if (decide (50 < (p0.Kinds.length : Int))) then
      some 2
    else
      F_etchhouseref9_CheckPanel_L1 N p0 N 0

def F_etchhouseref9_turnOf_J1 (p1 : TSlot) (x4 : Int) (x5 : Int) : Option TTurn :=
  some (TTurn.mk false p1.Quarters (TPoint.mk x4 x5))
def F_etchhouseref9_turnOf (N : Nat) (p0 : TPanel) (p1 : TSlot) : Option TTurn :=
  (F_etchhouseref9_kind N p0 p1.Board).bind fun y2 =>
  (idx p0.Kinds y2).bind fun x3 =>
  if (p1.Quarters == 1) then
    F_etchhouseref9_turnOf_J1 p1 (w64 (p1.At.X + x3.H)) p1.At.Y
  else
    if (p1.Quarters == 2) then
      F_etchhouseref9_turnOf_J1 p1 (w64 (p1.At.X + x3.W)) (w64 (p1.At.Y + x3.H))
    else
      if (p1.Quarters == 3) then
        F_etchhouseref9_turnOf_J1 p1 p1.At.X (w64 (p1.At.Y + x3.W))
      else
        F_etchhouseref9_turnOf_J1 p1 p1.At.X p1.At.Y


def F_etchhouseref9_SlotTurn (N : Nat) (p0 : TPanel) (p1 : Int) : Option (TTurn × Int) :=
  (F_etchhouseref9_CheckPanel N p0).bind fun y1 =>
  if (y1 != 0) then
    some ((TTurn.mk false 0 (TPoint.mk 0 0)), y1)
  else
    (F_etchhouseref9_within p1 0 (w64 ((p0.Slots.length : Int) - 1))).bind fun y2 =>
    if (!y2) then
      some ((TTurn.mk false 0 (TPoint.mk 0 0)), 9)
    else
      (idx p0.Slots p1).bind fun x3 =>
      (F_etchhouseref9_turnOf N p0 x3).bind fun y4 =>
      some (y4, 0)

def F_shape_TurnPoint_L1 (p1 : TTurn) : Nat → Int → Int → Int → Option TPoint
  | 0, _, _, _ => none
  | mF_shape_TurnPoint_L1 + 1, x11, x12, x13 =>
    if (decide (x13 < p1.Quarters)) then
      (F_shape_TurnPoint_L1 p1 mF_shape_TurnPoint_L1) (w64 (0 - x12)) x11 (w64 (x13 + 1))
    else
      some (TPoint.mk (w64 (x11 + p1.At.X)) (w64 (x12 + p1.At.Y)))
def F_shape_TurnPoint_J2 (N : Nat) (p0 : TPoint) (p1 : TTurn) (x1 : Int) : Option TPoint :=
  F_shape_TurnPoint_L1 p1 N x1 p0.Y 0
def F_shape_TurnPoint (N : Nat) (p0 : TPoint) (p1 : TTurn) : Option TPoint :=
  if p1.Flip then
    F_shape_TurnPoint_J2 N p0 p1 (w64 (0 - p0.X))
  else
    F_shape_TurnPoint_J2 N p0 p1 p0.X


def F_panel_ToPanel (N : Nat) (p0 : TPanel) (p1 : Int) (p2 : TPoint) : Option (TPoint × Int) :=
  (F_panel_SlotTurn N p0 p1).bind fun y1 =>
  if (y1.2 != 0) then
    some ((TPoint.mk 0 0), y1.2)
  else
    (idx p0.Slots p1).bind fun x3 =>
    (F_panel_kindAt p0 x3.Board).bind fun y4 =>
    (idx p0.Kinds y4).bind fun x5 =>
    (F_panel_within p2.X 0 x5.W).bind fun y6 =>
    (if (!y6) then some true else 
      (F_panel_within p2.Y 0 x5.H).bind fun y9 =>
      some (!y9)
    ).bind fun g8 =>
    if g8 then
      some ((TPoint.mk 0 0), 1)
    else
      (F_shape_TurnPoint N p2 y1.1).bind fun y10 =>
      some (y10, 0)

def F_etchhouseref1_around_L1 (p1 : TTurn) : Nat → Int → Int → Int → Option TPoint
  | 0, _, _, _ => none
  | mF_etchhouseref1_around_L1 + 1, x11, x12, x13 =>
    if (decide (x13 < p1.Quarters)) then
      (F_etchhouseref1_around_L1 p1 mF_etchhouseref1_around_L1) (w64 (0 - x12)) x11 (w64 (x13 + 1))
    else
      some (TPoint.mk x11 x12)
def F_etchhouseref1_around_J2 (N : Nat) (p0 : TPoint) (p1 : TTurn) (x1 : Int) : Option TPoint :=
  F_etchhouseref1_around_L1 p1 N x1 p0.Y 0
def F_etchhouseref1_around (N : Nat) (p0 : TPoint) (p1 : TTurn) : Option TPoint :=
  if p1.Flip then
    F_etchhouseref1_around_J2 N p0 p1 (w64 (0 - p0.X))
  else
    F_etchhouseref1_around_J2 N p0 p1 p0.X


def F_etchhouseref1_TurnPoint (N : Nat) (p0 : TPoint) (p1 : TTurn) : Option TPoint :=
  (F_etchhouseref1_around N p0 p1).bind fun y1 =>
  some (TPoint.mk (w64 (y1.X + p1.At.X)) (w64 (y1.Y + p1.At.Y)))


def F_etchhouseref9_ToPanel (N : Nat) (p0 : TPanel) (p1 : Int) (p2 : TPoint) : Option (TPoint × Int) :=
  (F_etchhouseref9_SlotTurn N p0 p1).bind fun y1 =>
  if (y1.2 != 0) then
    some ((TPoint.mk 0 0), y1.2)
  else
    (idx p0.Slots p1).bind fun x3 =>
    (F_etchhouseref9_kind N p0 x3.Board).bind fun y4 =>
    (idx p0.Kinds y4).bind fun x5 =>
    (F_etchhouseref9_within p2.X 0 x5.W).bind fun y6 =>
    (if (!y6) then some true else 
      (F_etchhouseref9_within p2.Y 0 x5.H).bind fun y9 =>
      some (!y9)
    ).bind fun g8 =>
    if g8 then
      some ((TPoint.mk 0 0), 1)
    else
      (F_etchhouseref1_TurnPoint N p2 y1.1).bind fun y10 =>
      some (y10, 0)


def F_shape_within (p0 : Int) (p1 : Int) (p2 : Int) : Option Bool :=
  some ((decide (p1 ≤ p0)) && (decide (p0 ≤ p2)))


def F_shape_IsAt (p0 : Int) : Option Bool :=
  (F_shape_within p0 (-1000000) 1000000).bind fun y1 =>
  some y1


def F_shape_IsPoint (p0 : TPoint) : Option Bool :=
  (F_shape_IsAt p0.X).bind fun y1 =>
  (if y1 then 
    (F_shape_IsAt p0.Y).bind fun y4 =>
    some y4
   else some false).bind fun g3 =>
  some g3


def F_shape_CheckTurn (p0 : TTurn) : Option Int :=
  (F_shape_within p0.Quarters 0 3).bind fun y1 =>
  (if (!y1) then some true else 
    (F_shape_IsPoint p0.At).bind fun y4 =>
    some (!y4)
  ).bind fun g3 =>
  if g3 then
    some 1
  else
    some 0

def F_shape_Back_J1 (N : Nat) (p0 : TTurn) (x2 : Int) : Option (TTurn × Int) :=
  (F_shape_TurnPoint N p0.At (TTurn.mk p0.Flip x2 (TPoint.mk 0 0))).bind fun y3 =>
  some ((TTurn.mk p0.Flip x2 (TPoint.mk (w64 (0 - y3.X)) (w64 (0 - y3.Y)))), 0)
def F_shape_Back (N : Nat) (p0 : TTurn) : Option (TTurn × Int) :=
  (F_shape_CheckTurn p0).bind fun y1 =>
  if (y1 != 0) then
    some ((TTurn.mk false 0 (TPoint.mk 0 0)), y1)
  else
    if (!p0.Flip) then
      F_shape_Back_J1 N p0 (Int.tmod (w64 (4 - p0.Quarters)) 4)
    else
      F_shape_Back_J1 N p0 p0.Quarters

def F_panel_ToBoard_L1 (N : Nat) (p0 : TPanel) (p1 : TPoint) : List TRect → Nat → Option (Int × TPoint × Bool × Int)
  | [], iF_panel_ToBoard_L1 =>
    some (0, (TPoint.mk 0 0), false, 0)
  | xF_panel_ToBoard_L1 :: restF_panel_ToBoard_L1, iF_panel_ToBoard_L1 =>
    (F_panel_within p1.X xF_panel_ToBoard_L1.X0 xF_panel_ToBoard_L1.X1).bind fun y14 =>
    (if y14 then 
      (F_panel_within p1.Y xF_panel_ToBoard_L1.Y0 xF_panel_ToBoard_L1.Y1).bind fun y17 =>
      some y17
     else some false).bind fun g16 =>
    if g16 then
      (idx p0.Slots (iF_panel_ToBoard_L1 : Int)).bind fun x19 =>
      (F_panel_turnOf p0 x19).bind fun y20 =>
      (F_shape_Back N y20).bind fun y21 =>
      (F_shape_TurnPoint N p1 y21.1).bind fun y22 =>
      some ((iF_panel_ToBoard_L1 : Int), y22, true, 0)
    else
      (F_panel_ToBoard_L1 N p0 p1 restF_panel_ToBoard_L1 (iF_panel_ToBoard_L1 + 1))
def F_panel_ToBoard (N : Nat) (p0 : TPanel) (p1 : TPoint) : Option (Int × TPoint × Bool × Int) :=
  (F_panel_open N p0).bind fun y1 =>
  if (y1.2 != 0) then
    some (0, (TPoint.mk 0 0), false, y1.2)
  else
    (F_panel_isOnPanel p0 p1).bind fun y2 =>
    if (!y2) then
      some (0, (TPoint.mk 0 0), false, 1)
    else
      F_panel_ToBoard_L1 N p0 p1 y1.1 0

def F_etchhouseref9_ToBoard_L1 (N : Nat) (p0 : TPanel) (p1 : TPoint) : Nat → Int → Option (Int × TPoint × Bool × Int)
  | 0, _ => none
  | mF_etchhouseref9_ToBoard_L1 + 1, x31 =>
    if (decide (x31 < (p0.Slots.length : Int))) then
      (idx p0.Slots x31).bind fun x33 =>
      (F_etchhouseref9_cellOf N p0 x33).bind fun y34 =>
      (F_etchhouseref9_within p1.X y34.X0 y34.X1).bind fun y35 =>
      (if y35 then 
        (F_etchhouseref9_within p1.Y y34.Y0 y34.Y1).bind fun y38 =>
        some y38
       else some false).bind fun g37 =>
      if g37 then
        (idx p0.Slots x31).bind fun x40 =>
        (F_etchhouseref9_turnOf N p0 x40).bind fun y41 =>
        (F_etchhouseref1_TurnPoint N (TPoint.mk (w64 (p1.X - y41.At.X)) (w64 (p1.Y - y41.At.Y))) (TTurn.mk false (Int.tmod (w64 (4 - y41.Quarters)) 4) (TPoint.mk 0 0))).bind fun y42 =>
        some (x31, y42, true, 0)
      else
        (F_etchhouseref9_ToBoard_L1 N p0 p1 mF_etchhouseref9_ToBoard_L1) (w64 (x31 + 1))
    else
      some (0, (TPoint.mk 0 0), false, 0)
def F_etchhouseref9_ToBoard (N : Nat) (p0 : TPanel) (p1 : TPoint) : Option (Int × TPoint × Bool × Int) :=
  (F_etchhouseref9_CheckPanel N p0).bind fun y1 =>
  if (y1 != 0) then
    some (0, (TPoint.mk 0 0), false, y1)
  else
    (F_etchhouseref9_within p1.X 0 p0.W).bind fun y2 =>
    (if (!y2) then some true else 
      (F_etchhouseref9_within p1.Y 0 p0.H).bind fun y5 =>
      some (!y5)
    ).bind fun g4 =>
    if g4 then
      some (0, (TPoint.mk 0 0), false, 1)
    else
      F_etchhouseref9_ToBoard_L1 N p0 p1 N 0

def F_shape_AreaOf_L1 : List TRect → Nat → Int → Option Int
  | [], iF_shape_AreaOf_L1, x9 =>
    some x9
  | xF_shape_AreaOf_L1 :: restF_shape_AreaOf_L1, iF_shape_AreaOf_L1, x9 =>
    (F_shape_AreaOf_L1 restF_shape_AreaOf_L1 (iF_shape_AreaOf_L1 + 1)) (w64 (x9 + (w64 ((w64 (xF_shape_AreaOf_L1.X1 - xF_shape_AreaOf_L1.X0)) * (w64 (xF_shape_AreaOf_L1.Y1 - xF_shape_AreaOf_L1.Y0))))))
def F_shape_AreaOf (p0 : (List TRect)) : Option Int :=
  F_shape_AreaOf_L1 p0 0 0

def F_panel_Lowest_L1 (p0 : Int) (p1 : Int) : Nat → Int → Int → Option TShare
  | 0, _, _ => none
  | mF_panel_Lowest_L1 + 1, x9, x10 =>
    if (x10 != 0) then
      (md x9 x10).bind fun q11 =>
      (F_panel_Lowest_L1 p0 p1 mF_panel_Lowest_L1) x10 q11
    else
      (dv p0 x9).bind fun q12 =>
      (dv p1 x9).bind fun q13 =>
      some (TShare.mk q12 q13)
def F_panel_Lowest (N : Nat) (p0 : Int) (p1 : Int) : Option TShare :=
  F_panel_Lowest_L1 p0 p1 N p0 p1


def F_panel_Use (N : Nat) (p0 : TPanel) : Option (TShare × Int) :=
  (F_panel_open N p0).bind fun y1 =>
  if (y1.2 != 0) then
    some ((TShare.mk 0 0), y1.2)
  else
    (F_shape_AreaOf y1.1).bind fun y2 =>
    (F_panel_Lowest N y2 (w64 (p0.W * p0.H))).bind fun y3 =>
    some (y3, 0)


def F_etchhouselaw9_awake (N : Nat)  : Option Bool :=
  (F_panel_Use N (TPanel.mk 1 1 0 0 [] [] [])).bind fun y1 =>
  some ((y1.2 == 0) && (eqTShare y1.1 (TShare.mk 0 1)))


def F_etchhouselaw9_PanelPointsMatchSpec (N : Nat) (p0 : TPanel) (p1 : Int) (p2 : TPoint) : Option Bool :=
  (F_panel_SlotTurn N p0 p1).bind fun y1 =>
  (F_etchhouseref9_SlotTurn N p0 p1).bind fun y2 =>
  (F_panel_ToPanel N p0 p1 p2).bind fun y3 =>
  (F_etchhouseref9_ToPanel N p0 p1 p2).bind fun y4 =>
  if ((((!(eqTTurn y1.1 y2.1)) || (y1.2 != y2.2)) || (!(eqTPoint y3.1 y4.1))) || (y3.2 != y4.2)) then
    some false
  else
    (F_panel_ToBoard N p0 p2).bind fun y5 =>
    (F_etchhouseref9_ToBoard N p0 p2).bind fun y6 =>
    (if ((((y5.1 == y6.1) && (eqTPoint y5.2.1 y6.2.1)) && (y5.2.2.1 == y6.2.2.1)) && (y5.2.2.2 == y6.2.2.2)) then 
      (F_etchhouselaw9_awake N).bind fun y9 =>
      some y9
     else some false).bind fun g8 =>
    some g8


def F_panel_many (p0 : Int) (p1 : Int) (p2 : Int) : Option Int :=
  if (decide (p0 < p1)) then
    some 0
  else
    (dv (w64 (p0 + p2)) (w64 (p1 + p2))).bind fun q1 =>
    some q1

def F_panel_row_L1 (p0 : TPanel) (p1 : ByteArray) (p2 : Int) (p3 : Int) (p4 : Int) (y3 : (Int × Int)) : Nat → List TSlot → Int → Option (List TSlot)
  | 0, _, _ => none
  | mF_panel_row_L1 + 1, l12, x13 =>
    if (decide (x13 < p3)) then
      (apd l12 [(TSlot.mk p1 p2 (TPoint.mk (w64 (p0.Rail + (w64 (x13 * (w64 (y3.1 + p0.Gap)))))) p4))]).bind fun l14 =>
      (F_panel_row_L1 p0 p1 p2 p3 p4 y3 mF_panel_row_L1) l14 (w64 (x13 + 1))
    else
      some l12
def F_panel_row (N : Nat) (p0 : TPanel) (p1 : ByteArray) (p2 : Int) (p3 : Int) (p4 : Int) : Option (List TSlot) :=
  (F_panel_kindAt p0 p1).bind fun y1 =>
  (idx p0.Kinds y1).bind fun x2 =>
  (F_panel_sizeOf x2 p2).bind fun y3 =>
  F_panel_row_L1 p0 p1 p2 p3 p4 y3 N ([] : List TSlot) 0


def F_slices_Clone_BoardKind (p0 : (List TBoardKind)) : Option (List TBoardKind) :=
  (apd ([] : List TBoardKind) p0).bind fun l1 =>
  some l1


def F_slices_Clone_Point (p0 : (List TPoint)) : Option (List TPoint) :=
  (apd ([] : List TPoint) p0).bind fun l1 =>
  some l1


def F_panel_own (p0 : TPanel) (p1 : (List TSlot)) : Option TPanel :=
  (F_slices_Clone_BoardKind p0.Kinds).bind fun y2 =>
  (F_slices_Clone_Point p0.Marks).bind fun y3 =>
  some (TPanel.mk p0.W p0.H p0.Rail p0.Gap y2 p1 y3)


def F_panel_told (N : Nat) (p0 : TPanel) : Option (TPanel × Int) :=
  (F_panel_CheckPanel N p0).bind fun y1 =>
  if (y1 != 0) then
    some ((TPanel.mk 0 0 0 0 [] [] []), y1)
  else
    some (p0, 0)

def F_panel_rows_J4 (N : Nat) (p0 : TPanel) (p1 : ByteArray) (x3 : TBoardKind) (l23 : List TSlot) (x24 : Int) (x25 : Int) (kF_panel_rows_L3 : (List TSlot) → Int → Int → Option (TPanel × Int)) (x26 : Int) (x27 : Int) : Option (TPanel × Int) :=
  (F_panel_sizeOf x3 x26).bind fun y28 =>
  (F_panel_row N p0 p1 x26 x27 x24).bind fun y29 =>
  (apd l23 y29).bind fun l30 =>
  kF_panel_rows_L3 l30 (w64 (x24 + (w64 (y28.2 + p0.Gap)))) (w64 (x25 + 1))
def F_panel_rows_L3 (N : Nat) (p0 : TPanel) (p1 : ByteArray) (p2 : Int) (p3 : Int) (p4 : Int) (p5 : Int) (p6 : Int) (x3 : TBoardKind) : Nat → List TSlot → Int → Int → Option (TPanel × Int)
  | 0, _, _, _ => none
  | mF_panel_rows_L3 + 1, l23, x24, x25 =>
    if (decide (x25 < (w64 (p4 + p6)))) then
      if (decide (p4 ≤ x25)) then
        F_panel_rows_J4 N p0 p1 x3 l23 x24 x25 (F_panel_rows_L3 N p0 p1 p2 p3 p4 p5 p6 x3 mF_panel_rows_L3) (w64 (p2 + 1)) p5
      else
        F_panel_rows_J4 N p0 p1 x3 l23 x24 x25 (F_panel_rows_L3 N p0 p1 p2 p3 p4 p5 p6 x3 mF_panel_rows_L3) p2 p3
    else
      (F_panel_own p0 l23).bind fun y32 =>
      (F_panel_told N y32).bind fun y33 =>
      some (y33.1, y33.2)
def F_panel_rows (N : Nat) (p0 : TPanel) (p1 : ByteArray) (p2 : Int) (p3 : Int) (p4 : Int) (p5 : Int) (p6 : Int) : Option (TPanel × Int) :=
  if (decide (500 < (w64 ((w64 (p4 * p3)) + (w64 (p6 * p5)))))) then
    some ((TPanel.mk 0 0 0 0 [] [] []), 2)
  else
    (F_panel_kindAt p0 p1).bind fun y2 =>
    (idx p0.Kinds y2).bind fun x3 =>
    F_panel_rows_L3 N p0 p1 p2 p3 p4 p5 p6 x3 N ([] : List TSlot) p0.Rail 0

def F_panel_Rows_J5 (y5 : Int) (y6 : Int) (x31 : Int) (x32 : Int) (x33 : Int) (kF_panel_Rows_L4 : Int → Int → Int → Option (TPanel × Int)) (x35 : Int) : Option (TPanel × Int) :=
  if (decide ((w64 ((w64 (x31 * y5)) + (w64 (x32 * y6)))) ≤ (w64 ((w64 (x33 * y5)) + (w64 (x35 * y6)))))) then
    kF_panel_Rows_L4 x33 x35 (w64 (x33 + 1))
  else
    kF_panel_Rows_L4 x31 x32 (w64 (x33 + 1))
def F_panel_Rows_L4 (N : Nat) (p0 : TPanel) (p1 : ByteArray) (y4 : (Int × Int)) (y5 : Int) (y6 : Int) (x8 : Int) : Nat → Int → Int → Int → Option (TPanel × Int)
  | 0, _, _, _ => none
  | mF_panel_Rows_L4 + 1, x31, x32, x33 =>
    if (decide (x33 ≤ x8)) then
      if (decide (0 < y6)) then
        (F_panel_many (w64 ((w64 (p0.H - (w64 (2 * p0.Rail)))) - (w64 (x33 * (w64 (y4.2 + p0.Gap)))))) y4.1 p0.Gap).bind fun y36 =>
        F_panel_Rows_J5 y5 y6 x31 x32 x33 (F_panel_Rows_L4 N p0 p1 y4 y5 y6 x8 mF_panel_Rows_L4) y36
      else
        F_panel_Rows_J5 y5 y6 x31 x32 x33 (F_panel_Rows_L4 N p0 p1 y4 y5 y6 x8 mF_panel_Rows_L4) 0
    else
      (F_panel_rows N p0 p1 0 y5 x31 y6 x32).bind fun y37 =>
      some (y37.1, y37.2)
def F_panel_Rows_J6 (N : Nat) (p0 : TPanel) (p1 : ByteArray) (y4 : (Int × Int)) (y5 : Int) (y6 : Int) (x8 : Int) : Option (TPanel × Int) :=
  F_panel_Rows_L4 N p0 p1 y4 y5 y6 x8 N 0 0 0
def F_panel_Rows (N : Nat) (p0 : TPanel) (p1 : ByteArray) : Option (TPanel × Int) :=
  (F_panel_CheckPanel N p0).bind fun y1 =>
  if (y1 != 0) then
    some ((TPanel.mk 0 0 0 0 [] [] []), y1)
  else
    (F_panel_kindAt p0 p1).bind fun y2 =>
    if (decide (y2 < 0)) then
      some ((TPanel.mk 0 0 0 0 [] [] []), 9)
    else
      (idx p0.Kinds y2).bind fun x3 =>
      (F_panel_sizeOf x3 0).bind fun y4 =>
      (F_panel_many (w64 (p0.W - (w64 (2 * p0.Rail)))) y4.1 p0.Gap).bind fun y5 =>
      (F_panel_many (w64 (p0.W - (w64 (2 * p0.Rail)))) y4.2 p0.Gap).bind fun y6 =>
      (F_panel_many (w64 (p0.H - (w64 (2 * p0.Rail)))) y4.2 p0.Gap).bind fun y7 =>
      if (y5 == 0) then
        F_panel_Rows_J6 N p0 p1 y4 y5 y6 0
      else
        F_panel_Rows_J6 N p0 p1 y4 y5 y6 y7

def F_panel_Grid_J1 (N : Nat) (p0 : TPanel) (p1 : ByteArray) (p2 : Int) (y6 : Int) (x8 : Int) : Option (TPanel × Int) :=
  (F_panel_rows N p0 p1 p2 y6 x8 0 0).bind fun y9 =>
  some (y9.1, y9.2)
def F_panel_Grid (N : Nat) (p0 : TPanel) (p1 : ByteArray) (p2 : Int) : Option (TPanel × Int) :=
  (F_panel_CheckPanel N p0).bind fun y1 =>
  if (y1 != 0) then
    some ((TPanel.mk 0 0 0 0 [] [] []), y1)
  else
    (F_panel_kindAt p0 p1).bind fun y2 =>
    if (decide (y2 < 0)) then
      some ((TPanel.mk 0 0 0 0 [] [] []), 9)
    else
      (F_panel_within p2 0 3).bind fun y3 =>
      if (!y3) then
        some ((TPanel.mk 0 0 0 0 [] [] []), 1)
      else
        (idx p0.Kinds y2).bind fun x4 =>
        (F_panel_sizeOf x4 p2).bind fun y5 =>
        (F_panel_many (w64 (p0.W - (w64 (2 * p0.Rail)))) y5.1 p0.Gap).bind fun y6 =>
        (F_panel_many (w64 (p0.H - (w64 (2 * p0.Rail)))) y5.2 p0.Gap).bind fun y7 =>
        if (y6 == 0) then
          F_panel_Grid_J1 N p0 p1 p2 y6 0
        else
          F_panel_Grid_J1 N p0 p1 p2 y6 y7


def F_etchhouselaw9_PanelRowsAreMost (N : Nat) (p0 : TPanel) (p1 : ByteArray) (p2 : Int) : Option Bool :=
  (F_panel_Rows N p0 p1).bind fun y1 =>
  if (y1.2 != 0) then
    (if (y1.1.W == 0) then 
      (F_etchhouselaw9_awake N).bind fun y4 =>
      some y4
     else some false).bind fun g3 =>
    some g3
  else
    (F_panel_Grid N p0 p1 p2).bind fun y5 =>
    (F_panel_CheckPanel N y1.1).bind fun y6 =>
    (if ((y6 == 0) && ((y5.2 != 0) || (decide ((y5.1.Slots.length : Int) ≤ (y1.1.Slots.length : Int))))) then 
      (F_etchhouselaw9_awake N).bind fun y9 =>
      some y9
     else some false).bind fun g8 =>
    some g8

end Go.Proofs.Ytpkicpnbpldkpaa
