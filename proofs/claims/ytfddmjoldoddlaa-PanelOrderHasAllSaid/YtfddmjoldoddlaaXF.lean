/- The plain functions: what each function of the program computes; none where it would panic. -/
import Derived.Test.YtfddmjoldoddlaaXT
namespace Go.Proofs.Ytfddmjoldoddlaa
open Go.RowKit

def F_panel_within (p0 : Int) (p1 : Int) (p2 : Int) : Option Bool :=
  some ((decide (p1 ≤ p0)) && (decide (p0 ≤ p2)))

def F_plot_IsName_L1 (p0 : ByteArray) : Nat → Int → Option Bool
  | 0, _ => none
  | mF_plot_IsName_L1 + 1, x105 =>
    if (decide (x105 < (p0.size : Int))) then
      (strAt p0 x105).bind fun c106 =>
      if ((!(((decide (97 ≤ c106)) && (decide (c106 ≤ 122))) || ((decide (65 ≤ c106)) && (decide (c106 ≤ 90))))) && ((x105 == 0) || ((((decide (c106 < 48)) || (decide (57 < c106))) && (c106 != 95)) && (c106 != 45)))) then
        some false
      else
        (F_plot_IsName_L1 p0 mF_plot_IsName_L1) (w64 (x105 + 1))
    else
      some ((decide (1 ≤ (p0.size : Int))) && (decide ((p0.size : Int) ≤ 40)))
def F_plot_IsName (N : Nat) (p0 : ByteArray) : Option Bool :=
  F_plot_IsName_L1 p0 N 0

def F_panel_checkKinds_L1 (N : Nat) (p0 : (List TBoardKind)) : List TBoardKind → Nat → Option Int
  | [], iF_panel_checkKinds_L1 =>
    some 0
  | xF_panel_checkKinds_L1 :: restF_panel_checkKinds_L1, iF_panel_checkKinds_L1 =>
    (F_plot_IsName N xF_panel_checkKinds_L1.Name).bind fun y112 =>
    if (!y112) then
      some 5
    else
      (F_panel_within xF_panel_checkKinds_L1.W 1 1000000).bind fun y113 =>
      (if (!y113) then some true else 
        (F_panel_within xF_panel_checkKinds_L1.H 1 1000000).bind fun y116 =>
        some (!y116)
      ).bind fun g115 =>
      if g115 then
        some 1
      else
        (if (decide (0 < (iF_panel_checkKinds_L1 : Int))) then 
          (idx p0 (w64 ((iF_panel_checkKinds_L1 : Int) - 1))).bind fun x119 =>
          some (sLt xF_panel_checkKinds_L1.Name x119.Name || sEq xF_panel_checkKinds_L1.Name x119.Name)
         else some false).bind fun g118 =>
        if g118 then
          some 8
        else
          (F_panel_checkKinds_L1 N p0 restF_panel_checkKinds_L1 (iF_panel_checkKinds_L1 + 1))
def F_panel_checkKinds (N : Nat) (p0 : (List TBoardKind)) : Option Int :=
  if (decide (50 < (p0.length : Int))) then
    some 2
  else
    F_panel_checkKinds_L1 N p0 p0 0


def F_panel_kindAt_1 (p0 : TBoardKind) (q0 : ByteArray) : Option Bool :=
  some (sEq p0.Name q0)

def F_slices_IndexFunc_BoardKind_L1 (p1 : TBoardKind → Option Bool) : List TBoardKind → Nat → Option Int
  | [], iF_slices_IndexFunc_BoardKind_L1 =>
    some (-1)
  | xF_slices_IndexFunc_BoardKind_L1 :: restF_slices_IndexFunc_BoardKind_L1, iF_slices_IndexFunc_BoardKind_L1 =>
    (p1 xF_slices_IndexFunc_BoardKind_L1).bind fun y103 =>
    if y103 then
      some (iF_slices_IndexFunc_BoardKind_L1 : Int)
    else
      (F_slices_IndexFunc_BoardKind_L1 p1 restF_slices_IndexFunc_BoardKind_L1 (iF_slices_IndexFunc_BoardKind_L1 + 1))
def F_slices_IndexFunc_BoardKind (p0 : (List TBoardKind)) (p1 : TBoardKind → Option Bool) : Option Int :=
  F_slices_IndexFunc_BoardKind_L1 p1 p0 0


def F_panel_kindAt (p0 : TPanel) (p1 : ByteArray) : Option Int :=
  (F_slices_IndexFunc_BoardKind p0.Kinds (fun z0 => F_panel_kindAt_1 z0 p1)).bind fun y102 =>
  some y102


def F_panel_sizeOf (p0 : TBoardKind) (p1 : Int) : Option (Int × Int) :=
  if ((Int.tmod p1 2) == 1) then
    some (p0.H, p0.W)
  else
    some (p0.W, p0.H)


def F_panel_cellOf (p0 : TPanel) (p1 : TSlot) : Option TRect :=
  (F_panel_kindAt p0 p1.Board).bind fun y103 =>
  (idx p0.Kinds y103).bind fun x104 =>
  (F_panel_sizeOf x104 p1.Quarters).bind fun y105 =>
  some (TRect.mk p1.At.X p1.At.Y (w64 (p1.At.X + y105.1)) (w64 (p1.At.Y + y105.2)))


def F_panel_isOn (p0 : TPanel) (p1 : TRect) : Option Bool :=
  some ((((((decide (p0.Rail ≤ p1.X0)) && (decide (p0.Rail ≤ p1.Y0))) && (decide (p1.X0 ≤ p0.W))) && (decide (p1.Y0 ≤ p0.H))) && (decide (p1.X1 ≤ (w64 (p0.W - p0.Rail))))) && (decide (p1.Y1 ≤ (w64 (p0.H - p0.Rail)))))


def F_panel_isApart (p0 : TRect) (p1 : TRect) (p2 : Int) : Option Bool :=
  some ((((decide ((w64 (p0.X1 + p2)) ≤ p1.X0)) || (decide ((w64 (p1.X1 + p2)) ≤ p0.X0))) || (decide ((w64 (p0.Y1 + p2)) ≤ p1.Y0))) || (decide ((w64 (p1.Y1 + p2)) ≤ p0.Y0)))


def F_panel_cells_1 (p0 : TRect) (q0 : TRect) (q1 : TPanel) : Option Bool :=
  (F_panel_isApart q0 p0 q1.Gap).bind fun y101 =>
  some (!y101)

def F_slices_IndexFunc_Rect_L1 (p1 : TRect → Option Bool) : List TRect → Nat → Option Int
  | [], iF_slices_IndexFunc_Rect_L1 =>
    some (-1)
  | xF_slices_IndexFunc_Rect_L1 :: restF_slices_IndexFunc_Rect_L1, iF_slices_IndexFunc_Rect_L1 =>
    (p1 xF_slices_IndexFunc_Rect_L1).bind fun y103 =>
    if y103 then
      some (iF_slices_IndexFunc_Rect_L1 : Int)
    else
      (F_slices_IndexFunc_Rect_L1 p1 restF_slices_IndexFunc_Rect_L1 (iF_slices_IndexFunc_Rect_L1 + 1))
def F_slices_IndexFunc_Rect (p0 : (List TRect)) (p1 : TRect → Option Bool) : Option Int :=
  F_slices_IndexFunc_Rect_L1 p1 p0 0


def F_slices_ContainsFunc_Rect (p0 : (List TRect)) (p1 : TRect → Option Bool) : Option Bool :=
  (F_slices_IndexFunc_Rect p0 p1).bind fun y100 =>
  some (decide (0 ≤ y100))

def F_panel_cells_L1 (p0 : TPanel) : List TSlot → Nat → List TRect → Option ((List TRect) × Int)
  | [], iF_panel_cells_L1, l139 =>
    some (l139, 0)
  | xF_panel_cells_L1 :: restF_panel_cells_L1, iF_panel_cells_L1, l139 =>
    (F_panel_kindAt p0 xF_panel_cells_L1.Board).bind fun y141 =>
    if (decide (y141 < 0)) then
      some (([] : List TRect), 5)
    else
      (F_panel_within xF_panel_cells_L1.Quarters 0 3).bind fun y142 =>
      (if (!y142) then some true else 
        (F_panel_within xF_panel_cells_L1.At.X 0 p0.W).bind fun y145 =>
        some (!y145)
      ).bind fun g144 =>
      (if g144 then some true else 
        (F_panel_within xF_panel_cells_L1.At.Y 0 p0.H).bind fun y148 =>
        some (!y148)
      ).bind fun g147 =>
      if g147 then
        some (([] : List TRect), 1)
      else
        (F_panel_cellOf p0 xF_panel_cells_L1).bind fun y149 =>
        (F_panel_isOn p0 y149).bind fun y151 =>
        if (!y151) then
          some (([] : List TRect), 1)
        else
          (F_slices_ContainsFunc_Rect l139 (fun z0 => F_panel_cells_1 z0 y149 p0)).bind fun y152 =>
          if y152 then
            some (([] : List TRect), 12)
          else
            (apd l139 [y149]).bind fun l154 =>
            (F_panel_cells_L1 p0 restF_panel_cells_L1 (iF_panel_cells_L1 + 1)) l154
def F_panel_cells (p0 : TPanel) : Option ((List TRect) × Int) :=
  if (decide (500 < (p0.Slots.length : Int))) then
    some (([] : List TRect), 2)
  else
    F_panel_cells_L1 p0 p0.Slots 0 ([] : List TRect)


def F_panel_isOnPanel (p0 : TPanel) (p1 : TPoint) : Option Bool :=
  (F_panel_within p1.X 0 p0.W).bind fun y102 =>
  (if y102 then 
    (F_panel_within p1.Y 0 p0.H).bind fun y105 =>
    some y105
   else some false).bind fun g104 =>
  some g104


def F_panel_isInside (p0 : TRect) (p1 : TPoint) : Option Bool :=
  some ((((decide (p0.X0 < p1.X)) && (decide (p1.X < p0.X1))) && (decide (p0.Y0 < p1.Y))) && (decide (p1.Y < p0.Y1)))


def F_panel_open_1 (p0 : TRect) (q0 : TPoint) : Option Bool :=
  (F_panel_isInside p0 q0).bind fun y101 =>
  some y101

def F_slices_Index_Point_L1 (p1 : TPoint) : List TPoint → Nat → Option Int
  | [], iF_slices_Index_Point_L1 =>
    some (-1)
  | xF_slices_Index_Point_L1 :: restF_slices_Index_Point_L1, iF_slices_Index_Point_L1 =>
    if (eqTPoint p1 xF_slices_Index_Point_L1) then
      some (iF_slices_Index_Point_L1 : Int)
    else
      (F_slices_Index_Point_L1 p1 restF_slices_Index_Point_L1 (iF_slices_Index_Point_L1 + 1))
def F_slices_Index_Point (p0 : (List TPoint)) (p1 : TPoint) : Option Int :=
  F_slices_Index_Point_L1 p1 p0 0


def F_slices_Contains_Point (p0 : (List TPoint)) (p1 : TPoint) : Option Bool :=
  (F_slices_Index_Point p0 p1).bind fun y101 =>
  some (decide (0 ≤ y101))

def F_panel_open_L1 (p0 : TPanel) (y112 : ((List TRect) × Int)) : List TPoint → Nat → Option ((List TRect) × Int)
  | [], iF_panel_open_L1 =>
    some (y112.1, 0)
  | xF_panel_open_L1 :: restF_panel_open_L1, iF_panel_open_L1 =>
    (F_panel_isOnPanel p0 xF_panel_open_L1).bind fun y122 =>
    if (!y122) then
      some (([] : List TRect), 1)
    else
      (F_slices_ContainsFunc_Rect y112.1 (fun z0 => F_panel_open_1 z0 xF_panel_open_L1)).bind fun y123 =>
      if y123 then
        some (([] : List TRect), 12)
      else
        (pre p0.Marks (iF_panel_open_L1 : Int)).bind fun l124 =>
        (F_slices_Contains_Point l124 xF_panel_open_L1).bind fun y125 =>
        if y125 then
          some (([] : List TRect), 7)
        else
          (F_panel_open_L1 p0 y112 restF_panel_open_L1 (iF_panel_open_L1 + 1))
def F_panel_open (N : Nat) (p0 : TPanel) : Option ((List TRect) × Int) :=
  (F_panel_within p0.W 1 1000000).bind fun y101 =>
  (if (!y101) then some true else 
    (F_panel_within p0.H 1 1000000).bind fun y104 =>
    some (!y104)
  ).bind fun g103 =>
  (if g103 then some true else 
    (F_panel_within p0.Rail 0 1000000).bind fun y107 =>
    some (!y107)
  ).bind fun g106 =>
  (if g106 then some true else 
    (F_panel_within p0.Gap 0 1000000).bind fun y110 =>
    some (!y110)
  ).bind fun g109 =>
  if g109 then
    some (([] : List TRect), 1)
  else
    (F_panel_checkKinds N p0.Kinds).bind fun y111 =>
    if (y111 != 0) then
      some (([] : List TRect), y111)
    else
      (F_panel_cells p0).bind fun y112 =>
      if (y112.2 != 0) then
        some (([] : List TRect), y112.2)
      else
        if (decide (10 < (p0.Marks.length : Int))) then
          some (([] : List TRect), 2)
        else
          F_panel_open_L1 p0 y112 p0.Marks 0


def F_panel_Cells (N : Nat) (p0 : TPanel) : Option ((List TRect) × Int) :=
  (F_panel_open N p0).bind fun y101 =>
  some (y101.1, y101.2)


def F_etchhouseref9_within (p0 : Int) (p1 : Int) (p2 : Int) : Option Bool :=
  some ((decide (p1 ≤ p0)) && (decide (p0 ≤ p2)))


def F_etchhouseref3_within (p0 : Int) (p1 : Int) (p2 : Int) : Option Bool :=
  some ((decide (p1 ≤ p0)) && (decide (p0 ≤ p2)))

def F_etchhouseref3_IsName_L1 (p0 : ByteArray) : Nat → Int → Option Bool
  | 0, _ => none
  | mF_etchhouseref3_IsName_L1 + 1, x105 =>
    if (decide (x105 < (p0.size : Int))) then
      (strAt p0 x105).bind fun c106 =>
      if ((!(((decide (97 ≤ c106)) && (decide (c106 ≤ 122))) || ((decide (65 ≤ c106)) && (decide (c106 ≤ 90))))) && ((x105 == 0) || (((c106 != 95) && (c106 != 45)) && (!((decide (48 ≤ c106)) && (decide (c106 ≤ 57))))))) then
        some false
      else
        (F_etchhouseref3_IsName_L1 p0 mF_etchhouseref3_IsName_L1) (w64 (x105 + 1))
    else
      (F_etchhouseref3_within (p0.size : Int) 1 40).bind fun y107 =>
      some y107
def F_etchhouseref3_IsName (N : Nat) (p0 : ByteArray) : Option Bool :=
  F_etchhouseref3_IsName_L1 p0 N 0

def F_etchhouseref9_kind_L1 (p0 : TPanel) (p1 : ByteArray) : Nat → Int → Option Int
  | 0, _ => none
  | mF_etchhouseref9_kind_L1 + 1, x106 =>
    if (decide (x106 < (p0.Kinds.length : Int))) then
      (idx p0.Kinds x106).bind fun x107 =>
      if (sEq x107.Name p1) then
        some x106
      else
        (F_etchhouseref9_kind_L1 p0 p1 mF_etchhouseref9_kind_L1) (w64 (x106 + 1))
    else
      some (-1)
def F_etchhouseref9_kind (N : Nat) (p0 : TPanel) (p1 : ByteArray) : Option Int :=
  F_etchhouseref9_kind_L1 p0 p1 N 0


def F_etchhouseref9_sizeOf (p0 : TBoardKind) (p1 : Int) : Option (Int × Int) :=
  if ((Int.tmod p1 2) == 1) then
    some (p0.H, p0.W)
  else
    some (p0.W, p0.H)


def F_etchhouseref9_lies (p0 : TPanel) (p1 : TPoint) (p2 : Int) (p3 : Int) : Option Bool :=
  (F_etchhouseref9_within p1.X p0.Rail (w64 ((w64 (p0.W - p0.Rail)) - p2))).bind fun y102 =>
  (if y102 then 
    (F_etchhouseref9_within p1.Y p0.Rail (w64 ((w64 (p0.H - p0.Rail)) - p3))).bind fun y105 =>
    some y105
   else some false).bind fun g104 =>
  some g104


def F_etchhouseref9_cellOf (N : Nat) (p0 : TPanel) (p1 : TSlot) : Option TRect :=
  (F_etchhouseref9_kind N p0 p1.Board).bind fun y103 =>
  (idx p0.Kinds y103).bind fun x104 =>
  (F_etchhouseref9_sizeOf x104 p1.Quarters).bind fun y105 =>
  some (TRect.mk p1.At.X p1.At.Y (w64 (p1.At.X + y105.1)) (w64 (p1.At.Y + y105.2)))


def F_etchhouseref9_apart (p0 : TRect) (p1 : TRect) (p2 : Int) : Option Bool :=
  some ((((decide ((w64 (p0.X1 + p2)) ≤ p1.X0)) || (decide ((w64 (p1.X1 + p2)) ≤ p0.X0))) || (decide ((w64 (p0.Y1 + p2)) ≤ p1.Y0))) || (decide ((w64 (p1.Y1 + p2)) ≤ p0.Y0)))

def F_etchhouseref9_checkSlot_L1 (N : Nat) (p0 : TPanel) (p1 : Int) (x101 : TSlot) : Nat → Int → Option Int
  | 0, _ => none
  | mF_etchhouseref9_checkSlot_L1 + 1, x119 =>
    if (decide (x119 < p1)) then
      (F_etchhouseref9_cellOf N p0 x101).bind fun y120 =>
      (idx p0.Slots x119).bind fun x121 =>
      (F_etchhouseref9_cellOf N p0 x121).bind fun y122 =>
      (F_etchhouseref9_apart y120 y122 p0.Gap).bind fun y123 =>
      if (!y123) then
        some 12
      else
        (F_etchhouseref9_checkSlot_L1 N p0 p1 x101 mF_etchhouseref9_checkSlot_L1) (w64 (x119 + 1))
    else
      some 0
def F_etchhouseref9_checkSlot (N : Nat) (p0 : TPanel) (p1 : Int) : Option Int :=
  (idx p0.Slots p1).bind fun x101 =>
  (F_etchhouseref9_kind N p0 x101.Board).bind fun y103 =>
  if (decide (y103 < 0)) then
    some 5
  else
    (F_etchhouseref9_within x101.Quarters 0 3).bind fun y104 =>
    if (!y104) then
      some 1
    else
      (idx p0.Kinds y103).bind fun x105 =>
      (F_etchhouseref9_sizeOf x105 x101.Quarters).bind fun y106 =>
      (F_etchhouseref9_lies p0 x101.At y106.1 y106.2).bind fun y107 =>
      if (!y107) then
        some 1
      else
        F_etchhouseref9_checkSlot_L1 N p0 p1 x101 N 0

def F_etchhouseref9_checkMark_L2 (p0 : TPanel) (p1 : Int) (x101 : TPoint) : Nat → Int → Option Int
  | 0, _ => none
  | mF_etchhouseref9_checkMark_L2 + 1, x125 =>
    if (decide (x125 < p1)) then
      (idx p0.Marks x125).bind fun x126 =>
      if (eqTPoint x126 x101) then
        some 7
      else
        (F_etchhouseref9_checkMark_L2 p0 p1 x101 mF_etchhouseref9_checkMark_L2) (w64 (x125 + 1))
    else
      some 0
def F_etchhouseref9_checkMark_L1 (N : Nat) (p0 : TPanel) (p1 : Int) (x101 : TPoint) : Nat → Int → Option Int
  | 0, _ => none
  | mF_etchhouseref9_checkMark_L1 + 1, x116 =>
    if (decide (x116 < (p0.Slots.length : Int))) then
      (idx p0.Slots x116).bind fun x118 =>
      (F_etchhouseref9_cellOf N p0 x118).bind fun y119 =>
      if ((((decide (y119.X0 < x101.X)) && (decide (x101.X < y119.X1))) && (decide (y119.Y0 < x101.Y))) && (decide (x101.Y < y119.Y1))) then
        some 12
      else
        (F_etchhouseref9_checkMark_L1 N p0 p1 x101 mF_etchhouseref9_checkMark_L1) (w64 (x116 + 1))
    else
      F_etchhouseref9_checkMark_L2 p0 p1 x101 N 0
def F_etchhouseref9_checkMark (N : Nat) (p0 : TPanel) (p1 : Int) : Option Int :=
  (idx p0.Marks p1).bind fun x101 =>
  (F_etchhouseref9_within x101.X 0 p0.W).bind fun y103 =>
  (if (!y103) then some true else 
    (F_etchhouseref9_within x101.Y 0 p0.H).bind fun y106 =>
    some (!y106)
  ).bind fun g105 =>
  if g105 then
    some 1
  else
    F_etchhouseref9_checkMark_L1 N p0 p1 x101 N 0

def F_etchhouseref9_CheckPanel_L3 (N : Nat) (p0 : TPanel) : Nat → Int → Option Int
  | 0, _ => none
  | mF_etchhouseref9_CheckPanel_L3 + 1, x157 =>
    if (decide (x157 < (p0.Marks.length : Int))) then
      (F_etchhouseref9_checkMark N p0 x157).bind fun y158 =>
      if (y158 != 0) then
        some y158
      else
        (F_etchhouseref9_CheckPanel_L3 N p0 mF_etchhouseref9_CheckPanel_L3) (w64 (x157 + 1))
    else
      some 0
def F_etchhouseref9_CheckPanel_L2 (N : Nat) (p0 : TPanel) : Nat → Int → Option Int
  | 0, _ => none
  | mF_etchhouseref9_CheckPanel_L2 + 1, x150 =>
    if (decide (x150 < (p0.Slots.length : Int))) then
      (F_etchhouseref9_checkSlot N p0 x150).bind fun y151 =>
      if (y151 != 0) then
        some y151
      else
        (F_etchhouseref9_CheckPanel_L2 N p0 mF_etchhouseref9_CheckPanel_L2) (w64 (x150 + 1))
    else
      if (decide (10 < (p0.Marks.length : Int))) then
        some 2
      else
        F_etchhouseref9_CheckPanel_L3 N p0 N 0
def F_etchhouseref9_CheckPanel_L1 (N : Nat) (p0 : TPanel) : Nat → Int → Option Int
  | 0, _ => none
  | mF_etchhouseref9_CheckPanel_L1 + 1, x134 =>
    if (decide (x134 < (p0.Kinds.length : Int))) then
      (idx p0.Kinds x134).bind fun x135 =>
      (F_etchhouseref3_IsName N x135.Name).bind fun y137 =>
      if (!y137) then
        some 5
      else
        (F_etchhouseref9_within x135.W 1 1000000).bind fun y138 =>
        (if (!y138) then some true else 
          (F_etchhouseref9_within x135.H 1 1000000).bind fun y141 =>
          some (!y141)
        ).bind fun g140 =>
        if g140 then
          some 1
        else
          (if (decide (0 < x134)) then 
            (idx p0.Kinds (w64 (x134 - 1))).bind fun x144 =>
            some (sLt x135.Name x144.Name || sEq x135.Name x144.Name)
           else some false).bind fun g143 =>
          if g143 then
            some 8
          else
            (F_etchhouseref9_CheckPanel_L1 N p0 mF_etchhouseref9_CheckPanel_L1) (w64 (x134 + 1))
    else
      if (decide (500 < (p0.Slots.length : Int))) then
        some 2
      else
        F_etchhouseref9_CheckPanel_L2 N p0 N 0
def F_etchhouseref9_CheckPanel (N : Nat) (p0 : TPanel) : Option Int :=
  (F_etchhouseref9_within p0.W 1 1000000).bind fun y101 =>
  (if (!y101) then some true else 
    (F_etchhouseref9_within p0.H 1 1000000).bind fun y104 =>
    some (!y104)
  ).bind fun g103 =>
  (if g103 then some true else 
    (F_etchhouseref9_within p0.Rail 0 1000000).bind fun y107 =>
    some (!y107)
  ).bind fun g106 =>
  (if g106 then some true else 
    (F_etchhouseref9_within p0.Gap 0 1000000).bind fun y110 =>
    some (!y110)
  ).bind fun g109 =>
  if g109 then
    some 1
  else
    if (decide (50 < (p0.Kinds.length : Int))) then
      some 2
    else
      F_etchhouseref9_CheckPanel_L1 N p0 N 0

def F_etchhouseref9_cells_L1 (N : Nat) (p0 : TPanel) : Nat → List TRect → Int → Option (List TRect)
  | 0, _, _ => none
  | mF_etchhouseref9_cells_L1 + 1, l115, x116 =>
    if (decide (x116 < (p0.Slots.length : Int))) then
      (idx p0.Slots x116).bind fun x118 =>
      (F_etchhouseref9_cellOf N p0 x118).bind fun y119 =>
      (apd l115 [y119]).bind fun l120 =>
      (F_etchhouseref9_cells_L1 N p0 mF_etchhouseref9_cells_L1) l120 (w64 (x116 + 1))
    else
      some l115
def F_etchhouseref9_cells (N : Nat) (p0 : TPanel) : Option (List TRect) :=
  F_etchhouseref9_cells_L1 N p0 N ([] : List TRect) 0


def F_etchhouseref9_Cells (N : Nat) (p0 : TPanel) : Option ((List TRect) × Int) :=
  (F_etchhouseref9_CheckPanel N p0).bind fun y101 =>
  if (y101 != 0) then
    some (([] : List TRect), y101)
  else
    (F_etchhouseref9_cells N p0).bind fun y102 =>
    some (y102, 0)


def F_panel_CheckPanel (N : Nat) (p0 : TPanel) : Option Int :=
  (F_panel_open N p0).bind fun y101 =>
  some y101.2

def F_slices_Equal_Rect_L1 (p1 : (List TRect)) : List TRect → Nat → Option Bool
  | [], iF_slices_Equal_Rect_L1 =>
    some true
  | xF_slices_Equal_Rect_L1 :: restF_slices_Equal_Rect_L1, iF_slices_Equal_Rect_L1 =>
    (idx p1 (iF_slices_Equal_Rect_L1 : Int)).bind fun x103 =>
    if (!(eqTRect xF_slices_Equal_Rect_L1 x103)) then
      some false
    else
      (F_slices_Equal_Rect_L1 p1 restF_slices_Equal_Rect_L1 (iF_slices_Equal_Rect_L1 + 1))
def F_slices_Equal_Rect (p0 : (List TRect)) (p1 : (List TRect)) : Option Bool :=
  if ((p0.length : Int) != (p1.length : Int)) then
    some false
  else
    F_slices_Equal_Rect_L1 p1 p0 0

def F_shape_AreaOf_L1 : List TRect → Nat → Int → Option Int
  | [], iF_shape_AreaOf_L1, x110 =>
    some x110
  | xF_shape_AreaOf_L1 :: restF_shape_AreaOf_L1, iF_shape_AreaOf_L1, x110 =>
    (F_shape_AreaOf_L1 restF_shape_AreaOf_L1 (iF_shape_AreaOf_L1 + 1)) (w64 (x110 + (w64 ((w64 (xF_shape_AreaOf_L1.X1 - xF_shape_AreaOf_L1.X0)) * (w64 (xF_shape_AreaOf_L1.Y1 - xF_shape_AreaOf_L1.Y0))))))
def F_shape_AreaOf (p0 : (List TRect)) : Option Int :=
  F_shape_AreaOf_L1 p0 0 0

def F_panel_Lowest_L1 (p0 : Int) (p1 : Int) : Nat → Int → Int → Option TShare
  | 0, _, _ => none
  | mF_panel_Lowest_L1 + 1, x109, x110 =>
    if (x110 != 0) then
      (md x109 x110).bind fun q111 =>
      (F_panel_Lowest_L1 p0 p1 mF_panel_Lowest_L1) x110 q111
    else
      (dv p0 x109).bind fun q112 =>
      (dv p1 x109).bind fun q113 =>
      some (TShare.mk q112 q113)
def F_panel_Lowest (N : Nat) (p0 : Int) (p1 : Int) : Option TShare :=
  F_panel_Lowest_L1 p0 p1 N p0 p1


def F_panel_Use (N : Nat) (p0 : TPanel) : Option (TShare × Int) :=
  (F_panel_open N p0).bind fun y102 =>
  if (y102.2 != 0) then
    some ((TShare.mk 0 0), y102.2)
  else
    (F_shape_AreaOf y102.1).bind fun y104 =>
    (F_panel_Lowest N y104 (w64 (p0.W * p0.H))).bind fun y105 =>
    some (y105, 0)

def F_etchhouseref1_AreaOf_L1 (p0 : (List TRect)) : Nat → Int → Int → Option Int
  | 0, _, _ => none
  | mF_etchhouseref1_AreaOf_L1 + 1, x114, x115 =>
    if (decide (x115 < (p0.length : Int))) then
      (idx p0 x115).bind fun x116 =>
      (idx p0 x115).bind fun x117 =>
      (idx p0 x115).bind fun x118 =>
      (idx p0 x115).bind fun x119 =>
      (F_etchhouseref1_AreaOf_L1 p0 mF_etchhouseref1_AreaOf_L1) (w64 (x114 + (w64 ((w64 (x116.X1 - x117.X0)) * (w64 (x118.Y1 - x119.Y0)))))) (w64 (x115 + 1))
    else
      some x114
def F_etchhouseref1_AreaOf (N : Nat) (p0 : (List TRect)) : Option Int :=
  F_etchhouseref1_AreaOf_L1 p0 N 0 0

def F_etchhouseref9_common_L1 : Nat → Int → Int → Option Int
  | 0, _, _ => none
  | mF_etchhouseref9_common_L1 + 1, x108, x109 =>
    if (x109 != 0) then
      (md x108 x109).bind fun q110 =>
      (F_etchhouseref9_common_L1 mF_etchhouseref9_common_L1) x109 q110
    else
      some x108
def F_etchhouseref9_common (N : Nat) (p0 : Int) (p1 : Int) : Option Int :=
  F_etchhouseref9_common_L1 N p0 p1


def F_etchhouseref9_Use (N : Nat) (p0 : TPanel) : Option (TShare × Int) :=
  (F_etchhouseref9_CheckPanel N p0).bind fun y102 =>
  if (y102 != 0) then
    some ((TShare.mk 0 0), y102)
  else
    (F_etchhouseref9_cells N p0).bind fun y103 =>
    (F_etchhouseref1_AreaOf N y103).bind fun y105 =>
    (F_etchhouseref9_common N y105 (w64 (p0.W * p0.H))).bind fun y106 =>
    (dv y105 y106).bind fun q107 =>
    (dv (w64 (p0.W * p0.H)) y106).bind fun q108 =>
    some ((TShare.mk q107 q108), 0)



def F_panel_Order_1 (p0 : Int) (p1 : Int) (q0 : (List TRect)) : Option Int :=
  (idx q0 p0).bind fun x100 =>
  (idx q0 p1).bind fun x101 =>
  some (w64 (x100.X0 - x101.X0))


def F_slices_Reverse_int_L1 : Nat → List Int → Int → Int → Option (List Int)
  | 0, _, _, _ => none
  | mF_slices_Reverse_int_L1 + 1, l123, x124, x125 =>
    if (decide (x124 < x125)) then
      (idx l123 x125).bind fun x127 =>
      (idx l123 x124).bind fun x128 =>
      (idx l123 x124).bind fun x129 =>
      (sets l123 x124 x127).bind fun l130 =>
      (idx l130 x125).bind fun x131 =>
      (sets l130 x125 x128).bind fun l132 =>
      (F_slices_Reverse_int_L1 mF_slices_Reverse_int_L1) l132 (w64 (x124 + 1)) (w64 (x125 - 1))
    else
      some l123
def F_slices_Reverse_int (N : Nat) (p0 : (List Int)) : Option (List Int) :=
  F_slices_Reverse_int_L1 N p0 0 (w64 ((p0.length : Int) - 1))

def F_panel_Order_J7 (m207 : List (Int × List Int)) (l208 : List Int) (kF_panel_Order_L6 : (List (Int × List Int)) → (List Int) → Option ((List Int) × Int)) (xF_panel_Order_L6 : Int) (l215 : List Int) : Option ((List Int) × Int) :=
  (apd l208 l215).bind fun l218 =>
  kF_panel_Order_L6 (mset m207 xF_panel_Order_L6 l215) l218
noncomputable def F_panel_Order_L6 (N : Nat) (y101 : ((List TRect) × Int)) : List Int → Nat → List (Int × List Int) → List Int → Option ((List Int) × Int)
  | [], iF_panel_Order_L6, m207, l208 =>
    some (l208, 0)
  | xF_panel_Order_L6 :: restF_panel_Order_L6, iF_panel_Order_L6, m207, l208 =>
    (mgetO m207 xF_panel_Order_L6).bind fun l209 =>
    (srtF l209 (fun z0 z1 => F_panel_Order_1 z0 z1 y101.1)).bind fun y211 =>
    if ((Int.tmod (iF_panel_Order_L6 : Int) 2) == 1) then
      (F_slices_Reverse_int N y211).bind fun y220 =>
      F_panel_Order_J7 m207 l208 (F_panel_Order_L6 N y101 restF_panel_Order_L6 (iF_panel_Order_L6 + 1)) xF_panel_Order_L6 y220
    else
      F_panel_Order_J7 m207 l208 (F_panel_Order_L6 N y101 restF_panel_Order_L6 (iF_panel_Order_L6 + 1)) xF_panel_Order_L6 y211
def F_panel_Order_J8 (kF_panel_Order_L3 : (List (Int × List Int)) → (List Int) → Option ((List Int) × Int)) (xF_panel_Order_L3 : TRect) (iF_panel_Order_L3 : Nat) (m229 : List (Int × List Int)) (l230 : List Int) : Option ((List Int) × Int) :=
  (mgetO m229 xF_panel_Order_L3.Y0).bind fun l233 =>
  (apd l233 [(iF_panel_Order_L3 : Int)]).bind fun l237 =>
  (mputO m229 xF_panel_Order_L3.Y0 l237).bind fun m238 =>
  kF_panel_Order_L3 m238 l230
noncomputable def F_panel_Order_L3 (N : Nat) (y101 : ((List TRect) × Int)) : List TRect → Nat → List (Int × List Int) → List Int → Option ((List Int) × Int)
  | [], iF_panel_Order_L3, m164, l165 =>
    (srtI l165).bind fun y166 =>
    F_panel_Order_L6 N y101 y166 0 m164 ([] : List Int)
  | xF_panel_Order_L3 :: restF_panel_Order_L3, iF_panel_Order_L3, m164, l165 =>
    (mgetO m164 xF_panel_Order_L3.Y0).bind fun l240 =>
    if (List.isEmpty l240) then
      (apd l165 [xF_panel_Order_L3.Y0]).bind fun l243 =>
      F_panel_Order_J8 (F_panel_Order_L3 N y101 restF_panel_Order_L3 (iF_panel_Order_L3 + 1)) xF_panel_Order_L3 iF_panel_Order_L3 m164 l243
    else
      F_panel_Order_J8 (F_panel_Order_L3 N y101 restF_panel_Order_L3 (iF_panel_Order_L3 + 1)) xF_panel_Order_L3 iF_panel_Order_L3 m164 l165
noncomputable def F_panel_Order (N : Nat) (p0 : TPanel) : Option ((List Int) × Int) :=
  (F_panel_open N p0).bind fun y101 =>
  if (y101.2 != 0) then
    some (([] : List Int), y101.2)
  else
    F_panel_Order_L3 N y101 y101.1 0 ([] : List (Int × List Int)) ([] : List Int)

def F_etchhouseref9_number_L1 (p0 : (List Int)) (p1 : Int) : Nat → Int → Option (List Int)
  | 0, _ => none
  | mF_etchhouseref9_number_L1 + 1, x109 =>
    (if (decide (0 < x109)) then 
      (idx p0 (w64 (x109 - 1))).bind fun x112 =>
      some (decide (p1 < x112))
     else some false).bind fun g111 =>
    if g111 then
      (F_etchhouseref9_number_L1 p0 p1 mF_etchhouseref9_number_L1) (w64 (x109 - 1))
    else
      (if (decide (0 < x109)) then 
        (idx p0 (w64 (x109 - 1))).bind fun x115 =>
        some (x115 == p1)
       else some false).bind fun g114 =>
      if g114 then
        some p0
      else
        (pre p0 x109).bind fun l116 =>
        (apd ([] : List Int) l116).bind fun l117 =>
        (apd l117 [p1]).bind fun l119 =>
        (cut p0 x109 (p0.length : Int)).bind fun l120 =>
        (apd l119 l120).bind fun l121 =>
        some l121
def F_etchhouseref9_number (N : Nat) (p0 : (List Int)) (p1 : Int) : Option (List Int) :=
  F_etchhouseref9_number_L1 p0 p1 N (p0.length : Int)

def F_etchhouseref9_Order_L14 (y102 : (List TRect)) (x348 : Int) (l421 : List Int) (x422 : Int) (kF_etchhouseref9_Order_L13 : (List Int) → Int → Option ((List Int) × Int)) : Nat → Int → Option ((List Int) × Int)
  | 0, _ => none
  | mF_etchhouseref9_Order_L14 + 1, x442 =>
    (if (decide (0 < x442)) then 
      (idx l421 (w64 (x442 - 1))).bind fun x447 =>
      (idx y102 x447).bind fun x448 =>
      (idx y102 x422).bind fun x449 =>
      some ((decide (x449.X0 < x448.X0)) == ((Int.tmod x348 2) == 0))
     else some false).bind fun g446 =>
    if g446 then
      (F_etchhouseref9_Order_L14 y102 x348 l421 x422 kF_etchhouseref9_Order_L13 mF_etchhouseref9_Order_L14) (w64 (x442 - 1))
    else
      (pre l421 x442).bind fun l450 =>
      (apd ([] : List Int) l450).bind fun l451 =>
      (apd l451 [x422]).bind fun l453 =>
      (cut l421 x442 (l421.length : Int)).bind fun l454 =>
      (apd l453 l454).bind fun l455 =>
      kF_etchhouseref9_Order_L13 l455 (w64 (x422 + 1))
def F_etchhouseref9_Order_L13 (N : Nat) (y102 : (List TRect)) (l118 : List Int) (l347 : List Int) (x348 : Int) (kF_etchhouseref9_Order_L10 : (List Int) → Int → Option ((List Int) × Int)) : Nat → List Int → Int → Option ((List Int) × Int)
  | 0, _, _ => none
  | mF_etchhouseref9_Order_L13 + 1, l421, x422 =>
    if (decide (x422 < (y102.length : Int))) then
      (idx y102 x422).bind fun x423 =>
      (idx l118 x348).bind fun x424 =>
      if (x423.Y0 != x424) then
        (F_etchhouseref9_Order_L13 N y102 l118 l347 x348 kF_etchhouseref9_Order_L10 mF_etchhouseref9_Order_L13) l421 (w64 (x422 + 1))
      else
        F_etchhouseref9_Order_L14 y102 x348 l421 x422 (F_etchhouseref9_Order_L13 N y102 l118 l347 x348 kF_etchhouseref9_Order_L10 mF_etchhouseref9_Order_L13) N (l421.length : Int)
    else
      (apd l347 l421).bind fun l456 =>
      kF_etchhouseref9_Order_L10 l456 (w64 (x348 + 1))
def F_etchhouseref9_Order_L10 (N : Nat) (y102 : (List TRect)) (l118 : List Int) : Nat → List Int → Int → Option ((List Int) × Int)
  | 0, _, _ => none
  | mF_etchhouseref9_Order_L10 + 1, l347, x348 =>
    if (decide (x348 < (l118.length : Int))) then
      F_etchhouseref9_Order_L13 N y102 l118 l347 x348 (F_etchhouseref9_Order_L10 N y102 l118 mF_etchhouseref9_Order_L10) N ([] : List Int) 0
    else
      some (l347, 0)
def F_etchhouseref9_Order_L1 (N : Nat) (y102 : (List TRect)) : Nat → List Int → Int → Option ((List Int) × Int)
  | 0, _, _ => none
  | mF_etchhouseref9_Order_L1 + 1, l118, x119 =>
    if (decide (x119 < (y102.length : Int))) then
      (idx y102 x119).bind fun x122 =>
      (F_etchhouseref9_number N l118 x122.Y0).bind fun y123 =>
      (F_etchhouseref9_Order_L1 N y102 mF_etchhouseref9_Order_L1) y123 (w64 (x119 + 1))
    else
      F_etchhouseref9_Order_L10 N y102 l118 N ([] : List Int) 0
def F_etchhouseref9_Order (N : Nat) (p0 : TPanel) : Option ((List Int) × Int) :=
  (F_etchhouseref9_CheckPanel N p0).bind fun y101 =>
  if (y101 != 0) then
    some (([] : List Int), y101)
  else
    (F_etchhouseref9_cells N p0).bind fun y102 =>
    F_etchhouseref9_Order_L1 N y102 N ([] : List Int) 0

def F_slices_Equal_int_L1 (p1 : (List Int)) : List Int → Nat → Option Bool
  | [], iF_slices_Equal_int_L1 =>
    some true
  | xF_slices_Equal_int_L1 :: restF_slices_Equal_int_L1, iF_slices_Equal_int_L1 =>
    (idx p1 (iF_slices_Equal_int_L1 : Int)).bind fun x103 =>
    if (xF_slices_Equal_int_L1 != x103) then
      some false
    else
      (F_slices_Equal_int_L1 p1 restF_slices_Equal_int_L1 (iF_slices_Equal_int_L1 + 1))
def F_slices_Equal_int (p0 : (List Int)) (p1 : (List Int)) : Option Bool :=
  if ((p0.length : Int) != (p1.length : Int)) then
    some false
  else
    F_slices_Equal_int_L1 p1 p0 0


def F_etchhouselaw9_awake (N : Nat)  : Option Bool :=
  (F_panel_Use N (TPanel.mk 1 1 0 0 [] [] [])).bind fun y100 =>
  some ((y100.2 == 0) && (eqTShare y100.1 (TShare.mk 0 1)))


noncomputable def F_etchhouselaw9_PanelsMatchSpec (N : Nat) (p0 : TPanel) : Option Bool :=
  (F_panel_Cells N p0).bind fun y101 =>
  (F_etchhouseref9_Cells N p0).bind fun y103 =>
  (F_panel_CheckPanel N p0).bind fun y105 =>
  (F_etchhouseref9_CheckPanel N p0).bind fun y106 =>
  (if (y105 != y106) then some true else 
    (F_slices_Equal_Rect y101.1 y103.1).bind fun y109 =>
    some (!y109)
  ).bind fun g108 =>
  if (g108 || (y101.2 != y103.2)) then
    some false
  else
    (F_panel_Use N p0).bind fun y110 =>
    (F_etchhouseref9_Use N p0).bind fun y112 =>
    (F_panel_Order N p0).bind fun y114 =>
    (F_etchhouseref9_Order N p0).bind fun y116 =>
    (if ((eqTShare y110.1 y112.1) && (y110.2 == y112.2)) then 
      (F_slices_Equal_int y114.1 y116.1).bind fun y120 =>
      some y120
     else some false).bind fun g119 =>
    (if (g119 && (y114.2 == y116.2)) then 
      (F_etchhouselaw9_awake N).bind fun y123 =>
      some y123
     else some false).bind fun g122 =>
    some g122

def F_slices_Index_int_L1 (p1 : Int) : List Int → Nat → Option Int
  | [], iF_slices_Index_int_L1 =>
    some (-1)
  | xF_slices_Index_int_L1 :: restF_slices_Index_int_L1, iF_slices_Index_int_L1 =>
    if (p1 == xF_slices_Index_int_L1) then
      some (iF_slices_Index_int_L1 : Int)
    else
      (F_slices_Index_int_L1 p1 restF_slices_Index_int_L1 (iF_slices_Index_int_L1 + 1))
def F_slices_Index_int (p0 : (List Int)) (p1 : Int) : Option Int :=
  F_slices_Index_int_L1 p1 p0 0


def F_slices_Contains_int (p0 : (List Int)) (p1 : Int) : Option Bool :=
  (F_slices_Index_int p0 p1).bind fun y100 =>
  some (decide (0 ≤ y100))

def F_etchhouselaw9_PanelOrderHasAll_L1 (N : Nat) (y101 : ((List Int) × Int)) (y106 : ((List TRect) × Int)) : Nat → Int → Option Bool
  | 0, _ => none
  | mF_etchhouselaw9_PanelOrderHasAll_L1 + 1, x171 =>
    if (decide (x171 < (y101.1.length : Int))) then
      (idx y101.1 x171).bind fun x172 =>
      (if (decide (x172 < 0)) then some true else 
        (idx y101.1 x171).bind fun x175 =>
        some (decide ((y106.1.length : Int) ≤ x175))
      ).bind fun g174 =>
      (if g174 then some true else 
        (pre y101.1 x171).bind fun l180 =>
        (idx y101.1 x171).bind fun x181 =>
        (F_slices_Contains_int l180 x181).bind fun y182 =>
        some y182
      ).bind fun g179 =>
      (if g179 then some true else 
        (if (decide (0 < x171)) then 
          (idx y101.1 x171).bind fun x198 =>
          (idx y106.1 x198).bind fun x199 =>
          (idx y101.1 (w64 (x171 - 1))).bind fun x200 =>
          (idx y106.1 x200).bind fun x201 =>
          some (decide (x199.Y0 < x201.Y0))
         else some false).bind fun g197 =>
        some g197
      ).bind fun g192 =>
      if g192 then
        some false
      else
        (F_etchhouselaw9_PanelOrderHasAll_L1 N y101 y106 mF_etchhouselaw9_PanelOrderHasAll_L1) (w64 (x171 + 1))
    else
      (F_etchhouselaw9_awake N).bind fun y202 =>
      some y202
noncomputable def F_etchhouselaw9_PanelOrderHasAll (N : Nat) (p0 : TPanel) : Option Bool :=
  (F_panel_Order N p0).bind fun y101 =>
  if (y101.2 != 0) then
    (if ((y101.1.length : Int) == 0) then 
      (F_etchhouselaw9_awake N).bind fun y105 =>
      some y105
     else some false).bind fun g104 =>
    some g104
  else
    (F_panel_Cells N p0).bind fun y106 =>
    if ((y106.2 != 0) || ((y101.1.length : Int) != (y106.1.length : Int))) then
      some false
    else
      F_etchhouselaw9_PanelOrderHasAll_L1 N y101 y106 N 0

end Go.Proofs.Ytfddmjoldoddlaa
