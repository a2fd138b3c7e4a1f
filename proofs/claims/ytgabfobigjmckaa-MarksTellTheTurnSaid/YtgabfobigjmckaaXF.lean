/- The plain functions: what each function of the program computes; none where it would panic. -/
import Derived.Test.YtgabfobigjmckaaXT
namespace Go.Proofs.Ytgabfobigjmckaa
open Go.RowKit

def F_panel_within (p0 : Int) (p1 : Int) (p2 : Int) : Option Bool :=
  some ((decide (p1 ≤ p0)) && (decide (p0 ≤ p2)))

def F_plot_IsName_L1 (p0 : ByteArray) : Nat → Int → Option Bool
  | 0, _ => none
  | mF_plot_IsName_L1 + 1, x105 =>
    if (decide (x105 < (p0.size : Int))) then
      (strAt p0 x105).bind fun c106 =>
      if ((!(((decide (97 ≤ c106)) && (decide (c106 ≤ 122))) || ((decide (65 ≤ c106)) && (decide (c106 ≤ 90))))) && ((x105 == 0) || ((((decide (c106 < 48)) || (decide (57 < c106))) && (c106 != 95)) && (c106 != 45)))) then
        some false
      else
        (F_plot_IsName_L1 p0 mF_plot_IsName_L1) (w64 (x105 + 1))
    else
      some ((decide (1 ≤ (p0.size : Int))) && (decide ((p0.size : Int) ≤ 40)))
def F_plot_IsName (N : Nat) (p0 : ByteArray) : Option Bool :=
  F_plot_IsName_L1 p0 N 0

def F_panel_checkKinds_L1 (N : Nat) (p0 : (List TBoardKind)) : List TBoardKind → Nat → Option Int
  | [], iF_panel_checkKinds_L1 =>
    some 0
  | xF_panel_checkKinds_L1 :: restF_panel_checkKinds_L1, iF_panel_checkKinds_L1 =>
    (F_plot_IsName N xF_panel_checkKinds_L1.Name).bind fun y112 =>
    if (!y112) then
      some 5
    else
      (F_panel_within xF_panel_checkKinds_L1.W 1 1000000).bind fun y113 =>
      (if (!y113) then some true else 
        (F_panel_within xF_panel_checkKinds_L1.H 1 1000000).bind fun y116 =>
        some (!y116)
      ).bind fun g115 =>
      if g115 then
        some 1
      else
        (if (decide (0 < (iF_panel_checkKinds_L1 : Int))) then 
          (idx p0 (w64 ((iF_panel_checkKinds_L1 : Int) - 1))).bind fun x119 =>
          some (sLt xF_panel_checkKinds_L1.Name x119.Name || sEq xF_panel_checkKinds_L1.Name x119.Name)
         else some false).bind fun g118 =>
        if g118 then
          some 8
        else
          (F_panel_checkKinds_L1 N p0 restF_panel_checkKinds_L1 (iF_panel_checkKinds_L1 + 1))
def F_panel_checkKinds (N : Nat) (p0 : (List TBoardKind)) : Option Int :=
  if (decide (50 < (p0.length : Int))) then
    some 2
  else
    F_panel_checkKinds_L1 N p0 p0 0


def F_panel_kindAt_1 (p0 : TBoardKind) (q0 : ByteArray) : Option Bool :=
  some (sEq p0.Name q0)

def F_slices_IndexFunc_BoardKind_L1 (p1 : TBoardKind → Option Bool) : List TBoardKind → Nat → Option Int
  | [], iF_slices_IndexFunc_BoardKind_L1 =>
    some (-1)
  | xF_slices_IndexFunc_BoardKind_L1 :: restF_slices_IndexFunc_BoardKind_L1, iF_slices_IndexFunc_BoardKind_L1 =>
    (p1 xF_slices_IndexFunc_BoardKind_L1).bind fun y103 =>
    if y103 then
      some (iF_slices_IndexFunc_BoardKind_L1 : Int)
    else
      (F_slices_IndexFunc_BoardKind_L1 p1 restF_slices_IndexFunc_BoardKind_L1 (iF_slices_IndexFunc_BoardKind_L1 + 1))
def F_slices_IndexFunc_BoardKind (p0 : (List TBoardKind)) (p1 : TBoardKind → Option Bool) : Option Int :=
  F_slices_IndexFunc_BoardKind_L1 p1 p0 0


def F_panel_kindAt (p0 : TPanel) (p1 : ByteArray) : Option Int :=
  (F_slices_IndexFunc_BoardKind p0.Kinds (fun z0 => F_panel_kindAt_1 z0 p1)).bind fun y102 =>
  some y102


def F_panel_sizeOf (p0 : TBoardKind) (p1 : Int) : Option (Int × Int) :=
  if ((Int.tmod p1 2) == 1) then
    some (p0.H, p0.W)
  else
    some (p0.W, p0.H)


def F_panel_cellOf (p0 : TPanel) (p1 : TSlot) : Option TRect :=
  (F_panel_kindAt p0 p1.Board).bind fun y103 =>
  (idx p0.Kinds y103).bind fun x104 =>
  (F_panel_sizeOf x104 p1.Quarters).bind fun y105 =>
  some (TRect.mk p1.At.X p1.At.Y (w64 (p1.At.X + y105.1)) (w64 (p1.At.Y + y105.2)))


def F_panel_isOn (p0 : TPanel) (p1 : TRect) : Option Bool :=
  some ((((((decide (p0.Rail ≤ p1.X0)) && (decide (p0.Rail ≤ p1.Y0))) && (decide (p1.X0 ≤ p0.W))) && (decide (p1.Y0 ≤ p0.H))) && (decide (p1.X1 ≤ (w64 (p0.W - p0.Rail))))) && (decide (p1.Y1 ≤ (w64 (p0.H - p0.Rail)))))


def F_panel_isApart (p0 : TRect) (p1 : TRect) (p2 : Int) : Option Bool :=
  some ((((decide ((w64 (p0.X1 + p2)) ≤ p1.X0)) || (decide ((w64 (p1.X1 + p2)) ≤ p0.X0))) || (decide ((w64 (p0.Y1 + p2)) ≤ p1.Y0))) || (decide ((w64 (p1.Y1 + p2)) ≤ p0.Y0)))


def F_panel_cells_1 (p0 : TRect) (q0 : TRect) (q1 : TPanel) : Option Bool :=
  (F_panel_isApart q0 p0 q1.Gap).bind fun y101 =>
  some (!y101)

def F_slices_IndexFunc_Rect_L1 (p1 : TRect → Option Bool) : List TRect → Nat → Option Int
  | [], iF_slices_IndexFunc_Rect_L1 =>
    some (-1)
  | xF_slices_IndexFunc_Rect_L1 :: restF_slices_IndexFunc_Rect_L1, iF_slices_IndexFunc_Rect_L1 =>
    (p1 xF_slices_IndexFunc_Rect_L1).bind fun y103 =>
    if y103 then
      some (iF_slices_IndexFunc_Rect_L1 : Int)
    else
      (F_slices_IndexFunc_Rect_L1 p1 restF_slices_IndexFunc_Rect_L1 (iF_slices_IndexFunc_Rect_L1 + 1))
def F_slices_IndexFunc_Rect (p0 : (List TRect)) (p1 : TRect → Option Bool) : Option Int :=
  F_slices_IndexFunc_Rect_L1 p1 p0 0


def F_slices_ContainsFunc_Rect (p0 : (List TRect)) (p1 : TRect → Option Bool) : Option Bool :=
  (F_slices_IndexFunc_Rect p0 p1).bind fun y100 =>
  some (decide (0 ≤ y100))

def F_panel_cells_L1 (p0 : TPanel) : List TSlot → Nat → List TRect → Option ((List TRect) × Int)
  | [], iF_panel_cells_L1, l139 =>
    some (l139, 0)
  | xF_panel_cells_L1 :: restF_panel_cells_L1, iF_panel_cells_L1, l139 =>
    (F_panel_kindAt p0 xF_panel_cells_L1.Board).bind fun y141 =>
    if (decide (y141 < 0)) then
      some (([] : List TRect), 5)
    else
      (F_panel_within xF_panel_cells_L1.Quarters 0 3).bind fun y142 =>
      (if (!y142) then some true else 
        (F_panel_within xF_panel_cells_L1.At.X 0 p0.W).bind fun y145 =>
        some (!y145)
      ).bind fun g144 =>
      (if g144 then some true else 
        (F_panel_within xF_panel_cells_L1.At.Y 0 p0.H).bind fun y148 =>
        some (!y148)
      ).bind fun g147 =>
      if g147 then
        some (([] : List TRect), 1)
      else
        (F_panel_cellOf p0 xF_panel_cells_L1).bind fun y149 =>
        (F_panel_isOn p0 y149).bind fun y151 =>
        if (!y151) then
          some (([] : List TRect), 1)
        else
          (F_slices_ContainsFunc_Rect l139 (fun z0 => F_panel_cells_1 z0 y149 p0)).bind fun y152 =>
          if y152 then
            some (([] : List TRect), 12)
          else
            (apd l139 [y149]).bind fun l154 =>
            (F_panel_cells_L1 p0 restF_panel_cells_L1 (iF_panel_cells_L1 + 1)) l154
def F_panel_cells (p0 : TPanel) : Option ((List TRect) × Int) :=
  if (decide (500 < (p0.Slots.length : Int))) then
    some (([] : List TRect), 2)
  else
    F_panel_cells_L1 p0 p0.Slots 0 ([] : List TRect)


def F_panel_isOnPanel (p0 : TPanel) (p1 : TPoint) : Option Bool :=
  (F_panel_within p1.X 0 p0.W).bind fun y102 =>
  (if y102 then 
    (F_panel_within p1.Y 0 p0.H).bind fun y105 =>
    some y105
   else some false).bind fun g104 =>
  some g104


def F_panel_isInside (p0 : TRect) (p1 : TPoint) : Option Bool :=
  some ((((decide (p0.X0 < p1.X)) && (decide (p1.X < p0.X1))) && (decide (p0.Y0 < p1.Y))) && (decide (p1.Y < p0.Y1)))


def F_panel_open_1 (p0 : TRect) (q0 : TPoint) : Option Bool :=
  (F_panel_isInside p0 q0).bind fun y101 =>
  some y101

def F_slices_Index_Point_L1 (p1 : TPoint) : List TPoint → Nat → Option Int
  | [], iF_slices_Index_Point_L1 =>
    some (-1)
  | xF_slices_Index_Point_L1 :: restF_slices_Index_Point_L1, iF_slices_Index_Point_L1 =>
    if (eqTPoint p1 xF_slices_Index_Point_L1) then
      some (iF_slices_Index_Point_L1 : Int)
    else
      (F_slices_Index_Point_L1 p1 restF_slices_Index_Point_L1 (iF_slices_Index_Point_L1 + 1))
def F_slices_Index_Point (p0 : (List TPoint)) (p1 : TPoint) : Option Int :=
  F_slices_Index_Point_L1 p1 p0 0


def F_slices_Contains_Point (p0 : (List TPoint)) (p1 : TPoint) : Option Bool :=
  (F_slices_Index_Point p0 p1).bind fun y101 =>
  some (decide (0 ≤ y101))

def F_panel_open_L1 (p0 : TPanel) (y112 : ((List TRect) × Int)) : List TPoint → Nat → Option ((List TRect) × Int)
  | [], iF_panel_open_L1 =>
    some (y112.1, 0)
  | xF_panel_open_L1 :: restF_panel_open_L1, iF_panel_open_L1 =>
    (F_panel_isOnPanel p0 xF_panel_open_L1).bind fun y122 =>
    if (!y122) then
      some (([] : List TRect), 1)
    else
      (F_slices_ContainsFunc_Rect y112.1 (fun z0 => F_panel_open_1 z0 xF_panel_open_L1)).bind fun y123 =>
      if y123 then
        some (([] : List TRect), 12)
      else
        (pre p0.Marks (iF_panel_open_L1 : Int)).bind fun l124 =>
        (F_slices_Contains_Point l124 xF_panel_open_L1).bind fun y125 =>
        if y125 then
          some (([] : List TRect), 7)
        else
          (F_panel_open_L1 p0 y112 restF_panel_open_L1 (iF_panel_open_L1 + 1))
def F_panel_open (N : Nat) (p0 : TPanel) : Option ((List TRect) × Int) :=
  (F_panel_within p0.W 1 1000000).bind fun y101 =>
  (if (!y101) then some true else 
    (F_panel_within p0.H 1 1000000).bind fun y104 =>
    some (!y104)
  ).bind fun g103 =>
  (if g103 then some true else 
    (F_panel_within p0.Rail 0 1000000).bind fun y107 =>
    some (!y107)
  ).bind fun g106 =>
  (if g106 then some true else 
    (F_panel_within p0.Gap 0 1000000).bind fun y110 =>
    some (!y110)
  ).bind fun g109 =>
  if g109 then
    some (([] : List TRect), 1)
  else
    (F_panel_checkKinds N p0.Kinds).bind fun y111 =>
    if (y111 != 0) then
      some (([] : List TRect), y111)
    else
      (F_panel_cells p0).bind fun y112 =>
      if (y112.2 != 0) then
        some (([] : List TRect), y112.2)
      else
        if (decide (10 < (p0.Marks.length : Int))) then
          some (([] : List TRect), 2)
        else
          F_panel_open_L1 p0 y112 p0.Marks 0


def F_panel_CheckPanel (N : Nat) (p0 : TPanel) : Option Int :=
  (F_panel_open N p0).bind fun y101 =>
  some y101.2

def F_shape_TurnPoint_L1 (p1 : TTurn) : Nat → Int → Int → Int → Option TPoint
  | 0, _, _, _ => none
  | mF_shape_TurnPoint_L1 + 1, x115, x116, x117 =>
    if (decide (x117 < p1.Quarters)) then
      (F_shape_TurnPoint_L1 p1 mF_shape_TurnPoint_L1) (w64 (0 - x116)) x115 (w64 (x117 + 1))
    else
      some (TPoint.mk (w64 (x115 + p1.At.X)) (w64 (x116 + p1.At.Y)))
def F_shape_TurnPoint_J2 (N : Nat) (p0 : TPoint) (p1 : TTurn) (x103 : Int) : Option TPoint :=
  F_shape_TurnPoint_L1 p1 N x103 p0.Y 0
def F_shape_TurnPoint (N : Nat) (p0 : TPoint) (p1 : TTurn) : Option TPoint :=
  if p1.Flip then
    F_shape_TurnPoint_J2 N p0 p1 (w64 (0 - p0.X))
  else
    F_shape_TurnPoint_J2 N p0 p1 p0.X


def F_panel_takes_1 (N : Nat) (p0 : TPoint) (q0 : (List TPoint)) (q1 : TTurn) : Option Bool :=
  (F_shape_TurnPoint N p0 q1).bind fun y101 =>
  (F_slices_Contains_Point q0 y101).bind fun y102 =>
  some (!y102)

def F_slices_IndexFunc_Point_L1 (p1 : TPoint → Option Bool) : List TPoint → Nat → Option Int
  | [], iF_slices_IndexFunc_Point_L1 =>
    some (-1)
  | xF_slices_IndexFunc_Point_L1 :: restF_slices_IndexFunc_Point_L1, iF_slices_IndexFunc_Point_L1 =>
    (p1 xF_slices_IndexFunc_Point_L1).bind fun y103 =>
    if y103 then
      some (iF_slices_IndexFunc_Point_L1 : Int)
    else
      (F_slices_IndexFunc_Point_L1 p1 restF_slices_IndexFunc_Point_L1 (iF_slices_IndexFunc_Point_L1 + 1))
def F_slices_IndexFunc_Point (p0 : (List TPoint)) (p1 : TPoint → Option Bool) : Option Int :=
  F_slices_IndexFunc_Point_L1 p1 p0 0


def F_slices_ContainsFunc_Point (p0 : (List TPoint)) (p1 : TPoint → Option Bool) : Option Bool :=
  (F_slices_IndexFunc_Point p0 p1).bind fun y100 =>
  some (decide (0 ≤ y100))


def F_panel_takes (N : Nat) (p0 : TTurn) (p1 : (List TPoint)) (p2 : (List TPoint)) : Option Bool :=
  (if ((p1.length : Int) == (p2.length : Int)) then 
    (F_slices_ContainsFunc_Point p1 (fun z0 => F_panel_takes_1 N z0 p2 p0)).bind fun y104 =>
    some (!y104)
   else some false).bind fun g103 =>
  some g103



def F_panel_turns_1 (p0 : TTurn) (p1 : TTurn) : Option Int :=
  if (p0.At.Y != p1.At.Y) then
    some (w64 (p0.At.Y - p1.At.Y))
  else
    some (w64 (p0.At.X - p1.At.X))

noncomputable def F_panel_turns_L4 (N : Nat) (p0 : (List TPoint)) (p1 : (List TPoint)) (l178 : List TTurn) (x179 : Int) (kF_panel_turns_L3 : (List TTurn) → Int → Option (List TTurn)) : List TPoint → Nat → List TTurn → Option (List TTurn)
  | [], iF_panel_turns_L4, l204 =>
    (srtF l204 (fun z0 z1 => F_panel_turns_1 z0 z1)).bind fun y205 =>
    (apd l178 y205).bind fun l207 =>
    kF_panel_turns_L3 l207 (w64 (x179 + 1))
  | xF_panel_turns_L4 :: restF_panel_turns_L4, iF_panel_turns_L4, l204 =>
    (idx p0 0).bind fun x211 =>
    (F_shape_TurnPoint N x211 (TTurn.mk false x179 (TPoint.mk 0 0))).bind fun y212 =>
    (F_panel_takes N (TTurn.mk false x179 (TPoint.mk (w64 (xF_panel_turns_L4.X - y212.X)) (w64 (xF_panel_turns_L4.Y - y212.Y)))) p0 p1).bind fun y213 =>
    if y213 then
      (apd l204 [(TTurn.mk false x179 (TPoint.mk (w64 (xF_panel_turns_L4.X - y212.X)) (w64 (xF_panel_turns_L4.Y - y212.Y))))]).bind fun l215 =>
      (F_panel_turns_L4 N p0 p1 l178 x179 kF_panel_turns_L3 restF_panel_turns_L4 (iF_panel_turns_L4 + 1)) l215
    else
      (F_panel_turns_L4 N p0 p1 l178 x179 kF_panel_turns_L3 restF_panel_turns_L4 (iF_panel_turns_L4 + 1)) l204
noncomputable def F_panel_turns_L3 (N : Nat) (p0 : (List TPoint)) (p1 : (List TPoint)) : Nat → List TTurn → Int → Option (List TTurn)
  | 0, _, _ => none
  | mF_panel_turns_L3 + 1, l178, x179 =>
    if (decide (x179 < 4)) then
      F_panel_turns_L4 N p0 p1 l178 x179 (F_panel_turns_L3 N p0 p1 mF_panel_turns_L3) p1 0 ([] : List TTurn)
    else
      some l178
noncomputable def F_panel_turns (N : Nat) (p0 : (List TPoint)) (p1 : (List TPoint)) : Option (List TTurn) :=
  F_panel_turns_L3 N p0 p1 N ([] : List TTurn) 0


noncomputable def F_panel_GoodMarks (N : Nat) (p0 : TPanel) : Option (Bool × Int) :=
  (F_panel_CheckPanel N p0).bind fun y101 =>
  if (y101 != 0) then
    some (false, y101)
  else
    (if (decide (2 ≤ (p0.Marks.length : Int))) then 
      (F_panel_turns N p0.Marks p0.Marks).bind fun y105 =>
      some ((y105.length : Int) == 1)
     else some false).bind fun g104 =>
    some (g104, 0)


def F_etchhouseref9_within (p0 : Int) (p1 : Int) (p2 : Int) : Option Bool :=
  some ((decide (p1 ≤ p0)) && (decide (p0 ≤ p2)))


def F_etchhouseref3_within (p0 : Int) (p1 : Int) (p2 : Int) : Option Bool :=
  some ((decide (p1 ≤ p0)) && (decide (p0 ≤ p2)))

def F_etchhouseref3_IsName_L1 (p0 : ByteArray) : Nat → Int → Option Bool
  | 0, _ => none
  | mF_etchhouseref3_IsName_L1 + 1, x105 =>
    if (decide (x105 < (p0.size : Int))) then
      (strAt p0 x105).bind fun c106 =>
      if ((!(((decide (97 ≤ c106)) && (decide (c106 ≤ 122))) || ((decide (65 ≤ c106)) && (decide (c106 ≤ 90))))) && ((x105 == 0) || (((c106 != 95) && (c106 != 45)) && (!((decide (48 ≤ c106)) && (decide (c106 ≤ 57))))))) then
        some false
      else
        (F_etchhouseref3_IsName_L1 p0 mF_etchhouseref3_IsName_L1) (w64 (x105 + 1))
    else
      (F_etchhouseref3_within (p0.size : Int) 1 40).bind fun y107 =>
      some y107
def F_etchhouseref3_IsName (N : Nat) (p0 : ByteArray) : Option Bool :=
  F_etchhouseref3_IsName_L1 p0 N 0

def F_etchhouseref9_kind_L1 (p0 : TPanel) (p1 : ByteArray) : Nat → Int → Option Int
  | 0, _ => none
  | mF_etchhouseref9_kind_L1 + 1, x106 =>
    if (decide (x106 < (p0.Kinds.length : Int))) then
      (idx p0.Kinds x106).bind fun x107 =>
      if (sEq x107.Name p1) then
        some x106
      else
        (F_etchhouseref9_kind_L1 p0 p1 mF_etchhouseref9_kind_L1) (w64 (x106 + 1))
    else
      some (-1)
def F_etchhouseref9_kind (N : Nat) (p0 : TPanel) (p1 : ByteArray) : Option Int :=
  F_etchhouseref9_kind_L1 p0 p1 N 0


def F_etchhouseref9_sizeOf (p0 : TBoardKind) (p1 : Int) : Option (Int × Int) :=
  if ((Int.tmod p1 2) == 1) then
    some (p0.H, p0.W)
  else
    some (p0.W, p0.H)


def F_etchhouseref9_lies (p0 : TPanel) (p1 : TPoint) (p2 : Int) (p3 : Int) : Option Bool :=
  (F_etchhouseref9_within p1.X p0.Rail (w64 ((w64 (p0.W - p0.Rail)) - p2))).bind fun y102 =>
  (if y102 then 
    (F_etchhouseref9_within p1.Y p0.Rail (w64 ((w64 (p0.H - p0.Rail)) - p3))).bind fun y105 =>
    some y105
   else some false).bind fun g104 =>
  some g104


def F_etchhouseref9_cellOf (N : Nat) (p0 : TPanel) (p1 : TSlot) : Option TRect :=
  (F_etchhouseref9_kind N p0 p1.Board).bind fun y103 =>
  (idx p0.Kinds y103).bind fun x104 =>
  (F_etchhouseref9_sizeOf x104 p1.Quarters).bind fun y105 =>
  some (TRect.mk p1.At.X p1.At.Y (w64 (p1.At.X + y105.1)) (w64 (p1.At.Y + y105.2)))


def F_etchhouseref9_apart (p0 : TRect) (p1 : TRect) (p2 : Int) : Option Bool :=
  some ((((decide ((w64 (p0.X1 + p2)) ≤ p1.X0)) || (decide ((w64 (p1.X1 + p2)) ≤ p0.X0))) || (decide ((w64 (p0.Y1 + p2)) ≤ p1.Y0))) || (decide ((w64 (p1.Y1 + p2)) ≤ p0.Y0)))

def F_etchhouseref9_checkSlot_L1 (N : Nat) (p0 : TPanel) (p1 : Int) (x101 : TSlot) : Nat → Int → Option Int
  | 0, _ => none
  | mF_etchhouseref9_checkSlot_L1 + 1, x119 =>
    if (decide (x119 < p1)) then
      (F_etchhouseref9_cellOf N p0 x101).bind fun y120 =>
      (idx p0.Slots x119).bind fun x121 =>
      (F_etchhouseref9_cellOf N p0 x121).bind fun y122 =>
      (F_etchhouseref9_apart y120 y122 p0.Gap).bind fun y123 =>
      if (!y123) then
        some 12
      else
        (F_etchhouseref9_checkSlot_L1 N p0 p1 x101 mF_etchhouseref9_checkSlot_L1) (w64 (x119 + 1))
    else
      some 0
def F_etchhouseref9_checkSlot (N : Nat) (p0 : TPanel) (p1 : Int) : Option Int :=
  (idx p0.Slots p1).bind fun x101 =>
  (F_etchhouseref9_kind N p0 x101.Board).bind fun y103 =>
  if (decide (y103 < 0)) then
    some 5
  else
    (F_etchhouseref9_within x101.Quarters 0 3).bind fun y104 =>
    if (!y104) then
      some 1
    else
      (idx p0.Kinds y103).bind fun x105 =>
      (F_etchhouseref9_sizeOf x105 x101.Quarters).bind fun y106 =>
      (F_etchhouseref9_lies p0 x101.At y106.1 y106.2).bind fun y107 =>
      if (!y107) then
        some 1
      else
        F_etchhouseref9_checkSlot_L1 N p0 p1 x101 N 0

def F_etchhouseref9_checkMark_L2 (p0 : TPanel) (p1 : Int) (x101 : TPoint) : Nat → Int → Option Int
  | 0, _ => none
  | mF_etchhouseref9_checkMark_L2 + 1, x125 =>
    if (decide (x125 < p1)) then
      (idx p0.Marks x125).bind fun x126 =>
      if (eqTPoint x126 x101) then
        some 7
      else
        (F_etchhouseref9_checkMark_L2 p0 p1 x101 mF_etchhouseref9_checkMark_L2) (w64 (x125 + 1))
    else
      some 0
def F_etchhouseref9_checkMark_L1 (N : Nat) (p0 : TPanel) (p1 : Int) (x101 : TPoint) : Nat → Int → Option Int
  | 0, _ => none
  | mF_etchhouseref9_checkMark_L1 + 1, x116 =>
    if (decide (x116 < (p0.Slots.length : Int))) then
      (idx p0.Slots x116).bind fun x118 =>
      (F_etchhouseref9_cellOf N p0 x118).bind fun y119 =>
      if ((((decide (y119.X0 < x101.X)) && (decide (x101.X < y119.X1))) && (decide (y119.Y0 < x101.Y))) && (decide (x101.Y < y119.Y1))) then
        some 12
      else
        (F_etchhouseref9_checkMark_L1 N p0 p1 x101 mF_etchhouseref9_checkMark_L1) (w64 (x116 + 1))
    else
      F_etchhouseref9_checkMark_L2 p0 p1 x101 N 0
def F_etchhouseref9_checkMark (N : Nat) (p0 : TPanel) (p1 : Int) : Option Int :=
  (idx p0.Marks p1).bind fun x101 =>
  (F_etchhouseref9_within x101.X 0 p0.W).bind fun y103 =>
  (if (!y103) then some true else 
    (F_etchhouseref9_within x101.Y 0 p0.H).bind fun y106 =>
    some (!y106)
  ).bind fun g105 =>
  if g105 then
    some 1
  else
    F_etchhouseref9_checkMark_L1 N p0 p1 x101 N 0

def F_etchhouseref9_CheckPanel_L3 (N : Nat) (p0 : TPanel) : Nat → Int → Option Int
  | 0, _ => none
  | mF_etchhouseref9_CheckPanel_L3 + 1, x157 =>
    if (decide (x157 < (p0.Marks.length : Int))) then
      (F_etchhouseref9_checkMark N p0 x157).bind fun y158 =>
      if (y158 != 0) then
        some y158
      else
        (F_etchhouseref9_CheckPanel_L3 N p0 mF_etchhouseref9_CheckPanel_L3) (w64 (x157 + 1))
    else
      some 0
def F_etchhouseref9_CheckPanel_L2 (N : Nat) (p0 : TPanel) : Nat → Int → Option Int
  | 0, _ => none
  | mF_etchhouseref9_CheckPanel_L2 + 1, x150 =>
    if (decide (x150 < (p0.Slots.length : Int))) then
      (F_etchhouseref9_checkSlot N p0 x150).bind fun y151 =>
      if (y151 != 0) then
        some y151
      else
        (F_etchhouseref9_CheckPanel_L2 N p0 mF_etchhouseref9_CheckPanel_L2) (w64 (x150 + 1))
    else
      if (decide (10 < (p0.Marks.length : Int))) then
        some 2
      else
        F_etchhouseref9_CheckPanel_L3 N p0 N 0
def F_etchhouseref9_CheckPanel_L1 (N : Nat) (p0 : TPanel) : Nat → Int → Option Int
  | 0, _ => none
  | mF_etchhouseref9_CheckPanel_L1 + 1, x134 =>
    if (decide (x134 < (p0.Kinds.length : Int))) then
      (idx p0.Kinds x134).bind fun x135 =>
      (F_etchhouseref3_IsName N x135.Name).bind fun y137 =>
      if (!y137) then
        some 5
      else
        (F_etchhouseref9_within x135.W 1 1000000).bind fun y138 =>
        (if (!y138) then some true else 
          (F_etchhouseref9_within x135.H 1 1000000).bind fun y141 =>
          some (!y141)
        ).bind fun g140 =>
        if g140 then
          some 1
        else
          (if (decide (0 < x134)) then 
            (idx p0.Kinds (w64 (x134 - 1))).bind fun x144 =>
            some (sLt x135.Name x144.Name || sEq x135.Name x144.Name)
           else some false).bind fun g143 =>
          if g143 then
            some 8
          else
            (F_etchhouseref9_CheckPanel_L1 N p0 mF_etchhouseref9_CheckPanel_L1) (w64 (x134 + 1))
    else
      if (decide (500 < (p0.Slots.length : Int))) then
        some 2
      else
        F_etchhouseref9_CheckPanel_L2 N p0 N 0
def F_etchhouseref9_CheckPanel (N : Nat) (p0 : TPanel) : Option Int :=
  (F_etchhouseref9_within p0.W 1 1000000).bind fun y101 =>
  (if (!y101) then some true else 
    (F_etchhouseref9_within p0.H 1 1000000).bind fun y104 =>
    some (!y104)
  ).bind fun g103 =>
  (if g103 then some true else 
    (F_etchhouseref9_within p0.Rail 0 1000000).bind fun y107 =>
    some (!y107)
  ).bind fun g106 =>
  (if g106 then some true else 
    (F_etchhouseref9_within p0.Gap 0 1000000).bind fun y110 =>
    some (!y110)
  ).bind fun g109 =>
  if g109 then
    some 1
  else
    if (decide (50 < (p0.Kinds.length : Int))) then
      some 2
    else
      F_etchhouseref9_CheckPanel_L1 N p0 N 0

def F_etchhouseref1_around_L1 (p1 : TTurn) : Nat → Int → Int → Int → Option TPoint
  | 0, _, _, _ => none
  | mF_etchhouseref1_around_L1 + 1, x115, x116, x117 =>
    if (decide (x117 < p1.Quarters)) then
      (F_etchhouseref1_around_L1 p1 mF_etchhouseref1_around_L1) (w64 (0 - x116)) x115 (w64 (x117 + 1))
    else
      some (TPoint.mk x115 x116)
def F_etchhouseref1_around_J2 (N : Nat) (p0 : TPoint) (p1 : TTurn) (x103 : Int) : Option TPoint :=
  F_etchhouseref1_around_L1 p1 N x103 p0.Y 0
def F_etchhouseref1_around (N : Nat) (p0 : TPoint) (p1 : TTurn) : Option TPoint :=
  if p1.Flip then
    F_etchhouseref1_around_J2 N p0 p1 (w64 (0 - p0.X))
  else
    F_etchhouseref1_around_J2 N p0 p1 p0.X


def F_etchhouseref1_TurnPoint (N : Nat) (p0 : TPoint) (p1 : TTurn) : Option TPoint :=
  (F_etchhouseref1_around N p0 p1).bind fun y103 =>
  some (TPoint.mk (w64 (y103.X + p1.At.X)) (w64 (y103.Y + p1.At.Y)))

def F_etchhouseref9_takes_L4 (p2 : (List TPoint)) (x140 : Int) (kF_etchhouseref9_takes_L3 : Int → Option Bool) (y143 : TPoint) : Nat → Bool → Int → Option Bool
  | 0, _, _ => none
  | mF_etchhouseref9_takes_L4 + 1, x154, x155 =>
    if (decide (x155 < (p2.length : Int))) then
      (if x154 then some true else 
        (idx p2 x155).bind fun x158 =>
        some (eqTPoint x158 y143)
      ).bind fun g157 =>
      (F_etchhouseref9_takes_L4 p2 x140 kF_etchhouseref9_takes_L3 y143 mF_etchhouseref9_takes_L4) g157 (w64 (x155 + 1))
    else
      if (!x154) then
        some false
      else
        kF_etchhouseref9_takes_L3 (w64 (x140 + 1))
def F_etchhouseref9_takes_L3 (N : Nat) (p0 : TTurn) (p1 : (List TPoint)) (p2 : (List TPoint)) : Nat → Int → Option Bool
  | 0, _ => none
  | mF_etchhouseref9_takes_L3 + 1, x140 =>
    if (decide (x140 < (p1.length : Int))) then
      (idx p1 x140).bind fun x142 =>
      (F_etchhouseref1_TurnPoint N x142 p0).bind fun y143 =>
      F_etchhouseref9_takes_L4 p2 x140 (F_etchhouseref9_takes_L3 N p0 p1 p2 mF_etchhouseref9_takes_L3) y143 N false 0
    else
      some true
def F_etchhouseref9_takes (N : Nat) (p0 : TTurn) (p1 : (List TPoint)) (p2 : (List TPoint)) : Option Bool :=
  if ((p1.length : Int) != (p2.length : Int)) then
    some false
  else
    F_etchhouseref9_takes_L3 N p0 p1 p2 N 0

def F_etchhouseref9_turns_L4 (N : Nat) (p0 : (List TPoint)) (p1 : (List TPoint)) (x165 : Int) (kF_etchhouseref9_turns_L3 : (List TTurn) → Int → Option (List TTurn)) (y167 : TPoint) : Nat → List TTurn → Int → Option (List TTurn)
  | 0, _, _ => none
  | mF_etchhouseref9_turns_L4 + 1, l187, x188 =>
    if (decide (x188 < (p1.length : Int))) then
      (idx p1 x188).bind fun x190 =>
      (idx p1 x188).bind fun x191 =>
      (F_etchhouseref9_takes N (TTurn.mk false x165 (TPoint.mk (w64 (x190.X - y167.X)) (w64 (x191.Y - y167.Y)))) p0 p1).bind fun y192 =>
      if y192 then
        (apd l187 [(TTurn.mk false x165 (TPoint.mk (w64 (x190.X - y167.X)) (w64 (x191.Y - y167.Y))))]).bind fun l194 =>
        (F_etchhouseref9_turns_L4 N p0 p1 x165 kF_etchhouseref9_turns_L3 y167 mF_etchhouseref9_turns_L4) l194 (w64 (x188 + 1))
      else
        (F_etchhouseref9_turns_L4 N p0 p1 x165 kF_etchhouseref9_turns_L3 y167 mF_etchhouseref9_turns_L4) l187 (w64 (x188 + 1))
    else
      kF_etchhouseref9_turns_L3 l187 (w64 (x165 + 1))
def F_etchhouseref9_turns_L3 (N : Nat) (p0 : (List TPoint)) (p1 : (List TPoint)) : Nat → List TTurn → Int → Option (List TTurn)
  | 0, _, _ => none
  | mF_etchhouseref9_turns_L3 + 1, l164, x165 =>
    if (decide (x165 < 4)) then
      (idx p0 0).bind fun x166 =>
      (F_etchhouseref1_TurnPoint N x166 (TTurn.mk false x165 (TPoint.mk 0 0))).bind fun y167 =>
      F_etchhouseref9_turns_L4 N p0 p1 x165 (F_etchhouseref9_turns_L3 N p0 p1 mF_etchhouseref9_turns_L3) y167 N l164 0
    else
      some l164
def F_etchhouseref9_turns (N : Nat) (p0 : (List TPoint)) (p1 : (List TPoint)) : Option (List TTurn) :=
  if (((p0.length : Int) == 0) || ((p0.length : Int) != (p1.length : Int))) then
    some ([] : List TTurn)
  else
    F_etchhouseref9_turns_L3 N p0 p1 N ([] : List TTurn) 0


def F_etchhouseref9_GoodMarks (N : Nat) (p0 : TPanel) : Option (Bool × Int) :=
  (F_etchhouseref9_CheckPanel N p0).bind fun y101 =>
  if (y101 != 0) then
    some (false, y101)
  else
    (if (decide (2 ≤ (p0.Marks.length : Int))) then 
      (F_etchhouseref9_turns N p0.Marks p0.Marks).bind fun y105 =>
      some ((y105.length : Int) == 1)
     else some false).bind fun g104 =>
    some (g104, 0)


def F_shape_within (p0 : Int) (p1 : Int) (p2 : Int) : Option Bool :=
  some ((decide (p1 ≤ p0)) && (decide (p0 ≤ p2)))


def F_shape_IsAt (p0 : Int) : Option Bool :=
  (F_shape_within p0 (-1000000) 1000000).bind fun y100 =>
  some y100


def F_shape_IsPoint (p0 : TPoint) : Option Bool :=
  (F_shape_IsAt p0.X).bind fun y101 =>
  (if y101 then 
    (F_shape_IsAt p0.Y).bind fun y104 =>
    some y104
   else some false).bind fun g103 =>
  some g103


def F_shape_CheckTurn (p0 : TTurn) : Option Int :=
  (F_shape_within p0.Quarters 0 3).bind fun y101 =>
  (if (!y101) then some true else 
    (F_shape_IsPoint p0.At).bind fun y104 =>
    some (!y104)
  ).bind fun g103 =>
  if g103 then
    some 1
  else
    some 0

noncomputable def F_panel_Lie_L1 (N : Nat) (p0 : TPanel) (p1 : (List TPoint)) : List TPoint → Nat → Option (TTurn × Bool × Int)
  | [], iF_panel_Lie_L1 =>
    if (((p0.Marks.length : Int) == 0) || ((p1.length : Int) != (p0.Marks.length : Int))) then
      some ((TTurn.mk false 0 (TPoint.mk 0 0)), false, 0)
    else
      (F_panel_turns N p0.Marks p1).bind fun y109 =>
      if ((y109.length : Int) == 0) then
        some ((TTurn.mk false 0 (TPoint.mk 0 0)), false, 0)
      else
        (idx y109 0).bind fun x111 =>
        (F_shape_CheckTurn x111).bind fun y112 =>
        if (y112 != 0) then
          some ((TTurn.mk false 0 (TPoint.mk 0 0)), false, y112)
        else
          (idx y109 0).bind fun x113 =>
          some (x113, true, 0)
  | xF_panel_Lie_L1 :: restF_panel_Lie_L1, iF_panel_Lie_L1 =>
    (F_shape_IsPoint xF_panel_Lie_L1).bind fun y115 =>
    if (!y115) then
      some ((TTurn.mk false 0 (TPoint.mk 0 0)), false, 1)
    else
      (pre p1 (iF_panel_Lie_L1 : Int)).bind fun l116 =>
      (F_slices_Contains_Point l116 xF_panel_Lie_L1).bind fun y117 =>
      if y117 then
        some ((TTurn.mk false 0 (TPoint.mk 0 0)), false, 7)
      else
        (F_panel_Lie_L1 N p0 p1 restF_panel_Lie_L1 (iF_panel_Lie_L1 + 1))
noncomputable def F_panel_Lie (N : Nat) (p0 : TPanel) (p1 : (List TPoint)) : Option (TTurn × Bool × Int) :=
  (F_panel_CheckPanel N p0).bind fun y102 =>
  if (y102 != 0) then
    some ((TTurn.mk false 0 (TPoint.mk 0 0)), false, y102)
  else
    if (decide (10 < (p1.length : Int))) then
      some ((TTurn.mk false 0 (TPoint.mk 0 0)), false, 2)
    else
      F_panel_Lie_L1 N p0 p1 p1 0


def F_etchhouseref1_within (p0 : Int) (p1 : Int) (p2 : Int) : Option Bool :=
  some ((decide (p1 ≤ p0)) && (decide (p0 ≤ p2)))


def F_etchhouseref1_At (p0 : Int) : Option Bool :=
  (F_etchhouseref1_within p0 (-1000000) 1000000).bind fun y100 =>
  some y100


def F_etchhouseref1_IsPoint (p0 : TPoint) : Option Bool :=
  (F_etchhouseref1_At p0.X).bind fun y101 =>
  (if y101 then 
    (F_etchhouseref1_At p0.Y).bind fun y104 =>
    some y104
   else some false).bind fun g103 =>
  some g103


def F_etchhouseref1_CheckTurn (p0 : TTurn) : Option Int :=
  (F_etchhouseref1_within p0.Quarters 0 3).bind fun y101 =>
  (if (!y101) then some true else 
    (F_etchhouseref1_IsPoint p0.At).bind fun y104 =>
    some (!y104)
  ).bind fun g103 =>
  if g103 then
    some 1
  else
    some 0

def F_etchhouseref9_Lie_L4 (p1 : (List TPoint)) (x130 : Int) (kF_etchhouseref9_Lie_L3 : Int → Option (TTurn × Bool × Int)) : Nat → Int → Option (TTurn × Bool × Int)
  | 0, _ => none
  | mF_etchhouseref9_Lie_L4 + 1, x140 =>
    if (decide (x140 < x130)) then
      (idx p1 x140).bind fun x141 =>
      (idx p1 x130).bind fun x142 =>
      if (eqTPoint x141 x142) then
        some ((TTurn.mk false 0 (TPoint.mk 0 0)), false, 7)
      else
        (F_etchhouseref9_Lie_L4 p1 x130 kF_etchhouseref9_Lie_L3 mF_etchhouseref9_Lie_L4) (w64 (x140 + 1))
    else
      kF_etchhouseref9_Lie_L3 (w64 (x130 + 1))
def F_etchhouseref9_Lie_L5 (y143 : (List TTurn)) : Nat → Bool → Int → Int → Int → Int → Option (TTurn × Bool × Int)
  | 0, _, _, _, _, _ => none
  | mF_etchhouseref9_Lie_L5 + 1, x166, x167, x168, x169, x170 =>
    if (decide (x170 < (y143.length : Int))) then
      (idx y143 x170).bind fun x171 =>
      if ((x171.Quarters == x167) && ((decide (x171.At.Y < x169)) || ((x171.At.Y == x169) && (decide (x171.At.X < x168))))) then
        (F_etchhouseref9_Lie_L5 y143 mF_etchhouseref9_Lie_L5) x171.Flip x171.Quarters x171.At.X x171.At.Y (w64 (x170 + 1))
      else
        (F_etchhouseref9_Lie_L5 y143 mF_etchhouseref9_Lie_L5) x166 x167 x168 x169 (w64 (x170 + 1))
    else
      (F_etchhouseref1_CheckTurn (TTurn.mk x166 x167 (TPoint.mk x168 x169))).bind fun y173 =>
      if (y173 != 0) then
        some ((TTurn.mk false 0 (TPoint.mk 0 0)), false, y173)
      else
        some ((TTurn.mk x166 x167 (TPoint.mk x168 x169)), true, 0)
def F_etchhouseref9_Lie_L3 (N : Nat) (p0 : TPanel) (p1 : (List TPoint)) : Nat → Int → Option (TTurn × Bool × Int)
  | 0, _ => none
  | mF_etchhouseref9_Lie_L3 + 1, x130 =>
    if (decide (x130 < (p1.length : Int))) then
      (idx p1 x130).bind fun x131 =>
      (F_etchhouseref1_IsPoint x131).bind fun y132 =>
      if (!y132) then
        some ((TTurn.mk false 0 (TPoint.mk 0 0)), false, 1)
      else
        F_etchhouseref9_Lie_L4 p1 x130 (F_etchhouseref9_Lie_L3 N p0 p1 mF_etchhouseref9_Lie_L3) N 0
    else
      (F_etchhouseref9_turns N p0.Marks p1).bind fun y143 =>
      if ((y143.length : Int) == 0) then
        some ((TTurn.mk false 0 (TPoint.mk 0 0)), false, 0)
      else
        (idx y143 0).bind fun x145 =>
        F_etchhouseref9_Lie_L5 y143 N x145.Flip x145.Quarters x145.At.X x145.At.Y 0
def F_etchhouseref9_Lie (N : Nat) (p0 : TPanel) (p1 : (List TPoint)) : Option (TTurn × Bool × Int) :=
  (F_etchhouseref9_CheckPanel N p0).bind fun y102 =>
  if (y102 != 0) then
    some ((TTurn.mk false 0 (TPoint.mk 0 0)), false, y102)
  else
    if (decide (10 < (p1.length : Int))) then
      some ((TTurn.mk false 0 (TPoint.mk 0 0)), false, 2)
    else
      F_etchhouseref9_Lie_L3 N p0 p1 N 0

def F_shape_AreaOf_L1 : List TRect → Nat → Int → Option Int
  | [], iF_shape_AreaOf_L1, x110 =>
    some x110
  | xF_shape_AreaOf_L1 :: restF_shape_AreaOf_L1, iF_shape_AreaOf_L1, x110 =>
    (F_shape_AreaOf_L1 restF_shape_AreaOf_L1 (iF_shape_AreaOf_L1 + 1)) (w64 (x110 + (w64 ((w64 (xF_shape_AreaOf_L1.X1 - xF_shape_AreaOf_L1.X0)) * (w64 (xF_shape_AreaOf_L1.Y1 - xF_shape_AreaOf_L1.Y0))))))
def F_shape_AreaOf (p0 : (List TRect)) : Option Int :=
  F_shape_AreaOf_L1 p0 0 0

def F_panel_Lowest_L1 (p0 : Int) (p1 : Int) : Nat → Int → Int → Option TShare
  | 0, _, _ => none
  | mF_panel_Lowest_L1 + 1, x109, x110 =>
    if (x110 != 0) then
      (md x109 x110).bind fun q111 =>
      (F_panel_Lowest_L1 p0 p1 mF_panel_Lowest_L1) x110 q111
    else
      (dv p0 x109).bind fun q112 =>
      (dv p1 x109).bind fun q113 =>
      some (TShare.mk q112 q113)
def F_panel_Lowest (N : Nat) (p0 : Int) (p1 : Int) : Option TShare :=
  F_panel_Lowest_L1 p0 p1 N p0 p1


def F_panel_Use (N : Nat) (p0 : TPanel) : Option (TShare × Int) :=
  (F_panel_open N p0).bind fun y102 =>
  if (y102.2 != 0) then
    some ((TShare.mk 0 0), y102.2)
  else
    (F_shape_AreaOf y102.1).bind fun y104 =>
    (F_panel_Lowest N y104 (w64 (p0.W * p0.H))).bind fun y105 =>
    some (y105, 0)


def F_etchhouselaw9_awake (N : Nat)  : Option Bool :=
  (F_panel_Use N (TPanel.mk 1 1 0 0 [] [] [])).bind fun y100 =>
  some ((y100.2 == 0) && (eqTShare y100.1 (TShare.mk 0 1)))


noncomputable def F_etchhouselaw9_MarksMatchSpec (N : Nat) (p0 : TPanel) (p1 : (List TPoint)) : Option Bool :=
  (F_panel_GoodMarks N p0).bind fun y101 =>
  (F_etchhouseref9_GoodMarks N p0).bind fun y102 =>
  (F_panel_Lie N p0 p1).bind fun y103 =>
  (F_etchhouseref9_Lie N p0 p1).bind fun y105 =>
  (if (((((y101.1 == y102.1) && (y101.2 == y102.2)) && (eqTTurn y103.1 y105.1)) && (y103.2.1 == y105.2.1)) && (y103.2.2 == y105.2.2)) then 
    (F_etchhouselaw9_awake N).bind fun y109 =>
    some y109
   else some false).bind fun g108 =>
  some g108


def F_shape_Turned (N : Nat) (p0 : TPoint) (p1 : TTurn) : Option (TPoint × Int) :=
  (F_shape_CheckTurn p1).bind fun y103 =>
  if (y103 != 0) then
    some ((TPoint.mk 0 0), y103)
  else
    (F_shape_IsPoint p0).bind fun y104 =>
    if (!y104) then
      some ((TPoint.mk 0 0), 1)
    else
      (F_shape_TurnPoint N p0 p1).bind fun y105 =>
      (F_shape_IsPoint y105).bind fun y106 =>
      if (!y106) then
        some ((TPoint.mk 0 0), 1)
      else
        some (y105, 0)

noncomputable def F_etchhouselaw9_MarksTellTheTurn_L1 (N : Nat) (p0 : TPanel) (p1 : TTurn) : Nat → List TPoint → Int → Option Bool
  | 0, _, _ => none
  | mF_etchhouselaw9_MarksTellTheTurn_L1 + 1, l129, x130 =>
    if (decide (0 ≤ x130)) then
      (idx p0.Marks x130).bind fun x132 =>
      (F_shape_Turned N x132 p1).bind fun y133 =>
      if (y133.2 != 0) then
        (F_etchhouselaw9_awake N).bind fun y135 =>
        some y135
      else
        (apd l129 [y133.1]).bind fun l137 =>
        (F_etchhouselaw9_MarksTellTheTurn_L1 N p0 p1 mF_etchhouselaw9_MarksTellTheTurn_L1) l137 (w64 (x130 - 1))
    else
      (F_panel_Lie N p0 l129).bind fun y138 =>
      (if (((y138.2.2 == 0) && y138.2.1) && (eqTTurn y138.1 p1)) then 
        (F_etchhouselaw9_awake N).bind fun y142 =>
        some y142
       else some false).bind fun g141 =>
      some g141
noncomputable def F_etchhouselaw9_MarksTellTheTurn (N : Nat) (p0 : TPanel) (p1 : TTurn) : Option Bool :=
  (F_panel_GoodMarks N p0).bind fun y102 =>
  (if (((y102.2 != 0) || (!y102.1)) || p1.Flip) then some true else 
    (F_shape_CheckTurn p1).bind fun y105 =>
    some (y105 != 0)
  ).bind fun g104 =>
  if g104 then
    (if ((y102.2 == 0) || (!y102.1)) then 
      (F_etchhouselaw9_awake N).bind fun y108 =>
      some y108
     else some false).bind fun g107 =>
    some g107
  else
    F_etchhouselaw9_MarksTellTheTurn_L1 N p0 p1 N ([] : List TPoint) (w64 ((p0.Marks.length : Int) - 1))

end Go.Proofs.Ytgabfobigjmckaa
