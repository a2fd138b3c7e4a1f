/- The plain functions: what each function of the program computes; none where it would panic. -/
import Derived.Test.YtpkicpnbpldkpaaXT
namespace Go.Proofs.Ytpkicpnbpldkpaa
open Go.RowKit

def F_panel_within (p0 : Int) (p1 : Int) (p2 : Int) : Option Bool :=
  some ((decide (p1 ≤ p0)) && (decide (p0 ≤ p2)))

def F_plot_IsName_L1 (p0 : ByteArray) : Nat → Int → Option Bool
  | 0, _ => none
  | mF_plot_IsName_L1 + 1, x105 =>
    if (decide (x105 < (p0.size : Int))) then
      (strAt p0 x105).bind fun c106 =>
      if ((!(((decide (97 ≤ c106)) && (decide (c106 ≤ 122))) || ((decide (65 ≤ c106)) && (decide (c106 ≤ 90))))) && ((x105 == 0) || ((((decide (c106 < 48)) || (decide (57 < c106))) && (c106 != 95)) && (c106 != 45)))) then
        some false
      else
        (F_plot_IsName_L1 p0 mF_plot_IsName_L1) (w64 (x105 + 1))
    else
      some ((decide (1 ≤ (p0.size : Int))) && (decide ((p0.size : Int) ≤ 40)))
def F_plot_IsName (N : Nat) (p0 : ByteArray) : Option Bool :=
  F_plot_IsName_L1 p0 N 0

def F_panel_checkKinds_L1 (N : Nat) (p0 : (List TBoardKind)) : List TBoardKind → Nat → Option Int
  | [], iF_panel_checkKinds_L1 =>
    some 0
  | xF_panel_checkKinds_L1 :: restF_panel_checkKinds_L1, iF_panel_checkKinds_L1 =>
    (F_plot_IsName N xF_panel_checkKinds_L1.Name).bind fun y112 =>
    if (!y112) then
      some 5
    else
      (F_panel_within xF_panel_checkKinds_L1.W 1 1000000).bind fun y113 =>
      (if (!y113) then some true else 
        (F_panel_within xF_panel_checkKinds_L1.H 1 1000000).bind fun y116 =>
        some (!y116)
      ).bind fun g115 =>
      if g115 then
        some 1
      else
        (if (decide (0 < (iF_panel_checkKinds_L1 : Int))) then 
          (idx p0 (w64 ((iF_panel_checkKinds_L1 : Int) - 1))).bind fun x119 =>
          some (sLt xF_panel_checkKinds_L1.Name x119.Name || sEq xF_panel_checkKinds_L1.Name x119.Name)
         else some false).bind fun g118 =>
        if g118 then
          some 8
        else
          (F_panel_checkKinds_L1 N p0 restF_panel_checkKinds_L1 (iF_panel_checkKinds_L1 + 1))
def F_panel_checkKinds (N : Nat) (p0 : (List TBoardKind)) : Option Int :=
  if (decide (50 < (p0.length : Int))) then
    some 2
  else
    F_panel_checkKinds_L1 N p0 p0 0


def F_panel_kindAt_1 (p0 : TBoardKind) (q0 : ByteArray) : Option Bool :=
  some (sEq p0.Name q0)

def F_slices_IndexFunc_BoardKind_L1 (p1 : TBoardKind → Option Bool) : List TBoardKind → Nat → Option Int
  | [], iF_slices_IndexFunc_BoardKind_L1 =>
    some (-1)
  | xF_slices_IndexFunc_BoardKind_L1 :: restF_slices_IndexFunc_BoardKind_L1, iF_slices_IndexFunc_BoardKind_L1 =>
    (p1 xF_slices_IndexFunc_BoardKind_L1).bind fun y103 =>
    if y103 then
      some (iF_slices_IndexFunc_BoardKind_L1 : Int)
    else
      (F_slices_IndexFunc_BoardKind_L1 p1 restF_slices_IndexFunc_BoardKind_L1 (iF_slices_IndexFunc_BoardKind_L1 + 1))
def F_slices_IndexFunc_BoardKind (p0 : (List TBoardKind)) (p1 : TBoardKind → Option Bool) : Option Int :=
  F_slices_IndexFunc_BoardKind_L1 p1 p0 0


def F_panel_kindAt (p0 : TPanel) (p1 : ByteArray) : Option Int :=
  (F_slices_IndexFunc_BoardKind p0.Kinds (fun z0 => F_panel_kindAt_1 z0 p1)).bind fun y102 =>
  some y102


def F_panel_sizeOf (p0 : TBoardKind) (p1 : Int) : Option (Int × Int) :=
  if ((Int.tmod p1 2) == 1) then
    some (p0.H, p0.W)
  else
    some (p0.W, p0.H)


def F_panel_cellOf (p0 : TPanel) (p1 : TSlot) : Option TRect :=
  (F_panel_kindAt p0 p1.Board).bind fun y103 =>
  (idx p0.Kinds y103).bind fun x104 =>
  (F_panel_sizeOf x104 p1.Quarters).bind fun y105 =>
  some (TRect.mk p1.At.X p1.At.Y (w64 (p1.At.X + y105.1)) (w64 (p1.At.Y + y105.2)))


def F_panel_isOn (p0 : TPanel) (p1 : TRect) : Option Bool :=
  some ((((((decide (p0.Rail ≤ p1.X0)) && (decide (p0.Rail ≤ p1.Y0))) && (decide (p1.X0 ≤ p0.W))) && (decide (p1.Y0 ≤ p0.H))) && (decide (p1.X1 ≤ (w64 (p0.W - p0.Rail))))) && (decide (p1.Y1 ≤ (w64 (p0.H - p0.Rail)))))


def F_panel_isApart (p0 : TRect) (p1 : TRect) (p2 : Int) : Option Bool :=
  some ((((decide ((w64 (p0.X1 + p2)) ≤ p1.X0)) || (decide ((w64 (p1.X1 + p2)) ≤ p0.X0))) || (decide ((w64 (p0.Y1 + p2)) ≤ p1.Y0))) || (decide ((w64 (p1.Y1 + p2)) ≤ p0.Y0)))


def F_panel_cells_1 (p0 : TRect) (q0 : TRect) (q1 : TPanel) : Option Bool :=
  (F_panel_isApart q0 p0 q1.Gap).bind fun y101 =>
  some (!y101)

def F_slices_IndexFunc_Rect_L1 (p1 : TRect → Option Bool) : List TRect → Nat → Option Int
  | [], iF_slices_IndexFunc_Rect_L1 =>
    some (-1)
  | xF_slices_IndexFunc_Rect_L1 :: restF_slices_IndexFunc_Rect_L1, iF_slices_IndexFunc_Rect_L1 =>
    (p1 xF_slices_IndexFunc_Rect_L1).bind fun y103 =>
    if y103 then
      some (iF_slices_IndexFunc_Rect_L1 : Int)
    else
      (F_slices_IndexFunc_Rect_L1 p1 restF_slices_IndexFunc_Rect_L1 (iF_slices_IndexFunc_Rect_L1 + 1))
def F_slices_IndexFunc_Rect (p0 : (List TRect)) (p1 : TRect → Option Bool) : Option Int :=
  F_slices_IndexFunc_Rect_L1 p1 p0 0


def F_slices_ContainsFunc_Rect (p0 : (List TRect)) (p1 : TRect → Option Bool) : Option Bool :=
  (F_slices_IndexFunc_Rect p0 p1).bind fun y100 =>
  some (decide (0 ≤ y100))

def F_panel_cells_L1 (p0 : TPanel) : List TSlot → Nat → List TRect → Option ((List TRect) × Int)
  | [], iF_panel_cells_L1, l139 =>
    some (l139, 0)
  | xF_panel_cells_L1 :: restF_panel_cells_L1, iF_panel_cells_L1, l139 =>
    (F_panel_kindAt p0 xF_panel_cells_L1.Board).bind fun y141 =>
    if (decide (y141 < 0)) then
      some (([] : List TRect), 5)
    else
      (F_panel_within xF_panel_cells_L1.Quarters 0 3).bind fun y142 =>
      (if (!y142) then some true else 
        (F_panel_within xF_panel_cells_L1.At.X 0 p0.W).bind fun y145 =>
        some (!y145)
      ).bind fun g144 =>
      (if g144 then some true else 
        (F_panel_within xF_panel_cells_L1.At.Y 0 p0.H).bind fun y148 =>
        some (!y148)
      ).bind fun g147 =>
      if g147 then
        some (([] : List TRect), 1)
      else
        (F_panel_cellOf p0 xF_panel_cells_L1).bind fun y149 =>
        (F_panel_isOn p0 y149).bind fun y151 =>
        if (!y151) then
          some (([] : List TRect), 1)
        else
          (F_slices_ContainsFunc_Rect l139 (fun z0 => F_panel_cells_1 z0 y149 p0)).bind fun y152 =>
          if y152 then
            some (([] : List TRect), 12)
          else
            (apd l139 [y149]).bind fun l154 =>
            (F_panel_cells_L1 p0 restF_panel_cells_L1 (iF_panel_cells_L1 + 1)) l154
def F_panel_cells (p0 : TPanel) : Option ((List TRect) × Int) :=
  if (decide (500 < (p0.Slots.length : Int))) then
    some (([] : List TRect), 2)
  else
    F_panel_cells_L1 p0 p0.Slots 0 ([] : List TRect)


def F_panel_isOnPanel (p0 : TPanel) (p1 : TPoint) : Option Bool :=
  (F_panel_within p1.X 0 p0.W).bind fun y102 =>
  (if y102 then 
    (F_panel_within p1.Y 0 p0.H).bind fun y105 =>
    some y105
   else some false).bind fun g104 =>
  some g104


def F_panel_isInside (p0 : TRect) (p1 : TPoint) : Option Bool :=
  some ((((decide (p0.X0 < p1.X)) && (decide (p1.X < p0.X1))) && (decide (p0.Y0 < p1.Y))) && (decide (p1.Y < p0.Y1)))


def F_panel_open_1 (p0 : TRect) (q0 : TPoint) : Option Bool :=
  (F_panel_isInside p0 q0).bind fun y101 =>
  some y101

def F_slices_Index_Point_L1 (p1 : TPoint) : List TPoint → Nat → Option Int
  | [], iF_slices_Index_Point_L1 =>
    some (-1)
  | xF_slices_Index_Point_L1 :: restF_slices_Index_Point_L1, iF_slices_Index_Point_L1 =>
    if (eqTPoint p1 xF_slices_Index_Point_L1) then
      some (iF_slices_Index_Point_L1 : Int)
    else
      (F_slices_Index_Point_L1 p1 restF_slices_Index_Point_L1 (iF_slices_Index_Point_L1 + 1))
def F_slices_Index_Point (p0 : (List TPoint)) (p1 : TPoint) : Option Int :=
  F_slices_Index_Point_L1 p1 p0 0


def F_slices_Contains_Point (p0 : (List TPoint)) (p1 : TPoint) : Option Bool :=
  (F_slices_Index_Point p0 p1).bind fun y101 =>
  some (decide (0 ≤ y101))

def F_panel_open_L1 (p0 : TPanel) (y112 : ((List TRect) × Int)) : List TPoint → Nat → Option ((List TRect) × Int)
  | [], iF_panel_open_L1 =>
    some (y112.1, 0)
  | xF_panel_open_L1 :: restF_panel_open_L1, iF_panel_open_L1 =>
    (F_panel_isOnPanel p0 xF_panel_open_L1).bind fun y122 =>
    if (!y122) then
      some (([] : List TRect), 1)
    else
      (F_slices_ContainsFunc_Rect y112.1 (fun z0 => F_panel_open_1 z0 xF_panel_open_L1)).bind fun y123 =>
      if y123 then
        some (([] : List TRect), 12)
      else
        (pre p0.Marks (iF_panel_open_L1 : Int)).bind fun l124 =>
        (F_slices_Contains_Point l124 xF_panel_open_L1).bind fun y125 =>
        if y125 then
          some (([] : List TRect), 7)
        else
          (F_panel_open_L1 p0 y112 restF_panel_open_L1 (iF_panel_open_L1 + 1))
def F_panel_open (N : Nat) (p0 : TPanel) : Option ((List TRect) × Int) :=
  (F_panel_within p0.W 1 1000000).bind fun y101 =>
  (if (!y101) then some true else 
    (F_panel_within p0.H 1 1000000).bind fun y104 =>
    some (!y104)
  ).bind fun g103 =>
  (if g103 then some true else 
    (F_panel_within p0.Rail 0 1000000).bind fun y107 =>
    some (!y107)
  ).bind fun g106 =>
  (if g106 then some true else 
    (F_panel_within p0.Gap 0 1000000).bind fun y110 =>
    some (!y110)
  ).bind fun g109 =>
  if g109 then
    some (([] : List TRect), 1)
  else
    (F_panel_checkKinds N p0.Kinds).bind fun y111 =>
    if (y111 != 0) then
      some (([] : List TRect), y111)
    else
      (F_panel_cells p0).bind fun y112 =>
      if (y112.2 != 0) then
        some (([] : List TRect), y112.2)
      else
        if (decide (10 < (p0.Marks.length : Int))) then
          some (([] : List TRect), 2)
        else
          F_panel_open_L1 p0 y112 p0.Marks 0


def F_panel_CheckPanel (N : Nat) (p0 : TPanel) : Option Int :=
  (F_panel_open N p0).bind fun y101 =>
  some y101.2


def F_panel_many (p0 : Int) (p1 : Int) (p2 : Int) : Option Int :=
  if (decide (p0 < p1)) then
    some 0
  else
    (dv (w64 (p0 + p2)) (w64 (p1 + p2))).bind fun q100 =>
    some q100

def F_panel_row_L1 (p0 : TPanel) (p1 : ByteArray) (p2 : Int) (p3 : Int) (p4 : Int) (y103 : (Int × Int)) : Nat → List TSlot → Int → Option (List TSlot)
  | 0, _, _ => none
  | mF_panel_row_L1 + 1, l114, x115 =>
    if (decide (x115 < p3)) then
      (apd l114 [(TSlot.mk p1 p2 (TPoint.mk (w64 (p0.Rail + (w64 (x115 * (w64 (y103.1 + p0.Gap)))))) p4))]).bind fun l117 =>
      (F_panel_row_L1 p0 p1 p2 p3 p4 y103 mF_panel_row_L1) l117 (w64 (x115 + 1))
    else
      some l114
def F_panel_row (N : Nat) (p0 : TPanel) (p1 : ByteArray) (p2 : Int) (p3 : Int) (p4 : Int) : Option (List TSlot) :=
  (F_panel_kindAt p0 p1).bind fun y101 =>
  (idx p0.Kinds y101).bind fun x102 =>
  (F_panel_sizeOf x102 p2).bind fun y103 =>
  F_panel_row_L1 p0 p1 p2 p3 p4 y103 N ([] : List TSlot) 0


def F_slices_Clone_BoardKind (p0 : (List TBoardKind)) : Option (List TBoardKind) :=
  (apd ([] : List TBoardKind) p0).bind fun l101 =>
  some l101


def F_slices_Clone_Point (p0 : (List TPoint)) : Option (List TPoint) :=
  (apd ([] : List TPoint) p0).bind fun l101 =>
  some l101


def F_panel_own (p0 : TPanel) (p1 : (List TSlot)) : Option TPanel :=
  (F_slices_Clone_BoardKind p0.Kinds).bind fun y103 =>
  (F_slices_Clone_Point p0.Marks).bind fun y105 =>
  some (TPanel.mk p0.W p0.H p0.Rail p0.Gap y103 p1 y105)


def F_panel_told (N : Nat) (p0 : TPanel) : Option (TPanel × Int) :=
  (F_panel_CheckPanel N p0).bind fun y102 =>
  if (y102 != 0) then
    some ((TPanel.mk 0 0 0 0 [] [] []), y102)
  else
    some (p0, 0)

def F_panel_rows_J4 (N : Nat) (p0 : TPanel) (p1 : ByteArray) (x104 : TBoardKind) (l130 : List TSlot) (x131 : Int) (x132 : Int) (kF_panel_rows_L3 : (List TSlot) → Int → Int → Option (TPanel × Int)) (x133 : Int) (x134 : Int) : Option (TPanel × Int) :=
  (F_panel_sizeOf x104 x133).bind fun y137 =>
  (F_panel_row N p0 p1 x133 x134 x131).bind fun y138 =>
  (apd l130 y138).bind fun l140 =>
  kF_panel_rows_L3 l140 (w64 (x131 + (w64 (y137.2 + p0.Gap)))) (w64 (x132 + 1))
def F_panel_rows_L3 (N : Nat) (p0 : TPanel) (p1 : ByteArray) (p2 : Int) (p3 : Int) (p4 : Int) (p5 : Int) (p6 : Int) (x104 : TBoardKind) : Nat → List TSlot → Int → Int → Option (TPanel × Int)
  | 0, _, _, _ => none
  | mF_panel_rows_L3 + 1, l130, x131, x132 =>
    if (decide (x132 < (w64 (p4 + p6)))) then
      if (decide (p4 ≤ x132)) then
        F_panel_rows_J4 N p0 p1 x104 l130 x131 x132 (F_panel_rows_L3 N p0 p1 p2 p3 p4 p5 p6 x104 mF_panel_rows_L3) (w64 (p2 + 1)) p5
      else
        F_panel_rows_J4 N p0 p1 x104 l130 x131 x132 (F_panel_rows_L3 N p0 p1 p2 p3 p4 p5 p6 x104 mF_panel_rows_L3) p2 p3
    else
      (F_panel_own p0 l130).bind fun y143 =>
      (F_panel_told N y143).bind fun y149 =>
      some (y149.1, y149.2)
def F_panel_rows (N : Nat) (p0 : TPanel) (p1 : ByteArray) (p2 : Int) (p3 : Int) (p4 : Int) (p5 : Int) (p6 : Int) : Option (TPanel × Int) :=
  if (decide (500 < (w64 ((w64 (p4 * p3)) + (w64 (p6 * p5)))))) then
    some ((TPanel.mk 0 0 0 0 [] [] []), 2)
  else
    (F_panel_kindAt p0 p1).bind fun y103 =>
    (idx p0.Kinds y103).bind fun x104 =>
    F_panel_rows_L3 N p0 p1 p2 p3 p4 p5 p6 x104 N ([] : List TSlot) p0.Rail 0

def F_panel_Grid_J1 (N : Nat) (p0 : TPanel) (p1 : ByteArray) (p2 : Int) (y107 : Int) (x109 : Int) : Option (TPanel × Int) :=
  (F_panel_rows N p0 p1 p2 y107 x109 0 0).bind fun y112 =>
  some (y112.1, y112.2)
def F_panel_Grid (N : Nat) (p0 : TPanel) (p1 : ByteArray) (p2 : Int) : Option (TPanel × Int) :=
  (F_panel_CheckPanel N p0).bind fun y102 =>
  if (y102 != 0) then
    some ((TPanel.mk 0 0 0 0 [] [] []), y102)
  else
    (F_panel_kindAt p0 p1).bind fun y103 =>
    if (decide (y103 < 0)) then
      some ((TPanel.mk 0 0 0 0 [] [] []), 9)
    else
      (F_panel_within p2 0 3).bind fun y104 =>
      if (!y104) then
        some ((TPanel.mk 0 0 0 0 [] [] []), 1)
      else
        (idx p0.Kinds y103).bind fun x105 =>
        (F_panel_sizeOf x105 p2).bind fun y106 =>
        (F_panel_many (w64 (p0.W - (w64 (2 * p0.Rail)))) y106.1 p0.Gap).bind fun y107 =>
        (F_panel_many (w64 (p0.H - (w64 (2 * p0.Rail)))) y106.2 p0.Gap).bind fun y108 =>
        if (y107 == 0) then
          F_panel_Grid_J1 N p0 p1 p2 y107 0
        else
          F_panel_Grid_J1 N p0 p1 p2 y107 y108


def F_etchhouseref9_within (p0 : Int) (p1 : Int) (p2 : Int) : Option Bool :=
  some ((decide (p1 ≤ p0)) && (decide (p0 ≤ p2)))


def F_etchhouseref3_within (p0 : Int) (p1 : Int) (p2 : Int) : Option Bool :=
  some ((decide (p1 ≤ p0)) && (decide (p0 ≤ p2)))

def F_etchhouseref3_IsName_L1 (p0 : ByteArray) : Nat → Int → Option Bool
  | 0, _ => none
  | mF_etchhouseref3_IsName_L1 + 1, x105 =>
    if (decide (x105 < (p0.size : Int))) then
      (strAt p0 x105).bind fun c106 =>
      if ((!(((decide (97 ≤ c106)) && (decide (c106 ≤ 122))) || ((decide (65 ≤ c106)) && (decide (c106 ≤ 90))))) && ((x105 == 0) || (((c106 != 95) && (c106 != 45)) && (!((decide (48 ≤ c106)) && (decide (c106 ≤ 57))))))) then
        some false
      else
        (F_etchhouseref3_IsName_L1 p0 mF_etchhouseref3_IsName_L1) (w64 (x105 + 1))
    else
      (F_etchhouseref3_within (p0.size : Int) 1 40).bind fun y107 =>
      some y107
def F_etchhouseref3_IsName (N : Nat) (p0 : ByteArray) : Option Bool :=
  F_etchhouseref3_IsName_L1 p0 N 0

def F_etchhouseref9_kind_L1 (p0 : TPanel) (p1 : ByteArray) : Nat → Int → Option Int
  | 0, _ => none
  | mF_etchhouseref9_kind_L1 + 1, x106 =>
    if (decide (x106 < (p0.Kinds.length : Int))) then
      (idx p0.Kinds x106).bind fun x107 =>
      if (sEq x107.Name p1) then
        some x106
      else
        (F_etchhouseref9_kind_L1 p0 p1 mF_etchhouseref9_kind_L1) (w64 (x106 + 1))
    else
      some (-1)
def F_etchhouseref9_kind (N : Nat) (p0 : TPanel) (p1 : ByteArray) : Option Int :=
  F_etchhouseref9_kind_L1 p0 p1 N 0


def F_etchhouseref9_sizeOf (p0 : TBoardKind) (p1 : Int) : Option (Int × Int) :=
  if ((Int.tmod p1 2) == 1) then
    some (p0.H, p0.W)
  else
    some (p0.W, p0.H)


def F_etchhouseref9_lies (p0 : TPanel) (p1 : TPoint) (p2 : Int) (p3 : Int) : Option Bool :=
  (F_etchhouseref9_within p1.X p0.Rail (w64 ((w64 (p0.W - p0.Rail)) - p2))).bind fun y102 =>
  (if y102 then 
    (F_etchhouseref9_within p1.Y p0.Rail (w64 ((w64 (p0.H - p0.Rail)) - p3))).bind fun y105 =>
    some y105
   else some false).bind fun g104 =>
  some g104


def F_etchhouseref9_cellOf (N : Nat) (p0 : TPanel) (p1 : TSlot) : Option TRect :=
  (F_etchhouseref9_kind N p0 p1.Board).bind fun y103 =>
  (idx p0.Kinds y103).bind fun x104 =>
  (F_etchhouseref9_sizeOf x104 p1.Quarters).bind fun y105 =>
  some (TRect.mk p1.At.X p1.At.Y (w64 (p1.At.X + y105.1)) (w64 (p1.At.Y + y105.2)))


def F_etchhouseref9_apart (p0 : TRect) (p1 : TRect) (p2 : Int) : Option Bool :=
  some ((((decide ((w64 (p0.X1 + p2)) ≤ p1.X0)) || (decide ((w64 (p1.X1 + p2)) ≤ p0.X0))) || (decide ((w64 (p0.Y1 + p2)) ≤ p1.Y0))) || (decide ((w64 (p1.Y1 + p2)) ≤ p0.Y0)))

def F_etchhouseref9_checkSlot_L1 (N : Nat) (p0 : TPanel) (p1 : Int) (x101 : TSlot) : Nat → Int → Option Int
  | 0, _ => none
  | mF_etchhouseref9_checkSlot_L1 + 1, x119 =>
    if (decide (x119 < p1)) then
      (F_etchhouseref9_cellOf N p0 x101).bind fun y120 =>
      (idx p0.Slots x119).bind fun x121 =>
      (F_etchhouseref9_cellOf N p0 x121).bind fun y122 =>
      (F_etchhouseref9_apart y120 y122 p0.Gap).bind fun y123 =>
      if (!y123) then
        some 12
      else
        (F_etchhouseref9_checkSlot_L1 N p0 p1 x101 mF_etchhouseref9_checkSlot_L1) (w64 (x119 + 1))
    else
      some 0
def F_etchhouseref9_checkSlot (N : Nat) (p0 : TPanel) (p1 : Int) : Option Int :=
  (idx p0.Slots p1).bind fun x101 =>
  (F_etchhouseref9_kind N p0 x101.Board).bind fun y103 =>
  if (decide (y103 < 0)) then
    some 5
  else
    (F_etchhouseref9_within x101.Quarters 0 3).bind fun y104 =>
    if (!y104) then
      some 1
    else
      (idx p0.Kinds y103).bind fun x105 =>
      (F_etchhouseref9_sizeOf x105 x101.Quarters).bind fun y106 =>
      (F_etchhouseref9_lies p0 x101.At y106.1 y106.2).bind fun y107 =>
      if (!y107) then
        some 1
      else
        F_etchhouseref9_checkSlot_L1 N p0 p1 x101 N 0

def F_etchhouseref9_checkMark_L2 (p0 : TPanel) (p1 : Int) (x101 : TPoint) : Nat → Int → Option Int
  | 0, _ => none
  | mF_etchhouseref9_checkMark_L2 + 1, x125 =>
    if (decide (x125 < p1)) then
      (idx p0.Marks x125).bind fun x126 =>
      if (eqTPoint x126 x101) then
        some 7
      else
        (F_etchhouseref9_checkMark_L2 p0 p1 x101 mF_etchhouseref9_checkMark_L2) (w64 (x125 + 1))
    else
      some 0
def F_etchhouseref9_checkMark_L1 (N : Nat) (p0 : TPanel) (p1 : Int) (x101 : TPoint) : Nat → Int → Option Int
  | 0, _ => none
  | mF_etchhouseref9_checkMark_L1 + 1, x116 =>
    if (decide (x116 < (p0.Slots.length : Int))) then
      (idx p0.Slots x116).bind fun x118 =>
      (F_etchhouseref9_cellOf N p0 x118).bind fun y119 =>
      if ((((decide (y119.X0 < x101.X)) && (decide (x101.X < y119.X1))) && (decide (y119.Y0 < x101.Y))) && (decide (x101.Y < y119.Y1))) then
        some 12
      else
        (F_etchhouseref9_checkMark_L1 N p0 p1 x101 mF_etchhouseref9_checkMark_L1) (w64 (x116 + 1))
    else
      F_etchhouseref9_checkMark_L2 p0 p1 x101 N 0
def F_etchhouseref9_checkMark (N : Nat) (p0 : TPanel) (p1 : Int) : Option Int :=
  (idx p0.Marks p1).bind fun x101 =>
  (F_etchhouseref9_within x101.X 0 p0.W).bind fun y103 =>
  (if (!y103) then some true else 
    (F_etchhouseref9_within x101.Y 0 p0.H).bind fun y106 =>
    some (!y106)
  ).bind fun g105 =>
  if g105 then
    some 1
  else
    F_etchhouseref9_checkMark_L1 N p0 p1 x101 N 0

def F_etchhouseref9_CheckPanel_L3 (N : Nat) (p0 : TPanel) : Nat → Int → Option Int
  | 0, _ => none
  | mF_etchhouseref9_CheckPanel_L3 + 1, x157 =>
    if (decide (x157 < (p0.Marks.length : Int))) then
      (F_etchhouseref9_checkMark N p0 x157).bind fun y158 =>
      if (y158 != 0) then
        some y158
      else
        (F_etchhouseref9_CheckPanel_L3 N p0 mF_etchhouseref9_CheckPanel_L3) (w64 (x157 + 1))
    else
      some 0
def F_etchhouseref9_CheckPanel_L2 (N : Nat) (p0 : TPanel) : Nat → Int → Option Int
  | 0, _ => none
  | mF_etchhouseref9_CheckPanel_L2 + 1, x150 =>
    if (decide (x150 < (p0.Slots.length : Int))) then
      (F_etchhouseref9_checkSlot N p0 x150).bind fun y151 =>
      if (y151 != 0) then
        some y151
      else
        (F_etchhouseref9_CheckPanel_L2 N p0 mF_etchhouseref9_CheckPanel_L2) (w64 (x150 + 1))
    else
      if (decide (10 < (p0.Marks.length : Int))) then
        some 2
      else
        F_etchhouseref9_CheckPanel_L3 N p0 N 0
def F_etchhouseref9_CheckPanel_L1 (N : Nat) (p0 : TPanel) : Nat → Int → Option Int
  | 0, _ => none
  | mF_etchhouseref9_CheckPanel_L1 + 1, x134 =>
    if (decide (x134 < (p0.Kinds.length : Int))) then
      (idx p0.Kinds x134).bind fun x135 =>
      (F_etchhouseref3_IsName N x135.Name).bind fun y137 =>
      if (!y137) then
        some 5
      else
        (F_etchhouseref9_within x135.W 1 1000000).bind fun y138 =>
        (if (!y138) then some true else 
          (F_etchhouseref9_within x135.H 1 1000000).bind fun y141 =>
          some (!y141)
        ).bind fun g140 =>
        if g140 then
          some 1
        else
          (if (decide (0 < x134)) then 
            (idx p0.Kinds (w64 (x134 - 1))).bind fun x144 =>
            some (sLt x135.Name x144.Name || sEq x135.Name x144.Name)
           else some false).bind fun g143 =>
          if g143 then
            some 8
          else
            (F_etchhouseref9_CheckPanel_L1 N p0 mF_etchhouseref9_CheckPanel_L1) (w64 (x134 + 1))
    else
      if (decide (500 < (p0.Slots.length : Int))) then
        some 2
      else
        F_etchhouseref9_CheckPanel_L2 N p0 N 0
def F_etchhouseref9_CheckPanel (N : Nat) (p0 : TPanel) : Option Int :=
  (F_etchhouseref9_within p0.W 1 1000000).bind fun y101 =>
  (if (!y101) then some true else 
    (F_etchhouseref9_within p0.H 1 1000000).bind fun y104 =>
    some (!y104)
  ).bind fun g103 =>
  (if g103 then some true else 
    (F_etchhouseref9_within p0.Rail 0 1000000).bind fun y107 =>
    some (!y107)
  ).bind fun g106 =>
  (if g106 then some true else 
    (F_etchhouseref9_within p0.Gap 0 1000000).bind fun y110 =>
    some (!y110)
  ).bind fun g109 =>
  if g109 then
    some 1
  else
    if (decide (50 < (p0.Kinds.length : Int))) then
      some 2
    else
      F_etchhouseref9_CheckPanel_L1 N p0 N 0


def F_etchhouseref9_fit (p0 : Int) (p1 : Int) (p2 : Int) : Option Int :=
  if (decide (p0 < p1)) then
    some 0
  else
    (dv (w64 (p0 + p2)) (w64 (p1 + p2))).bind fun q100 =>
    some q100

def F_etchhouseref9_row_L1 (p0 : TPanel) (p2 : ByteArray) (p3 : Int) (p4 : Int) (p5 : Int) (p6 : Int) : Nat → List TSlot → Int → Option (List TSlot)
  | 0, _, _ => none
  | mF_etchhouseref9_row_L1 + 1, l111, x112 =>
    if (decide (x112 < p6)) then
      (apd l111 [(TSlot.mk p2 p3 (TPoint.mk (w64 (p0.Rail + (w64 (x112 * (w64 (p4 + p0.Gap)))))) p5))]).bind fun l114 =>
      (F_etchhouseref9_row_L1 p0 p2 p3 p4 p5 p6 mF_etchhouseref9_row_L1) l114 (w64 (x112 + 1))
    else
      some l111
def F_etchhouseref9_row (N : Nat) (p0 : TPanel) (p1 : (List TSlot)) (p2 : ByteArray) (p3 : Int) (p4 : Int) (p5 : Int) (p6 : Int) : Option (List TSlot) :=
  F_etchhouseref9_row_L1 p0 p2 p3 p4 p5 p6 N p1 0


def F_etchhouseref9_laid (N : Nat) (p0 : TPanel) (p1 : (List TSlot)) : Option (TPanel × Int) :=
  (F_etchhouseref9_CheckPanel N (TPanel.mk p0.W p0.H p0.Rail p0.Gap p0.Kinds p1 p0.Marks)).bind fun y102 =>
  if (y102 != 0) then
    some ((TPanel.mk 0 0 0 0 [] [] []), y102)
  else
    some ((TPanel.mk p0.W p0.H p0.Rail p0.Gap p0.Kinds p1 p0.Marks), 0)

def F_etchhouseref9_Grid_L1 (N : Nat) (p0 : TPanel) (p1 : ByteArray) (p2 : Int) (y106 : (Int × Int)) (y107 : Int) (y108 : Int) : Nat → List TSlot → Int → Option (TPanel × Int)
  | 0, _, _ => none
  | mF_etchhouseref9_Grid_L1 + 1, l122, x123 =>
    if ((decide (x123 < y108)) && (decide (0 < y107))) then
      (F_etchhouseref9_row N p0 l122 p1 p2 y106.1 (w64 (p0.Rail + (w64 (x123 * (w64 (y106.2 + p0.Gap)))))) y107).bind fun y124 =>
      (F_etchhouseref9_Grid_L1 N p0 p1 p2 y106 y107 y108 mF_etchhouseref9_Grid_L1) y124 (w64 (x123 + 1))
    else
      (F_etchhouseref9_laid N p0 l122).bind fun y128 =>
      some (y128.1, y128.2)
def F_etchhouseref9_Grid (N : Nat) (p0 : TPanel) (p1 : ByteArray) (p2 : Int) : Option (TPanel × Int) :=
  (F_etchhouseref9_CheckPanel N p0).bind fun y102 =>
  if (y102 != 0) then
    some ((TPanel.mk 0 0 0 0 [] [] []), y102)
  else
    (F_etchhouseref9_kind N p0 p1).bind fun y103 =>
    if (decide (y103 < 0)) then
      some ((TPanel.mk 0 0 0 0 [] [] []), 9)
    else
      (F_etchhouseref9_within p2 0 3).bind fun y104 =>
      if (!y104) then
        some ((TPanel.mk 0 0 0 0 [] [] []), 1)
      else
        (idx p0.Kinds y103).bind fun x105 =>
        (F_etchhouseref9_sizeOf x105 p2).bind fun y106 =>
        (F_etchhouseref9_fit (w64 (p0.W - (w64 (2 * p0.Rail)))) y106.1 p0.Gap).bind fun y107 =>
        (F_etchhouseref9_fit (w64 (p0.H - (w64 (2 * p0.Rail)))) y106.2 p0.Gap).bind fun y108 =>
        (if (decide (0 < y107)) then 
          (dv 500 y107).bind fun q111 =>
          some (decide (q111 < y108))
         else some false).bind fun g110 =>
        if g110 then
          some ((TPanel.mk 0 0 0 0 [] [] []), 2)
        else
          F_etchhouseref9_Grid_L1 N p0 p1 p2 y106 y107 y108 N ([] : List TSlot) 0

def F_panel_Rows_J5 (y106 : Int) (y107 : Int) (x140 : Int) (x141 : Int) (x142 : Int) (kF_panel_Rows_L4 : Int → Int → Int → Option (TPanel × Int)) (x144 : Int) : Option (TPanel × Int) :=
  if (decide ((w64 ((w64 (x140 * y106)) + (w64 (x141 * y107)))) ≤ (w64 ((w64 (x142 * y106)) + (w64 (x144 * y107)))))) then
    kF_panel_Rows_L4 x142 x144 (w64 (x142 + 1))
  else
    kF_panel_Rows_L4 x140 x141 (w64 (x142 + 1))
def F_panel_Rows_L4 (N : Nat) (p0 : TPanel) (p1 : ByteArray) (y105 : (Int × Int)) (y106 : Int) (y107 : Int) (x109 : Int) : Nat → Int → Int → Int → Option (TPanel × Int)
  | 0, _, _, _ => none
  | mF_panel_Rows_L4 + 1, x140, x141, x142 =>
    if (decide (x142 ≤ x109)) then
      if (decide (0 < y107)) then
        (F_panel_many (w64 ((w64 (p0.H - (w64 (2 * p0.Rail)))) - (w64 (x142 * (w64 (y105.2 + p0.Gap)))))) y105.1 p0.Gap).bind fun y147 =>
        F_panel_Rows_J5 y106 y107 x140 x141 x142 (F_panel_Rows_L4 N p0 p1 y105 y106 y107 x109 mF_panel_Rows_L4) y147
      else
        F_panel_Rows_J5 y106 y107 x140 x141 x142 (F_panel_Rows_L4 N p0 p1 y105 y106 y107 x109 mF_panel_Rows_L4) 0
    else
      (F_panel_rows N p0 p1 0 y106 x140 y107 x141).bind fun y148 =>
      some (y148.1, y148.2)
def F_panel_Rows_J6 (N : Nat) (p0 : TPanel) (p1 : ByteArray) (y105 : (Int × Int)) (y106 : Int) (y107 : Int) (x109 : Int) : Option (TPanel × Int) :=
  F_panel_Rows_L4 N p0 p1 y105 y106 y107 x109 N 0 0 0
def F_panel_Rows (N : Nat) (p0 : TPanel) (p1 : ByteArray) : Option (TPanel × Int) :=
  (F_panel_CheckPanel N p0).bind fun y102 =>
  if (y102 != 0) then
    some ((TPanel.mk 0 0 0 0 [] [] []), y102)
  else
    (F_panel_kindAt p0 p1).bind fun y103 =>
    if (decide (y103 < 0)) then
      some ((TPanel.mk 0 0 0 0 [] [] []), 9)
    else
      (idx p0.Kinds y103).bind fun x104 =>
      (F_panel_sizeOf x104 0).bind fun y105 =>
      (F_panel_many (w64 (p0.W - (w64 (2 * p0.Rail)))) y105.1 p0.Gap).bind fun y106 =>
      (F_panel_many (w64 (p0.W - (w64 (2 * p0.Rail)))) y105.2 p0.Gap).bind fun y107 =>
      (F_panel_many (w64 (p0.H - (w64 (2 * p0.Rail)))) y105.2 p0.Gap).bind fun y108 =>
      if (y106 == 0) then
        F_panel_Rows_J6 N p0 p1 y105 y106 y107 0
      else
        F_panel_Rows_J6 N p0 p1 y105 y106 y107 y108

def F_etchhouseref9_Rows_J4 (y106 : Int) (y107 : Int) (x134 : Int) (x135 : Int) (x136 : Int) (x137 : Int) (kF_etchhouseref9_Rows_L3 : Int → Int → Int → Int → Option (TPanel × Int)) (x139 : Int) : Option (TPanel × Int) :=
  if (decide (x134 < (w64 ((w64 (x137 * y106)) + (w64 (x139 * y107)))))) then
    kF_etchhouseref9_Rows_L3 (w64 ((w64 (x137 * y106)) + (w64 (x139 * y107)))) x137 x139 (w64 (x137 - 1))
  else
    kF_etchhouseref9_Rows_L3 x134 x135 x136 (w64 (x137 - 1))
def F_etchhouseref9_Rows_L6 (N : Nat) (p0 : TPanel) (p1 : ByteArray) (x104 : TBoardKind) (x105 : TBoardKind) (y107 : Int) (x136 : Int) : Nat → List TSlot → Int → Int → Option (TPanel × Int)
  | 0, _, _, _ => none
  | mF_etchhouseref9_Rows_L6 + 1, l174, x175, x176 =>
    if (decide (x176 < x136)) then
      (F_etchhouseref9_row N p0 l174 p1 1 x105.H x175 y107).bind fun y177 =>
      (F_etchhouseref9_Rows_L6 N p0 p1 x104 x105 y107 x136 mF_etchhouseref9_Rows_L6) y177 (w64 (x175 + (w64 (x104.W + p0.Gap)))) (w64 (x176 + 1))
    else
      (F_etchhouseref9_laid N p0 l174).bind fun y181 =>
      some (y181.1, y181.2)
def F_etchhouseref9_Rows_L5 (N : Nat) (p0 : TPanel) (p1 : ByteArray) (x104 : TBoardKind) (x105 : TBoardKind) (y106 : Int) (y107 : Int) (x135 : Int) (x136 : Int) : Nat → List TSlot → Int → Int → Option (TPanel × Int)
  | 0, _, _, _ => none
  | mF_etchhouseref9_Rows_L5 + 1, l156, x157, x158 =>
    if (decide (x158 < x135)) then
      (F_etchhouseref9_row N p0 l156 p1 0 x104.W x157 y106).bind fun y159 =>
      (F_etchhouseref9_Rows_L5 N p0 p1 x104 x105 y106 y107 x135 x136 mF_etchhouseref9_Rows_L5) y159 (w64 (x157 + (w64 (x105.H + p0.Gap)))) (w64 (x158 + 1))
    else
      F_etchhouseref9_Rows_L6 N p0 p1 x104 x105 y107 x136 N l156 x157 0
def F_etchhouseref9_Rows_L3 (N : Nat) (p0 : TPanel) (p1 : ByteArray) (x104 : TBoardKind) (x105 : TBoardKind) (y106 : Int) (y107 : Int) : Nat → Int → Int → Int → Int → Option (TPanel × Int)
  | 0, _, _, _, _ => none
  | mF_etchhouseref9_Rows_L3 + 1, x134, x135, x136, x137 =>
    if (decide (0 ≤ x137)) then
      if (decide (0 < y107)) then
        (F_etchhouseref9_fit (w64 ((w64 (p0.H - (w64 (2 * p0.Rail)))) - (w64 (x137 * (w64 (x105.H + p0.Gap)))))) x104.W p0.Gap).bind fun y142 =>
        F_etchhouseref9_Rows_J4 y106 y107 x134 x135 x136 x137 (F_etchhouseref9_Rows_L3 N p0 p1 x104 x105 y106 y107 mF_etchhouseref9_Rows_L3) y142
      else
        F_etchhouseref9_Rows_J4 y106 y107 x134 x135 x136 x137 (F_etchhouseref9_Rows_L3 N p0 p1 x104 x105 y106 y107 mF_etchhouseref9_Rows_L3) 0
    else
      if (decide (500 < x134)) then
        some ((TPanel.mk 0 0 0 0 [] [] []), 2)
      else
        F_etchhouseref9_Rows_L5 N p0 p1 x104 x105 y106 y107 x135 x136 N ([] : List TSlot) p0.Rail 0
def F_etchhouseref9_Rows_J7 (N : Nat) (p0 : TPanel) (p1 : ByteArray) (x104 : TBoardKind) (x105 : TBoardKind) (y106 : Int) (y107 : Int) (x109 : Int) : Option (TPanel × Int) :=
  F_etchhouseref9_Rows_L3 N p0 p1 x104 x105 y106 y107 N (-1) 0 0 x109
def F_etchhouseref9_Rows (N : Nat) (p0 : TPanel) (p1 : ByteArray) : Option (TPanel × Int) :=
  (F_etchhouseref9_CheckPanel N p0).bind fun y102 =>
  if (y102 != 0) then
    some ((TPanel.mk 0 0 0 0 [] [] []), y102)
  else
    (F_etchhouseref9_kind N p0 p1).bind fun y103 =>
    if (decide (y103 < 0)) then
      some ((TPanel.mk 0 0 0 0 [] [] []), 9)
    else
      (idx p0.Kinds y103).bind fun x104 =>
      (idx p0.Kinds y103).bind fun x105 =>
      (F_etchhouseref9_fit (w64 (p0.W - (w64 (2 * p0.Rail)))) x104.W p0.Gap).bind fun y106 =>
      (F_etchhouseref9_fit (w64 (p0.W - (w64 (2 * p0.Rail)))) x105.H p0.Gap).bind fun y107 =>
      if (decide (0 < y106)) then
        (F_etchhouseref9_fit (w64 (p0.H - (w64 (2 * p0.Rail)))) x105.H p0.Gap).bind fun y183 =>
        F_etchhouseref9_Rows_J7 N p0 p1 x104 x105 y106 y107 y183
      else
        F_etchhouseref9_Rows_J7 N p0 p1 x104 x105 y106 y107 0

def F_etchhouseref9_Same_L3 (p0 : TPanel) (p1 : TPanel) : Nat → Int → Option Bool
  | 0, _ => none
  | mF_etchhouseref9_Same_L3 + 1, x129 =>
    if (decide (x129 < (p0.Marks.length : Int))) then
      (idx p0.Marks x129).bind fun x130 =>
      (idx p1.Marks x129).bind fun x131 =>
      if (!(eqTPoint x130 x131)) then
        some false
      else
        (F_etchhouseref9_Same_L3 p0 p1 mF_etchhouseref9_Same_L3) (w64 (x129 + 1))
    else
      some true
def F_etchhouseref9_Same_L2 (N : Nat) (p0 : TPanel) (p1 : TPanel) : Nat → Int → Option Bool
  | 0, _ => none
  | mF_etchhouseref9_Same_L2 + 1, x119 =>
    if (decide (x119 < (p0.Slots.length : Int))) then
      (idx p0.Slots x119).bind fun x120 =>
      (idx p1.Slots x119).bind fun x121 =>
      if (!(eqTSlot x120 x121)) then
        some false
      else
        (F_etchhouseref9_Same_L2 N p0 p1 mF_etchhouseref9_Same_L2) (w64 (x119 + 1))
    else
      F_etchhouseref9_Same_L3 p0 p1 N 0
def F_etchhouseref9_Same_L1 (N : Nat) (p0 : TPanel) (p1 : TPanel) : Nat → Int → Option Bool
  | 0, _ => none
  | mF_etchhouseref9_Same_L1 + 1, x109 =>
    if (decide (x109 < (p0.Kinds.length : Int))) then
      (idx p0.Kinds x109).bind fun x110 =>
      (idx p1.Kinds x109).bind fun x111 =>
      if (!(eqTBoardKind x110 x111)) then
        some false
      else
        (F_etchhouseref9_Same_L1 N p0 p1 mF_etchhouseref9_Same_L1) (w64 (x109 + 1))
    else
      F_etchhouseref9_Same_L2 N p0 p1 N 0
def F_etchhouseref9_Same (N : Nat) (p0 : TPanel) (p1 : TPanel) : Option Bool :=
  if (((((((p0.W != p1.W) || (p0.H != p1.H)) || (p0.Rail != p1.Rail)) || (p0.Gap != p1.Gap)) || ((p0.Kinds.length : Int) != (p1.Kinds.length : Int))) || ((p0.Slots.length : Int) != (p1.Slots.length : Int))) || ((p0.Marks.length : Int) != (p1.Marks.length : Int))) then
    some false
  else
    F_etchhouseref9_Same_L1 N p0 p1 N 0

def F_shape_AreaOf_L1 : List TRect → Nat → Int → Option Int
  | [], iF_shape_AreaOf_L1, x110 =>
    some x110
  | xF_shape_AreaOf_L1 :: restF_shape_AreaOf_L1, iF_shape_AreaOf_L1, x110 =>
    (F_shape_AreaOf_L1 restF_shape_AreaOf_L1 (iF_shape_AreaOf_L1 + 1)) (w64 (x110 + (w64 ((w64 (xF_shape_AreaOf_L1.X1 - xF_shape_AreaOf_L1.X0)) * (w64 (xF_shape_AreaOf_L1.Y1 - xF_shape_AreaOf_L1.Y0))))))
def F_shape_AreaOf (p0 : (List TRect)) : Option Int :=
  F_shape_AreaOf_L1 p0 0 0

def F_panel_Lowest_L1 (p0 : Int) (p1 : Int) : Nat → Int → Int → Option TShare
  | 0, _, _ => none
  | mF_panel_Lowest_L1 + 1, x109, x110 =>
    if (x110 != 0) then
      (md x109 x110).bind fun q111 =>
      (F_panel_Lowest_L1 p0 p1 mF_panel_Lowest_L1) x110 q111
    else
      (dv p0 x109).bind fun q112 =>
      (dv p1 x109).bind fun q113 =>
      some (TShare.mk q112 q113)
def F_panel_Lowest (N : Nat) (p0 : Int) (p1 : Int) : Option TShare :=
  F_panel_Lowest_L1 p0 p1 N p0 p1


def F_panel_Use (N : Nat) (p0 : TPanel) : Option (TShare × Int) :=
  (F_panel_open N p0).bind fun y102 =>
  if (y102.2 != 0) then
    some ((TShare.mk 0 0), y102.2)
  else
    (F_shape_AreaOf y102.1).bind fun y104 =>
    (F_panel_Lowest N y104 (w64 (p0.W * p0.H))).bind fun y105 =>
    some (y105, 0)


def F_etchhouselaw9_awake (N : Nat)  : Option Bool :=
  (F_panel_Use N (TPanel.mk 1 1 0 0 [] [] [])).bind fun y100 =>
  some ((y100.2 == 0) && (eqTShare y100.1 (TShare.mk 0 1)))


def F_etchhouselaw9_PanelGridsMatchSpec (N : Nat) (p0 : TPanel) (p1 : ByteArray) (p2 : Int) : Option Bool :=
  (F_panel_Grid N p0 p1 p2).bind fun y101 =>
  (F_etchhouseref9_Grid N p0 p1 p2).bind fun y104 =>
  (F_panel_Rows N p0 p1).bind fun y107 =>
  (F_etchhouseref9_Rows N p0 p1).bind fun y110 =>
  (F_etchhouseref9_Same N y101.1 y104.1).bind fun y113 =>
  (if (y113 && (y101.2 == y104.2)) then 
    (F_etchhouseref9_Same N y107.1 y110.1).bind fun y116 =>
    some y116
   else some false).bind fun g115 =>
  (if (g115 && (y107.2 == y110.2)) then 
    (F_etchhouselaw9_awake N).bind fun y119 =>
    some y119
   else some false).bind fun g118 =>
  some g118

def F_panel_turnOf_J1 (p1 : TSlot) (x108 : Int) (x109 : Int) : Option TTurn :=
  some (TTurn.mk false p1.Quarters (TPoint.mk x108 x109))
def F_panel_turnOf (p0 : TPanel) (p1 : TSlot) : Option TTurn :=
  (F_panel_kindAt p0 p1.Board).bind fun y104 =>
  (idx p0.Kinds y104).bind fun x105 =>
  if (p1.Quarters == 1) then
    F_panel_turnOf_J1 p1 (w64 (p1.At.X + x105.H)) p1.At.Y
  else
    if (p1.Quarters == 2) then
      F_panel_turnOf_J1 p1 (w64 (p1.At.X + x105.W)) (w64 (p1.At.Y + x105.H))
    else
      if (p1.Quarters == 3) then
        F_panel_turnOf_J1 p1 p1.At.X (w64 (p1.At.Y + x105.W))
      else
        F_panel_turnOf_J1 p1 p1.At.X p1.At.Y


def F_panel_SlotTurn (N : Nat) (p0 : TPanel) (p1 : Int) : Option (TTurn × Int) :=
  (F_panel_CheckPanel N p0).bind fun y102 =>
  if (y102 != 0) then
    some ((TTurn.mk false 0 (TPoint.mk 0 0)), y102)
  else
    (F_panel_within p1 0 (w64 ((p0.Slots.length : Int) - 1))).bind fun y103 =>
    if (!y103) then
      some ((TTurn.mk false 0 (TPoint.mk 0 0)), 9)
    else
      (idx p0.Slots p1).bind fun x104 =>
      (F_panel_turnOf p0 x104).bind fun y105 =>
      some (y105, 0)

def F_etchhouseref9_turnOf_J1 (p1 : TSlot) (x107 : Int) (x108 : Int) : Option TTurn :=
  some (TTurn.mk false p1.Quarters (TPoint.mk x107 x108))
def F_etchhouseref9_turnOf (N : Nat) (p0 : TPanel) (p1 : TSlot) : Option TTurn :=
  (F_etchhouseref9_kind N p0 p1.Board).bind fun y104 =>
  (idx p0.Kinds y104).bind fun x105 =>
  if (p1.Quarters == 1) then
    F_etchhouseref9_turnOf_J1 p1 (w64 (p1.At.X + x105.H)) p1.At.Y
  else
    if (p1.Quarters == 2) then
      F_etchhouseref9_turnOf_J1 p1 (w64 (p1.At.X + x105.W)) (w64 (p1.At.Y + x105.H))
    else
      if (p1.Quarters == 3) then
        F_etchhouseref9_turnOf_J1 p1 p1.At.X (w64 (p1.At.Y + x105.W))
      else
        F_etchhouseref9_turnOf_J1 p1 p1.At.X p1.At.Y


def F_etchhouseref9_SlotTurn (N : Nat) (p0 : TPanel) (p1 : Int) : Option (TTurn × Int) :=
  (F_etchhouseref9_CheckPanel N p0).bind fun y102 =>
  if (y102 != 0) then
    some ((TTurn.mk false 0 (TPoint.mk 0 0)), y102)
  else
    (F_etchhouseref9_within p1 0 (w64 ((p0.Slots.length : Int) - 1))).bind fun y103 =>
    if (!y103) then
      some ((TTurn.mk false 0 (TPoint.mk 0 0)), 9)
    else
      (idx p0.Slots p1).bind fun x104 =>
      (F_etchhouseref9_turnOf N p0 x104).bind fun y105 =>
      some (y105, 0)

def F_shape_TurnPoint_L1 (p1 : TTurn) : Nat → Int → Int → Int → Option TPoint
  | 0, _, _, _ => none
  | mF_shape_TurnPoint_L1 + 1, x115, x116, x117 =>
    if (decide (x117 < p1.Quarters)) then
      (F_shape_TurnPoint_L1 p1 mF_shape_TurnPoint_L1) (w64 (0 - x116)) x115 (w64 (x117 + 1))
    else
      some (TPoint.mk (w64 (x115 + p1.At.X)) (w64 (x116 + p1.At.Y)))
def F_shape_TurnPoint_J2 (N : Nat) (p0 : TPoint) (p1 : TTurn) (x103 : Int) : Option TPoint :=
  F_shape_TurnPoint_L1 p1 N x103 p0.Y 0
def F_shape_TurnPoint (N : Nat) (p0 : TPoint) (p1 : TTurn) : Option TPoint :=
  if p1.Flip then
    F_shape_TurnPoint_J2 N p0 p1 (w64 (0 - p0.X))
  else
    F_shape_TurnPoint_J2 N p0 p1 p0.X


def F_panel_ToPanel (N : Nat) (p0 : TPanel) (p1 : Int) (p2 : TPoint) : Option (TPoint × Int) :=
  (F_panel_SlotTurn N p0 p1).bind fun y103 =>
  if (y103.2 != 0) then
    some ((TPoint.mk 0 0), y103.2)
  else
    (idx p0.Slots p1).bind fun x106 =>
    (F_panel_kindAt p0 x106.Board).bind fun y107 =>
    (idx p0.Kinds y107).bind fun x108 =>
    (F_panel_within p2.X 0 x108.W).bind fun y109 =>
    (if (!y109) then some true else 
      (F_panel_within p2.Y 0 x108.H).bind fun y112 =>
      some (!y112)
    ).bind fun g111 =>
    if g111 then
      some ((TPoint.mk 0 0), 1)
    else
      (F_shape_TurnPoint N p2 y103.1).bind fun y113 =>
      some (y113, 0)

def F_etchhouseref1_around_L1 (p1 : TTurn) : Nat → Int → Int → Int → Option TPoint
  | 0, _, _, _ => none
  | mF_etchhouseref1_around_L1 + 1, x115, x116, x117 =>
    if (decide (x117 < p1.Quarters)) then
      (F_etchhouseref1_around_L1 p1 mF_etchhouseref1_around_L1) (w64 (0 - x116)) x115 (w64 (x117 + 1))
    else
      some (TPoint.mk x115 x116)
def F_etchhouseref1_around_J2 (N : Nat) (p0 : TPoint) (p1 : TTurn) (x103 : Int) : Option TPoint :=
  F_etchhouseref1_around_L1 p1 N x103 p0.Y 0
def F_etchhouseref1_around (N : Nat) (p0 : TPoint) (p1 : TTurn) : Option TPoint :=
  if p1.Flip then
    F_etchhouseref1_around_J2 N p0 p1 (w64 (0 - p0.X))
  else
    F_etchhouseref1_around_J2 N p0 p1 p0.X


def F_etchhouseref1_TurnPoint (N : Nat) (p0 : TPoint) (p1 : TTurn) : Option TPoint :=
  (F_etchhouseref1_around N p0 p1).bind fun y103 =>
  some (TPoint.mk (w64 (y103.X + p1.At.X)) (w64 (y103.Y + p1.At.Y)))


def F_etchhouseref9_ToPanel (N : Nat) (p0 : TPanel) (p1 : Int) (p2 : TPoint) : Option (TPoint × Int) :=
  (F_etchhouseref9_SlotTurn N p0 p1).bind fun y103 =>
  if (y103.2 != 0) then
    some ((TPoint.mk 0 0), y103.2)
  else
    (idx p0.Slots p1).bind fun x106 =>
    (F_etchhouseref9_kind N p0 x106.Board).bind fun y107 =>
    (idx p0.Kinds y107).bind fun x108 =>
    (F_etchhouseref9_within p2.X 0 x108.W).bind fun y109 =>
    (if (!y109) then some true else 
      (F_etchhouseref9_within p2.Y 0 x108.H).bind fun y112 =>
      some (!y112)
    ).bind fun g111 =>
    if g111 then
      some ((TPoint.mk 0 0), 1)
    else
      (F_etchhouseref1_TurnPoint N p2 y103.1).bind fun y113 =>
      some (y113, 0)


def F_shape_within (p0 : Int) (p1 : Int) (p2 : Int) : Option Bool :=
  some ((decide (p1 ≤ p0)) && (decide (p0 ≤ p2)))


def F_shape_IsAt (p0 : Int) : Option Bool :=
  (F_shape_within p0 (-1000000) 1000000).bind fun y100 =>
  some y100


def F_shape_IsPoint (p0 : TPoint) : Option Bool :=
  (F_shape_IsAt p0.X).bind fun y101 =>
  (if y101 then 
    (F_shape_IsAt p0.Y).bind fun y104 =>
    some y104
   else some false).bind fun g103 =>
  some g103


def F_shape_CheckTurn (p0 : TTurn) : Option Int :=
  (F_shape_within p0.Quarters 0 3).bind fun y101 =>
  (if (!y101) then some true else 
    (F_shape_IsPoint p0.At).bind fun y104 =>
    some (!y104)
  ).bind fun g103 =>
  if g103 then
    some 1
  else
    some 0

def F_shape_Back_J1 (N : Nat) (p0 : TTurn) (x104 : Int) : Option (TTurn × Int) :=
  (F_shape_TurnPoint N p0.At (TTurn.mk p0.Flip x104 (TPoint.mk 0 0))).bind fun y107 =>
  some ((TTurn.mk p0.Flip x104 (TPoint.mk (w64 (0 - y107.X)) (w64 (0 - y107.Y)))), 0)
def F_shape_Back (N : Nat) (p0 : TTurn) : Option (TTurn × Int) :=
  (F_shape_CheckTurn p0).bind fun y102 =>
  if (y102 != 0) then
    some ((TTurn.mk false 0 (TPoint.mk 0 0)), y102)
  else
    if (!p0.Flip) then
      F_shape_Back_J1 N p0 (Int.tmod (w64 (4 - p0.Quarters)) 4)
    else
      F_shape_Back_J1 N p0 p0.Quarters

def F_panel_ToBoard_L1 (N : Nat) (p0 : TPanel) (p1 : TPoint) : List TRect → Nat → Option (Int × TPoint × Bool × Int)
  | [], iF_panel_ToBoard_L1 =>
    some (0, (TPoint.mk 0 0), false, 0)
  | xF_panel_ToBoard_L1 :: restF_panel_ToBoard_L1, iF_panel_ToBoard_L1 =>
    (F_panel_within p1.X xF_panel_ToBoard_L1.X0 xF_panel_ToBoard_L1.X1).bind fun y120 =>
    (if y120 then 
      (F_panel_within p1.Y xF_panel_ToBoard_L1.Y0 xF_panel_ToBoard_L1.Y1).bind fun y123 =>
      some y123
     else some false).bind fun g122 =>
    if g122 then
      (idx p0.Slots (iF_panel_ToBoard_L1 : Int)).bind fun x125 =>
      (F_panel_turnOf p0 x125).bind fun y126 =>
      (F_shape_Back N y126).bind fun y127 =>
      (F_shape_TurnPoint N p1 y127.1).bind fun y129 =>
      some ((iF_panel_ToBoard_L1 : Int), y129, true, 0)
    else
      (F_panel_ToBoard_L1 N p0 p1 restF_panel_ToBoard_L1 (iF_panel_ToBoard_L1 + 1))
def F_panel_ToBoard (N : Nat) (p0 : TPanel) (p1 : TPoint) : Option (Int × TPoint × Bool × Int) :=
  (F_panel_open N p0).bind fun y103 =>
  if (y103.2 != 0) then
    some (0, (TPoint.mk 0 0), false, y103.2)
  else
    (F_panel_isOnPanel p0 p1).bind fun y105 =>
    if (!y105) then
      some (0, (TPoint.mk 0 0), false, 1)
    else
      F_panel_ToBoard_L1 N p0 p1 y103.1 0

def F_etchhouseref9_ToBoard_L1 (N : Nat) (p0 : TPanel) (p1 : TPoint) : Nat → Int → Option (Int × TPoint × Bool × Int)
  | 0, _ => none
  | mF_etchhouseref9_ToBoard_L1 + 1, x135 =>
    if (decide (x135 < (p0.Slots.length : Int))) then
      (idx p0.Slots x135).bind fun x137 =>
      (F_etchhouseref9_cellOf N p0 x137).bind fun y138 =>
      (F_etchhouseref9_within p1.X y138.X0 y138.X1).bind fun y139 =>
      (if y139 then 
        (F_etchhouseref9_within p1.Y y138.Y0 y138.Y1).bind fun y142 =>
        some y142
       else some false).bind fun g141 =>
      if g141 then
        (idx p0.Slots x135).bind fun x144 =>
        (F_etchhouseref9_turnOf N p0 x144).bind fun y145 =>
        (F_etchhouseref1_TurnPoint N (TPoint.mk (w64 (p1.X - y145.At.X)) (w64 (p1.Y - y145.At.Y))) (TTurn.mk false (Int.tmod (w64 (4 - y145.Quarters)) 4) (TPoint.mk 0 0))).bind fun y147 =>
        some (x135, y147, true, 0)
      else
        (F_etchhouseref9_ToBoard_L1 N p0 p1 mF_etchhouseref9_ToBoard_L1) (w64 (x135 + 1))
    else
      some (0, (TPoint.mk 0 0), false, 0)
def F_etchhouseref9_ToBoard (N : Nat) (p0 : TPanel) (p1 : TPoint) : Option (Int × TPoint × Bool × Int) :=
  (F_etchhouseref9_CheckPanel N p0).bind fun y103 =>
  if (y103 != 0) then
    some (0, (TPoint.mk 0 0), false, y103)
  else
    (F_etchhouseref9_within p1.X 0 p0.W).bind fun y104 =>
    (if (!y104) then some true else 
      (F_etchhouseref9_within p1.Y 0 p0.H).bind fun y107 =>
      some (!y107)
    ).bind fun g106 =>
    if g106 then
      some (0, (TPoint.mk 0 0), false, 1)
    else
      F_etchhouseref9_ToBoard_L1 N p0 p1 N 0


def F_etchhouselaw9_PanelPointsMatchSpec (N : Nat) (p0 : TPanel) (p1 : Int) (p2 : TPoint) : Option Bool :=
  (F_panel_SlotTurn N p0 p1).bind fun y102 =>
  (F_etchhouseref9_SlotTurn N p0 p1).bind fun y104 =>
  (F_panel_ToPanel N p0 p1 p2).bind fun y106 =>
  (F_etchhouseref9_ToPanel N p0 p1 p2).bind fun y108 =>
  if ((((!(eqTTurn y102.1 y104.1)) || (y102.2 != y104.2)) || (!(eqTPoint y106.1 y108.1))) || (y106.2 != y108.2)) then
    some false
  else
    (F_panel_ToBoard N p0 p2).bind fun y110 =>
    (F_etchhouseref9_ToBoard N p0 p2).bind fun y111 =>
    (if ((((y110.1 == y111.1) && (eqTPoint y110.2.1 y111.2.1)) && (y110.2.2.1 == y111.2.2.1)) && (y110.2.2.2 == y111.2.2.2)) then 
      (F_etchhouselaw9_awake N).bind fun y114 =>
      some y114
     else some false).bind fun g113 =>
    some g113

end Go.Proofs.Ytpkicpnbpldkpaa
