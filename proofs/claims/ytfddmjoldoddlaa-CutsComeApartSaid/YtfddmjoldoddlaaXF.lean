/- The plain functions: what each function of the program computes; none where it would panic. -/
import Derived.Test.YtfddmjoldoddlaaXT
namespace Go.Proofs.Ytfddmjoldoddlaa
open Go.RowKit

def F_panel_within (p0 : Int) (p1 : Int) (p2 : Int) : Option Bool :=
  some ((decide (p1 ≤ p0)) && (decide (p0 ≤ p2)))

def F_plot_IsName_L1 (p0 : ByteArray) : Nat → Int → Option Bool
  | 0, _ => none
  | mF_plot_IsName_L1 + 1, x105 =>
    if (decide (x105 < (p0.size : Int))) then
      (strAt p0 x105).bind fun c106 =>
      if ((!(((decide (97 ≤ c106)) && (decide (c106 ≤ 122))) || ((decide (65 ≤ c106)) && (decide (c106 ≤ 90))))) && ((x105 == 0) || ((((decide (c106 < 48)) || (decide (57 < c106))) && (c106 != 95)) && (c106 != 45)))) then
        some false
      else
        (F_plot_IsName_L1 p0 mF_plot_IsName_L1) (w64 (x105 + 1))
    else
      some ((decide (1 ≤ (p0.size : Int))) && (decide ((p0.size : Int) ≤ 40)))
def F_plot_IsName (N : Nat) (p0 : ByteArray) : Option Bool :=
  F_plot_IsName_L1 p0 N 0

def F_panel_checkKinds_L1 (N : Nat) (p0 : (List TBoardKind)) : List TBoardKind → Nat → Option Int
  | [], iF_panel_checkKinds_L1 =>
    some 0
  | xF_panel_checkKinds_L1 :: restF_panel_checkKinds_L1, iF_panel_checkKinds_L1 =>
    (F_plot_IsName N xF_panel_checkKinds_L1.Name).bind fun y112 =>
    if (!y112) then
      some 5
    else
      (F_panel_within xF_panel_checkKinds_L1.W 1 1000000).bind fun y113 =>
      (if (!y113) then some true else 
        (F_panel_within xF_panel_checkKinds_L1.H 1 1000000).bind fun y116 =>
        some (!y116)
      ).bind fun g115 =>
      if g115 then
        some 1
      else
        (if (decide (0 < (iF_panel_checkKinds_L1 : Int))) then 
          (idx p0 (w64 ((iF_panel_checkKinds_L1 : Int) - 1))).bind fun x119 =>
          some (sLt xF_panel_checkKinds_L1.Name x119.Name || sEq xF_panel_checkKinds_L1.Name x119.Name)
         else some false).bind fun g118 =>
        if g118 then
          some 8
        else
          (F_panel_checkKinds_L1 N p0 restF_panel_checkKinds_L1 (iF_panel_checkKinds_L1 + 1))
def F_panel_checkKinds (N : Nat) (p0 : (List TBoardKind)) : Option Int :=
  if (decide (50 < (p0.length : Int))) then
    some 2
  else
    F_panel_checkKinds_L1 N p0 p0 0


def F_panel_kindAt_1 (p0 : TBoardKind) (q0 : ByteArray) : Option Bool :=
  some (sEq p0.Name q0)

def F_slices_IndexFunc_BoardKind_L1 (p1 : TBoardKind → Option Bool) : List TBoardKind → Nat → Option Int
  | [], iF_slices_IndexFunc_BoardKind_L1 =>
    some (-1)
  | xF_slices_IndexFunc_BoardKind_L1 :: restF_slices_IndexFunc_BoardKind_L1, iF_slices_IndexFunc_BoardKind_L1 =>
    (p1 xF_slices_IndexFunc_BoardKind_L1).bind fun y103 =>
    if y103 then
      some (iF_slices_IndexFunc_BoardKind_L1 : Int)
    else
      (F_slices_IndexFunc_BoardKind_L1 p1 restF_slices_IndexFunc_BoardKind_L1 (iF_slices_IndexFunc_BoardKind_L1 + 1))
def F_slices_IndexFunc_BoardKind (p0 : (List TBoardKind)) (p1 : TBoardKind → Option Bool) : Option Int :=
  F_slices_IndexFunc_BoardKind_L1 p1 p0 0


def F_panel_kindAt (p0 : TPanel) (p1 : ByteArray) : Option Int :=
  (F_slices_IndexFunc_BoardKind p0.Kinds (fun z0 => F_panel_kindAt_1 z0 p1)).bind fun y102 =>
  some y102


def F_panel_sizeOf (p0 : TBoardKind) (p1 : Int) : Option (Int × Int) :=
  if ((Int.tmod p1 2) == 1) then
    some (p0.H, p0.W)
  else
    some (p0.W, p0.H)


def F_panel_cellOf (p0 : TPanel) (p1 : TSlot) : Option TRect :=
  (F_panel_kindAt p0 p1.Board).bind fun y103 =>
  (idx p0.Kinds y103).bind fun x104 =>
  (F_panel_sizeOf x104 p1.Quarters).bind fun y105 =>
  some (TRect.mk p1.At.X p1.At.Y (w64 (p1.At.X + y105.1)) (w64 (p1.At.Y + y105.2)))


def F_panel_isOn (p0 : TPanel) (p1 : TRect) : Option Bool :=
  some ((((((decide (p0.Rail ≤ p1.X0)) && (decide (p0.Rail ≤ p1.Y0))) && (decide (p1.X0 ≤ p0.W))) && (decide (p1.Y0 ≤ p0.H))) && (decide (p1.X1 ≤ (w64 (p0.W - p0.Rail))))) && (decide (p1.Y1 ≤ (w64 (p0.H - p0.Rail)))))


def F_panel_isApart (p0 : TRect) (p1 : TRect) (p2 : Int) : Option Bool :=
  some ((((decide ((w64 (p0.X1 + p2)) ≤ p1.X0)) || (decide ((w64 (p1.X1 + p2)) ≤ p0.X0))) || (decide ((w64 (p0.Y1 + p2)) ≤ p1.Y0))) || (decide ((w64 (p1.Y1 + p2)) ≤ p0.Y0)))


def F_panel_cells_1 (p0 : TRect) (q0 : TRect) (q1 : TPanel) : Option Bool :=
  (F_panel_isApart q0 p0 q1.Gap).bind fun y101 =>
  some (!y101)

def F_slices_IndexFunc_Rect_L1 (p1 : TRect → Option Bool) : List TRect → Nat → Option Int
  | [], iF_slices_IndexFunc_Rect_L1 =>
    some (-1)
  | xF_slices_IndexFunc_Rect_L1 :: restF_slices_IndexFunc_Rect_L1, iF_slices_IndexFunc_Rect_L1 =>
    (p1 xF_slices_IndexFunc_Rect_L1).bind fun y103 =>
    if y103 then
      some (iF_slices_IndexFunc_Rect_L1 : Int)
    else
      (F_slices_IndexFunc_Rect_L1 p1 restF_slices_IndexFunc_Rect_L1 (iF_slices_IndexFunc_Rect_L1 + 1))
def F_slices_IndexFunc_Rect (p0 : (List TRect)) (p1 : TRect → Option Bool) : Option Int :=
  F_slices_IndexFunc_Rect_L1 p1 p0 0


def F_slices_ContainsFunc_Rect (p0 : (List TRect)) (p1 : TRect → Option Bool) : Option Bool :=
  (F_slices_IndexFunc_Rect p0 p1).bind fun y100 =>
  some (decide (0 ≤ y100))

def F_panel_cells_L1 (p0 : TPanel) : List TSlot → Nat → List TRect → Option ((List TRect) × Int)
  | [], iF_panel_cells_L1, l139 =>
    some (l139, 0)
  | xF_panel_cells_L1 :: restF_panel_cells_L1, iF_panel_cells_L1, l139 =>
    (F_panel_kindAt p0 xF_panel_cells_L1.Board).bind fun y141 =>
    if (decide (y141 < 0)) then
      some (([] : List TRect), 5)
    else
      (F_panel_within xF_panel_cells_L1.Quarters 0 3).bind fun y142 =>
      (if (!y142) then some true else 
        (F_panel_within xF_panel_cells_L1.At.X 0 p0.W).bind fun y145 =>
        some (!y145)
      ).bind fun g144 =>
      (if g144 then some true else 
        (F_panel_within xF_panel_cells_L1.At.Y 0 p0.H).bind fun y148 =>
        some (!y148)
      ).bind fun g147 =>
      if g147 then
        some (([] : List TRect), 1)
      else
        (F_panel_cellOf p0 xF_panel_cells_L1).bind fun y149 =>
        (F_panel_isOn p0 y149).bind fun y151 =>
        if (!y151) then
          some (([] : List TRect), 1)
        else
          (F_slices_ContainsFunc_Rect l139 (fun z0 => F_panel_cells_1 z0 y149 p0)).bind fun y152 =>
          if y152 then
            some (([] : List TRect), 12)
          else
            (apd l139 [y149]).bind fun l154 =>
            (F_panel_cells_L1 p0 restF_panel_cells_L1 (iF_panel_cells_L1 + 1)) l154
def F_panel_cells (p0 : TPanel) : Option ((List TRect) × Int) :=
  if (decide (500 < (p0.Slots.length : Int))) then
    some (([] : List TRect), 2)
  else
    F_panel_cells_L1 p0 p0.Slots 0 ([] : List TRect)


def F_panel_isOnPanel (p0 : TPanel) (p1 : TPoint) : Option Bool :=
  (F_panel_within p1.X 0 p0.W).bind fun y102 =>
  (if y102 then 
    (F_panel_within p1.Y 0 p0.H).bind fun y105 =>
    some y105
   else some false).bind fun g104 =>
  some g104


def F_panel_isInside (p0 : TRect) (p1 : TPoint) : Option Bool :=
  some ((((decide (p0.X0 < p1.X)) && (decide (p1.X < p0.X1))) && (decide (p0.Y0 < p1.Y))) && (decide (p1.Y < p0.Y1)))


def F_panel_open_1 (p0 : TRect) (q0 : TPoint) : Option Bool :=
  (F_panel_isInside p0 q0).bind fun y101 =>
  some y101

def F_slices_Index_Point_L1 (p1 : TPoint) : List TPoint → Nat → Option Int
  | [], iF_slices_Index_Point_L1 =>
    some (-1)
  | xF_slices_Index_Point_L1 :: restF_slices_Index_Point_L1, iF_slices_Index_Point_L1 =>
    if (eqTPoint p1 xF_slices_Index_Point_L1) then
      some (iF_slices_Index_Point_L1 : Int)
    else
      (F_slices_Index_Point_L1 p1 restF_slices_Index_Point_L1 (iF_slices_Index_Point_L1 + 1))
def F_slices_Index_Point (p0 : (List TPoint)) (p1 : TPoint) : Option Int :=
  F_slices_Index_Point_L1 p1 p0 0


def F_slices_Contains_Point (p0 : (List TPoint)) (p1 : TPoint) : Option Bool :=
  (F_slices_Index_Point p0 p1).bind fun y101 =>
  some (decide (0 ≤ y101))

def F_panel_open_L1 (p0 : TPanel) (y112 : ((List TRect) × Int)) : List TPoint → Nat → Option ((List TRect) × Int)
  | [], iF_panel_open_L1 =>
    some (y112.1, 0)
  | xF_panel_open_L1 :: restF_panel_open_L1, iF_panel_open_L1 =>
    (F_panel_isOnPanel p0 xF_panel_open_L1).bind fun y122 =>
    if (!y122) then
      some (([] : List TRect), 1)
    else
      (F_slices_ContainsFunc_Rect y112.1 (fun z0 => F_panel_open_1 z0 xF_panel_open_L1)).bind fun y123 =>
      if y123 then
        some (([] : List TRect), 12)
      else
        (pre p0.Marks (iF_panel_open_L1 : Int)).bind fun l124 =>
        (F_slices_Contains_Point l124 xF_panel_open_L1).bind fun y125 =>
        if y125 then
          some (([] : List TRect), 7)
        else
          (F_panel_open_L1 p0 y112 restF_panel_open_L1 (iF_panel_open_L1 + 1))
def F_panel_open (N : Nat) (p0 : TPanel) : Option ((List TRect) × Int) :=
  (F_panel_within p0.W 1 1000000).bind fun y101 =>
  (if (!y101) then some true else 
    (F_panel_within p0.H 1 1000000).bind fun y104 =>
    some (!y104)
  ).bind fun g103 =>
  (if g103 then some true else 
    (F_panel_within p0.Rail 0 1000000).bind fun y107 =>
    some (!y107)
  ).bind fun g106 =>
  (if g106 then some true else 
    (F_panel_within p0.Gap 0 1000000).bind fun y110 =>
    some (!y110)
  ).bind fun g109 =>
  if g109 then
    some (([] : List TRect), 1)
  else
    (F_panel_checkKinds N p0.Kinds).bind fun y111 =>
    if (y111 != 0) then
      some (([] : List TRect), y111)
    else
      (F_panel_cells p0).bind fun y112 =>
      if (y112.2 != 0) then
        some (([] : List TRect), y112.2)
      else
        if (decide (10 < (p0.Marks.length : Int))) then
          some (([] : List TRect), 2)
        else
          F_panel_open_L1 p0 y112 p0.Marks 0


def F_panel_whole (p0 : TPanel) : Option TRect :=
  some (TRect.mk 0 0 p0.W p0.H)


def F_panel_along (p0 : TRect) (p1 : Bool) : Option (Int × Int) :=
  if p1 then
    some (p0.Y0, p0.Y1)
  else
    some (p0.X0, p0.X1)


def F_panel_place_1 (p0 : TRect) (q0 : Bool) (q1 : Bool) (q2 : Int) : Option (Bool × Bool) :=
  (F_panel_along p0 q0).bind fun y101 =>
  some (((decide (y101.1 < q2)) && (decide (q2 < y101.2))), (q1 || (decide (q2 ≤ y101.1))))

def F_slices_IndexFunc_Rect__place_1_L1 (q0 : Bool) (q2 : Int) : List TRect → Nat → Bool → Option (Int × Bool)
  | [], iF_slices_IndexFunc_Rect__place_1_L1, x112 =>
    some ((-1), x112)
  | xF_slices_IndexFunc_Rect__place_1_L1 :: restF_slices_IndexFunc_Rect__place_1_L1, iF_slices_IndexFunc_Rect__place_1_L1, x112 =>
    (F_panel_place_1 xF_slices_IndexFunc_Rect__place_1_L1 q0 x112 q2).bind fun y113 =>
    if y113.1 then
      some ((iF_slices_IndexFunc_Rect__place_1_L1 : Int), y113.2)
    else
      (F_slices_IndexFunc_Rect__place_1_L1 q0 q2 restF_slices_IndexFunc_Rect__place_1_L1 (iF_slices_IndexFunc_Rect__place_1_L1 + 1)) y113.2
def F_slices_IndexFunc_Rect__place_1 (p0 : (List TRect)) (q0 : Bool) (q1 : Bool) (q2 : Int) : Option (Int × Bool) :=
  F_slices_IndexFunc_Rect__place_1_L1 q0 q2 p0 0 q1


def F_slices_ContainsFunc_Rect__place_1 (p0 : (List TRect)) (q0 : Bool) (q1 : Bool) (q2 : Int) : Option (Bool × Bool) :=
  (F_slices_IndexFunc_Rect__place_1 p0 q0 q1 q2).bind fun y100 =>
  some ((decide (0 ≤ y100.1)), y100.2)

def F_panel_place_L1 (p0 : (List TRect)) (p1 : Bool) : List TRect → Nat → Int → Bool → Option (Int × Bool)
  | [], iF_panel_place_L1, x124, x125 =>
    some (x124, x125)
  | xF_panel_place_L1 :: restF_panel_place_L1, iF_panel_place_L1, x124, x125 =>
    (F_panel_along xF_panel_place_L1 p1).bind fun y127 =>
    (F_slices_ContainsFunc_Rect__place_1 p0 p1 false y127.2).bind fun y130 =>
    if (((!y130.1) && y130.2) && ((!x125) || (decide (y127.2 < x124)))) then
      (F_panel_place_L1 p0 p1 restF_panel_place_L1 (iF_panel_place_L1 + 1)) y127.2 true
    else
      (F_panel_place_L1 p0 p1 restF_panel_place_L1 (iF_panel_place_L1 + 1)) x124 x125
def F_panel_place (p0 : (List TRect)) (p1 : Bool) : Option (Int × Bool) :=
  F_panel_place_L1 p0 p1 p0 0 0 false


def F_slices_Concat_Cut_L2 : List (List TCut) → Nat → List TCut → Option (List TCut)
  | [], iF_slices_Concat_Cut_L2, l125 =>
    some l125
  | xF_slices_Concat_Cut_L2 :: restF_slices_Concat_Cut_L2, iF_slices_Concat_Cut_L2, l125 =>
    (apd l125 xF_slices_Concat_Cut_L2).bind fun l127 =>
    (F_slices_Concat_Cut_L2 restF_slices_Concat_Cut_L2 (iF_slices_Concat_Cut_L2 + 1)) l127
def F_slices_Concat_Cut_L1 (p0 : (List (List TCut))) : List (List TCut) → Nat → Int → Option (List TCut)
  | [], iF_slices_Concat_Cut_L1, x110 =>
    (grN x110).bind fun y111 =>
    F_slices_Concat_Cut_L2 p0 0 y111
  | xF_slices_Concat_Cut_L1 :: restF_slices_Concat_Cut_L1, iF_slices_Concat_Cut_L1, x110 =>
    if (decide ((w64 (x110 + (xF_slices_Concat_Cut_L1.length : Int))) < 0)) then
      none
    else
      (F_slices_Concat_Cut_L1 p0 restF_slices_Concat_Cut_L1 (iF_slices_Concat_Cut_L1 + 1)) (w64 (x110 + (xF_slices_Concat_Cut_L1.length : Int)))
def F_slices_Concat_Cut (p0 : (List (List TCut))) : Option (List TCut) :=
  F_slices_Concat_Cut_L1 p0 p0 0 0

def F_panel_cuts_L1 (p0 : TRect) (rec : TRect → (List TRect) → Option ((List TCut) × Bool)) (x103 : Bool) (x104 : Int) (x110 : Int) (x111 : Int) (x112 : Int) (x113 : Int) : List TRect → Nat → List TRect → List TRect → Option ((List TCut) × Bool)
  | [], iF_panel_cuts_L1, l139, l140 =>
    (rec (TRect.mk p0.X0 p0.Y0 x110 x111) l139).bind fun y141 =>
    if (!y141.2) then
      some (([] : List TCut), false)
    else
      (rec (TRect.mk x112 x113 p0.X1 p0.Y1) l140).bind fun y143 =>
      if (!y143.2) then
        some (([] : List TCut), false)
      else
        (F_slices_Concat_Cut ([[(TCut.mk p0 x103 x104)], y141.1, y143.1])).bind fun y153 =>
        some (y153, true)
  | xF_panel_cuts_L1 :: restF_panel_cuts_L1, iF_panel_cuts_L1, l139, l140 =>
    (F_panel_along xF_panel_cuts_L1 x103).bind fun y156 =>
    if (decide (y156.2 ≤ x104)) then
      (apd l139 [xF_panel_cuts_L1]).bind fun l158 =>
      (F_panel_cuts_L1 p0 rec x103 x104 x110 x111 x112 x113 restF_panel_cuts_L1 (iF_panel_cuts_L1 + 1)) l158 l140
    else
      (apd l140 [xF_panel_cuts_L1]).bind fun l160 =>
      (F_panel_cuts_L1 p0 rec x103 x104 x110 x111 x112 x113 restF_panel_cuts_L1 (iF_panel_cuts_L1 + 1)) l139 l160
def F_panel_cuts_J2 (p0 : TRect) (p1 : (List TRect)) (rec : TRect → (List TRect) → Option ((List TCut) × Bool)) (x103 : Bool) (x104 : Int) (x110 : Int) (x111 : Int) (x112 : Int) (x113 : Int) : Option ((List TCut) × Bool) :=
  F_panel_cuts_L1 p0 rec x103 x104 x110 x111 x112 x113 p1 0 ([] : List TRect) ([] : List TRect)
def F_panel_cuts_J3 (p0 : TRect) (p1 : (List TRect)) (rec : TRect → (List TRect) → Option ((List TCut) × Bool)) (x103 : Bool) (x104 : Int) : Option ((List TCut) × Bool) :=
  if x103 then
    F_panel_cuts_J2 p0 p1 rec x103 x104 p0.X1 x104 p0.X0 x104
  else
    F_panel_cuts_J2 p0 p1 rec x103 x104 x104 p0.Y1 x104 p0.Y0
def F_panel_cuts_b (N : Nat) (rec : TRect → (List TRect) → Option ((List TCut) × Bool)) (p0 : TRect) (p1 : (List TRect)) : Option ((List TCut) × Bool) :=
  if (decide ((p1.length : Int) < 2)) then
    some (([] : List TCut), true)
  else
    (F_panel_place p1 true).bind fun y101 =>
    if (!y101.2) then
      (F_panel_place p1 false).bind fun y162 =>
      if (!y162.2) then
        some (([] : List TCut), false)
      else
        F_panel_cuts_J3 p0 p1 rec false y162.1
    else
      F_panel_cuts_J3 p0 p1 rec true y101.1
def F_panel_cuts : Nat → TRect → (List TRect) → Option ((List TCut) × Bool)
  | 0 => fun _ _ => none
  | N + 1 => F_panel_cuts_b N (F_panel_cuts N)


def F_panel_Cuts (N : Nat) (p0 : TPanel) : Option ((List TCut) × Bool × Int) :=
  (F_panel_open N p0).bind fun y101 =>
  if (y101.2 != 0) then
    some (([] : List TCut), false, y101.2)
  else
    (F_panel_whole p0).bind fun y103 =>
    (F_panel_cuts N y103 y101.1).bind fun y104 =>
    some (y104.1, y104.2, 0)


def F_etchhouseref9_within (p0 : Int) (p1 : Int) (p2 : Int) : Option Bool :=
  some ((decide (p1 ≤ p0)) && (decide (p0 ≤ p2)))


def F_etchhouseref3_within (p0 : Int) (p1 : Int) (p2 : Int) : Option Bool :=
  some ((decide (p1 ≤ p0)) && (decide (p0 ≤ p2)))

def F_etchhouseref3_IsName_L1 (p0 : ByteArray) : Nat → Int → Option Bool
  | 0, _ => none
  | mF_etchhouseref3_IsName_L1 + 1, x105 =>
    if (decide (x105 < (p0.size : Int))) then
      (strAt p0 x105).bind fun c106 =>
      if ((!(((decide (97 ≤ c106)) && (decide (c106 ≤ 122))) || ((decide (65 ≤ c106)) && (decide (c106 ≤ 90))))) && ((x105 == 0) || (((c106 != 95) && (c106 != 45)) && (!((decide (48 ≤ c106)) && (decide (c106 ≤ 57))))))) then
        some false
      else
        (F_etchhouseref3_IsName_L1 p0 mF_etchhouseref3_IsName_L1) (w64 (x105 + 1))
    else
      (F_etchhouseref3_within (p0.size : Int) 1 40).bind fun y107 =>
      some y107
def F_etchhouseref3_IsName (N : Nat) (p0 : ByteArray) : Option Bool :=
  F_etchhouseref3_IsName_L1 p0 N 0

def F_etchhouseref9_kind_L1 (p0 : TPanel) (p1 : ByteArray) : Nat → Int → Option Int
  | 0, _ => none
  | mF_etchhouseref9_kind_L1 + 1, x106 =>
    if (decide (x106 < (p0.Kinds.length : Int))) then
      (idx p0.Kinds x106).bind fun x107 =>
      if (sEq x107.Name p1) then
        some x106
      else
        (F_etchhouseref9_kind_L1 p0 p1 mF_etchhouseref9_kind_L1) (w64 (x106 + 1))
    else
      some (-1)
def F_etchhouseref9_kind (N : Nat) (p0 : TPanel) (p1 : ByteArray) : Option Int :=
  F_etchhouseref9_kind_L1 p0 p1 N 0


def F_etchhouseref9_sizeOf (p0 : TBoardKind) (p1 : Int) : Option (Int × Int) :=
  if ((Int.tmod p1 2) == 1) then
    some (p0.H, p0.W)
  else
    some (p0.W, p0.H)


def F_etchhouseref9_lies (p0 : TPanel) (p1 : TPoint) (p2 : Int) (p3 : Int) : Option Bool :=
  (F_etchhouseref9_within p1.X p0.Rail (w64 ((w64 (p0.W - p0.Rail)) - p2))).bind fun y102 =>
  (if y102 then 
    (F_etchhouseref9_within p1.Y p0.Rail (w64 ((w64 (p0.H - p0.Rail)) - p3))).bind fun y105 =>
    some y105
   else some false).bind fun g104 =>
  some g104


def F_etchhouseref9_cellOf (N : Nat) (p0 : TPanel) (p1 : TSlot) : Option TRect :=
  (F_etchhouseref9_kind N p0 p1.Board).bind fun y103 =>
  (idx p0.Kinds y103).bind fun x104 =>
  (F_etchhouseref9_sizeOf x104 p1.Quarters).bind fun y105 =>
  some (TRect.mk p1.At.X p1.At.Y (w64 (p1.At.X + y105.1)) (w64 (p1.At.Y + y105.2)))


def F_etchhouseref9_apart (p0 : TRect) (p1 : TRect) (p2 : Int) : Option Bool :=
  some ((((decide ((w64 (p0.X1 + p2)) ≤ p1.X0)) || (decide ((w64 (p1.X1 + p2)) ≤ p0.X0))) || (decide ((w64 (p0.Y1 + p2)) ≤ p1.Y0))) || (decide ((w64 (p1.Y1 + p2)) ≤ p0.Y0)))

def F_etchhouseref9_checkSlot_L1 (N : Nat) (p0 : TPanel) (p1 : Int) (x101 : TSlot) : Nat → Int → Option Int
  | 0, _ => none
  | mF_etchhouseref9_checkSlot_L1 + 1, x119 =>
    if (decide (x119 < p1)) then
      (F_etchhouseref9_cellOf N p0 x101).bind fun y120 =>
      (idx p0.Slots x119).bind fun x121 =>
      (F_etchhouseref9_cellOf N p0 x121).bind fun y122 =>
      (F_etchhouseref9_apart y120 y122 p0.Gap).bind fun y123 =>
      if (!y123) then
        some 12
      else
        (F_etchhouseref9_checkSlot_L1 N p0 p1 x101 mF_etchhouseref9_checkSlot_L1) (w64 (x119 + 1))
    else
      some 0
def F_etchhouseref9_checkSlot (N : Nat) (p0 : TPanel) (p1 : Int) : Option Int :=
  (idx p0.Slots p1).bind fun x101 =>
  (F_etchhouseref9_kind N p0 x101.Board).bind fun y103 =>
  if (decide (y103 < 0)) then
    some 5
  else
    (F_etchhouseref9_within x101.Quarters 0 3).bind fun y104 =>
    if (!y104) then
      some 1
    else
      (idx p0.Kinds y103).bind fun x105 =>
      (F_etchhouseref9_sizeOf x105 x101.Quarters).bind fun y106 =>
      (F_etchhouseref9_lies p0 x101.At y106.1 y106.2).bind fun y107 =>
      if (!y107) then
        some 1
      else
        F_etchhouseref9_checkSlot_L1 N p0 p1 x101 N 0

def F_etchhouseref9_checkMark_L2 (p0 : TPanel) (p1 : Int) (x101 : TPoint) : Nat → Int → Option Int
  | 0, _ => none
  | mF_etchhouseref9_checkMark_L2 + 1, x125 =>
    if (decide (x125 < p1)) then
      (idx p0.Marks x125).bind fun x126 =>
      if (eqTPoint x126 x101) then
        some 7
      else
        (F_etchhouseref9_checkMark_L2 p0 p1 x101 mF_etchhouseref9_checkMark_L2) (w64 (x125 + 1))
    else
      some 0
def F_etchhouseref9_checkMark_L1 (N : Nat) (p0 : TPanel) (p1 : Int) (x101 : TPoint) : Nat → Int → Option Int
  | 0, _ => none
  | mF_etchhouseref9_checkMark_L1 + 1, x116 =>
    if (decide (x116 < (p0.Slots.length : Int))) then
      (idx p0.Slots x116).bind fun x118 =>
      (F_etchhouseref9_cellOf N p0 x118).bind fun y119 =>
      if ((((decide (y119.X0 < x101.X)) && (decide (x101.X < y119.X1))) && (decide (y119.Y0 < x101.Y))) && (decide (x101.Y < y119.Y1))) then
        some 12
      else
        (F_etchhouseref9_checkMark_L1 N p0 p1 x101 mF_etchhouseref9_checkMark_L1) (w64 (x116 + 1))
    else
      F_etchhouseref9_checkMark_L2 p0 p1 x101 N 0
def F_etchhouseref9_checkMark (N : Nat) (p0 : TPanel) (p1 : Int) : Option Int :=
  (idx p0.Marks p1).bind fun x101 =>
  (F_etchhouseref9_within x101.X 0 p0.W).bind fun y103 =>
  (if (!y103) then some true else 
    (F_etchhouseref9_within x101.Y 0 p0.H).bind fun y106 =>
    some (!y106)
  ).bind fun g105 =>
  if g105 then
    some 1
  else
    F_etchhouseref9_checkMark_L1 N p0 p1 x101 N 0

def F_etchhouseref9_CheckPanel_L3 (N : Nat) (p0 : TPanel) : Nat → Int → Option Int
  | 0, _ => none
  | mF_etchhouseref9_CheckPanel_L3 + 1, x157 =>
    if (decide (x157 < (p0.Marks.length : Int))) then
      (F_etchhouseref9_checkMark N p0 x157).bind fun y158 =>
      if (y158 != 0) then
        some y158
      else
        (F_etchhouseref9_CheckPanel_L3 N p0 mF_etchhouseref9_CheckPanel_L3) (w64 (x157 + 1))
    else
      some 0
def F_etchhouseref9_CheckPanel_L2 (N : Nat) (p0 : TPanel) : Nat → Int → Option Int
  | 0, _ => none
  | mF_etchhouseref9_CheckPanel_L2 + 1, x150 =>
    if (decide (x150 < (p0.Slots.length : Int))) then
      (F_etchhouseref9_checkSlot N p0 x150).bind fun y151 =>
      if (y151 != 0) then
        some y151
      else
        (F_etchhouseref9_CheckPanel_L2 N p0 mF_etchhouseref9_CheckPanel_L2) (w64 (x150 + 1))
    else
      if (decide (10 < (p0.Marks.length : Int))) then
        some 2
      else
        F_etchhouseref9_CheckPanel_L3 N p0 N 0
def F_etchhouseref9_CheckPanel_L1 (N : Nat) (p0 : TPanel) : Nat → Int → Option Int
  | 0, _ => none
  | mF_etchhouseref9_CheckPanel_L1 + 1, x134 =>
    if (decide (x134 < (p0.Kinds.length : Int))) then
      (idx p0.Kinds x134).bind fun x135 =>
      (F_etchhouseref3_IsName N x135.Name).bind fun y137 =>
      if (!y137) then
        some 5
      else
        (F_etchhouseref9_within x135.W 1 1000000).bind fun y138 =>
        (if (!y138) then some true else 
          (F_etchhouseref9_within x135.H 1 1000000).bind fun y141 =>
          some (!y141)
        ).bind fun g140 =>
        if g140 then
          some 1
        else
          (if (decide (0 < x134)) then 
            (idx p0.Kinds (w64 (x134 - 1))).bind fun x144 =>
            some (sLt x135.Name x144.Name || sEq x135.Name x144.Name)
           else some false).bind fun g143 =>
          if g143 then
            some 8
          else
            (F_etchhouseref9_CheckPanel_L1 N p0 mF_etchhouseref9_CheckPanel_L1) (w64 (x134 + 1))
    else
      if (decide (500 < (p0.Slots.length : Int))) then
        some 2
      else
        F_etchhouseref9_CheckPanel_L2 N p0 N 0
def F_etchhouseref9_CheckPanel (N : Nat) (p0 : TPanel) : Option Int :=
  (F_etchhouseref9_within p0.W 1 1000000).bind fun y101 =>
  (if (!y101) then some true else 
    (F_etchhouseref9_within p0.H 1 1000000).bind fun y104 =>
    some (!y104)
  ).bind fun g103 =>
  (if g103 then some true else 
    (F_etchhouseref9_within p0.Rail 0 1000000).bind fun y107 =>
    some (!y107)
  ).bind fun g106 =>
  (if g106 then some true else 
    (F_etchhouseref9_within p0.Gap 0 1000000).bind fun y110 =>
    some (!y110)
  ).bind fun g109 =>
  if g109 then
    some 1
  else
    if (decide (50 < (p0.Kinds.length : Int))) then
      some 2
    else
      F_etchhouseref9_CheckPanel_L1 N p0 N 0

def F_etchhouseref9_cells_L1 (N : Nat) (p0 : TPanel) : Nat → List TRect → Int → Option (List TRect)
  | 0, _, _ => none
  | mF_etchhouseref9_cells_L1 + 1, l115, x116 =>
    if (decide (x116 < (p0.Slots.length : Int))) then
      (idx p0.Slots x116).bind fun x118 =>
      (F_etchhouseref9_cellOf N p0 x118).bind fun y119 =>
      (apd l115 [y119]).bind fun l120 =>
      (F_etchhouseref9_cells_L1 N p0 mF_etchhouseref9_cells_L1) l120 (w64 (x116 + 1))
    else
      some l115
def F_etchhouseref9_cells (N : Nat) (p0 : TPanel) : Option (List TRect) :=
  F_etchhouseref9_cells_L1 N p0 N ([] : List TRect) 0

def F_etchhouseref9_place_L4 (p0 : (List TRect)) (x193 : Int) (x194 : Bool) (x195 : Int) (kF_etchhouseref9_place_L3 : Int → Bool → Int → Option (Int × Bool)) (x196 : TRect) : Nat → Bool → Bool → Int → Option (Int × Bool)
  | 0, _, _, _ => none
  | mF_etchhouseref9_place_L4 + 1, x223, x224, x225 =>
    if (decide (x225 < (p0.length : Int))) then
      (if x223 then some true else 
        (idx p0 x225).bind fun x231 =>
        (if (decide (x231.Y0 < x196.Y1)) then 
          (idx p0 x225).bind fun x234 =>
          some (decide (x196.Y1 < x234.Y1))
         else some false).bind fun g233 =>
        some g233
      ).bind fun g230 =>
      (if x224 then some true else 
        (idx p0 x225).bind fun x237 =>
        some (decide (x196.Y1 ≤ x237.Y0))
      ).bind fun g236 =>
      (F_etchhouseref9_place_L4 p0 x193 x194 x195 kF_etchhouseref9_place_L3 x196 mF_etchhouseref9_place_L4) g230 g236 (w64 (x225 + 1))
    else
      if (((!x223) && x224) && ((!x194) || (decide (x196.Y1 < x193)))) then
        kF_etchhouseref9_place_L3 x196.Y1 true (w64 (x195 + 1))
      else
        kF_etchhouseref9_place_L3 x193 x194 (w64 (x195 + 1))
def F_etchhouseref9_place_L3 (N : Nat) (p0 : (List TRect)) : Nat → Int → Bool → Int → Option (Int × Bool)
  | 0, _, _, _ => none
  | mF_etchhouseref9_place_L3 + 1, x193, x194, x195 =>
    if (decide (x195 < (p0.length : Int))) then
      (idx p0 x195).bind fun x196 =>
      F_etchhouseref9_place_L4 p0 x193 x194 x195 (F_etchhouseref9_place_L3 N p0 mF_etchhouseref9_place_L3) x196 N false false 0
    else
      some (x193, x194)
def F_etchhouseref9_place (N : Nat) (p0 : (List TRect)) : Option (Int × Bool) :=
  F_etchhouseref9_place_L3 N p0 N 0 false 0


def F_etchhouseref9_turned (p0 : TRect) : Option TRect :=
  some (TRect.mk p0.Y0 p0.X0 p0.Y1 p0.X1)

def F_etchhouseref9_cut_L2 (p0 : TRect) (p1 : (List TRect)) (rec : TRect → (List TRect) → Option ((List TCut) × Bool)) (y101 : (Int × Bool)) (x127 : Int) (x128 : Int) (x129 : Int) (x130 : Int) (x131 : Int) : Nat → List TRect → List TRect → Int → Option ((List TCut) × Bool)
  | 0, _, _, _ => none
  | mF_etchhouseref9_cut_L2 + 1, l175, l176, x177 =>
    if (decide (x177 < (p1.length : Int))) then
      (if y101.2 then 
        (idx p1 x177).bind fun x180 =>
        some (decide (x180.Y1 ≤ x131))
       else some false).bind fun g179 =>
      (if g179 then some true else 
        (if (!y101.2) then 
          (idx p1 x177).bind fun x187 =>
          some (decide (x187.X1 ≤ x131))
         else some false).bind fun g186 =>
        some g186
      ).bind fun g184 =>
      if g184 then
        (idx p1 x177).bind fun x188 =>
        (apd l175 [x188]).bind fun l190 =>
        (F_etchhouseref9_cut_L2 p0 p1 rec y101 x127 x128 x129 x130 x131 mF_etchhouseref9_cut_L2) l190 l176 (w64 (x177 + 1))
      else
        (idx p1 x177).bind fun x191 =>
        (apd l176 [x191]).bind fun l193 =>
        (F_etchhouseref9_cut_L2 p0 p1 rec y101 x127 x128 x129 x130 x131 mF_etchhouseref9_cut_L2) l175 l193 (w64 (x177 + 1))
    else
      (rec (TRect.mk p0.X0 p0.Y0 x127 x128) l175).bind fun y194 =>
      (rec (TRect.mk x129 x130 p0.X1 p0.Y1) l176).bind fun y196 =>
      if ((!y194.2) || (!y196.2)) then
        some (([] : List TCut), false)
      else
        (apd [(TCut.mk p0 y101.2 x131)] y194.1).bind fun l199 =>
        (apd l199 y196.1).bind fun l200 =>
        some (l200, true)
def F_etchhouseref9_cut_J3 (N : Nat) (p0 : TRect) (p1 : (List TRect)) (rec : TRect → (List TRect) → Option ((List TCut) × Bool)) (y101 : (Int × Bool)) (x127 : Int) (x128 : Int) (x129 : Int) (x130 : Int) (x131 : Int) : Option ((List TCut) × Bool) :=
  F_etchhouseref9_cut_L2 p0 p1 rec y101 x127 x128 x129 x130 x131 N ([] : List TRect) ([] : List TRect) 0
def F_etchhouseref9_cut_L4 (N : Nat) (p0 : TRect) (p1 : (List TRect)) (rec : TRect → (List TRect) → Option ((List TCut) × Bool)) (y101 : (Int × Bool)) : Nat → List TRect → Int → Option ((List TCut) × Bool)
  | 0, _, _ => none
  | mF_etchhouseref9_cut_L4 + 1, l215, x216 =>
    if (decide (x216 < (p1.length : Int))) then
      (idx p1 x216).bind fun x217 =>
      (F_etchhouseref9_turned x217).bind fun y218 =>
      (apd l215 [y218]).bind fun l220 =>
      (F_etchhouseref9_cut_L4 N p0 p1 rec y101 mF_etchhouseref9_cut_L4) l220 (w64 (x216 + 1))
    else
      (F_etchhouseref9_place N l215).bind fun y221 =>
      if (!y221.2) then
        some (([] : List TCut), false)
      else
        F_etchhouseref9_cut_J3 N p0 p1 rec y101 y221.1 p0.Y1 y221.1 p0.Y0 y221.1
def F_etchhouseref9_cut_b (N : Nat) (rec : TRect → (List TRect) → Option ((List TCut) × Bool)) (p0 : TRect) (p1 : (List TRect)) : Option ((List TCut) × Bool) :=
  if (decide ((p1.length : Int) < 2)) then
    some (([] : List TCut), true)
  else
    (F_etchhouseref9_place N p1).bind fun y101 =>
    if (!y101.2) then
      F_etchhouseref9_cut_L4 N p0 p1 rec y101 N ([] : List TRect) 0
    else
      F_etchhouseref9_cut_J3 N p0 p1 rec y101 p0.X1 y101.1 p0.X0 y101.1 y101.1
def F_etchhouseref9_cut : Nat → TRect → (List TRect) → Option ((List TCut) × Bool)
  | 0 => fun _ _ => none
  | N + 1 => F_etchhouseref9_cut_b N (F_etchhouseref9_cut N)


def F_etchhouseref9_Cuts (N : Nat) (p0 : TPanel) : Option ((List TCut) × Bool × Int) :=
  (F_etchhouseref9_CheckPanel N p0).bind fun y101 =>
  if (y101 != 0) then
    some (([] : List TCut), false, y101)
  else
    (F_etchhouseref9_cells N p0).bind fun y103 =>
    (F_etchhouseref9_cut N (TRect.mk 0 0 p0.W p0.H) y103).bind fun y105 =>
    some (y105.1, y105.2, 0)




def F_panel_Scores_1 (p0 : TRect) (q0 : Bool) (q1 : Int) : Option Bool :=
  (F_panel_along p0 q0).bind fun y101 =>
  some ((decide (y101.1 < q1)) && (decide (q1 < y101.2)))

def F_panel_Scores_L7 (p0 : TPanel) (y101 : ((List TRect) × Int)) (l217 : List Bool) (x218 : Int) (kF_panel_Scores_L5 : (List TCut) → (List Bool) → Int → Option ((List TCut) × Int)) (x219 : Bool) : List Int → Nat → List TCut → Option ((List TCut) × Int)
  | [], iF_panel_Scores_L7, l260 =>
    kF_panel_Scores_L5 l260 l217 (w64 (x218 + 1))
  | xF_panel_Scores_L7 :: restF_panel_Scores_L7, iF_panel_Scores_L7, l260 =>
    (F_slices_ContainsFunc_Rect y101.1 (fun z0 => F_panel_Scores_1 z0 x219 xF_panel_Scores_L7)).bind fun y262 =>
    if (!y262) then
      (F_panel_whole p0).bind fun y264 =>
      (apd l260 [(TCut.mk y264 x219 xF_panel_Scores_L7)]).bind fun l265 =>
      (F_panel_Scores_L7 p0 y101 l217 x218 kF_panel_Scores_L5 x219 restF_panel_Scores_L7 (iF_panel_Scores_L7 + 1)) l265
    else
      (F_panel_Scores_L7 p0 y101 l217 x218 kF_panel_Scores_L5 x219 restF_panel_Scores_L7 (iF_panel_Scores_L7 + 1)) l260
def F_panel_Scores_L6 (p0 : TPanel) (y101 : ((List TRect) × Int)) (l216 : List TCut) (l217 : List Bool) (x218 : Int) (kF_panel_Scores_L5 : (List TCut) → (List Bool) → Int → Option ((List TCut) × Int)) (x219 : Bool) : List TRect → Nat → List Int → Option ((List TCut) × Int)
  | [], iF_panel_Scores_L6, l237 =>
    (srtI l237).bind fun y238 =>
    (cpI y238).bind fun y240 =>
    F_panel_Scores_L7 p0 y101 l217 x218 kF_panel_Scores_L5 x219 y240 0 l216
  | xF_panel_Scores_L6 :: restF_panel_Scores_L6, iF_panel_Scores_L6, l237 =>
    (F_panel_along xF_panel_Scores_L6 x219).bind fun y267 =>
    (apd l237 [y267.1, y267.2]).bind fun l269 =>
    (F_panel_Scores_L6 p0 y101 l216 l217 x218 kF_panel_Scores_L5 x219 restF_panel_Scores_L6 (iF_panel_Scores_L6 + 1)) l269
def F_panel_Scores_L5 (p0 : TPanel) (y101 : ((List TRect) × Int)) : Nat → List TCut → List Bool → Int → Option ((List TCut) × Int)
  | 0, _, _, _ => none
  | mF_panel_Scores_L5 + 1, l216, l217, x218 =>
    if (decide (x218 < 2)) then
      (idx l217 x218).bind fun x219 =>
      F_panel_Scores_L6 p0 y101 l216 l217 x218 (F_panel_Scores_L5 p0 y101 mF_panel_Scores_L5) x219 y101.1 0 ([] : List Int)
    else
      some (l216, 0)
def F_panel_Scores (N : Nat) (p0 : TPanel) : Option ((List TCut) × Int) :=
  (F_panel_open N p0).bind fun y101 =>
  if (y101.2 != 0) then
    some (([] : List TCut), y101.2)
  else
    F_panel_Scores_L5 p0 y101 N ([] : List TCut) [true, false] 0

def F_etchhouseref9_number_L1 (p0 : (List Int)) (p1 : Int) : Nat → Int → Option (List Int)
  | 0, _ => none
  | mF_etchhouseref9_number_L1 + 1, x109 =>
    (if (decide (0 < x109)) then 
      (idx p0 (w64 (x109 - 1))).bind fun x112 =>
      some (decide (p1 < x112))
     else some false).bind fun g111 =>
    if g111 then
      (F_etchhouseref9_number_L1 p0 p1 mF_etchhouseref9_number_L1) (w64 (x109 - 1))
    else
      (if (decide (0 < x109)) then 
        (idx p0 (w64 (x109 - 1))).bind fun x115 =>
        some (x115 == p1)
       else some false).bind fun g114 =>
      if g114 then
        some p0
      else
        (pre p0 x109).bind fun l116 =>
        (apd ([] : List Int) l116).bind fun l117 =>
        (apd l117 [p1]).bind fun l119 =>
        (cut p0 x109 (p0.length : Int)).bind fun l120 =>
        (apd l119 l120).bind fun l121 =>
        some l121
def F_etchhouseref9_number (N : Nat) (p0 : (List Int)) (p1 : Int) : Option (List Int) :=
  F_etchhouseref9_number_L1 p0 p1 N (p0.length : Int)

def F_etchhouseref9_scores_L21 (N : Nat) (p0 : (List TRect)) (l440 : List Int) (x441 : Int) (kF_etchhouseref9_scores_L20 : (List Int) → Int → Option (List Int)) (x444 : Int) : Nat → Bool → Int → Option (List Int)
  | 0, _, _ => none
  | mF_etchhouseref9_scores_L21 + 1, x466, x467 =>
    if (decide (x467 < (p0.length : Int))) then
      (if x466 then some true else 
        (idx p0 x467).bind fun x473 =>
        (if (decide (x473.Y0 < x444)) then 
          (idx p0 x467).bind fun x476 =>
          some (decide (x444 < x476.Y1))
         else some false).bind fun g475 =>
        some g475
      ).bind fun g472 =>
      (F_etchhouseref9_scores_L21 N p0 l440 x441 kF_etchhouseref9_scores_L20 x444 mF_etchhouseref9_scores_L21) g472 (w64 (x467 + 1))
    else
      if (!x466) then
        (F_etchhouseref9_number N l440 x444).bind fun y477 =>
        kF_etchhouseref9_scores_L20 y477 (w64 (x441 + 1))
      else
        kF_etchhouseref9_scores_L20 l440 (w64 (x441 + 1))
def F_etchhouseref9_scores_J22 (N : Nat) (p0 : (List TRect)) (l440 : List Int) (x441 : Int) (kF_etchhouseref9_scores_L20 : (List Int) → Int → Option (List Int)) (x444 : Int) : Option (List Int) :=
  F_etchhouseref9_scores_L21 N p0 l440 x441 kF_etchhouseref9_scores_L20 x444 N false 0
def F_etchhouseref9_scores_L20 (N : Nat) (p0 : (List TRect)) (x355 : Int) (kF_etchhouseref9_scores_L15 : (List Int) → Int → Option (List Int)) : Nat → List Int → Int → Option (List Int)
  | 0, _, _ => none
  | mF_etchhouseref9_scores_L20 + 1, l440, x441 =>
    if (decide (x441 < 2)) then
      (idx p0 x355).bind fun x442 =>
      if (x441 == 1) then
        (idx p0 x355).bind fun x479 =>
        F_etchhouseref9_scores_J22 N p0 l440 x441 (F_etchhouseref9_scores_L20 N p0 x355 kF_etchhouseref9_scores_L15 mF_etchhouseref9_scores_L20) x479.Y1
      else
        F_etchhouseref9_scores_J22 N p0 l440 x441 (F_etchhouseref9_scores_L20 N p0 x355 kF_etchhouseref9_scores_L15 mF_etchhouseref9_scores_L20) x442.Y0
    else
      kF_etchhouseref9_scores_L15 l440 (w64 (x355 + 1))
def F_etchhouseref9_scores_L15 (N : Nat) (p0 : (List TRect)) : Nat → List Int → Int → Option (List Int)
  | 0, _, _ => none
  | mF_etchhouseref9_scores_L15 + 1, l354, x355 =>
    if (decide (x355 < (p0.length : Int))) then
      F_etchhouseref9_scores_L20 N p0 x355 (F_etchhouseref9_scores_L15 N p0 mF_etchhouseref9_scores_L15) N l354 0
    else
      some l354
def F_etchhouseref9_scores (N : Nat) (p0 : (List TRect)) : Option (List Int) :=
  F_etchhouseref9_scores_L15 N p0 N ([] : List Int) 0

def F_etchhouseref9_Scores_L3 (p0 : TPanel) (y127 : (List Int)) : Nat → List TCut → Int → Option ((List TCut) × Int)
  | 0, _, _ => none
  | mF_etchhouseref9_Scores_L3 + 1, l158, x159 =>
    if (decide (x159 < (y127.length : Int))) then
      (idx y127 x159).bind fun x161 =>
      (apd l158 [(TCut.mk (TRect.mk 0 0 p0.W p0.H) false x161)]).bind fun l162 =>
      (F_etchhouseref9_Scores_L3 p0 y127 mF_etchhouseref9_Scores_L3) l162 (w64 (x159 + 1))
    else
      some (l158, 0)
def F_etchhouseref9_Scores_L2 (N : Nat) (p0 : TPanel) (y125 : (List Int)) (y127 : (List Int)) : Nat → List TCut → Int → Option ((List TCut) × Int)
  | 0, _, _ => none
  | mF_etchhouseref9_Scores_L2 + 1, l141, x142 =>
    if (decide (x142 < (y125.length : Int))) then
      (idx y125 x142).bind fun x144 =>
      (apd l141 [(TCut.mk (TRect.mk 0 0 p0.W p0.H) true x144)]).bind fun l145 =>
      (F_etchhouseref9_Scores_L2 N p0 y125 y127 mF_etchhouseref9_Scores_L2) l145 (w64 (x142 + 1))
    else
      F_etchhouseref9_Scores_L3 p0 y127 N l141 0
def F_etchhouseref9_Scores_L1 (N : Nat) (p0 : TPanel) (y102 : (List TRect)) : Nat → List TRect → Int → Option ((List TCut) × Int)
  | 0, _, _ => none
  | mF_etchhouseref9_Scores_L1 + 1, l118, x119 =>
    if (decide (x119 < (y102.length : Int))) then
      (idx y102 x119).bind fun x120 =>
      (F_etchhouseref9_turned x120).bind fun y121 =>
      (apd l118 [y121]).bind fun l123 =>
      (F_etchhouseref9_Scores_L1 N p0 y102 mF_etchhouseref9_Scores_L1) l123 (w64 (x119 + 1))
    else
      (F_etchhouseref9_scores N y102).bind fun y125 =>
      (F_etchhouseref9_scores N l118).bind fun y127 =>
      F_etchhouseref9_Scores_L2 N p0 y125 y127 N ([] : List TCut) 0
def F_etchhouseref9_Scores (N : Nat) (p0 : TPanel) : Option ((List TCut) × Int) :=
  (F_etchhouseref9_CheckPanel N p0).bind fun y101 =>
  if (y101 != 0) then
    some (([] : List TCut), y101)
  else
    (F_etchhouseref9_cells N p0).bind fun y102 =>
    F_etchhouseref9_Scores_L1 N p0 y102 N ([] : List TRect) 0

def F_slices_Equal_Cut_L1 (p1 : (List TCut)) : List TCut → Nat → Option Bool
  | [], iF_slices_Equal_Cut_L1 =>
    some true
  | xF_slices_Equal_Cut_L1 :: restF_slices_Equal_Cut_L1, iF_slices_Equal_Cut_L1 =>
    (idx p1 (iF_slices_Equal_Cut_L1 : Int)).bind fun x103 =>
    if (!(eqTCut xF_slices_Equal_Cut_L1 x103)) then
      some false
    else
      (F_slices_Equal_Cut_L1 p1 restF_slices_Equal_Cut_L1 (iF_slices_Equal_Cut_L1 + 1))
def F_slices_Equal_Cut (p0 : (List TCut)) (p1 : (List TCut)) : Option Bool :=
  if ((p0.length : Int) != (p1.length : Int)) then
    some false
  else
    F_slices_Equal_Cut_L1 p1 p0 0

def F_shape_AreaOf_L1 : List TRect → Nat → Int → Option Int
  | [], iF_shape_AreaOf_L1, x110 =>
    some x110
  | xF_shape_AreaOf_L1 :: restF_shape_AreaOf_L1, iF_shape_AreaOf_L1, x110 =>
    (F_shape_AreaOf_L1 restF_shape_AreaOf_L1 (iF_shape_AreaOf_L1 + 1)) (w64 (x110 + (w64 ((w64 (xF_shape_AreaOf_L1.X1 - xF_shape_AreaOf_L1.X0)) * (w64 (xF_shape_AreaOf_L1.Y1 - xF_shape_AreaOf_L1.Y0))))))
def F_shape_AreaOf (p0 : (List TRect)) : Option Int :=
  F_shape_AreaOf_L1 p0 0 0

def F_panel_Lowest_L1 (p0 : Int) (p1 : Int) : Nat → Int → Int → Option TShare
  | 0, _, _ => none
  | mF_panel_Lowest_L1 + 1, x109, x110 =>
    if (x110 != 0) then
      (md x109 x110).bind fun q111 =>
      (F_panel_Lowest_L1 p0 p1 mF_panel_Lowest_L1) x110 q111
    else
      (dv p0 x109).bind fun q112 =>
      (dv p1 x109).bind fun q113 =>
      some (TShare.mk q112 q113)
def F_panel_Lowest (N : Nat) (p0 : Int) (p1 : Int) : Option TShare :=
  F_panel_Lowest_L1 p0 p1 N p0 p1


def F_panel_Use (N : Nat) (p0 : TPanel) : Option (TShare × Int) :=
  (F_panel_open N p0).bind fun y102 =>
  if (y102.2 != 0) then
    some ((TShare.mk 0 0), y102.2)
  else
    (F_shape_AreaOf y102.1).bind fun y104 =>
    (F_panel_Lowest N y104 (w64 (p0.W * p0.H))).bind fun y105 =>
    some (y105, 0)


def F_etchhouselaw9_awake (N : Nat)  : Option Bool :=
  (F_panel_Use N (TPanel.mk 1 1 0 0 [] [] [])).bind fun y100 =>
  some ((y100.2 == 0) && (eqTShare y100.1 (TShare.mk 0 1)))


def F_etchhouselaw9_CutsMatchSpec (N : Nat) (p0 : TPanel) : Option Bool :=
  (F_panel_Cuts N p0).bind fun y101 =>
  (F_etchhouseref9_Cuts N p0).bind fun y103 =>
  (F_panel_Scores N p0).bind fun y105 =>
  (F_etchhouseref9_Scores N p0).bind fun y107 =>
  (F_slices_Equal_Cut y101.1 y103.1).bind fun y109 =>
  (if ((y109 && (y101.2.1 == y103.2.1)) && (y101.2.2 == y103.2.2)) then 
    (F_slices_Equal_Cut y105.1 y107.1).bind fun y112 =>
    some y112
   else some false).bind fun g111 =>
  (if (g111 && (y105.2 == y107.2)) then 
    (F_etchhouselaw9_awake N).bind fun y115 =>
    some y115
   else some false).bind fun g114 =>
  some g114


def F_panel_Cells (N : Nat) (p0 : TPanel) : Option ((List TRect) × Int) :=
  (F_panel_open N p0).bind fun y101 =>
  some (y101.1, y101.2)


def F_etchhouselaw9_through (p0 : TCut) (p1 : TRect) : Option Bool :=
  if ((((decide (p0.Part.X1 ≤ p1.X0)) || (decide (p1.X1 ≤ p0.Part.X0))) || (decide (p0.Part.Y1 ≤ p1.Y0))) || (decide (p1.Y1 ≤ p0.Part.Y0))) then
    some false
  else
    if p0.Across then
      some ((decide (p1.Y0 < p0.At)) && (decide (p0.At < p1.Y1)))
    else
      some ((decide (p1.X0 < p0.At)) && (decide (p0.At < p1.X1)))

def F_etchhouselaw9_CutsComeApart_L6 (y106 : ((List TRect) × Int)) (x159 : Int) (kF_etchhouselaw9_CutsComeApart_L5 : Int → Option Bool) (x163 : Int) (x164 : Int) (x165 : Int) (x166 : Int) (x167 : Bool) (x168 : Int) : Nat → Int → Option Bool
  | 0, _ => none
  | mF_etchhouselaw9_CutsComeApart_L6 + 1, x178 =>
    if (decide (x178 < (y106.1.length : Int))) then
      (idx y106.1 x178).bind fun x179 =>
      (F_etchhouselaw9_through (TCut.mk (TRect.mk x163 x164 x165 x166) x167 x168) x179).bind fun y180 =>
      if y180 then
        some false
      else
        (F_etchhouselaw9_CutsComeApart_L6 y106 x159 kF_etchhouselaw9_CutsComeApart_L5 x163 x164 x165 x166 x167 x168 mF_etchhouselaw9_CutsComeApart_L6) (w64 (x178 + 1))
    else
      kF_etchhouselaw9_CutsComeApart_L5 (w64 (x159 + 1))
def F_etchhouselaw9_CutsComeApart_J7 (N : Nat) (y106 : ((List TRect) × Int)) (x159 : Int) (kF_etchhouselaw9_CutsComeApart_L5 : Int → Option Bool) (x163 : Int) (x164 : Int) (x165 : Int) (x166 : Int) (x167 : Bool) (x168 : Int) : Option Bool :=
  F_etchhouselaw9_CutsComeApart_L6 y106 x159 kF_etchhouselaw9_CutsComeApart_L5 x163 x164 x165 x166 x167 x168 N 0
def F_etchhouselaw9_CutsComeApart_L5 (N : Nat) (y101 : ((List TCut) × Bool × Int)) (y106 : ((List TRect) × Int)) (y108 : ((List TCut) × Int)) : Nat → Int → Option Bool
  | 0, _ => none
  | mF_etchhouselaw9_CutsComeApart_L5 + 1, x159 =>
    if (decide (x159 < (w64 ((y101.1.length : Int) + (y108.1.length : Int))))) then
      if (decide (x159 < (y101.1.length : Int))) then
        (idx y101.1 x159).bind fun x181 =>
        F_etchhouselaw9_CutsComeApart_J7 N y106 x159 (F_etchhouselaw9_CutsComeApart_L5 N y101 y106 y108 mF_etchhouselaw9_CutsComeApart_L5) x181.Part.X0 x181.Part.Y0 x181.Part.X1 x181.Part.Y1 x181.Across x181.At
      else
        (idx y108.1 (w64 (x159 - (y101.1.length : Int)))).bind fun x182 =>
        F_etchhouselaw9_CutsComeApart_J7 N y106 x159 (F_etchhouselaw9_CutsComeApart_L5 N y101 y106 y108 mF_etchhouselaw9_CutsComeApart_L5) x182.Part.X0 x182.Part.Y0 x182.Part.X1 x182.Part.Y1 x182.Across x182.At
    else
      (F_etchhouselaw9_awake N).bind fun y183 =>
      some y183
def F_etchhouselaw9_CutsComeApart (N : Nat) (p0 : TPanel) : Option Bool :=
  (F_panel_Cuts N p0).bind fun y101 =>
  if (y101.2.2 != 0) then
    (if (((y101.1.length : Int) == 0) && (!y101.2.1)) then 
      (F_etchhouselaw9_awake N).bind fun y105 =>
      some y105
     else some false).bind fun g104 =>
    some g104
  else
    (F_panel_Cells N p0).bind fun y106 =>
    (F_panel_Scores N p0).bind fun y108 =>
    if ((((y106.2 != 0) || (y108.2 != 0)) || ((!y101.2.1) && (decide (0 < (y101.1.length : Int))))) || (y101.2.1 && ((y101.1.length : Int) != (max 0 (w64 ((y106.1.length : Int) - 1)))))) then
      some false
    else
      F_etchhouselaw9_CutsComeApart_L5 N y101 y106 y108 N 0

end Go.Proofs.Ytfddmjoldoddlaa
