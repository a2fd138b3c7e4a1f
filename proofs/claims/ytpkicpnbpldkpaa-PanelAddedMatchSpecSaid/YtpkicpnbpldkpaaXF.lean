/- The plain functions: what each function of the program computes; none where it would panic. -/
import Derived.Test.YtpkicpnbpldkpaaXT
namespace Go.Proofs.Ytpkicpnbpldkpaa
open Go.RowKit

def F_panel_within (p0 : Int) (p1 : Int) (p2 : Int) : Option Bool :=
  some ((decide (p1 ≤ p0)) && (decide (p0 ≤ p2)))

def F_plot_IsName_L1 (p0 : ByteArray) : Nat → Int → Option Bool
  | 0, _ => none
  | mF_plot_IsName_L1 + 1, x105 =>
    if (decide (x105 < (p0.size : Int))) then
      (strAt p0 x105).bind fun c106 =>
      if ((!(((decide (97 ≤ c106)) && (decide (c106 ≤ 122))) || ((decide (65 ≤ c106)) && (decide (c106 ≤ 90))))) && ((x105 == 0) || ((((decide (c106 < 48)) || (decide (57 < c106))) && (c106 != 95)) && (c106 != 45)))) then
        some false
      else
        (F_plot_IsName_L1 p0 mF_plot_IsName_L1) (w64 (x105 + 1))
    else
      some ((decide (1 ≤ (p0.size : Int))) && (decide ((p0.size : Int) ≤ 40)))
def F_plot_IsName (N : Nat) (p0 : ByteArray) : Option Bool :=
  F_plot_IsName_L1 p0 N 0

def F_panel_checkKinds_L1 (N : Nat) (p0 : (List TBoardKind)) : List TBoardKind → Nat → Option Int
  | [], iF_panel_checkKinds_L1 =>
    some 0
  | xF_panel_checkKinds_L1 :: restF_panel_checkKinds_L1, iF_panel_checkKinds_L1 =>
    (F_plot_IsName N xF_panel_checkKinds_L1.Name).bind fun y112 =>
    if (!y112) then
      some 5
    else
      (F_panel_within xF_panel_checkKinds_L1.W 1 1000000).bind fun y113 =>
      (if (!y113) then some true else 
        (F_panel_within xF_panel_checkKinds_L1.H 1 1000000).bind fun y116 =>
        some (!y116)
      ).bind fun g115 =>
      if g115 then
        some 1
      else
        (if (decide (0 < (iF_panel_checkKinds_L1 : Int))) then 
          (idx p0 (w64 ((iF_panel_checkKinds_L1 : Int) - 1))).bind fun x119 =>
          some (sLt xF_panel_checkKinds_L1.Name x119.Name || sEq xF_panel_checkKinds_L1.Name x119.Name)
         else some false).bind fun g118 =>
        if g118 then
          some 8
        else
          (F_panel_checkKinds_L1 N p0 restF_panel_checkKinds_L1 (iF_panel_checkKinds_L1 + 1))
def F_panel_checkKinds (N : Nat) (p0 : (List TBoardKind)) : Option Int :=
  if (decide (50 < (p0.length : Int))) then
    some 2
  else
    F_panel_checkKinds_L1 N p0 p0 0


def F_panel_kindAt_1 (p0 : TBoardKind) (q0 : ByteArray) : Option Bool :=
  some (sEq p0.Name q0)

def F_slices_IndexFunc_BoardKind_L1 (p1 : TBoardKind → Option Bool) : List TBoardKind → Nat → Option Int
  | [], iF_slices_IndexFunc_BoardKind_L1 =>
    some (-1)
  | xF_slices_IndexFunc_BoardKind_L1 :: restF_slices_IndexFunc_BoardKind_L1, iF_slices_IndexFunc_BoardKind_L1 =>
    (p1 xF_slices_IndexFunc_BoardKind_L1).bind fun y103 =>
    if y103 then
      some (iF_slices_IndexFunc_BoardKind_L1 : Int)
    else
      (F_slices_IndexFunc_BoardKind_L1 p1 restF_slices_IndexFunc_BoardKind_L1 (iF_slices_IndexFunc_BoardKind_L1 + 1))
def F_slices_IndexFunc_BoardKind (p0 : (List TBoardKind)) (p1 : TBoardKind → Option Bool) : Option Int :=
  F_slices_IndexFunc_BoardKind_L1 p1 p0 0


def F_panel_kindAt (p0 : TPanel) (p1 : ByteArray) : Option Int :=
  (F_slices_IndexFunc_BoardKind p0.Kinds (fun z0 => F_panel_kindAt_1 z0 p1)).bind fun y102 =>
  some y102


def F_panel_sizeOf (p0 : TBoardKind) (p1 : Int) : Option (Int × Int) :=
  if ((Int.tmod p1 2) == 1) then
    some (p0.H, p0.W)
  else
    some (p0.W, p0.H)


def F_panel_cellOf (p0 : TPanel) (p1 : TSlot) : Option TRect :=
  (F_panel_kindAt p0 p1.Board).bind fun y103 =>
  (idx p0.Kinds y103).bind fun x104 =>
  (F_panel_sizeOf x104 p1.Quarters).bind fun y105 =>
  some (TRect.mk p1.At.X p1.At.Y (w64 (p1.At.X + y105.1)) (w64 (p1.At.Y + y105.2)))


def F_panel_isOn (p0 : TPanel) (p1 : TRect) : Option Bool :=
  some ((((((decide (p0.Rail ≤ p1.X0)) && (decide (p0.Rail ≤ p1.Y0))) && (decide (p1.X0 ≤ p0.W))) && (decide (p1.Y0 ≤ p0.H))) && (decide (p1.X1 ≤ (w64 (p0.W - p0.Rail))))) && (decide (p1.Y1 ≤ (w64 (p0.H - p0.Rail)))))


def F_panel_isApart (p0 : TRect) (p1 : TRect) (p2 : Int) : Option Bool :=
  some ((((decide ((w64 (p0.X1 + p2)) ≤ p1.X0)) || (decide ((w64 (p1.X1 + p2)) ≤ p0.X0))) || (decide ((w64 (p0.Y1 + p2)) ≤ p1.Y0))) || (decide ((w64 (p1.Y1 + p2)) ≤ p0.Y0)))


def F_panel_cells_1 (p0 : TRect) (q0 : TRect) (q1 : TPanel) : Option Bool :=
  (F_panel_isApart q0 p0 q1.Gap).bind fun y101 =>
  some (!y101)

def F_slices_IndexFunc_Rect_L1 (p1 : TRect → Option Bool) : List TRect → Nat → Option Int
  | [], iF_slices_IndexFunc_Rect_L1 =>
    some (-1)
  | xF_slices_IndexFunc_Rect_L1 :: restF_slices_IndexFunc_Rect_L1, iF_slices_IndexFunc_Rect_L1 =>
    (p1 xF_slices_IndexFunc_Rect_L1).bind fun y103 =>
    if y103 then
      some (iF_slices_IndexFunc_Rect_L1 : Int)
    else
      (F_slices_IndexFunc_Rect_L1 p1 restF_slices_IndexFunc_Rect_L1 (iF_slices_IndexFunc_Rect_L1 + 1))
def F_slices_IndexFunc_Rect (p0 : (List TRect)) (p1 : TRect → Option Bool) : Option Int :=
  F_slices_IndexFunc_Rect_L1 p1 p0 0


def F_slices_ContainsFunc_Rect (p0 : (List TRect)) (p1 : TRect → Option Bool) : Option Bool :=
  (F_slices_IndexFunc_Rect p0 p1).bind fun y100 =>
  some (decide (0 ≤ y100))

def F_panel_cells_L1 (p0 : TPanel) : List TSlot → Nat → List TRect → Option ((List TRect) × Int)
  | [], iF_panel_cells_L1, l139 =>
    some (l139, 0)
  | xF_panel_cells_L1 :: restF_panel_cells_L1, iF_panel_cells_L1, l139 =>
    (F_panel_kindAt p0 xF_panel_cells_L1.Board).bind fun y141 =>
    if (decide (y141 < 0)) then
      some (([] : List TRect), 5)
    else
      (F_panel_within xF_panel_cells_L1.Quarters 0 3).bind fun y142 =>
      (if (!y142) then some true else 
        (F_panel_within xF_panel_cells_L1.At.X 0 p0.W).bind fun y145 =>
        some (!y145)
      ).bind fun g144 =>
      (if g144 then some true else 
        (F_panel_within xF_panel_cells_L1.At.Y 0 p0.H).bind fun y148 =>
        some (!y148)
      ).bind fun g147 =>
      if g147 then
        some (([] : List TRect), 1)
      else
        (F_panel_cellOf p0 xF_panel_cells_L1).bind fun y149 =>
        (F_panel_isOn p0 y149).bind fun y151 =>
        if (!y151) then
          some (([] : List TRect), 1)
        else
          (F_slices_ContainsFunc_Rect l139 (fun z0 => F_panel_cells_1 z0 y149 p0)).bind fun y152 =>
          if y152 then
            some (([] : List TRect), 12)
          else
            (apd l139 [y149]).bind fun l154 =>
            (F_panel_cells_L1 p0 restF_panel_cells_L1 (iF_panel_cells_L1 + 1)) l154
def F_panel_cells (p0 : TPanel) : Option ((List TRect) × Int) :=
  if (decide (500 < (p0.Slots.length : Int))) then
    some (([] : List TRect), 2)
  else
    F_panel_cells_L1 p0 p0.Slots 0 ([] : List TRect)


def F_panel_isOnPanel (p0 : TPanel) (p1 : TPoint) : Option Bool :=
  (F_panel_within p1.X 0 p0.W).bind fun y102 =>
  (if y102 then 
    (F_panel_within p1.Y 0 p0.H).bind fun y105 =>
    some y105
   else some false).bind fun g104 =>
  some g104


def F_panel_isInside (p0 : TRect) (p1 : TPoint) : Option Bool :=
  some ((((decide (p0.X0 < p1.X)) && (decide (p1.X < p0.X1))) && (decide (p0.Y0 < p1.Y))) && (decide (p1.Y < p0.Y1)))


def F_panel_open_1 (p0 : TRect) (q0 : TPoint) : Option Bool :=
  (F_panel_isInside p0 q0).bind fun y101 =>
  some y101

def F_slices_Index_Point_L1 (p1 : TPoint) : List TPoint → Nat → Option Int
  | [], iF_slices_Index_Point_L1 =>
    some (-1)
  | xF_slices_Index_Point_L1 :: restF_slices_Index_Point_L1, iF_slices_Index_Point_L1 =>
    if (eqTPoint p1 xF_slices_Index_Point_L1) then
      some (iF_slices_Index_Point_L1 : Int)
    else
      (F_slices_Index_Point_L1 p1 restF_slices_Index_Point_L1 (iF_slices_Index_Point_L1 + 1))
def F_slices_Index_Point (p0 : (List TPoint)) (p1 : TPoint) : Option Int :=
  F_slices_Index_Point_L1 p1 p0 0


def F_slices_Contains_Point (p0 : (List TPoint)) (p1 : TPoint) : Option Bool :=
  (F_slices_Index_Point p0 p1).bind fun y101 =>
  some (decide (0 ≤ y101))

def F_panel_open_L1 (p0 : TPanel) (y112 : ((List TRect) × Int)) : List TPoint → Nat → Option ((List TRect) × Int)
  | [], iF_panel_open_L1 =>
    some (y112.1, 0)
  | xF_panel_open_L1 :: restF_panel_open_L1, iF_panel_open_L1 =>
    (F_panel_isOnPanel p0 xF_panel_open_L1).bind fun y122 =>
    if (!y122) then
      some (([] : List TRect), 1)
    else
      (F_slices_ContainsFunc_Rect y112.1 (fun z0 => F_panel_open_1 z0 xF_panel_open_L1)).bind fun y123 =>
      if y123 then
        some (([] : List TRect), 12)
      else
        (pre p0.Marks (iF_panel_open_L1 : Int)).bind fun l124 =>
        (F_slices_Contains_Point l124 xF_panel_open_L1).bind fun y125 =>
        if y125 then
          some (([] : List TRect), 7)
        else
          (F_panel_open_L1 p0 y112 restF_panel_open_L1 (iF_panel_open_L1 + 1))
def F_panel_open (N : Nat) (p0 : TPanel) : Option ((List TRect) × Int) :=
  (F_panel_within p0.W 1 1000000).bind fun y101 =>
  (if (!y101) then some true else 
    (F_panel_within p0.H 1 1000000).bind fun y104 =>
    some (!y104)
  ).bind fun g103 =>
  (if g103 then some true else 
    (F_panel_within p0.Rail 0 1000000).bind fun y107 =>
    some (!y107)
  ).bind fun g106 =>
  (if g106 then some true else 
    (F_panel_within p0.Gap 0 1000000).bind fun y110 =>
    some (!y110)
  ).bind fun g109 =>
  if g109 then
    some (([] : List TRect), 1)
  else
    (F_panel_checkKinds N p0.Kinds).bind fun y111 =>
    if (y111 != 0) then
      some (([] : List TRect), y111)
    else
      (F_panel_cells p0).bind fun y112 =>
      if (y112.2 != 0) then
        some (([] : List TRect), y112.2)
      else
        if (decide (10 < (p0.Marks.length : Int))) then
          some (([] : List TRect), 2)
        else
          F_panel_open_L1 p0 y112 p0.Marks 0




def F_panel_Added_1 (p0 : TRect) (q0 : TRect) (q1 : TPanel) : Option Bool :=
  (F_panel_isApart q0 p0 q1.Gap).bind fun y101 =>
  some (!y101)


def F_panel_Added_2 (p0 : TPoint) (q0 : TRect) : Option Bool :=
  (F_panel_isInside q0 p0).bind fun y101 =>
  some y101

def F_slices_IndexFunc_Point_L1 (p1 : TPoint → Option Bool) : List TPoint → Nat → Option Int
  | [], iF_slices_IndexFunc_Point_L1 =>
    some (-1)
  | xF_slices_IndexFunc_Point_L1 :: restF_slices_IndexFunc_Point_L1, iF_slices_IndexFunc_Point_L1 =>
    (p1 xF_slices_IndexFunc_Point_L1).bind fun y103 =>
    if y103 then
      some (iF_slices_IndexFunc_Point_L1 : Int)
    else
      (F_slices_IndexFunc_Point_L1 p1 restF_slices_IndexFunc_Point_L1 (iF_slices_IndexFunc_Point_L1 + 1))
def F_slices_IndexFunc_Point (p0 : (List TPoint)) (p1 : TPoint → Option Bool) : Option Int :=
  F_slices_IndexFunc_Point_L1 p1 p0 0


def F_slices_ContainsFunc_Point (p0 : (List TPoint)) (p1 : TPoint → Option Bool) : Option Bool :=
  (F_slices_IndexFunc_Point p0 p1).bind fun y100 =>
  some (decide (0 ≤ y100))


def F_slices_Clone_Slot (p0 : (List TSlot)) : Option (List TSlot) :=
  (apd ([] : List TSlot) p0).bind fun l101 =>
  some l101


def F_slices_Clone_BoardKind (p0 : (List TBoardKind)) : Option (List TBoardKind) :=
  (apd ([] : List TBoardKind) p0).bind fun l101 =>
  some l101


def F_slices_Clone_Point (p0 : (List TPoint)) : Option (List TPoint) :=
  (apd ([] : List TPoint) p0).bind fun l101 =>
  some l101


def F_panel_own (p0 : TPanel) (p1 : (List TSlot)) : Option TPanel :=
  (F_slices_Clone_BoardKind p0.Kinds).bind fun y103 =>
  (F_slices_Clone_Point p0.Marks).bind fun y105 =>
  some (TPanel.mk p0.W p0.H p0.Rail p0.Gap y103 p1 y105)

def F_panel_Added_L8 (p0 : TPanel) (p1 : ByteArray) (y102 : ((List TRect) × Int)) (y104 : Int) (xF_panel_Added_L5 : Int) (kF_panel_Added_L7 : Option (TPanel × Bool × Int)) (xF_panel_Added_L7 : Int) : Nat → Int → Option (TPanel × Bool × Int)
  | 0, _ => none
  | mF_panel_Added_L8 + 1, x403 =>
    if (decide (x403 < 2)) then
      (idx p0.Kinds y104).bind fun x404 =>
      (F_panel_sizeOf x404 x403).bind fun y405 =>
      (F_panel_isOn p0 (TRect.mk xF_panel_Added_L7 xF_panel_Added_L5 (w64 (xF_panel_Added_L7 + y405.1)) (w64 (xF_panel_Added_L5 + y405.2)))).bind fun y407 =>
      (if (!y407) then some true else 
        (F_slices_ContainsFunc_Rect y102.1 (fun z0 => F_panel_Added_1 z0 (TRect.mk xF_panel_Added_L7 xF_panel_Added_L5 (w64 (xF_panel_Added_L7 + y405.1)) (w64 (xF_panel_Added_L5 + y405.2))) p0)).bind fun y410 =>
        some y410
      ).bind fun g409 =>
      (if g409 then some true else 
        (F_slices_ContainsFunc_Point p0.Marks (fun z0 => F_panel_Added_2 z0 (TRect.mk xF_panel_Added_L7 xF_panel_Added_L5 (w64 (xF_panel_Added_L7 + y405.1)) (w64 (xF_panel_Added_L5 + y405.2))))).bind fun y413 =>
        some y413
      ).bind fun g412 =>
      if g412 then
        (F_panel_Added_L8 p0 p1 y102 y104 xF_panel_Added_L5 kF_panel_Added_L7 xF_panel_Added_L7 mF_panel_Added_L8) (w64 (x403 + 1))
      else
        if (decide (500 ≤ (p0.Slots.length : Int))) then
          some ((TPanel.mk 0 0 0 0 [] [] []), false, 2)
        else
          (F_slices_Clone_Slot p0.Slots).bind fun y416 =>
          (apd y416 [(TSlot.mk p1 x403 (TPoint.mk xF_panel_Added_L7 xF_panel_Added_L5))]).bind fun l419 =>
          (F_panel_own p0 l419).bind fun y422 =>
          some (y422, true, 0)
    else
      kF_panel_Added_L7
def F_panel_Added_L7 (N : Nat) (p0 : TPanel) (p1 : ByteArray) (y102 : ((List TRect) × Int)) (y104 : Int) (kF_panel_Added_L5 : Option (TPanel × Bool × Int)) (xF_panel_Added_L5 : Int) : List Int → Nat → Option (TPanel × Bool × Int)
  | [], iF_panel_Added_L7 =>
    kF_panel_Added_L5
  | xF_panel_Added_L7 :: restF_panel_Added_L7, iF_panel_Added_L7 =>
    F_panel_Added_L8 p0 p1 y102 y104 xF_panel_Added_L5 (F_panel_Added_L7 N p0 p1 y102 y104 kF_panel_Added_L5 xF_panel_Added_L5 restF_panel_Added_L7 (iF_panel_Added_L7 + 1)) xF_panel_Added_L7 N 0
def F_panel_Added_L5 (N : Nat) (p0 : TPanel) (p1 : ByteArray) (y102 : ((List TRect) × Int)) (y104 : Int) (y140 : (List Int)) : List Int → Nat → Option (TPanel × Bool × Int)
  | [], iF_panel_Added_L5 =>
    (F_slices_Clone_Slot p0.Slots).bind fun y283 =>
    (F_panel_own p0 y283).bind fun y287 =>
    some (y287, false, 0)
  | xF_panel_Added_L5 :: restF_panel_Added_L5, iF_panel_Added_L5 =>
    F_panel_Added_L7 N p0 p1 y102 y104 (F_panel_Added_L5 N p0 p1 y102 y104 y140 restF_panel_Added_L5 (iF_panel_Added_L5 + 1)) xF_panel_Added_L5 y140 0
def F_panel_Added_L1 (N : Nat) (p0 : TPanel) (p1 : ByteArray) (y102 : ((List TRect) × Int)) (y104 : Int) : List TRect → Nat → List Int → List Int → Option (TPanel × Bool × Int)
  | [], iF_panel_Added_L1, l134, l135 =>
    (srtI l134).bind fun y136 =>
    (srtI l135).bind fun y138 =>
    (cpI y136).bind fun y140 =>
    (cpI y138).bind fun y142 =>
    F_panel_Added_L5 N p0 p1 y102 y104 y140 y142 0
  | xF_panel_Added_L1 :: restF_panel_Added_L1, iF_panel_Added_L1, l134, l135 =>
    (apd l134 [(w64 (xF_panel_Added_L1.X1 + p0.Gap))]).bind fun l428 =>
    (apd l135 [(w64 (xF_panel_Added_L1.Y1 + p0.Gap))]).bind fun l430 =>
    (F_panel_Added_L1 N p0 p1 y102 y104 restF_panel_Added_L1 (iF_panel_Added_L1 + 1)) l428 l430
def F_panel_Added (N : Nat) (p0 : TPanel) (p1 : ByteArray) : Option (TPanel × Bool × Int) :=
  (F_panel_open N p0).bind fun y102 =>
  if (y102.2 != 0) then
    some ((TPanel.mk 0 0 0 0 [] [] []), false, y102.2)
  else
    (F_panel_kindAt p0 p1).bind fun y104 =>
    if (decide (y104 < 0)) then
      some ((TPanel.mk 0 0 0 0 [] [] []), false, 9)
    else
      F_panel_Added_L1 N p0 p1 y102 y104 y102.1 0 [p0.Rail] [p0.Rail]

def F_shape_AreaOf_L1 : List TRect → Nat → Int → Option Int
  | [], iF_shape_AreaOf_L1, x110 =>
    some x110
  | xF_shape_AreaOf_L1 :: restF_shape_AreaOf_L1, iF_shape_AreaOf_L1, x110 =>
    (F_shape_AreaOf_L1 restF_shape_AreaOf_L1 (iF_shape_AreaOf_L1 + 1)) (w64 (x110 + (w64 ((w64 (xF_shape_AreaOf_L1.X1 - xF_shape_AreaOf_L1.X0)) * (w64 (xF_shape_AreaOf_L1.Y1 - xF_shape_AreaOf_L1.Y0))))))
def F_shape_AreaOf (p0 : (List TRect)) : Option Int :=
  F_shape_AreaOf_L1 p0 0 0

def F_panel_Lowest_L1 (p0 : Int) (p1 : Int) : Nat → Int → Int → Option TShare
  | 0, _, _ => none
  | mF_panel_Lowest_L1 + 1, x109, x110 =>
    if (x110 != 0) then
      (md x109 x110).bind fun q111 =>
      (F_panel_Lowest_L1 p0 p1 mF_panel_Lowest_L1) x110 q111
    else
      (dv p0 x109).bind fun q112 =>
      (dv p1 x109).bind fun q113 =>
      some (TShare.mk q112 q113)
def F_panel_Lowest (N : Nat) (p0 : Int) (p1 : Int) : Option TShare :=
  F_panel_Lowest_L1 p0 p1 N p0 p1


def F_panel_Use (N : Nat) (p0 : TPanel) : Option (TShare × Int) :=
  (F_panel_open N p0).bind fun y102 =>
  if (y102.2 != 0) then
    some ((TShare.mk 0 0), y102.2)
  else
    (F_shape_AreaOf y102.1).bind fun y104 =>
    (F_panel_Lowest N y104 (w64 (p0.W * p0.H))).bind fun y105 =>
    some (y105, 0)


def F_etchhouselaw9_awake (N : Nat)  : Option Bool :=
  (F_panel_Use N (TPanel.mk 1 1 0 0 [] [] [])).bind fun y100 =>
  some ((y100.2 == 0) && (eqTShare y100.1 (TShare.mk 0 1)))

def F_etchhouseref9_Same_L3 (p0 : TPanel) (p1 : TPanel) : Nat → Int → Option Bool
  | 0, _ => none
  | mF_etchhouseref9_Same_L3 + 1, x129 =>
    if (decide (x129 < (p0.Marks.length : Int))) then
      (idx p0.Marks x129).bind fun x130 =>
      (idx p1.Marks x129).bind fun x131 =>
      if (!(eqTPoint x130 x131)) then
        some false
      else
        (F_etchhouseref9_Same_L3 p0 p1 mF_etchhouseref9_Same_L3) (w64 (x129 + 1))
    else
      some true
def F_etchhouseref9_Same_L2 (N : Nat) (p0 : TPanel) (p1 : TPanel) : Nat → Int → Option Bool
  | 0, _ => none
  | mF_etchhouseref9_Same_L2 + 1, x119 =>
    if (decide (x119 < (p0.Slots.length : Int))) then
      (idx p0.Slots x119).bind fun x120 =>
      (idx p1.Slots x119).bind fun x121 =>
      if (!(eqTSlot x120 x121)) then
        some false
      else
        (F_etchhouseref9_Same_L2 N p0 p1 mF_etchhouseref9_Same_L2) (w64 (x119 + 1))
    else
      F_etchhouseref9_Same_L3 p0 p1 N 0
def F_etchhouseref9_Same_L1 (N : Nat) (p0 : TPanel) (p1 : TPanel) : Nat → Int → Option Bool
  | 0, _ => none
  | mF_etchhouseref9_Same_L1 + 1, x109 =>
    if (decide (x109 < (p0.Kinds.length : Int))) then
      (idx p0.Kinds x109).bind fun x110 =>
      (idx p1.Kinds x109).bind fun x111 =>
      if (!(eqTBoardKind x110 x111)) then
        some false
      else
        (F_etchhouseref9_Same_L1 N p0 p1 mF_etchhouseref9_Same_L1) (w64 (x109 + 1))
    else
      F_etchhouseref9_Same_L2 N p0 p1 N 0
def F_etchhouseref9_Same (N : Nat) (p0 : TPanel) (p1 : TPanel) : Option Bool :=
  if (((((((p0.W != p1.W) || (p0.H != p1.H)) || (p0.Rail != p1.Rail)) || (p0.Gap != p1.Gap)) || ((p0.Kinds.length : Int) != (p1.Kinds.length : Int))) || ((p0.Slots.length : Int) != (p1.Slots.length : Int))) || ((p0.Marks.length : Int) != (p1.Marks.length : Int))) then
    some false
  else
    F_etchhouseref9_Same_L1 N p0 p1 N 0

def F_slices_Equal_Slot_L1 (p1 : (List TSlot)) : List TSlot → Nat → Option Bool
  | [], iF_slices_Equal_Slot_L1 =>
    some true
  | xF_slices_Equal_Slot_L1 :: restF_slices_Equal_Slot_L1, iF_slices_Equal_Slot_L1 =>
    (idx p1 (iF_slices_Equal_Slot_L1 : Int)).bind fun x103 =>
    if (!(eqTSlot xF_slices_Equal_Slot_L1 x103)) then
      some false
    else
      (F_slices_Equal_Slot_L1 p1 restF_slices_Equal_Slot_L1 (iF_slices_Equal_Slot_L1 + 1))
def F_slices_Equal_Slot (p0 : (List TSlot)) (p1 : (List TSlot)) : Option Bool :=
  if ((p0.length : Int) != (p1.length : Int)) then
    some false
  else
    F_slices_Equal_Slot_L1 p1 p0 0


def F_panel_CheckPanel (N : Nat) (p0 : TPanel) : Option Int :=
  (F_panel_open N p0).bind fun y101 =>
  some y101.2


def F_etchhouselaw9_PanelAddedIsOneMore (N : Nat) (p0 : TPanel) (p1 : ByteArray) : Option Bool :=
  (F_panel_Added N p0 p1).bind fun y101 =>
  if (y101.2.2 != 0) then
    (if ((y101.1.W == 0) && (!y101.2.1)) then 
      (F_etchhouselaw9_awake N).bind fun y106 =>
      some y106
     else some false).bind fun g105 =>
    some g105
  else
    if (!y101.2.1) then
      (F_etchhouseref9_Same N y101.1 p0).bind fun y107 =>
      (if y107 then 
        (F_etchhouselaw9_awake N).bind fun y110 =>
        some y110
       else some false).bind fun g109 =>
      some g109
    else
      (if ((y101.1.Slots.length : Int) == (w64 ((p0.Slots.length : Int) + 1))) then 
        (pre y101.1.Slots (p0.Slots.length : Int)).bind fun l114 =>
        (F_slices_Equal_Slot l114 p0.Slots).bind fun y115 =>
        some y115
       else some false).bind fun g113 =>
      (if g113 then 
        (idx y101.1.Slots (p0.Slots.length : Int)).bind fun x118 =>
        some (sEq x118.Board p1)
       else some false).bind fun g117 =>
      (if g117 then 
        (idx y101.1.Slots (p0.Slots.length : Int)).bind fun x121 =>
        some (decide (0 ≤ x121.Quarters))
       else some false).bind fun g120 =>
      (if g120 then 
        (idx y101.1.Slots (p0.Slots.length : Int)).bind fun x124 =>
        some (decide (x124.Quarters ≤ 1))
       else some false).bind fun g123 =>
      (if g123 then 
        (F_panel_CheckPanel N y101.1).bind fun y127 =>
        some (y127 == 0)
       else some false).bind fun g126 =>
      (if g126 then 
        (F_etchhouselaw9_awake N).bind fun y130 =>
        some y130
       else some false).bind fun g129 =>
      some g129


def F_etchhouseref9_within (p0 : Int) (p1 : Int) (p2 : Int) : Option Bool :=
  some ((decide (p1 ≤ p0)) && (decide (p0 ≤ p2)))


def F_etchhouseref3_within (p0 : Int) (p1 : Int) (p2 : Int) : Option Bool :=
  some ((decide (p1 ≤ p0)) && (decide (p0 ≤ p2)))

def F_etchhouseref3_IsName_L1 (p0 : ByteArray) : Nat → Int → Option Bool
  | 0, _ => none
  | mF_etchhouseref3_IsName_L1 + 1, x105 =>
    if (decide (x105 < (p0.size : Int))) then
      (strAt p0 x105).bind fun c106 =>
      if ((!(((decide (97 ≤ c106)) && (decide (c106 ≤ 122))) || ((decide (65 ≤ c106)) && (decide (c106 ≤ 90))))) && ((x105 == 0) || (((c106 != 95) && (c106 != 45)) && (!((decide (48 ≤ c106)) && (decide (c106 ≤ 57))))))) then
        some false
      else
        (F_etchhouseref3_IsName_L1 p0 mF_etchhouseref3_IsName_L1) (w64 (x105 + 1))
    else
      (F_etchhouseref3_within (p0.size : Int) 1 40).bind fun y107 =>
      some y107
def F_etchhouseref3_IsName (N : Nat) (p0 : ByteArray) : Option Bool :=
  F_etchhouseref3_IsName_L1 p0 N 0

def F_etchhouseref9_kind_L1 (p0 : TPanel) (p1 : ByteArray) : Nat → Int → Option Int
  | 0, _ => none
  | mF_etchhouseref9_kind_L1 + 1, x106 =>
    if (decide (x106 < (p0.Kinds.length : Int))) then
      (idx p0.Kinds x106).bind fun x107 =>
      if (sEq x107.Name p1) then
        some x106
      else
        (F_etchhouseref9_kind_L1 p0 p1 mF_etchhouseref9_kind_L1) (w64 (x106 + 1))
    else
      some (-1)
def F_etchhouseref9_kind (N : Nat) (p0 : TPanel) (p1 : ByteArray) : Option Int :=
  F_etchhouseref9_kind_L1 p0 p1 N 0


def F_etchhouseref9_sizeOf (p0 : TBoardKind) (p1 : Int) : Option (Int × Int) :=
  if ((Int.tmod p1 2) == 1) then
    some (p0.H, p0.W)
  else
    some (p0.W, p0.H)


def F_etchhouseref9_lies (p0 : TPanel) (p1 : TPoint) (p2 : Int) (p3 : Int) : Option Bool :=
  (F_etchhouseref9_within p1.X p0.Rail (w64 ((w64 (p0.W - p0.Rail)) - p2))).bind fun y102 =>
  (if y102 then 
    (F_etchhouseref9_within p1.Y p0.Rail (w64 ((w64 (p0.H - p0.Rail)) - p3))).bind fun y105 =>
    some y105
   else some false).bind fun g104 =>
  some g104


def F_etchhouseref9_cellOf (N : Nat) (p0 : TPanel) (p1 : TSlot) : Option TRect :=
  (F_etchhouseref9_kind N p0 p1.Board).bind fun y103 =>
  (idx p0.Kinds y103).bind fun x104 =>
  (F_etchhouseref9_sizeOf x104 p1.Quarters).bind fun y105 =>
  some (TRect.mk p1.At.X p1.At.Y (w64 (p1.At.X + y105.1)) (w64 (p1.At.Y + y105.2)))


def F_etchhouseref9_apart (p0 : TRect) (p1 : TRect) (p2 : Int) : Option Bool :=
  some ((((decide ((w64 (p0.X1 + p2)) ≤ p1.X0)) || (decide ((w64 (p1.X1 + p2)) ≤ p0.X0))) || (decide ((w64 (p0.Y1 + p2)) ≤ p1.Y0))) || (decide ((w64 (p1.Y1 + p2)) ≤ p0.Y0)))

def F_etchhouseref9_checkSlot_L1 (N : Nat) (p0 : TPanel) (p1 : Int) (x101 : TSlot) : Nat → Int → Option Int
  | 0, _ => none
  | mF_etchhouseref9_checkSlot_L1 + 1, x119 =>
    if (decide (x119 < p1)) then
      (F_etchhouseref9_cellOf N p0 x101).bind fun y120 =>
      (idx p0.Slots x119).bind fun x121 =>
      (F_etchhouseref9_cellOf N p0 x121).bind fun y122 =>
      (F_etchhouseref9_apart y120 y122 p0.Gap).bind fun y123 =>
      if (!y123) then
        some 12
      else
        (F_etchhouseref9_checkSlot_L1 N p0 p1 x101 mF_etchhouseref9_checkSlot_L1) (w64 (x119 + 1))
    else
      some 0
def F_etchhouseref9_checkSlot (N : Nat) (p0 : TPanel) (p1 : Int) : Option Int :=
  (idx p0.Slots p1).bind fun x101 =>
  (F_etchhouseref9_kind N p0 x101.Board).bind fun y103 =>
  if (decide (y103 < 0)) then
    some 5
  else
    (F_etchhouseref9_within x101.Quarters 0 3).bind fun y104 =>
    if (!y104) then
      some 1
    else
      (idx p0.Kinds y103).bind fun x105 =>
      (F_etchhouseref9_sizeOf x105 x101.Quarters).bind fun y106 =>
      (F_etchhouseref9_lies p0 x101.At y106.1 y106.2).bind fun y107 =>
      if (!y107) then
        some 1
      else
        F_etchhouseref9_checkSlot_L1 N p0 p1 x101 N 0

def F_etchhouseref9_checkMark_L2 (p0 : TPanel) (p1 : Int) (x101 : TPoint) : Nat → Int → Option Int
  | 0, _ => none
  | mF_etchhouseref9_checkMark_L2 + 1, x125 =>
    if (decide (x125 < p1)) then
      (idx p0.Marks x125).bind fun x126 =>
      if (eqTPoint x126 x101) then
        some 7
      else
        (F_etchhouseref9_checkMark_L2 p0 p1 x101 mF_etchhouseref9_checkMark_L2) (w64 (x125 + 1))
    else
      some 0
def F_etchhouseref9_checkMark_L1 (N : Nat) (p0 : TPanel) (p1 : Int) (x101 : TPoint) : Nat → Int → Option Int
  | 0, _ => none
  | mF_etchhouseref9_checkMark_L1 + 1, x116 =>
    if (decide (x116 < (p0.Slots.length : Int))) then
      (idx p0.Slots x116).bind fun x118 =>
      (F_etchhouseref9_cellOf N p0 x118).bind fun y119 =>
      if ((((decide (y119.X0 < x101.X)) && (decide (x101.X < y119.X1))) && (decide (y119.Y0 < x101.Y))) && (decide (x101.Y < y119.Y1))) then
        some 12
      else
        (F_etchhouseref9_checkMark_L1 N p0 p1 x101 mF_etchhouseref9_checkMark_L1) (w64 (x116 + 1))
    else
      F_etchhouseref9_checkMark_L2 p0 p1 x101 N 0
def F_etchhouseref9_checkMark (N : Nat) (p0 : TPanel) (p1 : Int) : Option Int :=
  (idx p0.Marks p1).bind fun x101 =>
  (F_etchhouseref9_within x101.X 0 p0.W).bind fun y103 =>
  (if (!y103) then some true else 
    (F_etchhouseref9_within x101.Y 0 p0.H).bind fun y106 =>
    some (!y106)
  ).bind fun g105 =>
  if g105 then
    some 1
  else
    F_etchhouseref9_checkMark_L1 N p0 p1 x101 N 0

def F_etchhouseref9_CheckPanel_L3 (N : Nat) (p0 : TPanel) : Nat → Int → Option Int
  | 0, _ => none
  | mF_etchhouseref9_CheckPanel_L3 + 1, x157 =>
    if (decide (x157 < (p0.Marks.length : Int))) then
      (F_etchhouseref9_checkMark N p0 x157).bind fun y158 =>
      if (y158 != 0) then
        some y158
      else
        (F_etchhouseref9_CheckPanel_L3 N p0 mF_etchhouseref9_CheckPanel_L3) (w64 (x157 + 1))
    else
      some 0
def F_etchhouseref9_CheckPanel_L2 (N : Nat) (p0 : TPanel) : Nat → Int → Option Int
  | 0, _ => none
  | mF_etchhouseref9_CheckPanel_L2 + 1, x150 =>
    if (decide (x150 < (p0.Slots.length : Int))) then
      (F_etchhouseref9_checkSlot N p0 x150).bind fun y151 =>
      if (y151 != 0) then
        some y151
      else
        (F_etchhouseref9_CheckPanel_L2 N p0 mF_etchhouseref9_CheckPanel_L2) (w64 (x150 + 1))
    else
      if (decide (10 < (p0.Marks.length : Int))) then
        some 2
      else
        F_etchhouseref9_CheckPanel_L3 N p0 N 0
def F_etchhouseref9_CheckPanel_L1 (N : Nat) (p0 : TPanel) : Nat → Int → Option Int
  | 0, _ => none
  | mF_etchhouseref9_CheckPanel_L1 + 1, x134 =>
    if (decide (x134 < (p0.Kinds.length : Int))) then
      (idx p0.Kinds x134).bind fun x135 =>
      (F_etchhouseref3_IsName N x135.Name).bind fun y137 =>
      if (!y137) then
        some 5
      else
        (F_etchhouseref9_within x135.W 1 1000000).bind fun y138 =>
        (if (!y138) then some true else 
          (F_etchhouseref9_within x135.H 1 1000000).bind fun y141 =>
          some (!y141)
        ).bind fun g140 =>
        if g140 then
          some 1
        else
          (if (decide (0 < x134)) then 
            (idx p0.Kinds (w64 (x134 - 1))).bind fun x144 =>
            some (sLt x135.Name x144.Name || sEq x135.Name x144.Name)
           else some false).bind fun g143 =>
          if g143 then
            some 8
          else
            (F_etchhouseref9_CheckPanel_L1 N p0 mF_etchhouseref9_CheckPanel_L1) (w64 (x134 + 1))
    else
      if (decide (500 < (p0.Slots.length : Int))) then
        some 2
      else
        F_etchhouseref9_CheckPanel_L2 N p0 N 0
def F_etchhouseref9_CheckPanel (N : Nat) (p0 : TPanel) : Option Int :=
  (F_etchhouseref9_within p0.W 1 1000000).bind fun y101 =>
  (if (!y101) then some true else 
    (F_etchhouseref9_within p0.H 1 1000000).bind fun y104 =>
    some (!y104)
  ).bind fun g103 =>
  (if g103 then some true else 
    (F_etchhouseref9_within p0.Rail 0 1000000).bind fun y107 =>
    some (!y107)
  ).bind fun g106 =>
  (if g106 then some true else 
    (F_etchhouseref9_within p0.Gap 0 1000000).bind fun y110 =>
    some (!y110)
  ).bind fun g109 =>
  if g109 then
    some 1
  else
    if (decide (50 < (p0.Kinds.length : Int))) then
      some 2
    else
      F_etchhouseref9_CheckPanel_L1 N p0 N 0

def F_etchhouseref9_cells_L1 (N : Nat) (p0 : TPanel) : Nat → List TRect → Int → Option (List TRect)
  | 0, _, _ => none
  | mF_etchhouseref9_cells_L1 + 1, l115, x116 =>
    if (decide (x116 < (p0.Slots.length : Int))) then
      (idx p0.Slots x116).bind fun x118 =>
      (F_etchhouseref9_cellOf N p0 x118).bind fun y119 =>
      (apd l115 [y119]).bind fun l120 =>
      (F_etchhouseref9_cells_L1 N p0 mF_etchhouseref9_cells_L1) l120 (w64 (x116 + 1))
    else
      some l115
def F_etchhouseref9_cells (N : Nat) (p0 : TPanel) : Option (List TRect) :=
  F_etchhouseref9_cells_L1 N p0 N ([] : List TRect) 0


def F_etchhouseref9_least (p0 : TSlot) (p1 : TSlot) : Option Bool :=
  if (p0.At.Y != p1.At.Y) then
    some (decide (p0.At.Y < p1.At.Y))
  else
    if (p0.At.X != p1.At.X) then
      some (decide (p0.At.X < p1.At.X))
    else
      some (decide (p0.Quarters < p1.Quarters))

def F_etchhouseref9_marked_L1 (p0 : TPanel) (p1 : TRect) : Nat → Int → Option Bool
  | 0, _ => none
  | mF_etchhouseref9_marked_L1 + 1, x109 =>
    if (decide (x109 < (p0.Marks.length : Int))) then
      (idx p0.Marks x109).bind fun x110 =>
      if ((((decide (p1.X0 < x110.X)) && (decide (x110.X < p1.X1))) && (decide (p1.Y0 < x110.Y))) && (decide (x110.Y < p1.Y1))) then
        some true
      else
        (F_etchhouseref9_marked_L1 p0 p1 mF_etchhouseref9_marked_L1) (w64 (x109 + 1))
    else
      some false
def F_etchhouseref9_marked (N : Nat) (p0 : TPanel) (p1 : TRect) : Option Bool :=
  F_etchhouseref9_marked_L1 p0 p1 N 0

def F_etchhouseref9_fits_L1 (N : Nat) (p0 : TPanel) (p1 : TSlot) : Nat → Int → Option Bool
  | 0, _ => none
  | mF_etchhouseref9_fits_L1 + 1, x122 =>
    if (decide (x122 < (p0.Slots.length : Int))) then
      (F_etchhouseref9_cellOf N p0 p1).bind fun y123 =>
      (idx p0.Slots x122).bind fun x124 =>
      (F_etchhouseref9_cellOf N p0 x124).bind fun y125 =>
      (F_etchhouseref9_apart y123 y125 p0.Gap).bind fun y126 =>
      if (!y126) then
        some false
      else
        (F_etchhouseref9_fits_L1 N p0 p1 mF_etchhouseref9_fits_L1) (w64 (x122 + 1))
    else
      some true
def F_etchhouseref9_fits (N : Nat) (p0 : TPanel) (p1 : TSlot) : Option Bool :=
  (F_etchhouseref9_kind N p0 p1.Board).bind fun y102 =>
  (idx p0.Kinds y102).bind fun x103 =>
  (F_etchhouseref9_sizeOf x103 p1.Quarters).bind fun y104 =>
  (F_etchhouseref9_lies p0 p1.At y104.1 y104.2).bind fun y105 =>
  (if (!y105) then some true else 
    (F_etchhouseref9_cellOf N p0 p1).bind fun y109 =>
    (F_etchhouseref9_marked N p0 y109).bind fun y110 =>
    some y110
  ).bind fun g108 =>
  if g108 then
    some false
  else
    F_etchhouseref9_fits_L1 N p0 p1 N 0


def F_etchhouseref9_laid (N : Nat) (p0 : TPanel) (p1 : (List TSlot)) : Option (TPanel × Int) :=
  (F_etchhouseref9_CheckPanel N (TPanel.mk p0.W p0.H p0.Rail p0.Gap p0.Kinds p1 p0.Marks)).bind fun y102 =>
  if (y102 != 0) then
    some ((TPanel.mk 0 0 0 0 [] [] []), y102)
  else
    some ((TPanel.mk p0.W p0.H p0.Rail p0.Gap p0.Kinds p1 p0.Marks), 0)

def F_etchhouseref9_Added_L14 (N : Nat) (p0 : TPanel) (p1 : ByteArray) (l131 : List Int) (l132 : List Int) (x537 : Int) (x663 : Int) (kF_etchhouseref9_Added_L13 : ByteArray → Int → Int → Int → Bool → Int → Option (TPanel × Bool × Int)) : Nat → ByteArray → Int → Int → Int → Bool → Int → Option (TPanel × Bool × Int)
  | 0, _, _, _, _, _, _ => none
  | mF_etchhouseref9_Added_L14 + 1, x700, x701, x702, x703, x704, x705 =>
    if (decide (x705 < 2)) then
      (idx l131 x537).bind fun x707 =>
      (idx l132 x663).bind fun x708 =>
      (if (!x704) then some true else 
        (F_etchhouseref9_least (TSlot.mk p1 x705 (TPoint.mk x707 x708)) (TSlot.mk x700 x701 (TPoint.mk x702 x703))).bind fun y711 =>
        some y711
      ).bind fun g710 =>
      (if g710 then 
        (F_etchhouseref9_fits N p0 (TSlot.mk p1 x705 (TPoint.mk x707 x708))).bind fun y714 =>
        some y714
       else some false).bind fun g713 =>
      if g713 then
        (F_etchhouseref9_Added_L14 N p0 p1 l131 l132 x537 x663 kF_etchhouseref9_Added_L13 mF_etchhouseref9_Added_L14) p1 x705 x707 x708 true (w64 (x705 + 1))
      else
        (F_etchhouseref9_Added_L14 N p0 p1 l131 l132 x537 x663 kF_etchhouseref9_Added_L13 mF_etchhouseref9_Added_L14) x700 x701 x702 x703 x704 (w64 (x705 + 1))
    else
      kF_etchhouseref9_Added_L13 x700 x701 x702 x703 x704 (w64 (x663 + 1))
def F_etchhouseref9_Added_L13 (N : Nat) (p0 : TPanel) (p1 : ByteArray) (l131 : List Int) (l132 : List Int) (x537 : Int) (kF_etchhouseref9_Added_L10 : ByteArray → Int → Int → Int → Bool → Int → Option (TPanel × Bool × Int)) : Nat → ByteArray → Int → Int → Int → Bool → Int → Option (TPanel × Bool × Int)
  | 0, _, _, _, _, _, _ => none
  | mF_etchhouseref9_Added_L13 + 1, x658, x659, x660, x661, x662, x663 =>
    if (decide (x663 < (l132.length : Int))) then
      F_etchhouseref9_Added_L14 N p0 p1 l131 l132 x537 x663 (F_etchhouseref9_Added_L13 N p0 p1 l131 l132 x537 kF_etchhouseref9_Added_L10 mF_etchhouseref9_Added_L13) N x658 x659 x660 x661 x662 0
    else
      kF_etchhouseref9_Added_L10 x658 x659 x660 x661 x662 (w64 (x537 + 1))
def F_etchhouseref9_Added_L10 (N : Nat) (p0 : TPanel) (p1 : ByteArray) (l131 : List Int) (l132 : List Int) : Nat → ByteArray → Int → Int → Int → Bool → Int → Option (TPanel × Bool × Int)
  | 0, _, _, _, _, _, _ => none
  | mF_etchhouseref9_Added_L10 + 1, x532, x533, x534, x535, x536, x537 =>
    if (decide (x537 < (l131.length : Int))) then
      F_etchhouseref9_Added_L13 N p0 p1 l131 l132 x537 (F_etchhouseref9_Added_L10 N p0 p1 l131 l132 mF_etchhouseref9_Added_L10) N x532 x533 x534 x535 x536 0
    else
      if (!x536) then
        some (p0, false, 0)
      else
        if ((p0.Slots.length : Int) == 500) then
          some ((TPanel.mk 0 0 0 0 [] [] []), false, 2)
        else
          (apd ([] : List TSlot) p0.Slots).bind fun l715 =>
          (apd l715 [(TSlot.mk x532 x533 (TPoint.mk x534 x535))]).bind fun l718 =>
          (F_etchhouseref9_laid N p0 l718).bind fun y721 =>
          some (y721.1, (y721.2 == 0), y721.2)
def F_etchhouseref9_Added_L1 (N : Nat) (p0 : TPanel) (p1 : ByteArray) (y107 : (List TRect)) : Nat → List Int → List Int → Int → Option (TPanel × Bool × Int)
  | 0, _, _, _ => none
  | mF_etchhouseref9_Added_L1 + 1, l131, l132, x133 =>
    if (decide (x133 < (y107.length : Int))) then
      (idx y107 x133).bind fun x135 =>
      (apd l131 [(w64 (x135.X1 + p0.Gap))]).bind fun l136 =>
      (idx y107 x133).bind fun x138 =>
      (apd l132 [(w64 (x138.Y1 + p0.Gap))]).bind fun l139 =>
      (F_etchhouseref9_Added_L1 N p0 p1 y107 mF_etchhouseref9_Added_L1) l136 l139 (w64 (x133 + 1))
    else
      F_etchhouseref9_Added_L10 N p0 p1 l131 l132 N (⟨#[]⟩) 0 0 0 false 0
def F_etchhouseref9_Added (N : Nat) (p0 : TPanel) (p1 : ByteArray) : Option (TPanel × Bool × Int) :=
  (F_etchhouseref9_CheckPanel N p0).bind fun y102 =>
  if (y102 != 0) then
    some ((TPanel.mk 0 0 0 0 [] [] []), false, y102)
  else
    (F_etchhouseref9_kind N p0 p1).bind fun y103 =>
    if (decide (y103 < 0)) then
      some ((TPanel.mk 0 0 0 0 [] [] []), false, 9)
    else
      (F_etchhouseref9_cells N p0).bind fun y107 =>
      F_etchhouseref9_Added_L1 N p0 p1 y107 N [p0.Rail] [p0.Rail] 0

def F_panel_Needed_L1 (p1 : ByteArray) (p2 : Int) : List TSlot → Nat → Int → Option (Int × Int × Int)
  | [], iF_panel_Needed_L1, x114 =>
    if (x114 == 0) then
      some (0, 0, 13)
    else
      (dv (w64 ((w64 (p2 + x114)) - 1)) x114).bind fun q115 =>
      some (q115, (w64 ((w64 (q115 * x114)) - p2)), 0)
  | xF_panel_Needed_L1 :: restF_panel_Needed_L1, iF_panel_Needed_L1, x114 =>
    if (sEq xF_panel_Needed_L1.Board p1) then
      (F_panel_Needed_L1 p1 p2 restF_panel_Needed_L1 (iF_panel_Needed_L1 + 1)) (w64 (x114 + 1))
    else
      (F_panel_Needed_L1 p1 p2 restF_panel_Needed_L1 (iF_panel_Needed_L1 + 1)) x114
def F_panel_Needed (N : Nat) (p0 : TPanel) (p1 : ByteArray) (p2 : Int) : Option (Int × Int × Int) :=
  (F_panel_CheckPanel N p0).bind fun y101 =>
  if (y101 != 0) then
    some (0, 0, y101)
  else
    (F_panel_kindAt p0 p1).bind fun y102 =>
    if (decide (y102 < 0)) then
      some (0, 0, 9)
    else
      (F_panel_within p2 0 1000000).bind fun y103 =>
      if (!y103) then
        some (0, 0, 1)
      else
        F_panel_Needed_L1 p1 p2 p0.Slots 0 0

def F_etchhouseref9_Needed_L1 (p0 : TPanel) (p1 : ByteArray) (p2 : Int) : Nat → Int → Int → Option (Int × Int × Int)
  | 0, _, _ => none
  | mF_etchhouseref9_Needed_L1 + 1, x112, x113 =>
    if (decide (x113 < (p0.Slots.length : Int))) then
      (idx p0.Slots x113).bind fun x114 =>
      if (sEq x114.Board p1) then
        (F_etchhouseref9_Needed_L1 p0 p1 p2 mF_etchhouseref9_Needed_L1) (w64 (x112 + 1)) (w64 (x113 + 1))
      else
        (F_etchhouseref9_Needed_L1 p0 p1 p2 mF_etchhouseref9_Needed_L1) x112 (w64 (x113 + 1))
    else
      if (x112 == 0) then
        some (0, 0, 13)
      else
        (dv (w64 ((w64 (p2 + x112)) - 1)) x112).bind fun q115 =>
        some (q115, (w64 ((w64 (q115 * x112)) - p2)), 0)
def F_etchhouseref9_Needed (N : Nat) (p0 : TPanel) (p1 : ByteArray) (p2 : Int) : Option (Int × Int × Int) :=
  (F_etchhouseref9_CheckPanel N p0).bind fun y101 =>
  if (y101 != 0) then
    some (0, 0, y101)
  else
    (F_etchhouseref9_kind N p0 p1).bind fun y102 =>
    if (decide (y102 < 0)) then
      some (0, 0, 9)
    else
      (F_etchhouseref9_within p2 0 1000000).bind fun y103 =>
      if (!y103) then
        some (0, 0, 1)
      else
        F_etchhouseref9_Needed_L1 p0 p1 p2 N 0 0


def F_etchhouselaw9_PanelAddedMatchSpec (N : Nat) (p0 : TPanel) (p1 : ByteArray) (p2 : Int) : Option Bool :=
  (F_panel_Added N p0 p1).bind fun y101 =>
  (F_etchhouseref9_Added N p0 p1).bind fun y104 =>
  (F_panel_Needed N p0 p1 p2).bind fun y107 =>
  (F_etchhouseref9_Needed N p0 p1 p2).bind fun y108 =>
  (F_etchhouseref9_Same N y101.1 y104.1).bind fun y109 =>
  (if (((((y109 && (y101.2.1 == y104.2.1)) && (y101.2.2 == y104.2.2)) && (y107.1 == y108.1)) && (y107.2.1 == y108.2.1)) && (y107.2.2 == y108.2.2)) then 
    (F_etchhouselaw9_awake N).bind fun y112 =>
    some y112
   else some false).bind fun g111 =>
  some g111

end Go.Proofs.Ytpkicpnbpldkpaa
