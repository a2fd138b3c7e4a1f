/- The plain functions: what each function of the program computes; none where it would panic. -/
import Derived.Test.YtmbjoffligicnaaGreatDoorXT
namespace Go.Proofs.YtmbjoffligicnaaGreatDoor
open Go.RowKit

def F_panel_within (p0 : Int) (p1 : Int) (p2 : Int) : Option Bool :=
  some ((decide (p1 ≤ p0)) && (decide (p0 ≤ p2)))

def F_plot_IsName_L1 (p0 : ByteArray) : Nat → Int → Option Bool
  | 0, _ => none
  | mL1 + 1, x105 =>
    if (decide (x105 < (p0.size : Int))) then
      (strAt p0 x105).bind fun c106 =>
      if ((!(((decide (97 ≤ c106)) && (decide (c106 ≤ 122))) || ((decide (65 ≤ c106)) && (decide (c106 ≤ 90))))) && ((x105 == 0) || ((((decide (c106 < 48)) || (decide (57 < c106))) && (c106 != 95)) && (c106 != 45)))) then
        some false
      else
        (F_plot_IsName_L1 p0 mL1) (w64 (x105 + 1))
    else
      some ((decide (1 ≤ (p0.size : Int))) && (decide ((p0.size : Int) ≤ 40)))
def F_plot_IsName (N : Nat) (p0 : ByteArray) : Option Bool :=
  F_plot_IsName_L1 p0 N 0

def F_panel_checkKinds_L1 (N : Nat) (p0 : (List TBoardKind)) : List TBoardKind → Nat → Option Int
  | [], iL1 =>
    some 0
  | xL1 :: restL1, iL1 =>
    (F_plot_IsName N xL1.Name).bind fun y112 =>
    if (!y112) then
      some 5
    else
      (F_panel_within xL1.W 1 1000000).bind fun y113 =>
      (if (!y113) then some true else 
        (F_panel_within xL1.H 1 1000000).bind fun y116 =>
        some (!y116)
      ).bind fun g115 =>
      if g115 then
        some 1
      else
        (if (decide (0 < (iL1 : Int))) then 
          (idx p0 (w64 ((iL1 : Int) - 1))).bind fun x119 =>
          some (sLt xL1.Name x119.Name || sEq xL1.Name x119.Name)
         else some false).bind fun g118 =>
        if g118 then
          some 8
        else
          (F_panel_checkKinds_L1 N p0 restL1 (iL1 + 1))
def F_panel_checkKinds (N : Nat) (p0 : (List TBoardKind)) : Option Int :=
  if (decide (50 < (p0.length : Int))) then
    some 2
  else
    F_panel_checkKinds_L1 N p0 p0 0


def F_panel_kindAt_1 (p0 : TBoardKind) (q0 : ByteArray) : Option Bool :=
  some (sEq p0.Name q0)

def F_slices_IndexFunc_BoardKind_L1 (p1 : TBoardKind → Option Bool) : List TBoardKind → Nat → Option Int
  | [], iL1 =>
    some (-1)
  | xL1 :: restL1, iL1 =>
    (p1 xL1).bind fun y103 =>
    if y103 then
      some (iL1 : Int)
    else
      (F_slices_IndexFunc_BoardKind_L1 p1 restL1 (iL1 + 1))
def F_slices_IndexFunc_BoardKind (p0 : (List TBoardKind)) (p1 : TBoardKind → Option Bool) : Option Int :=
  F_slices_IndexFunc_BoardKind_L1 p1 p0 0


def F_panel_kindAt (p0 : TPanel) (p1 : ByteArray) : Option Int :=
  (F_slices_IndexFunc_BoardKind p0.Kinds (fun z0 => F_panel_kindAt_1 z0 p1)).bind fun y102 =>
  some y102


def F_panel_sizeOf (p0 : TBoardKind) (p1 : Int) : Option (Int × Int) :=
  if ((Int.tmod p1 2) == 1) then
    some (p0.H, p0.W)
  else
    some (p0.W, p0.H)


def F_panel_cellOf (p0 : TPanel) (p1 : TSlot) : Option TRect :=
  (F_panel_kindAt p0 p1.Board).bind fun y103 =>
  (idx p0.Kinds y103).bind fun x104 =>
  (F_panel_sizeOf x104 p1.Quarters).bind fun y105 =>
  some (TRect.mk p1.At.X p1.At.Y (w64 (p1.At.X + y105.1)) (w64 (p1.At.Y + y105.2)))


def F_panel_isOn (p0 : TPanel) (p1 : TRect) : Option Bool :=
  some ((((((decide (p0.Rail ≤ p1.X0)) && (decide (p0.Rail ≤ p1.Y0))) && (decide (p1.X0 ≤ p0.W))) && (decide (p1.Y0 ≤ p0.H))) && (decide (p1.X1 ≤ (w64 (p0.W - p0.Rail))))) && (decide (p1.Y1 ≤ (w64 (p0.H - p0.Rail)))))


def F_panel_isApart (p0 : TRect) (p1 : TRect) (p2 : Int) : Option Bool :=
  some ((((decide ((w64 (p0.X1 + p2)) ≤ p1.X0)) || (decide ((w64 (p1.X1 + p2)) ≤ p0.X0))) || (decide ((w64 (p0.Y1 + p2)) ≤ p1.Y0))) || (decide ((w64 (p1.Y1 + p2)) ≤ p0.Y0)))


def F_panel_cells_1 (p0 : TRect) (q0 : TRect) (q1 : TPanel) : Option Bool :=
  (F_panel_isApart q0 p0 q1.Gap).bind fun y101 =>
  some (!y101)

def F_slices_IndexFunc_Rect_L1 (p1 : TRect → Option Bool) : List TRect → Nat → Option Int
  | [], iL1 =>
    some (-1)
  | xL1 :: restL1, iL1 =>
    (p1 xL1).bind fun y103 =>
    if y103 then
      some (iL1 : Int)
    else
      (F_slices_IndexFunc_Rect_L1 p1 restL1 (iL1 + 1))
def F_slices_IndexFunc_Rect (p0 : (List TRect)) (p1 : TRect → Option Bool) : Option Int :=
  F_slices_IndexFunc_Rect_L1 p1 p0 0


def F_slices_ContainsFunc_Rect (p0 : (List TRect)) (p1 : TRect → Option Bool) : Option Bool :=
  (F_slices_IndexFunc_Rect p0 p1).bind fun y100 =>
  some (decide (0 ≤ y100))

def F_panel_cells_L1 (p0 : TPanel) : List TSlot → Nat → List TRect → Option ((List TRect) × Int)
  | [], iL1, l139 =>
    some (l139, 0)
  | xL1 :: restL1, iL1, l139 =>
    (F_panel_kindAt p0 xL1.Board).bind fun y141 =>
    if (decide (y141 < 0)) then
      some (([] : List TRect), 5)
    else
      (F_panel_within xL1.Quarters 0 3).bind fun y142 =>
      (if (!y142) then some true else 
        (F_panel_within xL1.At.X 0 p0.W).bind fun y145 =>
        some (!y145)
      ).bind fun g144 =>
      (if g144 then some true else 
        (F_panel_within xL1.At.Y 0 p0.H).bind fun y148 =>
        some (!y148)
      ).bind fun g147 =>
      if g147 then
        some (([] : List TRect), 1)
      else
        (F_panel_cellOf p0 xL1).bind fun y149 =>
        (F_panel_isOn p0 y149).bind fun y151 =>
        if (!y151) then
          some (([] : List TRect), 1)
        else
          (F_slices_ContainsFunc_Rect l139 (fun z0 => F_panel_cells_1 z0 y149 p0)).bind fun y152 =>
          if y152 then
            some (([] : List TRect), 12)
          else
            (apd l139 [y149]).bind fun l154 =>
            (F_panel_cells_L1 p0 restL1 (iL1 + 1)) l154
def F_panel_cells (p0 : TPanel) : Option ((List TRect) × Int) :=
  if (decide (500 < (p0.Slots.length : Int))) then
    some (([] : List TRect), 2)
  else
    F_panel_cells_L1 p0 p0.Slots 0 ([] : List TRect)


def F_panel_isOnPanel (p0 : TPanel) (p1 : TPoint) : Option Bool :=
  (F_panel_within p1.X 0 p0.W).bind fun y102 =>
  (if y102 then 
    (F_panel_within p1.Y 0 p0.H).bind fun y105 =>
    some y105
   else some false).bind fun g104 =>
  some g104


def F_panel_isInside (p0 : TRect) (p1 : TPoint) : Option Bool :=
  some ((((decide (p0.X0 < p1.X)) && (decide (p1.X < p0.X1))) && (decide (p0.Y0 < p1.Y))) && (decide (p1.Y < p0.Y1)))


def F_panel_open_1 (p0 : TRect) (q0 : TPoint) : Option Bool :=
  (F_panel_isInside p0 q0).bind fun y101 =>
  some y101

def F_slices_Index_Point_L1 (p1 : TPoint) : List TPoint → Nat → Option Int
  | [], iL1 =>
    some (-1)
  | xL1 :: restL1, iL1 =>
    if (eqTPoint p1 xL1) then
      some (iL1 : Int)
    else
      (F_slices_Index_Point_L1 p1 restL1 (iL1 + 1))
def F_slices_Index_Point (p0 : (List TPoint)) (p1 : TPoint) : Option Int :=
  F_slices_Index_Point_L1 p1 p0 0


def F_slices_Contains_Point (p0 : (List TPoint)) (p1 : TPoint) : Option Bool :=
  (F_slices_Index_Point p0 p1).bind fun y101 =>
  some (decide (0 ≤ y101))

def F_panel_open_L1 (p0 : TPanel) (y112 : ((List TRect) × Int)) : List TPoint → Nat → Option ((List TRect) × Int)
  | [], iL1 =>
    some (y112.1, 0)
  | xL1 :: restL1, iL1 =>
    (F_panel_isOnPanel p0 xL1).bind fun y122 =>
    if (!y122) then
      some (([] : List TRect), 1)
    else
      (F_slices_ContainsFunc_Rect y112.1 (fun z0 => F_panel_open_1 z0 xL1)).bind fun y123 =>
      if y123 then
        some (([] : List TRect), 12)
      else
        (pre p0.Marks (iL1 : Int)).bind fun l124 =>
        (F_slices_Contains_Point l124 xL1).bind fun y125 =>
        if y125 then
          some (([] : List TRect), 7)
        else
          (F_panel_open_L1 p0 y112 restL1 (iL1 + 1))
def F_panel_open (N : Nat) (p0 : TPanel) : Option ((List TRect) × Int) :=
  (F_panel_within p0.W 1 1000000).bind fun y101 =>
  (if (!y101) then some true else 
    (F_panel_within p0.H 1 1000000).bind fun y104 =>
    some (!y104)
  ).bind fun g103 =>
  (if g103 then some true else 
    (F_panel_within p0.Rail 0 1000000).bind fun y107 =>
    some (!y107)
  ).bind fun g106 =>
  (if g106 then some true else 
    (F_panel_within p0.Gap 0 1000000).bind fun y110 =>
    some (!y110)
  ).bind fun g109 =>
  if g109 then
    some (([] : List TRect), 1)
  else
    (F_panel_checkKinds N p0.Kinds).bind fun y111 =>
    if (y111 != 0) then
      some (([] : List TRect), y111)
    else
      (F_panel_cells p0).bind fun y112 =>
      if (y112.2 != 0) then
        some (([] : List TRect), y112.2)
      else
        if (decide (10 < (p0.Marks.length : Int))) then
          some (([] : List TRect), 2)
        else
          F_panel_open_L1 p0 y112 p0.Marks 0


def F_panel_CheckPanel (N : Nat) (p0 : TPanel) : Option Int :=
  (F_panel_open N p0).bind fun y101 =>
  some y101.2




def F_panel_Text_1 (p0 : (List ByteArray)) (q0 : ByteArray) : Option ByteArray :=
  (joinF p0 (⟨#[32]⟩)).bind fun y100 =>
  (catS y100 (⟨#[10]⟩)).bind fun t101 =>
  (sbW q0 t101).bind fun y102 =>
  some y102



def F_panel_Text_L3 : List TPoint → Nat → ByteArray → Option (ByteArray × Int)
  | [], iL3, m174 =>
    (sbS m174).bind fun y175 =>
    some (y175.1, 0)
  | xL3 :: restL3, iL3, m174 =>
    (itoaF xL3.X).bind fun y179 =>
    (itoaF xL3.Y).bind fun y180 =>
    (F_panel_Text_1 ([⟨#[109, 97, 114, 107]⟩, y179, y180]) m174).bind fun y181 =>
    (F_panel_Text_L3 restL3 (iL3 + 1)) y181
def F_panel_Text_L2 (p0 : TPanel) : List TSlot → Nat → ByteArray → Option (ByteArray × Int)
  | [], iL2, m153 =>
    F_panel_Text_L3 p0.Marks 0 m153
  | xL2 :: restL2, iL2, m153 =>
    (itoaF xL2.Quarters).bind fun y185 =>
    (itoaF xL2.At.X).bind fun y186 =>
    (itoaF xL2.At.Y).bind fun y187 =>
    (F_panel_Text_1 ([⟨#[115, 108, 111, 116]⟩, xL2.Board, y185, y186, y187]) m153).bind fun y188 =>
    (F_panel_Text_L2 p0 restL2 (iL2 + 1)) y188
def F_panel_Text_L1 (p0 : TPanel) : List TBoardKind → Nat → ByteArray → Option (ByteArray × Int)
  | [], iL1, m130 =>
    F_panel_Text_L2 p0 p0.Slots 0 m130
  | xL1 :: restL1, iL1, m130 =>
    (itoaF xL1.W).bind fun y192 =>
    (itoaF xL1.H).bind fun y193 =>
    (F_panel_Text_1 ([⟨#[98, 111, 97, 114, 100]⟩, xL1.Name, y192, y193]) m130).bind fun y194 =>
    (F_panel_Text_L1 p0 restL1 (iL1 + 1)) y194
def F_panel_Text (N : Nat) (p0 : TPanel) : Option (ByteArray × Int) :=
  (F_panel_CheckPanel N p0).bind fun y101 =>
  if (y101 != 0) then
    some (⟨#[]⟩, y101)
  else
    (itoaF p0.W).bind fun y104 =>
    (itoaF p0.H).bind fun y105 =>
    (itoaF p0.Rail).bind fun y106 =>
    (itoaF p0.Gap).bind fun y107 =>
    (F_panel_Text_1 ([⟨#[112, 97, 110, 101, 108]⟩, y104, y105, y106, y107]) ByteArray.empty).bind fun y108 =>
    F_panel_Text_L1 p0 p0.Kinds 0 y108



def F_slices_IndexFunc_string_L1 (p1 : ByteArray → Option Bool) : List ByteArray → Nat → Option Int
  | [], iL1 =>
    some (-1)
  | xL1 :: restL1, iL1 =>
    (p1 xL1).bind fun y103 =>
    if y103 then
      some (iL1 : Int)
    else
      (F_slices_IndexFunc_string_L1 p1 restL1 (iL1 + 1))
def F_slices_IndexFunc_string (p0 : (List ByteArray)) (p1 : ByteArray → Option Bool) : Option Int :=
  F_slices_IndexFunc_string_L1 p1 p0 0


def F_slices_ContainsFunc_string (p0 : (List ByteArray)) (p1 : ByteArray → Option Bool) : Option Bool :=
  (F_slices_IndexFunc_string p0 p1).bind fun y100 =>
  some (decide (0 ≤ y100))



def F_plot_IsRow_1 (p0 : Int) : Option Bool :=
  some ((decide (p0 < 33)) || (decide (126 < p0)))


def F_plot_IsRow (p0 : ByteArray) : Option Bool :=
  (if (!sEq p0 (⟨#[]⟩)) then 
    (containsF p0 (fun z0 => F_plot_IsRow_1 z0)).bind fun y102 =>
    some (!y102)
   else some false).bind fun g101 =>
  some g101


def F_panel_readLine_1 (p0 : ByteArray) : Option Bool :=
  (F_plot_IsRow p0).bind fun y100 =>
  some (!y100)


def F_stringslite_HasPrefix (p0 : ByteArray) (p1 : ByteArray) : Option Bool :=
  (if (decide ((p1.size : Int) ≤ (p0.size : Int))) then 
    (strCut p0 0 (p1.size : Int)).bind fun t102 =>
    some (sEq t102 p1)
   else some false).bind fun g101 =>
  some g101


def F_stringslite_TrimPrefix (p0 : ByteArray) (p1 : ByteArray) : Option ByteArray :=
  (F_stringslite_HasPrefix p0 p1).bind fun y100 =>
  if y100 then
    (strCut p0 (p1.size : Int) (p0.size : Int)).bind fun t101 =>
    some t101
  else
    some p0


def F_strings_TrimPrefix (p0 : ByteArray) (p1 : ByteArray) : Option ByteArray :=
  (F_stringslite_TrimPrefix p0 p1).bind fun y100 =>
  some y100




def F_plot_Number (p0 : ByteArray) : Option (Int × Bool) :=
  (F_strings_TrimPrefix p0 (⟨#[45]⟩)).bind fun y100 =>
  (if ((decide ((y100.size : Int) < 1)) || (decide (9 < (y100.size : Int)))) then some true else 
    (trimF y100 (⟨#[48, 49, 50, 51, 52, 53, 54, 55, 56, 57]⟩)).bind fun y103 =>
    some (!sEq y103 (⟨#[]⟩))
  ).bind fun g102 =>
  (if g102 then some true else 
    (strAt y100 0).bind fun c106 =>
    some ((c106 == 48) && (!sEq p0 (⟨#[48]⟩)))
  ).bind fun g105 =>
  if g105 then
    some (0, false)
  else
    (atoiF p0).bind fun y107 =>
    some (y107, true)

def F_plot_Numbers_L1 : List ByteArray → Nat → List Int → Option ((List Int) × Bool)
  | [], iL1, l114 =>
    some (l114, true)
  | xL1 :: restL1, iL1, l114 =>
    (F_plot_Number xL1).bind fun y115 =>
    if (!y115.2) then
      some (([] : List Int), false)
    else
      (apd l114 [y115.1]).bind fun l117 =>
      (F_plot_Numbers_L1 restL1 (iL1 + 1)) l117
def F_plot_Numbers (p0 : (List ByteArray)) : Option ((List Int) × Bool) :=
  F_plot_Numbers_L1 p0 0 ([] : List Int)

def F_panel_readLine_J1 (x143 : Int) (x144 : Int) (x145 : Int) (x146 : Int) (l147 : List TBoardKind) (l148 : List TSlot) (l149 : List TPoint) : Option (Bool × Int × Int × Int × Int × (List TBoardKind) × (List TSlot) × (List TPoint)) :=
  some (true, x143, x144, x145, x146, l147, l148, l149)
def F_panel_readLine_J2 (p0 : TPanel) (p1 : Int) (y100 : (List ByteArray)) (x107 : Int) : Option (Bool × Int × Int × Int × Int × (List TBoardKind) × (List TSlot) × (List TPoint)) :=
  (cut y100 (min x107 (y100.length : Int)) (y100.length : Int)).bind fun l110 =>
  (F_plot_Numbers l110).bind fun y111 =>
  (if (!y111.2) then some true else 
    (idx y100 0).bind fun x115 =>
    some ((p1 == 0) != (sEq x115 (⟨#[112, 97, 110, 101, 108]⟩)))
  ).bind fun g114 =>
  if g114 then
    some (false, p0.W, p0.H, p0.Rail, p0.Gap, p0.Kinds, p0.Slots, p0.Marks)
  else
    (idx y100 0).bind fun x152 =>
    if ((sEq x152 (⟨#[112, 97, 110, 101, 108]⟩)) && ((y100.length : Int) == 5)) then
      (idx y111.1 0).bind fun x154 =>
      (idx y111.1 1).bind fun x155 =>
      (idx y111.1 2).bind fun x156 =>
      (idx y111.1 3).bind fun x157 =>
      F_panel_readLine_J1 x154 x155 x156 x157 p0.Kinds p0.Slots p0.Marks
    else
      (idx y100 0).bind fun x158 =>
      if (((sEq x158 (⟨#[98, 111, 97, 114, 100]⟩)) && ((y100.length : Int) == 4)) && ((w64 ((p0.Slots.length : Int) + (p0.Marks.length : Int))) == 0)) then
        (idx y100 1).bind fun x160 =>
        (idx y111.1 0).bind fun x161 =>
        (idx y111.1 1).bind fun x162 =>
        (apd p0.Kinds [(TBoardKind.mk x160 x161 x162)]).bind fun l164 =>
        F_panel_readLine_J1 p0.W p0.H p0.Rail p0.Gap l164 p0.Slots p0.Marks
      else
        (idx y100 0).bind fun x165 =>
        if (((sEq x165 (⟨#[115, 108, 111, 116]⟩)) && ((y100.length : Int) == 5)) && ((p0.Marks.length : Int) == 0)) then
          (idx y100 1).bind fun x167 =>
          (idx y111.1 0).bind fun x168 =>
          (idx y111.1 1).bind fun x169 =>
          (idx y111.1 2).bind fun x170 =>
          (apd p0.Slots [(TSlot.mk x167 x168 (TPoint.mk x169 x170))]).bind fun l172 =>
          F_panel_readLine_J1 p0.W p0.H p0.Rail p0.Gap p0.Kinds l172 p0.Marks
        else
          (idx y100 0).bind fun x173 =>
          if ((sEq x173 (⟨#[109, 97, 114, 107]⟩)) && ((y100.length : Int) == 3)) then
            (idx y111.1 0).bind fun x175 =>
            (idx y111.1 1).bind fun x176 =>
            (apd p0.Marks [(TPoint.mk x175 x176)]).bind fun l178 =>
            F_panel_readLine_J1 p0.W p0.H p0.Rail p0.Gap p0.Kinds p0.Slots l178
          else
            some (false, p0.W, p0.H, p0.Rail, p0.Gap, p0.Kinds, p0.Slots, p0.Marks)
def F_panel_readLine (p0 : TPanel) (p1 : Int) (p2 : ByteArray) : Option (Bool × Int × Int × Int × Int × (List TBoardKind) × (List TSlot) × (List TPoint)) :=
  (splitF p2 (⟨#[32]⟩)).bind fun y100 =>
  (F_slices_ContainsFunc_string y100 (fun z0 => F_panel_readLine_1 z0)).bind fun y102 =>
  if y102 then
    some (false, p0.W, p0.H, p0.Rail, p0.Gap, p0.Kinds, p0.Slots, p0.Marks)
  else
    (idx y100 0).bind fun x179 =>
    (if (sEq x179 (⟨#[98, 111, 97, 114, 100]⟩)) then some true else 
      (idx y100 0).bind fun x182 =>
      some (sEq x182 (⟨#[115, 108, 111, 116]⟩))
    ).bind fun g181 =>
    if g181 then
      F_panel_readLine_J2 p0 p1 y100 2
    else
      F_panel_readLine_J2 p0 p1 y100 1

def F_panel_Read_L1 (N : Nat) : Nat → Int → Int → Int → Int → List TBoardKind → List TSlot → List TPoint → ByteArray → Int → Option (TPanel × Int × Int)
  | 0, _, _, _, _, _, _, _, _, _ => none
  | mL1 + 1, x141, x142, x143, x144, l145, l146, l147, x148, x149 =>
    if ((x149 == 0) || (!sEq x148 (⟨#[]⟩))) then
      (cutF x148 (⟨#[10]⟩)).bind fun y150 =>
      if (!y150.2.2) then
        some ((TPanel.mk 0 0 0 0 [] [] []), (w64 (x149 + 1)), 10)
      else
        (F_panel_readLine (TPanel.mk x141 x142 x143 x144 l145 l146 l147) x149 y150.1).bind fun y154 =>
        if (!y154.1) then
          some ((TPanel.mk 0 0 0 0 [] [] []), (w64 (x149 + 1)), 10)
        else
          (F_panel_Read_L1 N mL1) y154.2.1 y154.2.2.1 y154.2.2.2.1 y154.2.2.2.2.1 y154.2.2.2.2.2.1 y154.2.2.2.2.2.2.1 y154.2.2.2.2.2.2.2 y150.2.1 (w64 (x149 + 1))
    else
      (F_panel_CheckPanel N (TPanel.mk x141 x142 x143 x144 l145 l146 l147)).bind fun y156 =>
      if (y156 != 0) then
        some ((TPanel.mk 0 0 0 0 [] [] []), 0, y156)
      else
        some ((TPanel.mk x141 x142 x143 x144 l145 l146 l147), 0, 0)
def F_panel_Read (N : Nat) (p0 : ByteArray) : Option (TPanel × Int × Int) :=
  if (decide (200000 < (p0.size : Int))) then
    some ((TPanel.mk 0 0 0 0 [] [] []), 0, 2)
  else
    F_panel_Read_L1 N N 0 0 0 0 ([] : List TBoardKind) ([] : List TSlot) ([] : List TPoint) p0 0

def F_etchhouseref9_Same_L3 (p0 : TPanel) (p1 : TPanel) : Nat → Int → Option Bool
  | 0, _ => none
  | mL3 + 1, x129 =>
    if (decide (x129 < (p0.Marks.length : Int))) then
      (idx p0.Marks x129).bind fun x130 =>
      (idx p1.Marks x129).bind fun x131 =>
      if (!(eqTPoint x130 x131)) then
        some false
      else
        (F_etchhouseref9_Same_L3 p0 p1 mL3) (w64 (x129 + 1))
    else
      some true
def F_etchhouseref9_Same_L2 (N : Nat) (p0 : TPanel) (p1 : TPanel) : Nat → Int → Option Bool
  | 0, _ => none
  | mL2 + 1, x119 =>
    if (decide (x119 < (p0.Slots.length : Int))) then
      (idx p0.Slots x119).bind fun x120 =>
      (idx p1.Slots x119).bind fun x121 =>
      if (!(eqTSlot x120 x121)) then
        some false
      else
        (F_etchhouseref9_Same_L2 N p0 p1 mL2) (w64 (x119 + 1))
    else
      F_etchhouseref9_Same_L3 p0 p1 N 0
def F_etchhouseref9_Same_L1 (N : Nat) (p0 : TPanel) (p1 : TPanel) : Nat → Int → Option Bool
  | 0, _ => none
  | mL1 + 1, x109 =>
    if (decide (x109 < (p0.Kinds.length : Int))) then
      (idx p0.Kinds x109).bind fun x110 =>
      (idx p1.Kinds x109).bind fun x111 =>
      if (!(eqTBoardKind x110 x111)) then
        some false
      else
        (F_etchhouseref9_Same_L1 N p0 p1 mL1) (w64 (x109 + 1))
    else
      F_etchhouseref9_Same_L2 N p0 p1 N 0
def F_etchhouseref9_Same (N : Nat) (p0 : TPanel) (p1 : TPanel) : Option Bool :=
  if (((((((p0.W != p1.W) || (p0.H != p1.H)) || (p0.Rail != p1.Rail)) || (p0.Gap != p1.Gap)) || ((p0.Kinds.length : Int) != (p1.Kinds.length : Int))) || ((p0.Slots.length : Int) != (p1.Slots.length : Int))) || ((p0.Marks.length : Int) != (p1.Marks.length : Int))) then
    some false
  else
    F_etchhouseref9_Same_L1 N p0 p1 N 0

def F_shape_AreaOf_L1 : List TRect → Nat → Int → Option Int
  | [], iL1, x110 =>
    some x110
  | xL1 :: restL1, iL1, x110 =>
    (F_shape_AreaOf_L1 restL1 (iL1 + 1)) (w64 (x110 + (w64 ((w64 (xL1.X1 - xL1.X0)) * (w64 (xL1.Y1 - xL1.Y0))))))
def F_shape_AreaOf (p0 : (List TRect)) : Option Int :=
  F_shape_AreaOf_L1 p0 0 0

def F_panel_Lowest_L1 (p0 : Int) (p1 : Int) : Nat → Int → Int → Option TShare
  | 0, _, _ => none
  | mL1 + 1, x109, x110 =>
    if (x110 != 0) then
      (md x109 x110).bind fun q111 =>
      (F_panel_Lowest_L1 p0 p1 mL1) x110 q111
    else
      (dv p0 x109).bind fun q112 =>
      (dv p1 x109).bind fun q113 =>
      some (TShare.mk q112 q113)
def F_panel_Lowest (N : Nat) (p0 : Int) (p1 : Int) : Option TShare :=
  F_panel_Lowest_L1 p0 p1 N p0 p1


def F_panel_Use (N : Nat) (p0 : TPanel) : Option (TShare × Int) :=
  (F_panel_open N p0).bind fun y102 =>
  if (y102.2 != 0) then
    some ((TShare.mk 0 0), y102.2)
  else
    (F_shape_AreaOf y102.1).bind fun y104 =>
    (F_panel_Lowest N y104 (w64 (p0.W * p0.H))).bind fun y105 =>
    some (y105, 0)


def F_etchhouselaw9_awake (N : Nat)  : Option Bool :=
  (F_panel_Use N (TPanel.mk 1 1 0 0 [] [] [])).bind fun y100 =>
  some ((y100.2 == 0) && (eqTShare y100.1 (TShare.mk 0 1)))

def F_etchhouselaw9_PanelsComeBack_J1 (N : Nat) (p1 : ByteArray) : Option Bool :=
  (F_panel_Read N p1).bind fun y110 =>
  if (y110.2.2 != 0) then
    (if (y110.1.W == 0) then 
      (F_etchhouselaw9_awake N).bind fun y115 =>
      some y115
     else some false).bind fun g114 =>
    some g114
  else
    (F_panel_Text N y110.1).bind fun y116 =>
    (if ((y116.2 == 0) && (sEq y116.1 p1)) then 
      (F_etchhouselaw9_awake N).bind fun y119 =>
      some y119
     else some false).bind fun g118 =>
    some g118
def F_etchhouselaw9_PanelsComeBack (N : Nat) (p0 : TPanel) (p1 : ByteArray) : Option Bool :=
  (F_panel_Text N p0).bind fun y120 =>
  if ((y120.2 == 0) && (decide ((y120.1.size : Int) ≤ 200000))) then
    (F_panel_Read N y120.1).bind fun y121 =>
    (if ((y121.2.2 != 0) || (y121.2.1 != 0)) then some true else 
      (F_etchhouseref9_Same N y121.1 p0).bind fun y126 =>
      some (!y126)
    ).bind fun g125 =>
    if g125 then
      some false
    else
      F_etchhouselaw9_PanelsComeBack_J1 N p1
  else
    F_etchhouselaw9_PanelsComeBack_J1 N p1

def F_etchhouseref3_Words_L4 (y100 : (List ByteArray)) (x163 : Int) (kL3 : Int → Option ((List ByteArray) × Bool)) : Nat → Int → Option ((List ByteArray) × Bool)
  | 0, _ => none
  | mL4 + 1, x184 =>
    (idx y100 x163).bind fun x185 =>
    if (decide (x184 < (x185.size : Int))) then
      (idx y100 x163).bind fun x186 =>
      (strAt x186 x184).bind fun c187 =>
      (if (decide (c187 < 33)) then some true else 
        (idx y100 x163).bind fun x191 =>
        (strAt x191 x184).bind fun c192 =>
        some (decide (126 < c192))
      ).bind fun g190 =>
      if g190 then
        some (([] : List ByteArray), false)
      else
        (F_etchhouseref3_Words_L4 y100 x163 kL3 mL4) (w64 (x184 + 1))
    else
      kL3 (w64 (x163 + 1))
def F_etchhouseref3_Words_L3 (N : Nat) (y100 : (List ByteArray)) : Nat → Int → Option ((List ByteArray) × Bool)
  | 0, _ => none
  | mL3 + 1, x163 =>
    if (decide (x163 < (y100.length : Int))) then
      (idx y100 x163).bind fun x164 =>
      if (sEq x164 (⟨#[]⟩)) then
        some (([] : List ByteArray), false)
      else
        F_etchhouseref3_Words_L4 y100 x163 (F_etchhouseref3_Words_L3 N y100 mL3) N 0
    else
      some (y100, true)
def F_etchhouseref3_Words (N : Nat) (p0 : ByteArray) : Option ((List ByteArray) × Bool) :=
  (splitF p0 (⟨#[32]⟩)).bind fun y100 =>
  F_etchhouseref3_Words_L3 N y100 N 0


def F_stringslite_CutPrefix (p0 : ByteArray) (p1 : ByteArray) : Option (ByteArray × Bool) :=
  (F_stringslite_HasPrefix p0 p1).bind fun y100 =>
  if (!y100) then
    some (p0, false)
  else
    (strCut p0 (p1.size : Int) (p0.size : Int)).bind fun t101 =>
    some (t101, true)


def F_strings_CutPrefix (p0 : ByteArray) (p1 : ByteArray) : Option (ByteArray × Bool) :=
  (F_stringslite_CutPrefix p0 p1).bind fun y100 =>
  some (y100.1, y100.2)


def F_etchhouseref3_within (p0 : Int) (p1 : Int) (p2 : Int) : Option Bool :=
  some ((decide (p1 ≤ p0)) && (decide (p0 ≤ p2)))

def F_etchhouseref3_Number_L1 (p0 : ByteArray) (y100 : (ByteArray × Bool)) : Nat → Int → Option (Int × Bool)
  | 0, _ => none
  | mL1 + 1, x116 =>
    if (decide (x116 < (y100.1.size : Int))) then
      (strAt y100.1 x116).bind fun c117 =>
      (if (decide (c117 < 48)) then some true else 
        (strAt y100.1 x116).bind fun c120 =>
        some (decide (57 < c120))
      ).bind fun g119 =>
      if g119 then
        some (0, false)
      else
        (F_etchhouseref3_Number_L1 p0 y100 mL1) (w64 (x116 + 1))
    else
      (atoiF p0).bind fun y121 =>
      some (y121, true)
def F_etchhouseref3_Number (N : Nat) (p0 : ByteArray) : Option (Int × Bool) :=
  (F_strings_CutPrefix p0 (⟨#[45]⟩)).bind fun y100 =>
  (F_etchhouseref3_within (y100.1.size : Int) 1 9).bind fun y101 =>
  (if (!y101) then some true else 
    (strAt y100.1 0).bind fun c104 =>
    some ((c104 == 48) && ((decide (1 < (y100.1.size : Int))) || y100.2))
  ).bind fun g103 =>
  if g103 then
    some (0, false)
  else
    F_etchhouseref3_Number_L1 p0 y100 N 0

def F_etchhouseref3_Numbers_L1 (N : Nat) (p0 : (List ByteArray)) : Nat → List Int → Int → Option ((List Int) × Bool)
  | 0, _, _ => none
  | mL1 + 1, l114, x115 =>
    if (decide (x115 < (p0.length : Int))) then
      (idx p0 x115).bind fun x116 =>
      (F_etchhouseref3_Number N x116).bind fun y117 =>
      if (!y117.2) then
        some (([] : List Int), false)
      else
        (apd l114 [y117.1]).bind fun l119 =>
        (F_etchhouseref3_Numbers_L1 N p0 mL1) l119 (w64 (x115 + 1))
    else
      some (l114, true)
def F_etchhouseref3_Numbers (N : Nat) (p0 : (List ByteArray)) : Option ((List Int) × Bool) :=
  F_etchhouseref3_Numbers_L1 N p0 N ([] : List Int) 0

def F_etchhouseref9_line_J1 (x144 : Int) (x145 : Int) (x146 : Int) (x147 : Int) (l148 : List TBoardKind) (l149 : List TSlot) (l150 : List TPoint) : Option (Bool × Int × Int × Int × Int × (List TBoardKind) × (List TSlot) × (List TPoint)) :=
  some (true, x144, x145, x146, x147, l148, l149, l150)
def F_etchhouseref9_line_J2 (N : Nat) (p0 : TPanel) (p2 : Int) (l109 : List ByteArray) (x110 : ByteArray) (l111 : List ByteArray) : Option (Bool × Int × Int × Int × Int × (List TBoardKind) × (List TSlot) × (List TPoint)) :=
  (F_etchhouseref3_Numbers N l111).bind fun y114 =>
  (if (!y114.2) then some true else 
    (idx l109 0).bind fun x118 =>
    some ((p2 == 0) != (sEq x118 (⟨#[112, 97, 110, 101, 108]⟩)))
  ).bind fun g117 =>
  if g117 then
    some (false, p0.W, p0.H, p0.Rail, p0.Gap, p0.Kinds, p0.Slots, p0.Marks)
  else
    (idx l109 0).bind fun x153 =>
    if ((sEq x153 (⟨#[112, 97, 110, 101, 108]⟩)) && ((y114.1.length : Int) == 4)) then
      (idx y114.1 0).bind fun x155 =>
      (idx y114.1 1).bind fun x156 =>
      (idx y114.1 2).bind fun x157 =>
      (idx y114.1 3).bind fun x158 =>
      F_etchhouseref9_line_J1 x155 x156 x157 x158 p0.Kinds p0.Slots p0.Marks
    else
      (idx l109 0).bind fun x159 =>
      if ((((sEq x159 (⟨#[98, 111, 97, 114, 100]⟩)) && (!sEq x110 (⟨#[]⟩))) && ((y114.1.length : Int) == 2)) && ((w64 ((p0.Slots.length : Int) + (p0.Marks.length : Int))) == 0)) then
        (idx y114.1 0).bind fun x161 =>
        (idx y114.1 1).bind fun x162 =>
        (apd p0.Kinds [(TBoardKind.mk x110 x161 x162)]).bind fun l164 =>
        F_etchhouseref9_line_J1 p0.W p0.H p0.Rail p0.Gap l164 p0.Slots p0.Marks
      else
        (idx l109 0).bind fun x165 =>
        if ((((sEq x165 (⟨#[115, 108, 111, 116]⟩)) && (!sEq x110 (⟨#[]⟩))) && ((y114.1.length : Int) == 3)) && ((p0.Marks.length : Int) == 0)) then
          (idx y114.1 0).bind fun x167 =>
          (idx y114.1 1).bind fun x168 =>
          (idx y114.1 2).bind fun x169 =>
          (apd p0.Slots [(TSlot.mk x110 x167 (TPoint.mk x168 x169))]).bind fun l171 =>
          F_etchhouseref9_line_J1 p0.W p0.H p0.Rail p0.Gap p0.Kinds l171 p0.Marks
        else
          (idx l109 0).bind fun x172 =>
          if ((sEq x172 (⟨#[109, 97, 114, 107]⟩)) && ((y114.1.length : Int) == 2)) then
            (idx y114.1 0).bind fun x174 =>
            (idx y114.1 1).bind fun x175 =>
            (apd p0.Marks [(TPoint.mk x174 x175)]).bind fun l177 =>
            F_etchhouseref9_line_J1 p0.W p0.H p0.Rail p0.Gap p0.Kinds p0.Slots l177
          else
            some (false, p0.W, p0.H, p0.Rail, p0.Gap, p0.Kinds, p0.Slots, p0.Marks)
def F_etchhouseref9_line (N : Nat) (p0 : TPanel) (p1 : ByteArray) (p2 : Int) : Option (Bool × Int × Int × Int × Int × (List TBoardKind) × (List TSlot) × (List TPoint)) :=
  (F_etchhouseref3_Words N p1).bind fun y100 =>
  if (!y100.2) then
    some (false, p0.W, p0.H, p0.Rail, p0.Gap, p0.Kinds, p0.Slots, p0.Marks)
  else
    (cut y100.1 1 (y100.1.length : Int)).bind fun l102 =>
    (idx y100.1 0).bind fun x178 =>
    (if (sEq x178 (⟨#[98, 111, 97, 114, 100]⟩)) then some true else 
      (idx y100.1 0).bind fun x181 =>
      some (sEq x181 (⟨#[115, 108, 111, 116]⟩))
    ).bind fun g180 =>
    if (g180 && (decide (0 < (l102.length : Int)))) then
      (idx l102 0).bind fun x182 =>
      (cut l102 1 (l102.length : Int)).bind fun l183 =>
      F_etchhouseref9_line_J2 N p0 p2 y100.1 x182 l183
    else
      F_etchhouseref9_line_J2 N p0 p2 y100.1 (⟨#[]⟩) l102


def F_etchhouseref9_within (p0 : Int) (p1 : Int) (p2 : Int) : Option Bool :=
  some ((decide (p1 ≤ p0)) && (decide (p0 ≤ p2)))

def F_etchhouseref3_IsName_L1 (p0 : ByteArray) : Nat → Int → Option Bool
  | 0, _ => none
  | mL1 + 1, x105 =>
    if (decide (x105 < (p0.size : Int))) then
      (strAt p0 x105).bind fun c106 =>
      if ((!(((decide (97 ≤ c106)) && (decide (c106 ≤ 122))) || ((decide (65 ≤ c106)) && (decide (c106 ≤ 90))))) && ((x105 == 0) || (((c106 != 95) && (c106 != 45)) && (!((decide (48 ≤ c106)) && (decide (c106 ≤ 57))))))) then
        some false
      else
        (F_etchhouseref3_IsName_L1 p0 mL1) (w64 (x105 + 1))
    else
      (F_etchhouseref3_within (p0.size : Int) 1 40).bind fun y107 =>
      some y107
def F_etchhouseref3_IsName (N : Nat) (p0 : ByteArray) : Option Bool :=
  F_etchhouseref3_IsName_L1 p0 N 0

def F_etchhouseref9_kind_L1 (p0 : TPanel) (p1 : ByteArray) : Nat → Int → Option Int
  | 0, _ => none
  | mL1 + 1, x106 =>
    if (decide (x106 < (p0.Kinds.length : Int))) then
      (idx p0.Kinds x106).bind fun x107 =>
      if (sEq x107.Name p1) then
        some x106
      else
        (F_etchhouseref9_kind_L1 p0 p1 mL1) (w64 (x106 + 1))
    else
      some (-1)
def F_etchhouseref9_kind (N : Nat) (p0 : TPanel) (p1 : ByteArray) : Option Int :=
  F_etchhouseref9_kind_L1 p0 p1 N 0


def F_etchhouseref9_sizeOf (p0 : TBoardKind) (p1 : Int) : Option (Int × Int) :=
  if ((Int.tmod p1 2) == 1) then
    some (p0.H, p0.W)
  else
    some (p0.W, p0.H)


def F_etchhouseref9_lies (p0 : TPanel) (p1 : TPoint) (p2 : Int) (p3 : Int) : Option Bool :=
  (F_etchhouseref9_within p1.X p0.Rail (w64 ((w64 (p0.W - p0.Rail)) - p2))).bind fun y102 =>
  (if y102 then 
    (F_etchhouseref9_within p1.Y p0.Rail (w64 ((w64 (p0.H - p0.Rail)) - p3))).bind fun y105 =>
    some y105
   else some false).bind fun g104 =>
  some g104


def F_etchhouseref9_cellOf (N : Nat) (p0 : TPanel) (p1 : TSlot) : Option TRect :=
  (F_etchhouseref9_kind N p0 p1.Board).bind fun y103 =>
  (idx p0.Kinds y103).bind fun x104 =>
  (F_etchhouseref9_sizeOf x104 p1.Quarters).bind fun y105 =>
  some (TRect.mk p1.At.X p1.At.Y (w64 (p1.At.X + y105.1)) (w64 (p1.At.Y + y105.2)))


def F_etchhouseref9_apart (p0 : TRect) (p1 : TRect) (p2 : Int) : Option Bool :=
  some ((((decide ((w64 (p0.X1 + p2)) ≤ p1.X0)) || (decide ((w64 (p1.X1 + p2)) ≤ p0.X0))) || (decide ((w64 (p0.Y1 + p2)) ≤ p1.Y0))) || (decide ((w64 (p1.Y1 + p2)) ≤ p0.Y0)))

def F_etchhouseref9_checkSlot_L1 (N : Nat) (p0 : TPanel) (p1 : Int) (x101 : TSlot) : Nat → Int → Option Int
  | 0, _ => none
  | mL1 + 1, x119 =>
    if (decide (x119 < p1)) then
      (F_etchhouseref9_cellOf N p0 x101).bind fun y120 =>
      (idx p0.Slots x119).bind fun x121 =>
      (F_etchhouseref9_cellOf N p0 x121).bind fun y122 =>
      (F_etchhouseref9_apart y120 y122 p0.Gap).bind fun y123 =>
      if (!y123) then
        some 12
      else
        (F_etchhouseref9_checkSlot_L1 N p0 p1 x101 mL1) (w64 (x119 + 1))
    else
      some 0
def F_etchhouseref9_checkSlot (N : Nat) (p0 : TPanel) (p1 : Int) : Option Int :=
  (idx p0.Slots p1).bind fun x101 =>
  (F_etchhouseref9_kind N p0 x101.Board).bind fun y103 =>
  if (decide (y103 < 0)) then
    some 5
  else
    (F_etchhouseref9_within x101.Quarters 0 3).bind fun y104 =>
    if (!y104) then
      some 1
    else
      (idx p0.Kinds y103).bind fun x105 =>
      (F_etchhouseref9_sizeOf x105 x101.Quarters).bind fun y106 =>
      (F_etchhouseref9_lies p0 x101.At y106.1 y106.2).bind fun y107 =>
      if (!y107) then
        some 1
      else
        F_etchhouseref9_checkSlot_L1 N p0 p1 x101 N 0

def F_etchhouseref9_checkMark_L2 (p0 : TPanel) (p1 : Int) (x101 : TPoint) : Nat → Int → Option Int
  | 0, _ => none
  | mL2 + 1, x125 =>
    if (decide (x125 < p1)) then
      (idx p0.Marks x125).bind fun x126 =>
      if (eqTPoint x126 x101) then
        some 7
      else
        (F_etchhouseref9_checkMark_L2 p0 p1 x101 mL2) (w64 (x125 + 1))
    else
      some 0
def F_etchhouseref9_checkMark_L1 (N : Nat) (p0 : TPanel) (p1 : Int) (x101 : TPoint) : Nat → Int → Option Int
  | 0, _ => none
  | mL1 + 1, x116 =>
    if (decide (x116 < (p0.Slots.length : Int))) then
      (idx p0.Slots x116).bind fun x118 =>
      (F_etchhouseref9_cellOf N p0 x118).bind fun y119 =>
      if ((((decide (y119.X0 < x101.X)) && (decide (x101.X < y119.X1))) && (decide (y119.Y0 < x101.Y))) && (decide (x101.Y < y119.Y1))) then
        some 12
      else
        (F_etchhouseref9_checkMark_L1 N p0 p1 x101 mL1) (w64 (x116 + 1))
    else
      F_etchhouseref9_checkMark_L2 p0 p1 x101 N 0
def F_etchhouseref9_checkMark (N : Nat) (p0 : TPanel) (p1 : Int) : Option Int :=
  (idx p0.Marks p1).bind fun x101 =>
  (F_etchhouseref9_within x101.X 0 p0.W).bind fun y103 =>
  (if (!y103) then some true else 
    (F_etchhouseref9_within x101.Y 0 p0.H).bind fun y106 =>
    some (!y106)
  ).bind fun g105 =>
  if g105 then
    some 1
  else
    F_etchhouseref9_checkMark_L1 N p0 p1 x101 N 0

def F_etchhouseref9_CheckPanel_L3 (N : Nat) (p0 : TPanel) : Nat → Int → Option Int
  | 0, _ => none
  | mL3 + 1, x157 =>
    if (decide (x157 < (p0.Marks.length : Int))) then
      (F_etchhouseref9_checkMark N p0 x157).bind fun y158 =>
      if (y158 != 0) then
        some y158
      else
        (F_etchhouseref9_CheckPanel_L3 N p0 mL3) (w64 (x157 + 1))
    else
      some 0
def F_etchhouseref9_CheckPanel_L2 (N : Nat) (p0 : TPanel) : Nat → Int → Option Int
  | 0, _ => none
  | mL2 + 1, x150 =>
    if (decide (x150 < (p0.Slots.length : Int))) then
      (F_etchhouseref9_checkSlot N p0 x150).bind fun y151 =>
      if (y151 != 0) then
        some y151
      else
        (F_etchhouseref9_CheckPanel_L2 N p0 mL2) (w64 (x150 + 1))
    else
      if (decide (10 < (p0.Marks.length : Int))) then
        some 2
      else
        F_etchhouseref9_CheckPanel_L3 N p0 N 0
def F_etchhouseref9_CheckPanel_L1 (N : Nat) (p0 : TPanel) : Nat → Int → Option Int
  | 0, _ => none
  | mL1 + 1, x134 =>
    if (decide (x134 < (p0.Kinds.length : Int))) then
      (idx p0.Kinds x134).bind fun x135 =>
      (F_etchhouseref3_IsName N x135.Name).bind fun y137 =>
      if (!y137) then
        some 5
      else
        (F_etchhouseref9_within x135.W 1 1000000).bind fun y138 =>
        (if (!y138) then some true else 
          (F_etchhouseref9_within x135.H 1 1000000).bind fun y141 =>
          some (!y141)
        ).bind fun g140 =>
        if g140 then
          some 1
        else
          (if (decide (0 < x134)) then 
            (idx p0.Kinds (w64 (x134 - 1))).bind fun x144 =>
            some (sLt x135.Name x144.Name || sEq x135.Name x144.Name)
           else some false).bind fun g143 =>
          if g143 then
            some 8
          else
            (F_etchhouseref9_CheckPanel_L1 N p0 mL1) (w64 (x134 + 1))
    else
      if (decide (500 < (p0.Slots.length : Int))) then
        some 2
      else
        F_etchhouseref9_CheckPanel_L2 N p0 N 0
def F_etchhouseref9_CheckPanel (N : Nat) (p0 : TPanel) : Option Int :=
  (F_etchhouseref9_within p0.W 1 1000000).bind fun y101 =>
  (if (!y101) then some true else 
    (F_etchhouseref9_within p0.H 1 1000000).bind fun y104 =>
    some (!y104)
  ).bind fun g103 =>
  (if g103 then some true else 
    (F_etchhouseref9_within p0.Rail 0 1000000).bind fun y107 =>
    some (!y107)
  ).bind fun g106 =>
  (if g106 then some true else 
    (F_etchhouseref9_within p0.Gap 0 1000000).bind fun y110 =>
    some (!y110)
  ).bind fun g109 =>
  if g109 then
    some 1
  else
    if (decide (50 < (p0.Kinds.length : Int))) then
      some 2
    else
      F_etchhouseref9_CheckPanel_L1 N p0 N 0

def F_etchhouseref9_Read_L1 (N : Nat) : Nat → Int → Int → Int → Int → List TBoardKind → List TSlot → List TPoint → ByteArray → Int → Option (TPanel × Int × Int)
  | 0, _, _, _, _, _, _, _, _, _ => none
  | mL1 + 1, x141, x142, x143, x144, l145, l146, l147, x148, x149 =>
    if ((!sEq x148 (⟨#[]⟩)) || (x149 == 0)) then
      (cutF x148 (⟨#[10]⟩)).bind fun y150 =>
      if (!y150.2.2) then
        some ((TPanel.mk 0 0 0 0 [] [] []), (w64 (x149 + 1)), 10)
      else
        (F_etchhouseref9_line N (TPanel.mk x141 x142 x143 x144 l145 l146 l147) y150.1 x149).bind fun y154 =>
        if (!y154.1) then
          some ((TPanel.mk 0 0 0 0 [] [] []), (w64 (x149 + 1)), 10)
        else
          (F_etchhouseref9_Read_L1 N mL1) y154.2.1 y154.2.2.1 y154.2.2.2.1 y154.2.2.2.2.1 y154.2.2.2.2.2.1 y154.2.2.2.2.2.2.1 y154.2.2.2.2.2.2.2 y150.2.1 (w64 (x149 + 1))
    else
      (F_etchhouseref9_CheckPanel N (TPanel.mk x141 x142 x143 x144 l145 l146 l147)).bind fun y156 =>
      if (y156 != 0) then
        some ((TPanel.mk 0 0 0 0 [] [] []), 0, y156)
      else
        some ((TPanel.mk x141 x142 x143 x144 l145 l146 l147), 0, 0)
def F_etchhouseref9_Read (N : Nat) (p0 : ByteArray) : Option (TPanel × Int × Int) :=
  if (decide (200000 < (p0.size : Int))) then
    some ((TPanel.mk 0 0 0 0 [] [] []), 0, 2)
  else
    F_etchhouseref9_Read_L1 N N 0 0 0 0 ([] : List TBoardKind) ([] : List TSlot) ([] : List TPoint) p0 0

def F_etchhouseref9_spaced_L1 (p0 : (List Int)) : Nat → ByteArray → Int → Option ByteArray
  | 0, _, _ => none
  | mL1 + 1, x114, x115 =>
    if (decide (x115 < (p0.length : Int))) then
      (idx p0 x115).bind fun x116 =>
      (itoaF x116).bind fun y117 =>
      (catS (⟨#[32]⟩) y117).bind fun t118 =>
      (catS x114 t118).bind fun t119 =>
      (F_etchhouseref9_spaced_L1 p0 mL1) t119 (w64 (x115 + 1))
    else
      some x114
def F_etchhouseref9_spaced (N : Nat) (p0 : (List Int)) : Option ByteArray :=
  F_etchhouseref9_spaced_L1 p0 N (⟨#[]⟩) 0

def F_etchhouseref9_Text_L3 (N : Nat) (p0 : TPanel) : Nat → ByteArray → Int → Option (ByteArray × Int)
  | 0, _, _ => none
  | mL3 + 1, x201, x202 =>
    if (decide (x202 < (p0.Marks.length : Int))) then
      (idx p0.Marks x202).bind fun x204 =>
      (idx p0.Marks x202).bind fun x205 =>
      (F_etchhouseref9_spaced N [x204.X, x205.Y]).bind fun y207 =>
      (catS (⟨#[109, 97, 114, 107]⟩) y207).bind fun t208 =>
      (catS t208 (⟨#[10]⟩)).bind fun t209 =>
      (catS x201 t209).bind fun t210 =>
      (F_etchhouseref9_Text_L3 N p0 mL3) t210 (w64 (x202 + 1))
    else
      some (x201, 0)
def F_etchhouseref9_Text_L2 (N : Nat) (p0 : TPanel) : Nat → ByteArray → Int → Option (ByteArray × Int)
  | 0, _, _ => none
  | mL2 + 1, x168, x169 =>
    if (decide (x169 < (p0.Slots.length : Int))) then
      (idx p0.Slots x169).bind fun x170 =>
      (catS (⟨#[115, 108, 111, 116, 32]⟩) x170.Board).bind fun t173 =>
      (F_etchhouseref9_spaced N [x170.Quarters, x170.At.X, x170.At.Y]).bind fun y175 =>
      (catS t173 y175).bind fun t176 =>
      (catS t176 (⟨#[10]⟩)).bind fun t177 =>
      (catS x168 t177).bind fun t178 =>
      (F_etchhouseref9_Text_L2 N p0 mL2) t178 (w64 (x169 + 1))
    else
      F_etchhouseref9_Text_L3 N p0 N x168 0
def F_etchhouseref9_Text_L1 (N : Nat) (p0 : TPanel) : Nat → ByteArray → Int → Option (ByteArray × Int)
  | 0, _, _ => none
  | mL1 + 1, x132, x133 =>
    if (decide (x133 < (p0.Kinds.length : Int))) then
      (idx p0.Kinds x133).bind fun x135 =>
      (catS (⟨#[98, 111, 97, 114, 100, 32]⟩) x135.Name).bind fun t136 =>
      (idx p0.Kinds x133).bind fun x137 =>
      (idx p0.Kinds x133).bind fun x138 =>
      (F_etchhouseref9_spaced N [x137.W, x138.H]).bind fun y140 =>
      (catS t136 y140).bind fun t141 =>
      (catS t141 (⟨#[10]⟩)).bind fun t142 =>
      (catS x132 t142).bind fun t143 =>
      (F_etchhouseref9_Text_L1 N p0 mL1) t143 (w64 (x133 + 1))
    else
      F_etchhouseref9_Text_L2 N p0 N x132 0
def F_etchhouseref9_Text (N : Nat) (p0 : TPanel) : Option (ByteArray × Int) :=
  (F_etchhouseref9_CheckPanel N p0).bind fun y101 =>
  if (y101 != 0) then
    some (⟨#[]⟩, y101)
  else
    (F_etchhouseref9_spaced N [p0.W, p0.H, p0.Rail, p0.Gap]).bind fun y103 =>
    (catS (⟨#[112, 97, 110, 101, 108]⟩) y103).bind fun t104 =>
    (catS t104 (⟨#[10]⟩)).bind fun t105 =>
    F_etchhouseref9_Text_L1 N p0 N t105 0

end Go.Proofs.YtmbjoffligicnaaGreatDoor
