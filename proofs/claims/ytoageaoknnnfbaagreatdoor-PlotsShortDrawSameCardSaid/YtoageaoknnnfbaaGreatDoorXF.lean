/- The plain functions: what each function of the program computes; none where it would panic. -/
import Derived.Test.YtoageaoknnnfbaaGreatDoorXT
namespace Go.Proofs.YtoageaoknnnfbaaGreatDoor
open Go.RowKit

def VP (p0 : Int) (p1 : Int) (p2 : Int) : Option Bool :=
  some ((decide (p1 ≤ p0)) && (decide (p0 ≤ p2)))

def Wt (p0 : ByteArray) : Nat → Int → Option Bool
  | 0, _ => none
  | mL1 + 1, x105 =>
    if (decide (x105 < (p0.size : Int))) then
      (zTC p0 x105).bind fun c106 =>
      if ((!(((decide (97 ≤ c106)) && (decide (c106 ≤ 122))) || ((decide (65 ≤ c106)) && (decide (c106 ≤ 90))))) && ((x105 == 0) || ((((decide (c106 < 48)) || (decide (57 < c106))) && (c106 != 95)) && (c106 != 45)))) then
        some false
      else
        (Wt p0 mL1) (w64 (x105 + 1))
    else
      some ((decide (1 ≤ (p0.size : Int))) && (decide ((p0.size : Int) ≤ 40)))
def WM (N : Nat) (p0 : ByteArray) : Option Bool :=
  Wt p0 N 0


def zAi (p0 : Int) (p1 : Int) : Option Bool :=
  (dv (-1000000) p1).bind fun q100 =>
  (dv 1000000 p1).bind fun q101 =>
  (VP p0 q100 q101).bind fun y102 =>
  some y102

def VD (p1 : Int) : List zQ → Nat → Option Int
  | [], iL1 =>
    some 0
  | xL1 :: zV, iL1 =>
    (zAi xL1.X0 p1).bind fun Qp =>
    (if (!Qp) then some true else 
      (zAi xL1.Y0 p1).bind fun zct =>
      some (!zct)
    ).bind fun zbv =>
    (if zbv then some true else 
      (zAi xL1.X1 p1).bind fun WN =>
      some (!WN)
    ).bind fun zbu =>
    (if zbu then some true else 
      (zAi xL1.Y1 p1).bind fun JS =>
      some (!JS)
    ).bind fun zd5 =>
    if zd5 then
      some 1
    else
      if ((decide (xL1.X1 ≤ xL1.X0)) || (decide (xL1.Y1 ≤ xL1.Y0))) then
        some 13
      else
        (VD p1 zV (iL1 + 1))
def zBk (N : Nat) (p0 : zZ) (p1 : Int) : Option Int :=
  (WM N p0.Name).bind fun y101 =>
  if (!y101) then
    some 5
  else
    if ((p0.Rects.length : Int) == 0) then
      some 9
    else
      if (decide (2000 < (p0.Rects.length : Int))) then
        some 2
      else
        VD p1 p0.Rects 0


def zAs (p0 : Int) : Option Int :=
  (VP p0 1 100).bind fun QK =>
  if QK then
    some p0
  else
    some 1


def zEJ (p0 : zC) : Option Int :=
  (zAs p0.NX).bind fun y101 =>
  (zAs p0.NY).bind fun y102 =>
  some (w64 (y101 * y102))

def zAW (kL3 : Int → Option Int) (zCP : Int) : Option Int :=
  if (decide (3000 < zCP)) then
    some 3001
  else
    kL3 zCP
def Jk (rec : (List zC) → Option Int) : List zC → Nat → Int → Option Int
  | [], iL3, zOi =>
    some zOi
  | xL3 :: Qz, iL3, zOi =>
    if (decide (0 < (xL3.Steps.length : Int))) then
      (zEJ xL3).bind fun zZY =>
      (rec xL3.Steps).bind fun zZX =>
      zAW (Jk rec Qz (iL3 + 1)) (w64 ((w64 (zOi + 1)) + (w64 (zZY * zZX))))
    else
      zAW (Jk rec Qz (iL3 + 1)) (w64 (zOi + 1))
def zGY (N : Nat) (rec : (List zC) → Option Int) (p0 : (List zC)) : Option Int :=
  Jk rec p0 0 0
def zC7 : Nat → (List zC) → Option Int
  | 0 => fun _ => none
  | N + 1 => zGY N (zC7 N)

def Vx (p0 : Int) (x101 : Bool) : Option zEz :=
  if x101 then
    some (zEz.mk false true false false)
  else
    if (p0 == 7) then
      some (zEz.mk false false true false)
    else
      if (p0 == 8) then
        some (zEz.mk false true false true)
      else
        some (zEz.mk false false false false)
def zBC (p0 : Int) : Option zEz :=
  if (p0 == 3) then
    some (zEz.mk true false false false)
  else
    if (p0 == 4) then
      Vx p0 (p0 == 4)
    else
      if (p0 == 5) then
        Vx p0 (p0 == 5)
      else
        Vx p0 (p0 == 6)


def zDb (p0 : zZ) (q0 : ByteArray) : Option Bool :=
  some (sEq p0.Name q0)

def Qb (q0 : ByteArray) : List zZ → Nat → Option Int
  | [], iL1 =>
    some (-1)
  | xL1 :: zV, iL1 =>
    (zDb xL1 q0).bind fun zCy =>
    if zCy then
      some (iL1 : Int)
    else
      (Qb q0 zV (iL1 + 1))
def KL (p0 : (List zZ)) (q0 : ByteArray) : Option Int :=
  Qb q0 p0 0


def zCM (p0 : QB) (p1 : ByteArray) : Option Int :=
  (KL p0.Tools p1).bind fun y102 =>
  some y102


def zBi (p0 : zJ) (p1 : Int) : Option Bool :=
  (zAi p0.X p1).bind fun y101 =>
  (if y101 then 
    (zAi p0.Y p1).bind fun y104 =>
    some y104
   else some false).bind fun zGi =>
  some zGi


def VN (p0 : zJ) (q0 : QB) : Option Bool :=
  (zBi p0 q0.Unit).bind fun y101 =>
  some (!y101)

def Qo (p1 : zJ → Option Bool) : List zJ → Nat → Option Int
  | [], iL1 =>
    some (-1)
  | xL1 :: zV, iL1 =>
    (p1 xL1).bind fun zm =>
    if zm then
      some (iL1 : Int)
    else
      (Qo p1 zV (iL1 + 1))
def Vm (p0 : (List zJ)) (p1 : zJ → Option Bool) : Option Int :=
  Qo p1 p0 0


def JN (p0 : (List zJ)) (p1 : zJ → Option Bool) : Option Bool :=
  (Vm p0 p1).bind fun QK =>
  some (decide (0 ≤ QK))

def WG (p0 : (List zJ)) : List zJ → Nat → Option Bool
  | [], iL1 =>
    some true
  | xL1 :: zV, iL1 =>
    (md (w64 ((iL1 : Int) + 1)) (p0.length : Int)).bind fun q107 =>
    (idx p0 q107).bind fun zBu =>
    if ((xL1.X == zBu.X) == (xL1.Y == zBu.Y)) then
      some false
    else
      (WG p0 zV (iL1 + 1))
def zDQ (p0 : (List zJ)) : Option Bool :=
  if (decide ((p0.length : Int) < 4)) then
    some false
  else
    WG p0 p0 0

def JC (p0 : QB) (p1 : zC) (p2 : Int) (zm : zEz) (x105 : Bool) : Option Int :=
  if x105 then
    some 3
  else
    (if zm.name then 
      (zCM p0 p1.Name).bind fun zDI =>
      some (decide (zDI < 0))
     else some false).bind fun zQW =>
    if zQW then
      some 5
    else
      (zBi p1.At p0.Unit).bind fun zGc =>
      (if (!zGc) then some true else 
        (JN p1.Points (fun z0 => VN z0 p0)).bind fun y114 =>
        some y114
      ).bind fun zQV =>
      if zQV then
        some 1
      else
        if (decide (2000 < (p1.Points.length : Int))) then
          some 2
        else
          (if zm.points then 
            (zDQ p1.Points).bind fun zE6 =>
            some (!zE6)
           else some false).bind fun zd7 =>
          if zd7 then
            some 3
          else
            if (!zm.repeat_) then
              some 0
            else
              (VP p1.NX 1 100).bind fun zZZ =>
              (if (!zZZ) then some true else 
                (VP p1.NY 1 100).bind fun zKr =>
                some (!zKr)
              ).bind fun zd6 =>
              if zd6 then
                some 1
              else
                if ((p1.Steps.length : Int) == 0) then
                  some 9
                else
                  if (decide (5 ≤ p2)) then
                    some 2
                  else
                    some 0
def zBl (p0 : QB) (p1 : zC) (p2 : Int) : Option Int :=
  (VP p1.Kind 1 8).bind fun y102 =>
  if (!y102) then
    some 4
  else
    (zBC p1.Kind).bind fun zm =>
    if ((!zm.name) && (!sEq p1.Name ByteArray.empty)) then
      JC p0 p1 p2 zm ((!zm.name) && (!sEq p1.Name ByteArray.empty))
    else
      if ((!zm.at_) && (!(QQ p1.At (zJ.mk 0 0)))) then
        JC p0 p1 p2 zm ((!zm.at_) && (!(QQ p1.At (zJ.mk 0 0))))
      else
        if ((!zm.points) && (decide (0 < (p1.Points.length : Int)))) then
          JC p0 p1 p2 zm ((!zm.points) && (decide (0 < (p1.Points.length : Int))))
        else
          JC p0 p1 p2 zm ((!zm.repeat_) && (((p1.NX != 0) || (p1.NY != 0)) || (decide (0 < (p1.Steps.length : Int)))))

def Kh (p0 : QB) (p2 : Int) (rec : QB → (List zC) → Int → Option Int) : List zC → Nat → Option Int
  | [], iL1 =>
    some 0
  | xL1 :: zV, iL1 =>
    (zBl p0 xL1 p2).bind fun zCx =>
    if (zCx != 0) then
      some zCx
    else
      (rec p0 xL1.Steps (w64 (p2 + 1))).bind fun zDI =>
      if (zDI != 0) then
        some zDI
      else
        (Kh p0 p2 rec zV (iL1 + 1))
def zDG (N : Nat) (rec : QB → (List zC) → Int → Option Int) (p0 : QB) (p1 : (List zC)) (p2 : Int) : Option Int :=
  Kh p0 p2 rec p1 0
def zBO : Nat → QB → (List zC) → Int → Option Int
  | 0 => fun _ _ _ => none
  | N + 1 => zDG N (zBO N)

def KQ (N : Nat) (p0 : QB) : List zZ → Nat → Option Int
  | [], iL1 =>
    (zC7 N p0.Steps).bind fun y112 =>
    if (decide (3000 < y112)) then
      some 2
    else
      (zBO N p0 p0.Steps 0).bind fun y113 =>
      some y113
  | xL1 :: zV, iL1 =>
    (zBk N xL1 p0.Unit).bind fun Qp =>
    if (Qp != 0) then
      some Qp
    else
      (if (decide (0 < (iL1 : Int))) then 
        (idx p0.Tools (w64 ((iL1 : Int) - 1))).bind fun zLN =>
        some (sLt xL1.Name zLN.Name || sEq xL1.Name zLN.Name)
       else some false).bind fun ziy =>
      if ziy then
        some 8
      else
        (KQ N p0 zV (iL1 + 1))
def Ji (N : Nat) (p0 : QB) : Option Int :=
  (VP p0.Unit 1 1000).bind fun y101 =>
  if (!y101) then
    some 1
  else
    if (decide (200 < (p0.Tools.length : Int))) then
      some 2
    else
      KQ N p0 p0.Tools 0


def Jr (p0 : (List zQ)) : Option (List zQ) :=
  (apd ([] : List zQ) p0).bind fun Wq =>
  some Wq



def zA9 (p0 : zQ) (p1 : zQ) : Option Int :=
  some (w64 (p0.Y0 - p1.Y0))




def zA8 (p0 : zQ) (q0 : (List Int)) (q1 : Int) : Option Bool :=
  (idx q0 q1).bind fun x101 =>
  some (decide (p0.Y1 ≤ x101))

def JR (p1 : zQ → Option Bool) : List zQ → Nat → Option Int
  | [], iL1 =>
    some (-1)
  | xL1 :: zV, iL1 =>
    (p1 xL1).bind fun zm =>
    if zm then
      some (iL1 : Int)
    else
      (JR p1 zV (iL1 + 1))
def zAK (p0 : (List zQ)) (p1 : zQ → Option Bool) : Option Int :=
  JR p1 p0 0

def Qw (p1 : zQ → Option Bool) : Nat → List zQ → Int → Int → Option (List zQ)
  | 0, _, _, _ => none
  | mL1 + 1, zFl, zGe, zGd =>
    if (decide (zGd < (zFl.length : Int))) then
      (idx zFl zGd).bind fun Wx =>
      (p1 Wx).bind fun JS =>
      if (!JS) then
        (idx zFl zGe).bind fun zOi =>
        (sets zFl zGe Wx).bind fun zR5 =>
        (Qw p1 mL1) zR5 (w64 (zGe + 1)) (w64 (zGd + 1))
      else
        (Qw p1 mL1) zFl zGe (w64 (zGd + 1))
    else
      (cut zFl zGe (zFl.length : Int)).bind fun zDE =>
      (pre (clr zFl zGe (zDE).length (zQ.mk 0 0 0 0)) zGe).bind fun zgU =>
      some zgU
def Vn (N : Nat) (p0 : (List zQ)) (p1 : zQ → Option Bool) : Option (List zQ) :=
  (zAK p0 p1).bind fun QK =>
  if (QK == (-1)) then
    some p0
  else
    Qw p1 N p0 QK (w64 (QK + 1))


def WV (p0 : zQ) (p1 : zQ) : Option Int :=
  some (w64 (p0.X0 - p1.X0))

def Jd (QK : (List zQ)) : List zQ → Nat → List Int → Option ((List Int) × (List zQ))
  | [], iL1, zDE =>
    some (zDE, QK)
  | xL1 :: zV, iL1, zDE =>
    (if (decide (0 ≤ (w64 ((zDE.length : Int) - 1)))) then 
      (idx zDE (w64 ((zDE.length : Int) - 1))).bind fun zjh =>
      some (decide (xL1.X0 ≤ zjh))
     else some false).bind fun zd4 =>
    if zd4 then
      (idx zDE (w64 ((zDE.length : Int) - 1))).bind fun zq =>
      (idx zDE (w64 ((zDE.length : Int) - 1))).bind fun zHv =>
      (sets zDE (w64 ((zDE.length : Int) - 1)) (max zq xL1.X1)).bind fun zTh =>
      (Jd QK zV (iL1 + 1)) zTh
    else
      (apd zDE [xL1.X0, xL1.X1]).bind fun zgS =>
      (Jd QK zV (iL1 + 1)) zgS
noncomputable def zBJ (p0 : (List zQ)) : Option ((List Int) × (List zQ)) :=
  (zOr p0 (fun z0 z1 => WV z0 z1)).bind fun QK =>
  Jd QK QK 0 ([] : List Int)

def Jm (p1 : (List Int)) : List Int → Nat → Option Bool
  | [], iL1 =>
    some true
  | xL1 :: zV, iL1 =>
    (idx p1 (iL1 : Int)).bind fun x103 =>
    if (xL1 != x103) then
      some false
    else
      (Jm p1 zV (iL1 + 1))
def zAr (p0 : (List Int)) (p1 : (List Int)) : Option Bool :=
  if ((p0.length : Int) != (p1.length : Int)) then
    some false
  else
    Jm p1 p0 0


def Jj (p0 : (List ze)) (p1 : ze) : Option (List ze) :=
  if (((p1.Xs.length : Int) == 0) || (decide (p1.Y1 ≤ p1.Y0))) then
    some p0
  else
    (if (decide (0 ≤ (w64 ((p0.length : Int) - 1)))) then 
      (idx p0 (w64 ((p0.length : Int) - 1))).bind fun x103 =>
      some (x103.Y1 == p1.Y0)
     else some false).bind fun zQX =>
    (if zQX then 
      (idx p0 (w64 ((p0.length : Int) - 1))).bind fun zBu =>
      (zAr zBu.Xs p1.Xs).bind fun zDI =>
      some zDI
     else some false).bind fun zd8 =>
    if zd8 then
      (idx p0 (w64 ((p0.length : Int) - 1))).bind fun zLO =>
      (sets p0 (w64 ((p0.length : Int) - 1)) (ze.mk zLO.Y0 p1.Y1 zLO.Xs)).bind fun zVb =>
      some zVb
    else
      (apd p0 [p1]).bind fun zgV =>
      some zgV

noncomputable def VU (y102 : (List zQ)) (WN : (List Int)) (zCO : Int) (zAR : List ze) (kL4 : Int → (List ze) → (List zQ) → Int → Option (List ze)) : Nat → List zQ → Int → Option (List ze)
  | 0, _, _ => none
  | mL5 + 1, zH7, zNy =>
    (if (decide (zNy < (y102.length : Int))) then 
      (idx y102 zNy).bind fun zjg =>
      (idx WN zCO).bind fun zjf =>
      some (decide (zjg.Y0 ≤ zjf))
     else some false).bind fun zd2 =>
    if zd2 then
      (idx y102 zNy).bind fun zF8 =>
      (apd zH7 [zF8]).bind fun zgO =>
      (VU y102 WN zCO zAR kL4 mL5) zgO (w64 (zNy + 1))
    else
      (idx WN zCO).bind fun zS2 =>
      (idx WN (w64 (zCO + 1))).bind fun zS1 =>
      (zBJ zH7).bind fun zGb =>
      (Jj zAR (ze.mk zS2 zS1 zGb.1)).bind fun zSx =>
      kL4 (w64 (zCO + 1)) zSx zGb.2 zNy
noncomputable def JW (N : Nat) (y102 : (List zQ)) (WN : (List Int)) : Nat → Int → List ze → List zQ → Int → Option (List ze)
  | 0, _, _, _, _ => none
  | mL4 + 1, zCO, zAR, zBD, zcv =>
    if (decide ((w64 (zCO + 1)) < (WN.length : Int))) then
      (Vn N zBD (fun z0 => zA8 z0 WN zCO)).bind fun zSy =>
      VU y102 WN zCO zAR (JW N y102 WN mL4) N zSy zcv
    else
      some zAR
noncomputable def VV (N : Nat) (y102 : (List zQ)) : List zQ → Nat → List Int → Option (List ze)
  | [], iL1, zGh =>
    (zTD zGh).bind fun zFT =>
    (cpI zFT).bind fun WN =>
    JW N y102 WN N 0 ([] : List ze) ([] : List zQ) 0
  | xL1 :: zV, iL1, zGh =>
    (apd zGh [xL1.Y0, xL1.Y1]).bind fun zaW =>
    (VV N y102 zV (iL1 + 1)) zaW
noncomputable def zCK (N : Nat) (p0 : (List zQ)) : Option (List ze) :=
  (Jr p0).bind fun QK =>
  (zOr QK (fun z0 z1 => zA9 z0 z1)).bind fun y102 =>
  VV N y102 y102 0 ([] : List Int)

noncomputable def KF (N : Nat) (p0 : QB) (zJZ : List (List ze)) (kL3 : (List (List ze)) → Option QU) : List zQ → Nat → List zQ → Option QU
  | [], iL4, zVa =>
    (zCK N zVa).bind fun zHr =>
    (apd zJZ [zHr]).bind fun zH8 =>
    kL3 zH8
  | xL4 :: Ki, iL4, zVa =>
    (apd zVa [(zQ.mk (w64 (xL4.X0 * p0.Unit)) (w64 (xL4.Y0 * p0.Unit)) (w64 (xL4.X1 * p0.Unit)) (w64 (xL4.Y1 * p0.Unit)))]).bind fun zgP =>
    (KF N p0 zJZ kL3 Ki (iL4 + 1)) zgP
noncomputable def JE (N : Nat) (p0 : QB) : List zZ → Nat → List (List ze) → Option QU
  | [], iL3, zJZ =>
    some (QU.mk p0 zJZ [] false (-1) (zJ.mk 0 0) false 0 0)
  | xL3 :: Qz, iL3, zJZ =>
    KF N p0 zJZ (JE N p0 Qz (iL3 + 1)) xL3.Rects 0 ([] : List zQ)
noncomputable def zBN (N : Nat) (p0 : QB) : Option QU :=
  JE N p0 p0.Tools 0 ([] : List (List ze))


def Wm (p0 : QU) (p1 : zJ) (p2 : zJ) : Option zJ :=
  some (zJ.mk (w64 ((w64 (p1.X * p0.p.Unit)) + p2.X)) (w64 ((w64 (p1.Y * p0.p.Unit)) + p2.Y)))


def zCp (p0 : Int) (p1 : Int) (p2 : Int) : Option Bool :=
  some ((decide (p1 ≤ p0)) && (decide (p0 ≤ p2)))


def Wv (p0 : Int) : Option Bool :=
  (zCp p0 (-1000000) 1000000).bind fun QK =>
  some QK


def zAU (p0 : zJ) : Option Bool :=
  (Wv p0.X).bind fun y101 =>
  (if y101 then 
    (Wv p0.Y).bind fun y104 =>
    some y104
   else some false).bind fun zGi =>
  some zGi


def zIb (p0 : zJ) (p1 : zJ) : Option Int :=
  some (w64 ((max (w64 (p0.X - p1.X)) (w64 (p1.X - p0.X))) + (max (w64 (p0.Y - p1.Y)) (w64 (p1.Y - p0.Y)))))

def Jn (kL3 : (List zQ) → Option (List zQ)) (xL3 : ze) : Nat → List zQ → Int → Option (List zQ)
  | 0, _, _ => none
  | mL4 + 1, zFk, zHL =>
    if (decide (zHL < (xL3.Xs.length : Int))) then
      (idx xL3.Xs zHL).bind fun zKX =>
      (idx xL3.Xs (w64 (zHL + 1))).bind fun zKW =>
      (apd zFk [(zQ.mk zKX xL3.Y0 zKW xL3.Y1)]).bind fun zgQ =>
      (Jn kL3 xL3 mL4) zgQ (w64 (zHL + 2))
    else
      kL3 zFk
def Qx (N : Nat) : List ze → Nat → List zQ → Option (List zQ)
  | [], iL3, zEO =>
    some zEO
  | xL3 :: Qz, iL3, zEO =>
    Jn (Qx N Qz (iL3 + 1)) xL3 N zEO 0
def Vw (N : Nat) (p0 : (List ze)) : Option (List zQ) :=
  Qx N p0 0 ([] : List zQ)

noncomputable def Jy (N : Nat) (p1 : Int) (p2 : Int) (p3 : Int) (p4 : Int) (QK : (List zQ)) : Nat → List zQ → Int → Option (List ze)
  | 0, _, _ => none
  | mL1 + 1, zR7, zF9 =>
    if (decide (zF9 < (QK.length : Int))) then
      (idx zR7 zF9).bind fun VI =>
      (idx zR7 zF9).bind fun zLN =>
      (sets zR7 zF9 (zQ.mk (w64 (VI.X0 - p1)) (w64 (VI.Y0 - p3)) (w64 (VI.X1 + p2)) (w64 (VI.Y1 + p4)))).bind fun zJC =>
      (Jy N p1 p2 p3 p4 QK mL1) zJC (w64 (zF9 + 1))
    else
      (zCK N zR7).bind fun WN =>
      some WN
noncomputable def zAX (N : Nat) (p0 : (List ze)) (p1 : Int) (p2 : Int) (p3 : Int) (p4 : Int) : Option (List ze) :=
  (Vw N p0).bind fun QK =>
  Jy N p1 p2 p3 p4 QK N QK 0


noncomputable def zB5 (N : Nat) (p0 : (List ze)) (p1 : zJ) (p2 : zJ) : Option (List ze) :=
  (zAX N p0 (w64 (0 - (min p1.X p2.X))) (max p1.X p2.X) (w64 (0 - (min p1.Y p2.Y))) (max p1.Y p2.Y)).bind fun y102 =>
  some y102

def KA (x105 : ze) (zDC : ze) : List ze → Nat → Int → Int → Option zQ
  | [], iL1, zq, zHv =>
    some (zQ.mk zq x105.Y0 zHv zDC.Y1)
  | xL1 :: zV, iL1, zq, zHv =>
    (idx xL1.Xs 0).bind fun zHN =>
    (idx xL1.Xs (w64 ((xL1.Xs.length : Int) - 1))).bind fun zJA =>
    (KA x105 zDC zV (iL1 + 1)) (min zq zHN) (max zHv zJA)
def zAZ (p0 : (List ze)) : Option zQ :=
  (idx p0 0).bind fun x102 =>
  (idx x102.Xs 0).bind fun x104 =>
  (idx p0 0).bind fun x105 =>
  (idx p0 0).bind fun x107 =>
  (idx x107.Xs 1).bind fun zDD =>
  (idx p0 (w64 ((p0.length : Int) - 1))).bind fun zDC =>
  KA x105 zDC p0 0 x104 zDD


def zCq (p0 : zQ) : Option Bool :=
  (Wv p0.X0).bind fun y101 =>
  (if y101 then 
    (Wv p0.Y0).bind fun y104 =>
    some y104
   else some false).bind fun zGi =>
  (if zGi then 
    (Wv p0.X1).bind fun zI9 =>
    some zI9
   else some false).bind fun zbx =>
  (if zbx then 
    (Wv p0.Y1).bind fun zDI =>
    some zDI
   else some false).bind fun zQW =>
  some zQW


def zBM (p0 : (List ze)) : Option Bool :=
  (if ((p0.length : Int) == 0) then some true else 
    (zAZ p0).bind fun zm =>
    (zCq zm).bind fun y104 =>
    some y104
  ).bind fun zQX =>
  some zQX


def zA6 (p0 : (List ze)) (p1 : Int) (p2 : Int) : Option ((List Int) × Int) :=
  if ((p0.length : Int) == 0) then
    some (([] : List Int), p2)
  else
    (idx p0 0).bind fun x102 =>
    if (decide (p1 < x102.Y0)) then
      (idx p0 0).bind fun x104 =>
      some ([], (min p2 x104.Y0))
    else
      (idx p0 0).bind fun zcz =>
      (idx p0 0).bind fun zBu =>
      some (zcz.Xs, (min p2 zBu.Y1))

def zAT (p2 : Bool → Bool → Option Bool) (zA1 : List Int) (zDJ : Bool) (kL7 : (List Int) → (List Int) → (List Int) → Bool → Bool → Bool → Option (List Int)) (zEZ : Int) (zK4 : List Int) (zKV : Bool) (zVZ : List Int) (zS3 : Bool) : Option (List Int) :=
  (p2 zKV zS3).bind fun zZO =>
  if (zZO != zDJ) then
    (apd zA1 [zEZ]).bind fun zgN =>
    kL7 zK4 zVZ zgN zKV zS3 zZO
  else
    kL7 zK4 zVZ zA1 zKV zS3 zDJ
def Vr (p2 : Bool → Bool → Option Bool) (zBD : List Int) (zA1 : List Int) (zEa : Bool) (zDJ : Bool) (kL7 : (List Int) → (List Int) → (List Int) → Bool → Bool → Bool → Option (List Int)) (zEZ : Int) (zK4 : List Int) (zKV : Bool) : Option (List Int) :=
  (if (decide (0 < (zBD.length : Int))) then 
    (idx zBD 0).bind fun zje =>
    some (zje == zEZ)
   else some false).bind fun zd1 =>
  if zd1 then
    (cut zBD 1 (zBD.length : Int)).bind fun zgM =>
    zAT p2 zA1 zDJ kL7 zEZ zK4 zKV zgM (!zEa)
  else
    zAT p2 zA1 zDJ kL7 zEZ zK4 zKV zBD zEa
def VT (p2 : Bool → Bool → Option Bool) (zAR : List Int) (zBD : List Int) (zA1 : List Int) (zHu : Bool) (zEa : Bool) (zDJ : Bool) (kL7 : (List Int) → (List Int) → (List Int) → Bool → Bool → Bool → Option (List Int)) (zEZ : Int) : Option (List Int) :=
  (if (decide (0 < (zAR.length : Int))) then 
    (idx zAR 0).bind fun zjd =>
    some (zjd == zEZ)
   else some false).bind fun zd0 =>
  if zd0 then
    (cut zAR 1 (zAR.length : Int)).bind fun zgL =>
    Vr p2 zBD zA1 zEa zDJ kL7 zEZ zgL (!zHu)
  else
    Vr p2 zBD zA1 zEa zDJ kL7 zEZ zAR zHu
def Qt (p2 : Bool → Bool → Option Bool) : Nat → List Int → List Int → List Int → Bool → Bool → Bool → Option (List Int)
  | 0, _, _, _, _, _, _ => none
  | mL7 + 1, zAR, zBD, zA1, zHu, zEa, zDJ =>
    if ((decide (0 < (zAR.length : Int))) || (decide (0 < (zBD.length : Int)))) then
      (if ((zBD.length : Int) == 0) then some true else 
        (if (decide (0 < (zAR.length : Int))) then 
          (idx zAR 0).bind fun zYd =>
          (idx zBD 0).bind fun zYc =>
          some (decide (zYd ≤ zYc))
         else some false).bind fun ziv =>
        some ziv
      ).bind fun ziw =>
      if ziw then
        (idx zAR 0).bind fun zU2 =>
        VT p2 zAR zBD zA1 zHu zEa zDJ (Qt p2 mL7) zU2
      else
        (idx zBD 0).bind fun zU1 =>
        VT p2 zAR zBD zA1 zHu zEa zDJ (Qt p2 mL7) zU1
    else
      some zA1
def zEH (N : Nat) (p0 : (List Int)) (p1 : (List Int)) (p2 : Bool → Bool → Option Bool) : Option (List Int) :=
  Qt p2 N p0 p1 ([] : List Int) false false false

def WF (zEO : List (List ze)) (x153 : Int) (kL3 : Int → Int → (List (List ze)) → Int → Option (List ze)) (zHM : (List ze)) (x160 : Int) (zKY : Int) : Option (List ze) :=
  (idx zHM 0).bind fun zKt =>
  (idx zHM (w64 ((zHM.length : Int) - 1))).bind fun zZc =>
  kL3 (min x160 zKt.Y0) (max zKY zZc.Y1) zEO (w64 (x153 + 1))
def Vg (N : Nat) (p2 : Bool → Bool → Option Bool) (x151 : Int) (zDx : List ze) (zD1 : Int) (kL9 : (List ze) → (List ze) → (List ze) → Int → Option (List ze)) (zGg : List ze) : Nat → List ze → Option (List ze)
  | 0, _ => none
  | zgD + 1, zLk =>
    (if (decide (0 < (zLk.length : Int))) then 
      (idx zLk 0).bind fun zYb =>
      some (decide (zYb.Y1 ≤ zD1))
     else some false).bind fun zdy =>
    if zdy then
      (cut zLk 1 (zLk.length : Int)).bind fun zgJ =>
      (Vg N p2 x151 zDx zD1 kL9 zGg zgD) zgJ
    else
      (zA6 zGg zD1 x151).bind fun zLM =>
      (zA6 zLk zD1 x151).bind fun zLL =>
      (zEH N zLM.1 zLL.1 p2).bind fun zNx =>
      (Jj zDx (ze.mk zD1 (min zLM.2 zLL.2) zNx)).bind fun zQE =>
      kL9 zGg zLk zQE (min zLM.2 zLL.2)
def Vh (N : Nat) (p2 : Bool → Bool → Option Bool) (x151 : Int) (zMu : List ze) (zDx : List ze) (zD1 : Int) (kL9 : (List ze) → (List ze) → (List ze) → Int → Option (List ze)) : Nat → List ze → Option (List ze)
  | 0, _ => none
  | zVU + 1, zGg =>
    (if (decide (0 < (zGg.length : Int))) then 
      (idx zGg 0).bind fun zjc =>
      some (decide (zjc.Y1 ≤ zD1))
     else some false).bind fun zdz =>
    if zdz then
      (cut zGg 1 (zGg.length : Int)).bind fun zgK =>
      (Vh N p2 x151 zMu zDx zD1 kL9 zVU) zgK
    else
      Vg N p2 x151 zDx zD1 kL9 zGg N zMu
def Jh (N : Nat) (p2 : Bool → Bool → Option Bool) (x151 : Int) : Nat → List ze → List ze → List ze → Int → Option (List ze)
  | 0, _, _, _, _ => none
  | mL9 + 1, zaV, zMu, zDx, zD1 =>
    if (decide (zD1 < x151)) then
      Vh N p2 x151 zMu zDx zD1 (Jh N p2 x151 mL9) N zaV
    else
      some zDx
def Qr (N : Nat) (p0 : (List ze)) (p1 : (List ze)) (p2 : Bool → Bool → Option Bool) : Nat → Int → Int → List (List ze) → Int → Option (List ze)
  | 0, _, _, _, _ => none
  | mL3 + 1, x150, x151, zEO, x153 =>
    if (decide (x153 < 2)) then
      (idx zEO x153).bind fun zHM =>
      if (decide (0 < (zHM.length : Int))) then
        if ((x153 == 0) || ((p0.length : Int) == 0)) then
          (idx zHM 0).bind fun x168 =>
          (idx zHM (w64 ((zHM.length : Int) - 1))).bind fun zHL =>
          WF zEO x153 (Qr N p0 p1 p2 mL3) zHM x168.Y0 zHL.Y1
        else
          WF zEO x153 (Qr N p0 p1 p2 mL3) zHM x150 x151
      else
        (Qr N p0 p1 p2 mL3) x150 x151 zEO (w64 (x153 + 1))
    else
      Jh N p2 x151 N p0 p1 ([] : List ze) x150
def zCL (N : Nat) (p0 : (List ze)) (p1 : (List ze)) (p2 : Bool → Bool → Option Bool) : Option (List ze) :=
  if ((w64 ((p0.length : Int) + (p1.length : Int))) == 0) then
    some ([] : List ze)
  else
    Qr N p0 p1 p2 N 0 0 [p0, p1] 0


def zAY (p0 : Bool) (p1 : Bool) : Option Bool :=
  some (p0 && (!p1))


def zAL (N : Nat) (p0 : (List ze)) (p1 : (List ze)) : Option (List ze) :=
  (zCL N p0 p1 (fun z0 z1 => zAY z0 z1)).bind fun QK =>
  some QK


def zBK (p0 : Bool) (p1 : Bool) : Option Bool :=
  some (p0 || p1)


def zA7 (N : Nat) (p0 : (List ze)) (p1 : (List ze)) : Option (List ze) :=
  (zCL N p0 p1 (fun z0 z1 => zBK z0 z1)).bind fun QK =>
  some QK

def Jz : List ze → Nat → Int → Option Int
  | [], iL1, x112 =>
    some x112
  | xL1 :: zV, iL1, x112 =>
    (Jz zV (iL1 + 1)) (w64 (x112 + (w64 (Int.tdiv (xL1.Xs.length : Int) 2))))
def zBL (p0 : (List ze)) : Option Int :=
  Jz p0 0 0

def KV (zTi : List ze) : Option (Int × (List ze)) :=
  (zBL zTi).bind fun y112 =>
  if (decide (2000 < y112)) then
    some (2, zTi)
  else
    some (0, zTi)
def VM (N : Nat) (p0 : QU) (p1 : (List ze)) : Option (Int × (List ze)) :=
  (zBM p1).bind fun y113 =>
  if (!y113) then
    some (1, p0.image)
  else
    if p0.clear then
      (zAL N p0.image p1).bind fun Qp =>
      KV Qp
    else
      (zA7 N p0.image p1).bind fun zFT =>
      KV zFT

def Jq (p1 : zJ) (x103 : Int) : Option (Int × Int × Int × Bool × Int) :=
  some (0, p1.X, p1.Y, true, x103)
def KU (p0 : QU) (p1 : zJ) : Option (Int × Int × Int × Bool × Int) :=
  (zAU p1).bind fun y101 =>
  if (!y101) then
    some (1, p0.place.X, p0.place.Y, p0.placed, p0.off)
  else
    if p0.placed then
      (zIb p0.place p1).bind fun Kc =>
      Jq p1 (w64 (p0.off + Kc))
    else
      Jq p1 p0.off


noncomputable def Wo (N : Nat) (p0 : QU) (p1 : zJ) : Option (Int × Int × Int × Bool × Int × (List ze)) :=
  if (decide (p0.tool < 0)) then
    some (11, p0.place.X, p0.place.Y, p0.placed, p0.off, p0.image)
  else
    (KU p0 p1).bind fun y101 =>
    if (y101.1 != 0) then
      some (y101.1, y101.2.1, y101.2.2.1, y101.2.2.2.1, y101.2.2.2.2, p0.image)
    else
      (idx p0.tools p0.tool).bind fun x104 =>
      (zB5 N x104 p1 p1).bind fun Kc =>
      (VM N (QU.mk p0.p p0.tools p0.image p0.clear p0.tool (zJ.mk y101.2.1 y101.2.2.1) y101.2.2.2.1 y101.2.2.2.2 p0.on) Kc).bind fun zDI =>
      some (zDI.1, y101.2.1, y101.2.2.1, y101.2.2.2.1, y101.2.2.2.2, zDI.2)

def Jp (p1 : zJ) (x103 : Int) : Option (Int × Int × Int × Bool × Int) :=
  some (0, p1.X, p1.Y, true, x103)
def VL (p0 : QU) (p1 : zJ) : Option (Int × Int × Int × Bool × Int) :=
  (zAU p1).bind fun y101 =>
  if (!y101) then
    some (1, p0.place.X, p0.place.Y, p0.placed, p0.on)
  else
    if p0.placed then
      (zIb p0.place p1).bind fun Kc =>
      Jp p1 (w64 (p0.on + Kc))
    else
      Jp p1 p0.on


noncomputable def zAC (N : Nat) (p0 : QU) (p1 : zJ) : Option (Int × Int × Int × Bool × Int × (List ze)) :=
  if ((decide (p0.tool < 0)) || (!p0.placed)) then
    some (11, p0.place.X, p0.place.Y, p0.placed, p0.on, p0.image)
  else
    if ((p1.X != p0.place.X) && (p1.Y != p0.place.Y)) then
      some (3, p0.place.X, p0.place.Y, p0.placed, p0.on, p0.image)
    else
      (VL p0 p1).bind fun y102 =>
      if (y102.1 != 0) then
        some (y102.1, y102.2.1, y102.2.2.1, y102.2.2.2.1, y102.2.2.2.2, p0.image)
      else
        (idx p0.tools p0.tool).bind fun x105 =>
        (zB5 N x105 p0.place p1).bind fun zI9 =>
        (VM N (QU.mk p0.p p0.tools p0.image p0.clear p0.tool (zJ.mk y102.2.1 y102.2.2.1) y102.2.2.2.1 p0.off y102.2.2.2.2) zI9).bind fun zGc =>
        some (zGc.1, y102.2.1, y102.2.2.1, y102.2.2.2.1, y102.2.2.2.2, zGc.2)


def zAk (p0 : zQ) (p1 : zQ) : Option Int :=
  some (w64 (p0.X0 - p1.X0))

def KC (zCw : (List Int)) (zH6 : List ze) (zHt : Int) (kL6 : (List ze) → Int → Option (List ze)) : List zQ → Nat → List Int → Option (List ze)
  | [], iL7, zHE =>
    (idx zCw zHt).bind fun zZb =>
    (idx zCw (w64 (zHt + 1))).bind fun zZa =>
    (Jj zH6 (ze.mk zZb zZa zHE)).bind fun zSw =>
    kL6 zSw (w64 (zHt + 1))
  | xL7 :: zEc, iL7, zHE =>
    (idx zCw zHt).bind fun zYb =>
    (if (decide (zYb < xL7.Y0)) then some true else 
      (idx zCw zHt).bind fun zjb =>
      some (decide (xL7.Y1 ≤ zjb))
    ).bind fun ziu =>
    if ziu then
      (KC zCw zH6 zHt kL6 zEc (iL7 + 1)) zHE
    else
      (if (decide (0 < (zHE.length : Int))) then 
        (idx zHE (w64 ((zHE.length : Int) - 1))).bind fun zja =>
        some (zja == xL7.X0)
       else some false).bind fun zit =>
      if zit then
        (pre zHE (w64 ((zHE.length : Int) - 1))).bind fun zgI =>
        (KC zCw zH6 zHt kL6 zEc (iL7 + 1)) zgI
      else
        (apd zHE [xL7.X0]).bind fun zgH =>
        (KC zCw zH6 zHt kL6 zEc (iL7 + 1)) zgH
def KD (zCw : (List Int)) (zCb : (List zQ)) : Nat → List ze → Int → Option (List ze)
  | 0, _, _ => none
  | mL6 + 1, zH6, zHt =>
    if (decide ((w64 (zHt + 1)) < (zCw.length : Int))) then
      KC zCw zH6 zHt (KD zCw zCb mL6) zCb 0 ([] : List Int)
    else
      some zH6
def Ka (kL3 : (List Int) → (List zQ) → Option (List ze)) (xL3 : (List zJ)) : List zJ → Nat → List Int → List zQ → Option (List ze)
  | [], iL8, zTg, zQT =>
    kL3 zTg zQT
  | xL8 :: zGG, iL8, zTg, zQT =>
    (md (w64 ((iL8 : Int) + 1)) (xL3.length : Int)).bind fun q378 =>
    (idx xL3 q378).bind fun zDw =>
    (apd zTg [xL8.Y]).bind fun zaU =>
    if (xL8.X == zDw.X) then
      (apd zQT [(zQ.mk xL8.X (min xL8.Y zDw.Y) 0 (max xL8.Y zDw.Y))]).bind fun zgG =>
      (Ka kL3 xL3 zGG (iL8 + 1)) zaU zgG
    else
      (Ka kL3 xL3 zGG (iL8 + 1)) zaU zQT
noncomputable def KE (N : Nat) : List (List zJ) → Nat → List Int → List zQ → Option (List ze)
  | [], iL3, zPJ, zH8 =>
    (zTD zPJ).bind fun zMd =>
    (cpI zMd).bind fun zCw =>
    (zOr zH8 (fun z0 z1 => zAk z0 z1)).bind fun zCb =>
    KD zCw zCb N ([] : List ze) 0
  | xL3 :: Qz, iL3, zPJ, zH8 =>
    Ka (KE N Qz (iL3 + 1)) xL3 xL3 0 zPJ zH8
noncomputable def zCs (N : Nat) (p0 : (List (List zJ))) : Option (List ze) :=
  KE N p0 0 ([] : List Int) ([] : List zQ)


def KG (p0 : zJ) : Option Bool :=
  (zAU p0).bind fun y101 =>
  some (!y101)

noncomputable def JJ (N : Nat) (p0 : QU) (p2 : zJ) : List zJ → Nat → List zJ → Option (Int × (List ze))
  | [], iL1, zMv =>
    (zCs N [zMv]).bind fun zKr =>
    (zBL zKr).bind fun zDH =>
    if (decide (2000 < zDH)) then
      some (2, p0.image)
    else
      (JN zMv (fun z0 => KG z0)).bind fun zRj =>
      if zRj then
        some (1, p0.image)
      else
        (VM N p0 zKr).bind fun zKq =>
        some (zKq.1, zKq.2)
  | xL1 :: zV, iL1, zMv =>
    (Wm p0 xL1 p2).bind fun zHs =>
    (apd zMv [zHs]).bind fun zgT =>
    (JJ N p0 p2 zV (iL1 + 1)) zgT
noncomputable def zAD (N : Nat) (p0 : QU) (p1 : (List zJ)) (p2 : zJ) : Option (Int × (List ze)) :=
  JJ N p0 p2 p1 0 ([] : List zJ)

def JI (zdS : List ze) (zYd : Bool) (zYc : Int) (zU2 : Int) (zU1 : Int) (zfm : Bool) (zfl : Int) (zfk : Int) : Option (Int × Bool × Int × Int × Int × Bool × Int × Int × (List ze)) :=
  some (0, zYd, zYc, zU2, zU1, zfm, zfl, zfk, zdS)
def Jf (p0 : QU) (p1 : zC) (p2 : zJ) (rec : QU → (List zC) → zJ → Option (Int × Bool × Int × Int × Int × Bool × Int × Int × (List ze))) (zDv : Int) (kL9 : (List ze) → Bool → Int → Int → Int → Bool → Int → Int → Int → Option (Int × Bool × Int × Int × Int × Bool × Int × Int × (List ze))) : Nat → List ze → Bool → Int → Int → Int → Bool → Int → Int → Int → Option (Int × Bool × Int × Int × Int × Bool × Int × Int × (List ze))
  | 0, _, _, _, _, _, _, _, _, _ => none
  | zVU + 1, zMt, zQM, zQL, zQK, zQJ, zQI, zQH, zQG, zFi =>
    if (decide (zFi < p1.NX)) then
      (rec (QU.mk p0.p p0.tools zMt zQM zQL (zJ.mk zQK zQJ) zQI zQH zQG) p1.Steps (zJ.mk (w64 (p2.X + (w64 ((w64 (zFi * p1.At.X)) * p0.p.Unit)))) (w64 (p2.Y + (w64 ((w64 (zDv * p1.At.Y)) * p0.p.Unit)))))).bind fun zBU =>
      if (zBU.1 != 0) then
        some (zBU.1, zBU.2.1, zBU.2.2.1, zBU.2.2.2.1, zBU.2.2.2.2.1, zBU.2.2.2.2.2.1, zBU.2.2.2.2.2.2.1, zBU.2.2.2.2.2.2.2.1, zBU.2.2.2.2.2.2.2.2)
      else
        (Jf p0 p1 p2 rec zDv kL9 zVU) zBU.2.2.2.2.2.2.2.2 zBU.2.1 zBU.2.2.1 zBU.2.2.2.1 zBU.2.2.2.2.1 zBU.2.2.2.2.2.1 zBU.2.2.2.2.2.2.1 zBU.2.2.2.2.2.2.2.1 (w64 (zFi + 1))
    else
      kL9 zMt zQM zQL zQK zQJ zQI zQH zQG (w64 (zDv + 1))
def Qv (N : Nat) (p0 : QU) (p1 : zC) (p2 : zJ) (rec : QU → (List zC) → zJ → Option (Int × Bool × Int × Int × Int × Bool × Int × Int × (List ze))) : Nat → List ze → Bool → Int → Int → Int → Bool → Int → Int → Int → Option (Int × Bool × Int × Int × Int × Bool × Int × Int × (List ze))
  | 0, _, _, _, _, _, _, _, _, _ => none
  | mL9 + 1, zVY, zYa, zYZ, zYY, zYX, zYW, zYV, zYU, zDv =>
    if (decide (zDv < p1.NY)) then
      Jf p0 p1 p2 rec zDv (Qv N p0 p1 p2 rec mL9) N zVY zYa zYZ zYY zYX zYW zYV zYU 0
    else
      JI zVY zYa zYZ zYY zYX zYW zYV zYU
noncomputable def Jg (N : Nat) (p0 : QU) (p1 : zC) (p2 : zJ) (rec : QU → (List zC) → zJ → Option (Int × Bool × Int × Int × Int × Bool × Int × Int × (List ze))) (y102 : zJ) (zcu : Bool) : Option (Int × Bool × Int × Int × Int × Bool × Int × Int × (List ze)) :=
  if zcu then
    JI p0.image (p1.Kind == 2) p0.tool p0.place.X p0.place.Y p0.placed p0.off p0.on
  else
    if (p1.Kind == 3) then
      (zCM p0.p p1.Name).bind fun zUz =>
      JI p0.image p0.clear zUz p0.place.X p0.place.Y p0.placed p0.off p0.on
    else
      if (p1.Kind == 4) then
        (KU p0 y102).bind fun zI8 =>
        some (zI8.1, p0.clear, p0.tool, zI8.2.1, zI8.2.2.1, zI8.2.2.2.1, zI8.2.2.2.2, p0.on, p0.image)
      else
        if (p1.Kind == 5) then
          (Wo N p0 y102).bind fun zI7 =>
          some (zI7.1, p0.clear, p0.tool, zI7.2.1, zI7.2.2.1, zI7.2.2.2.1, zI7.2.2.2.2.1, p0.on, zI7.2.2.2.2.2)
        else
          if (p1.Kind == 6) then
            (zAC N p0 y102).bind fun zI6 =>
            some (zI6.1, p0.clear, p0.tool, zI6.2.1, zI6.2.2.1, zI6.2.2.2.1, p0.off, zI6.2.2.2.2.1, zI6.2.2.2.2.2)
          else
            if (p1.Kind == 7) then
              (zAD N p0 p1.Points p2).bind fun zQF =>
              some (zQF.1, p0.clear, p0.tool, p0.place.X, p0.place.Y, p0.placed, p0.off, p0.on, zQF.2)
            else
              if (p1.Kind == 8) then
                Qv N p0 p1 p2 rec N p0.image p0.clear p0.tool p0.place.X p0.place.Y p0.placed p0.off p0.on 0
              else
                JI p0.image p0.clear p0.tool p0.place.X p0.place.Y p0.placed p0.off p0.on
noncomputable def Kg (rec : QU → (List zC) → zJ → Option (Int × Bool × Int × Int × Int × Bool × Int × Int × (List ze))) (N : Nat) (p0 : QU) (p1 : zC) (p2 : zJ) : Option (Int × Bool × Int × Int × Int × Bool × Int × Int × (List ze)) :=
  (Wm p0 p1.At p2).bind fun y102 =>
  if (p1.Kind == 1) then
    Jg N p0 p1 p2 rec y102 (p1.Kind == 1)
  else
    Jg N p0 p1 p2 rec y102 (p1.Kind == 2)

noncomputable def Jc (N : Nat) (p0 : QU) (p2 : zJ) (rec : QU → (List zC) → zJ → Option (Int × Bool × Int × Int × Int × Bool × Int × Int × (List ze))) : List zC → Nat → List ze → Bool → Int → Int → Int → Bool → Int → Int → Option (Int × Bool × Int × Int × Int × Bool × Int × Int × (List ze))
  | [], iL1, zR4, zJA, zU7, zOh, zU6, zU5, zU4, zU3 =>
    some (0, zJA, zU7, zOh, zU6, zU5, zU4, zU3, zR4)
  | xL1 :: zV, iL1, zR4, zJA, zU7, zOh, zU6, zU5, zU4, zU3 =>
    (Kg rec N (QU.mk p0.p p0.tools zR4 zJA zU7 (zJ.mk zOh zU6) zU5 zU4 zU3) xL1 p2).bind fun zBV =>
    if (zBV.1 != 0) then
      some (zBV.1, zBV.2.1, zBV.2.2.1, zBV.2.2.2.1, zBV.2.2.2.2.1, zBV.2.2.2.2.2.1, zBV.2.2.2.2.2.2.1, zBV.2.2.2.2.2.2.2.1, zBV.2.2.2.2.2.2.2.2)
    else
      (Jc N p0 p2 rec zV (iL1 + 1)) zBV.2.2.2.2.2.2.2.2 zBV.2.1 zBV.2.2.1 zBV.2.2.2.1 zBV.2.2.2.2.1 zBV.2.2.2.2.2.1 zBV.2.2.2.2.2.2.1 zBV.2.2.2.2.2.2.2.1
noncomputable def zCS (N : Nat) (rec : QU → (List zC) → zJ → Option (Int × Bool × Int × Int × Int × Bool × Int × Int × (List ze))) (p0 : QU) (p1 : (List zC)) (p2 : zJ) : Option (Int × Bool × Int × Int × Int × Bool × Int × Int × (List ze)) :=
  Jc N p0 p2 rec p1 0 p0.image p0.clear p0.tool p0.place.X p0.place.Y p0.placed p0.off p0.on
noncomputable def WW : Nat → QU → (List zC) → zJ → Option (Int × Bool × Int × Int × Int × Bool × Int × Int × (List ze))
  | 0 => fun _ _ _ => none
  | N + 1 => zCS N (WW N)


noncomputable def zEM (N : Nat) (p0 : QB) : Option (QU × Int) :=
  (zBN N p0).bind fun y101 =>
  (WW N y101 p0.Steps (zJ.mk 0 0)).bind fun zm =>
  some ((QU.mk y101.p y101.tools zm.2.2.2.2.2.2.2.2 zm.2.1 zm.2.2.1 (zJ.mk zm.2.2.2.1 zm.2.2.2.2.1) zm.2.2.2.2.2.1 zm.2.2.2.2.2.2.1 zm.2.2.2.2.2.2.2.1), zm.1)


noncomputable def zCu (N : Nat) (p0 : QB) : Option ((List ze) × Int) :=
  (Ji N p0).bind fun y101 =>
  if (y101 != 0) then
    some (([] : List ze), y101)
  else
    (zEM N p0).bind fun y102 =>
    if (y102.2 != 0) then
      some (([] : List ze), y102.2)
    else
      some (y102.1.image, 0)


noncomputable def WU (N : Nat) (p0 : QB) : Option ((List zQ) × Int) :=
  (zCu N p0).bind fun y101 =>
  (Vw N y101.1).bind fun zm =>
  some (zm, y101.2)



def zAn : List zJ → Nat → ByteArray → Option ByteArray
  | [], iL1, zGd =>
    some zGd
  | xL1 :: zV, iL1, zGd =>
    (zLm xL1.X).bind fun zRj =>
    (zGj (⟨#[32]⟩) zRj).bind fun zjr =>
    (zGj zjr (⟨#[32]⟩)).bind fun zjq =>
    (zLm xL1.Y).bind fun zKq =>
    (zGj zjq zKq).bind fun zjo =>
    (zGj zGd zjo).bind fun zfz =>
    (zAn zV (iL1 + 1)) zfz
def zAh (p0 : (List zJ)) : Option ByteArray :=
  zAn p0 0 ByteArray.empty

def Qq (rec : ByteArray → (List zC) → Option ByteArray) : List zC → Nat → ByteArray → Option ByteArray
  | [], iL1, m194 =>
    some m194
  | xL1 :: zV, iL1, m194 =>
    if (xL1.Kind == 1) then
      (sbW m194 (⟨#[100, 97, 114, 107, 10]⟩)).bind fun zZW =>
      (Qq rec zV (iL1 + 1)) zZW
    else
      if (xL1.Kind == 2) then
        (sbW m194 (⟨#[99, 108, 101, 97, 114, 10]⟩)).bind fun zZV =>
        (Qq rec zV (iL1 + 1)) zZV
      else
        if (xL1.Kind == 3) then
          (zGj (⟨#[117, 115, 101, 32]⟩) xL1.Name).bind fun t201 =>
          (zGj t201 (⟨#[10]⟩)).bind fun zc7 =>
          (sbW m194 zc7).bind fun zZU =>
          (Qq rec zV (iL1 + 1)) zZU
        else
          if (xL1.Kind == 4) then
            (zAh [xL1.At]).bind fun zco =>
            (zGj (⟨#[109, 111, 118, 101]⟩) zco).bind fun zjn =>
            (zGj zjn (⟨#[10]⟩)).bind fun t208 =>
            (sbW m194 t208).bind fun zOf =>
            (Qq rec zV (iL1 + 1)) zOf
          else
            if (xL1.Kind == 5) then
              (zAh [xL1.At]).bind fun zcn =>
              (zGj (⟨#[102, 108, 97, 115, 104]⟩) zcn).bind fun t213 =>
              (zGj t213 (⟨#[10]⟩)).bind fun zc6 =>
              (sbW m194 zc6).bind fun zZS =>
              (Qq rec zV (iL1 + 1)) zZS
            else
              if (xL1.Kind == 6) then
                (zAh [xL1.At]).bind fun zCN =>
                (zGj (⟨#[108, 105, 110, 101]⟩) zCN).bind fun zjm =>
                (zGj zjm (⟨#[10]⟩)).bind fun zc5 =>
                (sbW m194 zc5).bind fun zZR =>
                (Qq rec zV (iL1 + 1)) zZR
              else
                if (xL1.Kind == 7) then
                  (zAh xL1.Points).bind fun zcm =>
                  (zGj (⟨#[97, 114, 101, 97]⟩) zcm).bind fun zjl =>
                  (zGj zjl (⟨#[10]⟩)).bind fun zc4 =>
                  (sbW m194 zc4).bind fun zZQ =>
                  (Qq rec zV (iL1 + 1)) zZQ
                else
                  if (xL1.Kind == 8) then
                    (zAh [(zJ.mk xL1.NX xL1.NY), xL1.At]).bind fun zcl =>
                    (zGj (⟨#[114, 101, 112, 101, 97, 116]⟩) zcl).bind fun zjk =>
                    (zGj zjk (⟨#[10]⟩)).bind fun zc3 =>
                    (sbW m194 zc3).bind fun zYQ =>
                    (rec zYQ xL1.Steps).bind fun zYP =>
                    (sbW zYP (⟨#[100, 111, 110, 101, 10]⟩)).bind fun zZP =>
                    (Qq rec zV (iL1 + 1)) zZP
                  else
                    (Qq rec zV (iL1 + 1)) m194
def zDF (N : Nat) (rec : ByteArray → (List zC) → Option ByteArray) (p0 : ByteArray) (p1 : (List zC)) : Option ByteArray :=
  Qq rec p1 0 p0
def zCY : Nat → ByteArray → (List zC) → Option ByteArray
  | 0 => fun _ _ => none
  | N + 1 => zDF N (zCY N)



def zBm (kL3 : ByteArray → Option (ByteArray × Int)) : List zQ → Nat → ByteArray → Option (ByteArray × Int)
  | [], iL4, m208 =>
    (sbW m208 (⟨#[10]⟩)).bind fun zOf =>
    kL3 zOf
  | xL4 :: Ki, iL4, m208 =>
    (zAh [(zJ.mk xL4.X0 xL4.Y0), (zJ.mk xL4.X1 xL4.Y1)]).bind fun zYR =>
    (sbW m208 zYR).bind fun zZT =>
    (zBm kL3 Ki (iL4 + 1)) zZT
def zAE (N : Nat) (p0 : QB) : List zZ → Nat → ByteArray → Option (ByteArray × Int)
  | [], iL3, m178 =>
    (zCY N m178 p0.Steps).bind fun zYS =>
    (sbL zYS).bind fun zSz =>
    if (decide (200000 < zSz.1)) then
      some (ByteArray.empty, 2)
    else
      (sbS zSz.2).bind fun zHr =>
      some (zHr.1, 0)
  | xL3 :: Qz, iL3, m178 =>
    (zGj (⟨#[116, 111, 111, 108, 32]⟩) xL3.Name).bind fun zc8 =>
    (sbW m178 zc8).bind fun zAO =>
    zBm (zAE N p0 Qz (iL3 + 1)) xL3.Rects 0 zAO
def zFO (N : Nat) (p0 : QB) : Option (ByteArray × Int) :=
  (Ji N p0).bind fun y101 =>
  if (y101 != 0) then
    some (ByteArray.empty, y101)
  else
    (zLm p0.Unit).bind fun zm =>
    (zGj (⟨#[117, 110, 105, 116, 32]⟩) zm).bind fun zjs =>
    (zGj zjs (⟨#[10]⟩)).bind fun t105 =>
    (sbW ByteArray.empty t105).bind fun Kc =>
    zAE N p0 p0.Tools 0 Kc


def Vl (N : Nat)  : Option Bool :=
  (zFO N (QB.mk 7 [] [])).bind fun QK =>
  some ((QK.2 == 0) && (sEq QK.1 (⟨#[117, 110, 105, 116, 32, 55, 10]⟩)))


def Jo (p0 : (List zZ)) : Option (List zZ) :=
  (apd ([] : List zZ) p0).bind fun Wq =>
  some Wq

def Kk (p1 : zQ → Option zQ) (Wp : List zZ) (Vb : Int) (kL3 : (List zZ) → Int → Option (List zZ)) (zBW : zZ) : List zQ → Nat → List zQ → Option (List zZ)
  | [], iL4, zCh =>
    kL3 ((Wp).set (Vb).toNat (zZ.mk zBW.Name zCh)) (w64 (Vb + 1))
  | xL4 :: Ki, iL4, zCh =>
    (idx zCh (iL4 : Int)).bind fun VH =>
    (idx Wp Vb).bind fun zfo =>
    (p1 VH).bind fun zCN =>
    (idx zCh (iL4 : Int)).bind fun zfn =>
    (sets zCh (iL4 : Int) zCN).bind fun zJY =>
    (Kk p1 Wp Vb kL3 zBW Ki (iL4 + 1)) zJY
def Jl (p1 : zQ → Option zQ) (QK : (List zZ)) : Nat → List zZ → Int → Option (List zZ)
  | 0, _, _ => none
  | mL3 + 1, Wp, Vb =>
    if (decide (Vb < (QK.length : Int))) then
      (idx Wp Vb).bind fun zKs =>
      (Jr zKs.Rects).bind fun zAO =>
      (idx Wp Vb).bind fun zBW =>
      (idx Wp Vb).bind fun zfp =>
      Kk p1 Wp Vb (Jl p1 QK mL3) zBW zAO 0 zAO
    else
      some Wp
def zCF (N : Nat) (p0 : (List zZ)) (p1 : zQ → Option zQ) : Option (List zZ) :=
  (Jo p0).bind fun QK =>
  Jl p1 QK N QK 0


def zDT (p0 : zQ) : Option zQ :=
  some p0


def Ke (p0 : (List zJ)) : Option (List zJ) :=
  (apd ([] : List zJ) p0).bind fun Wq =>
  some Wq

def Wd (p1 : zJ) (zEN : List zC) (zVd : (List zC) → Option (List zC)) (zw : zC) (zF7 : Int) (zF6 : Int) (zGa : (List zJ)) : Nat → List zJ → Int → Option (List zC)
  | 0, _, _ => none
  | zgC + 1, zKa, zFh =>
    if (decide (zFh < (zGa.length : Int))) then
      (idx zKa zFh).bind fun zS0 =>
      (idx zKa zFh).bind fun zfj =>
      (sets zKa zFh (zJ.mk (w64 (zS0.X + p1.X)) zfj.Y)).bind fun zQS =>
      (idx zQS zFh).bind fun zYT =>
      (idx zQS zFh).bind fun zfi =>
      (sets zQS zFh (zJ.mk zfi.X (w64 (zYT.Y + p1.Y)))).bind fun zTf =>
      (Wd p1 zEN zVd zw zF7 zF6 zGa zgC) zTf (w64 (zFh + 1))
    else
      (apd zEN [(zC.mk zw.Kind zw.Name (zJ.mk zF7 zF6) zKa zw.NX zw.NY zw.Steps)]).bind fun zgF =>
      zVd zgF
def zAV (N : Nat) (p1 : zJ) (zEN : List zC) (zVd : (List zC) → Option (List zC)) (zw : zC) (zF7 : Int) (zF6 : Int) : Option (List zC) :=
  (Ke zw.Points).bind fun zGa =>
  Wd p1 zEN zVd zw zF7 zF6 zGa N zGa 0
def WZ (p1 : zJ) (rec : (List zC) → zJ → Option (List zC)) (zw : zC) (zKU : Int) (zkK : (List zC) → Int → Option (List zC)) : Nat → List zC → Int → Option (List zC)
  | 0, _, _ => none
  | zgB + 1, zVW, zRk =>
    if (decide (zRk < zw.NX)) then
      (rec zw.Steps (zJ.mk (w64 (p1.X + (w64 (zRk * zw.At.X)))) (w64 (p1.Y + (w64 (zKU * zw.At.Y)))))).bind fun zSv =>
      (apd zVW zSv).bind fun zgE =>
      (WZ p1 rec zw zKU zkK zgB) zgE (w64 (zRk + 1))
    else
      zkK zVW (w64 (zKU + 1))
def Ko (N : Nat) (p1 : zJ) (rec : (List zC) → zJ → Option (List zC)) (zVd : (List zC) → Option (List zC)) (zw : zC) : Nat → List zC → Int → Option (List zC)
  | 0, _, _ => none
  | zZ9 + 1, zVX, zKU =>
    if (decide (zKU < zw.NY)) then
      WZ p1 rec zw zKU (Ko N p1 rec zVd zw zZ9) N zVX 0
    else
      zVd zVX
def Qj (N : Nat) (p1 : zJ) (rec : (List zC) → zJ → Option (List zC)) : List zC → Nat → List zC → Option (List zC)
  | [], zGJ, zEN =>
    some zEN
  | zw :: zAG, zGJ, zEN =>
    if (zw.Kind == 8) then
      Ko N p1 rec (Qj N p1 rec zAG (zGJ + 1)) zw N zEN 0
    else
      (zBC zw.Kind).bind fun zUy =>
      if zUy.at_ then
        zAV N p1 zEN (Qj N p1 rec zAG (zGJ + 1)) zw (w64 (zw.At.X + p1.X)) (w64 (zw.At.Y + p1.Y))
      else
        zAV N p1 zEN (Qj N p1 rec zAG (zGJ + 1)) zw zw.At.X zw.At.Y
def zDS (N : Nat) (rec : (List zC) → zJ → Option (List zC)) (p0 : (List zC)) (p1 : zJ) : Option (List zC) :=
  Qj N p1 rec p0 0 ([] : List zC)
def zDt : Nat → (List zC) → zJ → Option (List zC)
  | 0 => fun _ _ => none
  | N + 1 => zDS N (zDt N)


def zDc (N : Nat) (p0 : QB) : Option QB :=
  (zCF N p0.Tools (fun z0 => zDT z0)).bind fun zm =>
  (zDt N p0.Steps (zJ.mk 0 0)).bind fun zCy =>
  some (QB.mk p0.Unit zm zCy)


def zG3 (N : Nat) (p0 : QB) : Option (QB × Int) :=
  (Ji N p0).bind fun y102 =>
  if (y102 != 0) then
    some ((QB.mk 0 [] []), y102)
  else
    some (p0, 0)


def zFP (N : Nat) (p0 : QB) : Option (QB × Int) :=
  (Ji N p0).bind fun y102 =>
  if (y102 != 0) then
    some ((QB.mk 0 [] []), y102)
  else
    (zDc N p0).bind fun zm =>
    (zG3 N zm).bind fun zCx =>
    some (zCx.1, zCx.2)

def Jb (p1 : (List zQ)) : List zQ → Nat → Option Bool
  | [], iL1 =>
    some true
  | xL1 :: zV, iL1 =>
    (idx p1 (iL1 : Int)).bind fun x103 =>
    if (!(zFo xL1 x103)) then
      some false
    else
      (Jb p1 zV (iL1 + 1))
def VC (p0 : (List zQ)) (p1 : (List zQ)) : Option Bool :=
  if ((p0.length : Int) != (p1.length : Int)) then
    some false
  else
    Jb p1 p0 0


def WT (p0 : Int) : Option Int :=
  some p0

def zF4 (N : Nat) (x : Nat) (p0 : Int) : Option Int :=
  if x = 39 then WT p0 else
  if x = 95 then zAs p0 else
  none


def zZF (N : Nat) (p0 : zJ) (q0 : Nat) : Option zJ :=
  (zF4 N q0 p0.X).bind fun y102 =>
  (zF4 N q0 p0.Y).bind fun zm =>
  some (zJ.mk y102 zm)


def zZE (N : Nat) (p0 : zQ) (q0 : Nat) : Option zQ :=
  (zF4 N q0 p0.X0).bind fun y102 =>
  (zF4 N q0 p0.Y0).bind fun zm =>
  (zF4 N q0 p0.X1).bind fun y104 =>
  (zF4 N q0 p0.Y1).bind fun zCy =>
  some (zQ.mk y102 zm y104 zCy)


def WE (p0 : (List zC)) : Option (List zC) :=
  (apd ([] : List zC) p0).bind fun Wq =>
  some Wq

def KN (p1 : Int) : List Int → Nat → Option Int
  | [], iL1 =>
    some (-1)
  | xL1 :: zV, iL1 =>
    if (p1 == xL1) then
      some (iL1 : Int)
    else
      (KN p1 zV (iL1 + 1))
def zB3 (p0 : (List Int)) (p1 : Int) : Option Int :=
  KN p1 p0 0


def Wl (p0 : (List Int)) (p1 : Int) : Option Bool :=
  (zB3 p0 p1).bind fun QK =>
  some (decide (0 ≤ QK))

def zAB (p1 : (List Int)) : List zC → Nat → Option Int
  | [], iL1 =>
    some 0
  | xL1 :: zV, iL1 =>
    (Wl p1 xL1.Kind).bind fun zI9 =>
    if zI9 then
      some xL1.Kind
    else
      (zAB p1 zV (iL1 + 1))
def zDs (p0 : (List zC)) (p1 : (List Int)) : Option Int :=
  zAB p1 p0 0


def zEL (p0 : Int) : Option Bool :=
  some ((((p0 == 5) || (p0 == 6)) || (p0 == 7)) || (p0 == 8))

def Kl (p0 : zC) (p1 : VK) (p2 : (List zC)) (x102 : Bool) : Option Bool :=
  if x102 then
    (zDs p2 [1, 2, 5, 6, 7, 8]).bind fun Kc =>
    (if (p0.Kind == p1.dark) then some true else 
      (zEL Kc).bind fun zCx =>
      some (!zCx)
    ).bind fun zbw =>
    some zbw
  else
    if (p0.Kind == 3) then
      (zDs p2 [3, 5, 6, 8]).bind fun zGc =>
      (if (sEq p0.Name p1.tool) then some true else 
        (zEL zGc).bind fun y114 =>
        some (!y114)
      ).bind fun zQV =>
      some zQV
    else
      if (p0.Kind == 4) then
        (zDs p2 [4, 5, 6, 8]).bind fun Qp =>
        some ((Qp != 6) && (Qp != 8))
      else
        if (p0.Kind == 6) then
          some (((((((p1.placed && (QQ p1.place p0.At)) && (p1.last.Kind != 0)) && (QQ p1.last.At p0.At)) && (!sEq p1.tool ByteArray.empty)) && (sEq p1.last.Name p1.tool)) && (p1.dark != 0)) && (p1.last.NX == p1.dark))
        else
          some false
def zBB (p0 : zC) (p1 : VK) (p2 : (List zC)) : Option Bool :=
  if (p0.Kind == 1) then
    Kl p0 p1 p2 (p0.Kind == 1)
  else
    Kl p0 p1 p2 (p0.Kind == 2)

def JK (zDD : Int) (zDC : ByteArray) (zLO : Int) (x112 : Int) (x113 : Bool) (x114 : Int) (x115 : ByteArray) (zKZ : Int) (zF9 : Int) (zR6 : List zJ) (zS4 : Int) (zLN : Int) (zJC : List zC) : Option VK :=
  some (VK.mk zDD zDC (zJ.mk zLO x112) x113 (zC.mk x114 x115 (zJ.mk zKZ zF9) zR6 zS4 zLN zJC))
def KX (p0 : VK) (p1 : zC) (zcx : Bool) : Option VK :=
  if zcx then
    JK p0.dark p0.tool p1.At.X p1.At.Y true p1.Kind p0.tool p1.At.X p1.At.Y [] p0.dark 0 []
  else
    if (p1.Kind == 7) then
      JK p0.dark p0.tool p0.place.X p0.place.Y p0.placed 0 (⟨#[]⟩) 0 0 [] 0 0 []
    else
      if (p1.Kind == 8) then
        JK 0 (⟨#[]⟩) 0 0 false 0 (⟨#[]⟩) 0 0 [] 0 0 []
      else
        JK p0.dark p0.tool p0.place.X p0.place.Y p0.placed p0.last.Kind p0.last.Name p0.last.At.X p0.last.At.Y p0.last.Points p0.last.NX p0.last.NY p0.last.Steps
def KW (p0 : VK) (p1 : zC) (zcy : Bool) : Option VK :=
  if zcy then
    JK p1.Kind p0.tool p0.place.X p0.place.Y p0.placed p0.last.Kind p0.last.Name p0.last.At.X p0.last.At.Y p0.last.Points p0.last.NX p0.last.NY p0.last.Steps
  else
    if (p1.Kind == 3) then
      JK p0.dark p1.Name p0.place.X p0.place.Y p0.placed p0.last.Kind p0.last.Name p0.last.At.X p0.last.At.Y p0.last.Points p0.last.NX p0.last.NY p0.last.Steps
    else
      if (p1.Kind == 4) then
        JK p0.dark p0.tool p1.At.X p1.At.Y true p0.last.Kind p0.last.Name p0.last.At.X p0.last.At.Y p0.last.Points p0.last.NX p0.last.NY p0.last.Steps
      else
        if (p1.Kind == 5) then
          KX p0 p1 (p1.Kind == 5)
        else
          KX p0 p1 (p1.Kind == 6)
def WI (p0 : VK) (p1 : zC) : Option VK :=
  if (p1.Kind == 1) then
    KW p0 p1 (p1.Kind == 1)
  else
    KW p0 p1 (p1.Kind == 2)

def Vi (p0 : (List zC)) : List zC → Nat → Int → ByteArray → Int → Int → Bool → Int → ByteArray → Int → Int → List zJ → Int → Int → List zC → Option Int
  | [], iL1, x157, x158, x159, x160, zKY, zMg, zOg, zKt, zMf, zN2, x167, x168, zFk =>
    some (-1)
  | xL1 :: zV, iL1, x157, x158, x159, x160, zKY, zMg, zOg, zKt, zMf, zN2, x167, x168, zFk =>
    (cut p0 (w64 ((iL1 : Int) + 1)) (p0.length : Int)).bind fun zgR =>
    (zBB xL1 (VK.mk x157 x158 (zJ.mk x159 x160) zKY (zC.mk zMg zOg (zJ.mk zKt zMf) zN2 x167 x168 zFk)) zgR).bind fun zcp =>
    if zcp then
      some (iL1 : Int)
    else
      (WI (VK.mk x157 x158 (zJ.mk x159 x160) zKY (zC.mk zMg zOg (zJ.mk zKt zMf) zN2 x167 x168 zFk)) xL1).bind fun VG =>
      (Vi p0 zV (iL1 + 1)) VG.dark VG.tool VG.place.X VG.place.Y VG.placed VG.last.Kind VG.last.Name VG.last.At.X VG.last.At.Y VG.last.Points VG.last.NX VG.last.NY VG.last.Steps
def zEI (p0 : (List zC)) : Option Int :=
  Vi p0 p0 0 1 (⟨#[]⟩) 0 0 false 0 (⟨#[]⟩) 0 0 [] 0 0 []


def VB (p0 : (List zC)) (p1 : Int) (p2 : Int) : Option (List zC) :=
  (cut p0 p1 p2).bind fun zgW =>
  if (p1 == p2) then
    some p0
  else
    (pre p0 p1).bind fun Wq =>
    (cut p0 p2 (p0.length : Int)).bind fun zBw =>
    (leO p1 p2).bind fun z103 =>
    (cut (shf Wq zBw p0) ((Wq ++ zBw).length : Int) (p0.length : Int)).bind fun zR8 =>
    some (Wq ++ zBw)


def Wh (p0 : zQ) : Option zQ :=
  (WT p0.X0).bind fun y102 =>
  (WT p0.Y0).bind fun zm =>
  (WT p0.X1).bind fun y104 =>
  (WT p0.Y1).bind fun zCy =>
  some (zQ.mk y102 zm y104 zCy)

def QZ (Wp : List zZ) (Vb : Int) (kL3 : (List zZ) → Int → Option (List zZ)) (zBW : zZ) : List zQ → Nat → List zQ → Option (List zZ)
  | [], iL4, zCh =>
    kL3 ((Wp).set (Vb).toNat (zZ.mk zBW.Name zCh)) (w64 (Vb + 1))
  | xL4 :: Ki, iL4, zCh =>
    (idx zCh (iL4 : Int)).bind fun VH =>
    (idx Wp Vb).bind fun zfo =>
    (Wh VH).bind fun zCN =>
    (idx zCh (iL4 : Int)).bind fun zfn =>
    (sets zCh (iL4 : Int) zCN).bind fun zJY =>
    (QZ Wp Vb kL3 zBW Ki (iL4 + 1)) zJY
def QJ (QK : (List zZ)) : Nat → List zZ → Int → Option (List zZ)
  | 0, _, _ => none
  | mL3 + 1, Wp, Vb =>
    if (decide (Vb < (QK.length : Int))) then
      (idx Wp Vb).bind fun zKs =>
      (Jr zKs.Rects).bind fun zAO =>
      (idx Wp Vb).bind fun zBW =>
      (idx Wp Vb).bind fun zfp =>
      QZ Wp Vb (QJ QK mL3) zBW zAO 0 zAO
    else
      some Wp
def Je (N : Nat) (p0 : (List zZ)) : Option (List zZ) :=
  (Jo p0).bind fun QK =>
  QJ QK N QK 0


def VY (p0 : zJ) : Option zJ :=
  (WT p0.X).bind fun y102 =>
  (WT p0.Y).bind fun zm =>
  some (zJ.mk y102 zm)

def QY (QK : zJ) : List zJ → Nat → List zJ → Option (Int × Int × (List zJ))
  | [], iL1, zD8 =>
    some (QK.X, QK.Y, zD8)
  | xL1 :: zV, iL1, zD8 =>
    (idx zD8 (iL1 : Int)).bind fun zKZ =>
    (VY zKZ).bind fun zE6 =>
    (idx zD8 (iL1 : Int)).bind fun VI =>
    (sets zD8 (iL1 : Int) zE6).bind fun zGh =>
    (QY QK zV (iL1 + 1)) zGh
def JZ (p0 : zC) : Option (Int × Int × (List zJ)) :=
  (VY p0.At).bind fun QK =>
  QY QK p0.Points 0 p0.Points

def QX (rec : (List zC) → Option (List zC)) (QK : (List zC)) : Nat → List zC → Int → Option (List zC)
  | 0, _, _ => none
  | mL1 + 1, zC2, zAP =>
    if (decide (zAP < (QK.length : Int))) then
      (idx zC2 zAP).bind fun zRl =>
      (Ke zRl.Points).bind fun y158 =>
      (idx zC2 zAP).bind fun x160 =>
      (idx zC2 zAP).bind fun zMg =>
      (rec x160.Steps).bind fun zD0 =>
      (idx zC2 zAP).bind fun zMf =>
      (idx zC2 zAP).bind fun zZc =>
      (JZ (zC.mk x160.Kind x160.Name x160.At y158 x160.NX x160.NY zD0)).bind fun y167 =>
      (QX rec QK mL1) ((zC2).set (zAP).toNat (zC.mk x160.Kind x160.Name (zJ.mk y167.1 y167.2.1) y167.2.2 x160.NX x160.NY zD0)) (w64 (zAP + 1))
    else
      some zC2
def Qy (N : Nat) (rec : (List zC) → Option (List zC)) (p0 : (List zC)) : Option (List zC) :=
  (WE p0).bind fun QK =>
  QX rec QK N QK 0
def JD : Nat → (List zC) → Option (List zC)
  | 0 => fun _ => none
  | N + 1 => Qy N (JD N)


def WJ (N : Nat) (p0 : QB) : Option QB :=
  (Je N p0.Tools).bind fun y104 =>
  (JD N p0.Steps).bind fun Kc =>
  some (QB.mk p0.Unit y104 Kc)

def Vs (zm : QB) : Nat → List zC → Option (QB × Int)
  | 0, _ => none
  | mL1 + 1, zD8 =>
    (zEI zD8).bind fun Qp =>
    if (decide (Qp < 0)) then
      some ((QB.mk zm.Unit zm.Tools zD8), 0)
    else
      (VB zD8 Qp (w64 (Qp + 1))).bind fun zE6 =>
      (Vs zm mL1) zE6
def zAf (N : Nat) (p0 : QB) : Option (QB × Int) :=
  (Ji N p0).bind fun y102 =>
  if (y102 != 0) then
    some ((QB.mk 0 [] []), y102)
  else
    (WJ N p0).bind fun zm =>
    Vs zm N zm.Steps

def JA (p0 : (List zJ)) (p1 : (List zJ)) : Nat → Int → Option Bool
  | 0, _ => none
  | mL1 + 1, x107 =>
    if (decide (x107 < (p0.length : Int))) then
      (idx p0 x107).bind fun zBu =>
      (idx p1 x107).bind fun zDD =>
      if (!(QQ zBu zDD)) then
        some false
      else
        (JA p0 p1 mL1) (w64 (x107 + 1))
    else
      some true
def VO (N : Nat) (p0 : (List zJ)) (p1 : (List zJ)) : Option Bool :=
  if ((p0.length : Int) != (p1.length : Int)) then
    some false
  else
    JA p0 p1 N 0

def JF (N : Nat) (p0 : (List zC)) (p1 : (List zC)) (rec : (List zC) → (List zC) → Option Bool) : Nat → Int → Option Bool
  | 0, _ => none
  | mL1 + 1, zCP =>
    if (decide (zCP < (p0.length : Int))) then
      (idx p0 zCP).bind fun zq =>
      (idx p1 zCP).bind fun zz =>
      (if (((((zq.Kind != zz.Kind) || (!sEq zq.Name zz.Name)) || (!(QQ zq.At zz.At))) || (zq.NX != zz.NX)) || (zq.NY != zz.NY)) then some true else 
        (VO N zq.Points zz.Points).bind fun zRi =>
        some (!zRi)
      ).bind fun zQU =>
      (if zQU then some true else 
        (rec zq.Steps zz.Steps).bind fun zcq =>
        some (!zcq)
      ).bind fun zd3 =>
      if zd3 then
        some false
      else
        (JF N p0 p1 rec mL1) (w64 (zCP + 1))
    else
      some true
def VF (N : Nat) (rec : (List zC) → (List zC) → Option Bool) (p0 : (List zC)) (p1 : (List zC)) : Option Bool :=
  if ((p0.length : Int) != (p1.length : Int)) then
    some false
  else
    JF N p0 p1 rec N 0
def VZ : Nat → (List zC) → (List zC) → Option Bool
  | 0 => fun _ _ => none
  | N + 1 => VF N (VZ N)

def JG (p0 : (List zQ)) (p1 : (List zQ)) : Nat → Int → Option Bool
  | 0, _ => none
  | mL1 + 1, x107 =>
    if (decide (x107 < (p0.length : Int))) then
      (idx p0 x107).bind fun zBu =>
      (idx p1 x107).bind fun zDD =>
      if (!(zFo zBu zDD)) then
        some false
      else
        (JG p0 p1 mL1) (w64 (x107 + 1))
    else
      some true
def Va (N : Nat) (p0 : (List zQ)) (p1 : (List zQ)) : Option Bool :=
  if ((p0.length : Int) != (p1.length : Int)) then
    some false
  else
    JG p0 p1 N 0

def JO (N : Nat) (p0 : QB) (p1 : QB) : Nat → Int → Option Bool
  | 0, _ => none
  | mL1 + 1, zHN =>
    if (decide (zHN < (p0.Tools.length : Int))) then
      (idx p0.Tools zHN).bind fun zJA =>
      (idx p1.Tools zHN).bind fun zOh =>
      (if (!sEq zJA.Name zOh.Name) then some true else 
        (idx p0.Tools zHN).bind fun zcw =>
        (idx p1.Tools zHN).bind fun x151 =>
        (Va N zcw.Rects x151.Rects).bind fun y153 =>
        some (!y153)
      ).bind fun zix =>
      if zix then
        some false
      else
        (JO N p0 p1 mL1) (w64 (zHN + 1))
    else
      some true
def KH (N : Nat) (p0 : QB) (p1 : QB) : Option Bool :=
  (if ((p0.Unit != p1.Unit) || ((p0.Tools.length : Int) != (p1.Tools.length : Int))) then some true else 
    (VZ N p0.Steps p1.Steps).bind fun y104 =>
    some (!y104)
  ).bind fun zGi =>
  if zGi then
    some false
  else
    JO N p0 p1 N 0

noncomputable def Qn (N : Nat) (p0 : QB) (y101 : ((List zQ) × Int)) : Option Bool :=
  (zAf N p0).bind fun Qp =>
  (WU N Qp.1).bind fun zDH =>
  (zAf N Qp.1).bind fun JS =>
  (if ((Qp.2 == 0) && (zDH.2 == 0)) then 
    (VC y101.1 zDH.1).bind fun zHs =>
    some zHs
   else some false).bind fun zUH =>
  (if (zUH && (JS.2 == 0)) then 
    (KH N JS.1 Qp.1).bind fun zcs =>
    some zcs
   else some false).bind fun zUG =>
  (if (zUG && (decide ((Qp.1.Steps.length : Int) ≤ (p0.Steps.length : Int)))) then 
    (Vl N).bind fun zcr =>
    some zcr
   else some false).bind fun zbt =>
  some zbt
noncomputable def Km (N : Nat) (p0 : QB) : Option Bool :=
  (WU N p0).bind fun y101 =>
  if (y101.2 != 0) then
    (if ((y101.1.length : Int) == 0) then 
      (Vl N).bind fun zCy =>
      some zCy
     else some false).bind fun zby =>
    some zby
  else
    (zFP N p0).bind fun Kc =>
    if (Kc.2 == 0) then
      (WU N Kc.1).bind fun zMe =>
      (if (zMe.2 != 0) then some true else 
        (VC y101.1 zMe.1).bind fun zRi =>
        some (!zRi)
      ).bind fun zQU =>
      if zQU then
        some false
      else
        Qn N p0 y101
    else
      Qn N p0 y101

end Go.Proofs.YtoageaoknnnfbaaGreatDoor
