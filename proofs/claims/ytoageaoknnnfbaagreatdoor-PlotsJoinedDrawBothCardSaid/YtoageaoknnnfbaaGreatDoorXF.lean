/- The plain functions: what each function of the program computes; none where it would panic. -/
import Derived.Test.YtoageaoknnnfbaaGreatDoorXT
namespace Go.Proofs.YtoageaoknnnfbaaGreatDoor
open Go.RowKit

def VA (p0 : Int) (p1 : Int) (p2 : Int) : Option Bool :=
  some ((decide (p1 ≤ p0)) && (decide (p0 ≤ p2)))

def WA (p0 : ByteArray) : Nat → Int → Option Bool
  | 0, _ => none
  | mL1 + 1, x105 =>
    if (decide (x105 < (p0.size : Int))) then
      (zTB p0 x105).bind fun c106 =>
      if ((!(((decide (97 ≤ c106)) && (decide (c106 ≤ 122))) || ((decide (65 ≤ c106)) && (decide (c106 ≤ 90))))) && ((x105 == 0) || ((((decide (c106 < 48)) || (decide (57 < c106))) && (c106 != 95)) && (c106 != 45)))) then
        some false
      else
        (WA p0 mL1) (w64 (x105 + 1))
    else
      some ((decide (1 ≤ (p0.size : Int))) && (decide ((p0.size : Int) ≤ 40)))
def WF (N : Nat) (p0 : ByteArray) : Option Bool :=
  WA p0 N 0


def zAG (p0 : Int) (p1 : Int) : Option Bool :=
  (dv (-1000000) p1).bind fun q100 =>
  (dv 1000000 p1).bind fun q101 =>
  (VA p0 q100 q101).bind fun y102 =>
  some y102

def Kh (p1 : Int) : List zS → Nat → Option Int
  | [], iL1 =>
    some 0
  | xL1 :: zY, iL1 =>
    (zAG xL1.X0 p1).bind fun zE1 =>
    (if (!zE1) then some true else 
      (zAG xL1.Y0 p1).bind fun zbU =>
      some (!zbU)
    ).bind fun zad =>
    (if zad then some true else 
      (zAG xL1.X1 p1).bind fun Kq =>
      some (!Kq)
    ).bind fun zac =>
    (if zac then some true else 
      (zAG xL1.Y1 p1).bind fun zD1 =>
      some (!zD1)
    ).bind fun zQV =>
    if zQV then
      some 1
    else
      if ((decide (xL1.X1 ≤ xL1.X0)) || (decide (xL1.Y1 ≤ xL1.Y0))) then
        some 13
      else
        (Kh p1 zY (iL1 + 1))
def zBN (N : Nat) (p0 : zV) (p1 : Int) : Option Int :=
  (WF N p0.Name).bind fun y101 =>
  if (!y101) then
    some 5
  else
    if ((p0.Rects.length : Int) == 0) then
      some 9
    else
      if (decide (2000 < (p0.Rects.length : Int))) then
        some 2
      else
        Kh p1 p0.Rects 0


def zAV (p0 : Int) : Option Int :=
  (VA p0 1 100).bind fun zy =>
  if zy then
    some p0
  else
    some 1


def zDv (p0 : zG) : Option Int :=
  (zAV p0.NX).bind fun y101 =>
  (zAV p0.NY).bind fun y102 =>
  some (w64 (y101 * y102))

def Wo (kL3 : Int → Option Int) (zXj : Int) : Option Int :=
  if (decide (3000 < zXj)) then
    some 3001
  else
    kL3 zXj
def Jj (rec : (List zG) → Option Int) : List zG → Nat → Int → Option Int
  | [], iL3, zNd =>
    some zNd
  | xL3 :: JF, iL3, zNd =>
    if (decide (0 < (xL3.Steps.length : Int))) then
      (zDv xL3).bind fun zYR =>
      (rec xL3.Steps).bind fun zYQ =>
      Wo (Jj rec JF (iL3 + 1)) (w64 ((w64 (zNd + 1)) + (w64 (zYR * zYQ))))
    else
      Wo (Jj rec JF (iL3 + 1)) (w64 (zNd + 1))
def zGL (N : Nat) (rec : (List zG) → Option Int) (p0 : (List zG)) : Option Int :=
  Jj rec p0 0 0
def zCc : Nat → (List zG) → Option Int
  | 0 => fun _ => none
  | N + 1 => zGL N (zCc N)

def Vf (p0 : Int) (x101 : Bool) : Option zEU :=
  if x101 then
    some (zEU.mk false true false false)
  else
    if (p0 == 7) then
      some (zEU.mk false false true false)
    else
      if (p0 == 8) then
        some (zEU.mk false true false true)
      else
        some (zEU.mk false false false false)
def zBh (p0 : Int) : Option zEU :=
  if (p0 == 3) then
    some (zEU.mk true false false false)
  else
    if (p0 == 4) then
      Vf p0 (p0 == 4)
    else
      if (p0 == 5) then
        Vf p0 (p0 == 5)
      else
        Vf p0 (p0 == 6)


def zC9 (p0 : zV) (q0 : ByteArray) : Option Bool :=
  some (sEq p0.Name q0)

def Qb (q0 : ByteArray) : List zV → Nat → Option Int
  | [], iL1 =>
    some (-1)
  | xL1 :: zY, iL1 =>
    (zC9 xL1 q0).bind fun zA7 =>
    if zA7 then
      some (iL1 : Int)
    else
      (Qb q0 zY (iL1 + 1))
def KJ (p0 : (List zV)) (q0 : ByteArray) : Option Int :=
  Qb q0 p0 0


def zBn (p0 : zm) (p1 : ByteArray) : Option Int :=
  (KJ p0.Tools p1).bind fun y102 =>
  some y102


def zBL (p0 : zJ) (p1 : Int) : Option Bool :=
  (zAG p0.X p1).bind fun y101 =>
  (if y101 then 
    (zAG p0.Y p1).bind fun y104 =>
    some y104
   else some false).bind fun zJF =>
  some zJF


def Ky (p0 : zJ) (q0 : zm) : Option Bool :=
  (zBL p0 q0.Unit).bind fun y101 =>
  some (!y101)

def Qm (p1 : zJ → Option Bool) : List zJ → Nat → Option Int
  | [], iL1 =>
    some (-1)
  | xL1 :: zY, iL1 =>
    (p1 xL1).bind fun zo =>
    if zo then
      some (iL1 : Int)
    else
      (Qm p1 zY (iL1 + 1))
def VU (p0 : (List zJ)) (p1 : zJ → Option Bool) : Option Int :=
  Qm p1 p0 0


def JR (p0 : (List zJ)) (p1 : zJ → Option Bool) : Option Bool :=
  (VU p0 p1).bind fun zy =>
  some (decide (0 ≤ zy))

def Vi (p0 : (List zJ)) : List zJ → Nat → Option Bool
  | [], iL1 =>
    some true
  | xL1 :: zY, iL1 =>
    (md (w64 ((iL1 : Int) + 1)) (p0.length : Int)).bind fun q107 =>
    (idx p0 q107).bind fun zEd =>
    if ((xL1.X == zEd.X) == (xL1.Y == zEd.Y)) then
      some false
    else
      (Vi p0 zY (iL1 + 1))
def zCy (p0 : (List zJ)) : Option Bool :=
  if (decide ((p0.length : Int) < 4)) then
    some false
  else
    Vi p0 p0 0

def JL (p0 : zm) (p1 : zG) (p2 : Int) (zo : zEU) (x105 : Bool) : Option Int :=
  if x105 then
    some 3
  else
    (if zo.name then 
      (zBn p0 p1.Name).bind fun zAc =>
      some (decide (zAc < 0))
     else some false).bind fun zQX =>
    if zQX then
      some 5
    else
      (zBL p1.At p0.Unit).bind fun zFK =>
      (if (!zFK) then some true else 
        (JR p1.Points (fun z0 => Ky z0 p0)).bind fun y114 =>
        some y114
      ).bind fun zNi =>
      if zNi then
        some 1
      else
        if (decide (2000 < (p1.Points.length : Int))) then
          some 2
        else
          (if zo.points then 
            (zCy p1.Points).bind fun zB5 =>
            some (!zB5)
           else some false).bind fun zcd =>
          if zcd then
            some 3
          else
            if (!zo.repeat_) then
              some 0
            else
              (VA p1.NX 1 100).bind fun zYS =>
              (if (!zYS) then some true else 
                (VA p1.NY 1 100).bind fun zGN =>
                some (!zGN)
              ).bind fun zQW =>
              if zQW then
                some 1
              else
                if ((p1.Steps.length : Int) == 0) then
                  some 9
                else
                  if (decide (5 ≤ p2)) then
                    some 2
                  else
                    some 0
def zBO (p0 : zm) (p1 : zG) (p2 : Int) : Option Int :=
  (VA p1.Kind 1 8).bind fun y102 =>
  if (!y102) then
    some 4
  else
    (zBh p1.Kind).bind fun zo =>
    if ((!zo.name) && (!sEq p1.Name ByteArray.empty)) then
      JL p0 p1 p2 zo ((!zo.name) && (!sEq p1.Name ByteArray.empty))
    else
      if ((!zo.at_) && (!(zBg p1.At (zJ.mk 0 0)))) then
        JL p0 p1 p2 zo ((!zo.at_) && (!(zBg p1.At (zJ.mk 0 0))))
      else
        if ((!zo.points) && (decide (0 < (p1.Points.length : Int)))) then
          JL p0 p1 p2 zo ((!zo.points) && (decide (0 < (p1.Points.length : Int))))
        else
          JL p0 p1 p2 zo ((!zo.repeat_) && (((p1.NX != 0) || (p1.NY != 0)) || (decide (0 < (p1.Steps.length : Int)))))

def KX (p0 : zm) (p2 : Int) (rec : zm → (List zG) → Int → Option Int) : List zG → Nat → Option Int
  | [], iL1 =>
    some 0
  | xL1 :: zY, iL1 =>
    (zBO p0 xL1 p2).bind fun zG6 =>
    if (zG6 != 0) then
      some zG6
    else
      (rec p0 xL1.Steps (w64 (p2 + 1))).bind fun zAc =>
      if (zAc != 0) then
        some zAc
      else
        (KX p0 p2 rec zY (iL1 + 1))
def zCp (N : Nat) (rec : zm → (List zG) → Int → Option Int) (p0 : zm) (p1 : (List zG)) (p2 : Int) : Option Int :=
  KX p0 p2 rec p1 0
def zAv : Nat → zm → (List zG) → Int → Option Int
  | 0 => fun _ _ _ => none
  | N + 1 => zCp N (zAv N)

def KO (N : Nat) (p0 : zm) : List zV → Nat → Option Int
  | [], iL1 =>
    (zCc N p0.Steps).bind fun y112 =>
    if (decide (3000 < y112)) then
      some 2
    else
      (zAv N p0 p0.Steps 0).bind fun y113 =>
      some y113
  | xL1 :: zY, iL1 =>
    (zBN N xL1 p0.Unit).bind fun zE1 =>
    if (zE1 != 0) then
      some zE1
    else
      (if (decide (0 < (iL1 : Int))) then 
        (idx p0.Tools (w64 ((iL1 : Int) - 1))).bind fun zYX =>
        some (sLt xL1.Name zYX.Name || sEq xL1.Name zYX.Name)
       else some false).bind fun zgw =>
      if zgw then
        some 8
      else
        (KO N p0 zY (iL1 + 1))
def Jv (N : Nat) (p0 : zm) : Option Int :=
  (VA p0.Unit 1 1000).bind fun y101 =>
  if (!y101) then
    some 1
  else
    if (decide (200 < (p0.Tools.length : Int))) then
      some 2
    else
      KO N p0 p0.Tools 0


def Kg (p0 : (List zS)) : Option (List zS) :=
  (apd ([] : List zS) p0).bind fun zKu =>
  some zKu



def zAh (p0 : zS) (p1 : zS) : Option Int :=
  some (w64 (p0.Y0 - p1.Y0))




def zAg (p0 : zS) (q0 : (List Int)) (q1 : Int) : Option Bool :=
  (idx q0 q1).bind fun x101 =>
  some (decide (p0.Y1 ≤ x101))

def JV (p1 : zS → Option Bool) : List zS → Nat → Option Int
  | [], iL1 =>
    some (-1)
  | xL1 :: zY, iL1 =>
    (p1 xL1).bind fun zo =>
    if zo then
      some (iL1 : Int)
    else
      (JV p1 zY (iL1 + 1))
def WV (p0 : (List zS)) (p1 : zS → Option Bool) : Option Int :=
  JV p1 p0 0

def JB (p1 : zS → Option Bool) : Nat → List zS → Int → Int → Option (List zS)
  | 0, _, _, _ => none
  | mL1 + 1, zEj, zCP, zD2 =>
    if (decide (zD2 < (zEj.length : Int))) then
      (idx zEj zD2).bind fun WH =>
      (p1 WH).bind fun zD1 =>
      if (!zD1) then
        (idx zEj zCP).bind fun zNd =>
        (sets zEj zCP WH).bind fun zR1 =>
        (JB p1 mL1) zR1 (w64 (zCP + 1)) (w64 (zD2 + 1))
      else
        (JB p1 mL1) zEj zCP (w64 (zD2 + 1))
    else
      (cut zEj zCP (zEj.length : Int)).bind fun zCB =>
      (pre (clr zEj zCP (zCB).length (zS.mk 0 0 0 0)) zCP).bind fun zeM =>
      some zeM
def VV (N : Nat) (p0 : (List zS)) (p1 : zS → Option Bool) : Option (List zS) :=
  (WV p0 p1).bind fun zy =>
  if (zy == (-1)) then
    some p0
  else
    JB p1 N p0 zy (w64 (zy + 1))


def Vo (p0 : zS) (p1 : zS) : Option Int :=
  some (w64 (p0.X0 - p1.X0))

def Jd (zy : (List zS)) : List zS → Nat → List Int → Option ((List Int) × (List zS))
  | [], iL1, zCB =>
    some (zCB, zy)
  | xL1 :: zY, iL1, zCB =>
    (if (decide (0 ≤ (w64 ((zCB.length : Int) - 1)))) then 
      (idx zCB (w64 ((zCB.length : Int) - 1))).bind fun zhe =>
      some (decide (xL1.X0 ≤ zhe))
     else some false).bind fun zcb =>
    if zcb then
      (idx zCB (w64 ((zCB.length : Int) - 1))).bind fun zEc =>
      (idx zCB (w64 ((zCB.length : Int) - 1))).bind fun zG7 =>
      (sets zCB (w64 ((zCB.length : Int) - 1)) (max zEc xL1.X1)).bind fun zTn =>
      (Jd zy zY (iL1 + 1)) zTn
    else
      (apd zCB [xL1.X0, xL1.X1]).bind fun zeK =>
      (Jd zy zY (iL1 + 1)) zeK
noncomputable def zAp (p0 : (List zS)) : Option ((List Int) × (List zS)) :=
  (zOp p0 (fun z0 z1 => Vo z0 z1)).bind fun zy =>
  Jd zy zy 0 ([] : List Int)

def Jl (p1 : (List Int)) : List Int → Nat → Option Bool
  | [], iL1 =>
    some true
  | xL1 :: zY, iL1 =>
    (idx p1 (iL1 : Int)).bind fun x103 =>
    if (xL1 != x103) then
      some false
    else
      (Jl p1 zY (iL1 + 1))
def zAT (p0 : (List Int)) (p1 : (List Int)) : Option Bool :=
  if ((p0.length : Int) != (p1.length : Int)) then
    some false
  else
    Jl p1 p0 0


def Ji (p0 : (List ze)) (p1 : ze) : Option (List ze) :=
  if (((p1.Xs.length : Int) == 0) || (decide (p1.Y1 ≤ p1.Y0))) then
    some p0
  else
    (if (decide (0 ≤ (w64 ((p0.length : Int) - 1)))) then 
      (idx p0 (w64 ((p0.length : Int) - 1))).bind fun x103 =>
      some (x103.Y1 == p1.Y0)
     else some false).bind fun zQY =>
    (if zQY then 
      (idx p0 (w64 ((p0.length : Int) - 1))).bind fun zEd =>
      (zAT zEd.Xs p1.Xs).bind fun zAc =>
      some zAc
     else some false).bind fun zcf =>
    if zcf then
      (idx p0 (w64 ((p0.length : Int) - 1))).bind fun zYY =>
      (sets p0 (w64 ((p0.length : Int) - 1)) (ze.mk zYY.Y0 p1.Y1 zYY.Xs)).bind fun zVU =>
      some zVU
    else
      (apd p0 [p1]).bind fun zeN =>
      some zeN

noncomputable def VH (y102 : (List zS)) (Kq : (List Int)) (VC : Int) (Vu : List ze) (kL4 : Int → (List ze) → (List zS) → Int → Option (List ze)) : Nat → List zS → Int → Option (List ze)
  | 0, _, _ => none
  | mL5 + 1, zGz, zMH =>
    (if (decide (zMH < (y102.length : Int))) then 
      (idx y102 zMH).bind fun zhd =>
      (idx Kq VC).bind fun zhc =>
      some (decide (zhd.Y0 ≤ zhc))
     else some false).bind fun zca =>
    if zca then
      (idx y102 zMH).bind fun zFo =>
      (apd zGz [zFo]).bind fun zeH =>
      (VH y102 Kq VC Vu kL4 mL5) zeH (w64 (zMH + 1))
    else
      (idx Kq VC).bind fun zSs =>
      (idx Kq (w64 (VC + 1))).bind fun zSr =>
      (zAp zGz).bind fun zEy =>
      (Ji Vu (ze.mk zSs zSr zEy.1)).bind fun zQI =>
      kL4 (w64 (VC + 1)) zQI zEy.2 zMH
noncomputable def JW (N : Nat) (y102 : (List zS)) (Kq : (List Int)) : Nat → Int → List ze → List zS → Int → Option (List ze)
  | 0, _, _, _, _ => none
  | mL4 + 1, VC, Vu, zAJ, zYV =>
    if (decide ((w64 (VC + 1)) < (Kq.length : Int))) then
      (VV N zAJ (fun z0 => zAg z0 Kq VC)).bind fun zQK =>
      VH y102 Kq VC Vu (JW N y102 Kq mL4) N zQK zYV
    else
      some Vu
noncomputable def VI (N : Nat) (y102 : (List zS)) : List zS → Nat → List Int → Option (List ze)
  | [], iL1, zKs =>
    (zTC zKs).bind fun zD9 =>
    (cpI zD9).bind fun Kq =>
    JW N y102 Kq N 0 ([] : List ze) ([] : List zS) 0
  | xL1 :: zY, iL1, zKs =>
    (apd zKs [xL1.Y0, xL1.Y1]).bind fun zZN =>
    (VI N y102 zY (iL1 + 1)) zZN
noncomputable def VW (N : Nat) (p0 : (List zS)) : Option (List ze) :=
  (Kg p0).bind fun zy =>
  (zOp zy (fun z0 z1 => zAh z0 z1)).bind fun y102 =>
  VI N y102 y102 0 ([] : List Int)

noncomputable def KE (N : Nat) (p0 : zm) (zG1 : List (List ze)) (kL3 : (List (List ze)) → Option QQ) : List zS → Nat → List zS → Option QQ
  | [], iL4, zR0 =>
    (VW N zR0).bind fun zFn =>
    (apd zG1 [zFn]).bind fun zG0 =>
    kL3 zG0
  | xL4 :: Ve, iL4, zR0 =>
    (apd zR0 [(zS.mk (w64 (xL4.X0 * p0.Unit)) (w64 (xL4.Y0 * p0.Unit)) (w64 (xL4.X1 * p0.Unit)) (w64 (xL4.Y1 * p0.Unit)))]).bind fun zeI =>
    (KE N p0 zG1 kL3 Ve (iL4 + 1)) zeI
noncomputable def JN (N : Nat) (p0 : zm) : List zV → Nat → List (List ze) → Option QQ
  | [], iL3, zG1 =>
    some (QQ.mk p0 zG1 [] false (-1) (zJ.mk 0 0) false 0 0)
  | xL3 :: JF, iL3, zG1 =>
    KE N p0 zG1 (JN N p0 JF (iL3 + 1)) xL3.Rects 0 ([] : List zS)
noncomputable def zAu (N : Nat) (p0 : zm) : Option QQ :=
  JN N p0 p0.Tools 0 ([] : List (List ze))


def Vv (p0 : QQ) (p1 : zJ) (p2 : zJ) : Option zJ :=
  some (zJ.mk (w64 ((w64 (p1.X * p0.p.Unit)) + p2.X)) (w64 ((w64 (p1.Y * p0.p.Unit)) + p2.Y)))


def zCH (p0 : Int) (p1 : Int) (p2 : Int) : Option Bool :=
  some ((decide (p1 ≤ p0)) && (decide (p0 ≤ p2)))


def WC (p0 : Int) : Option Bool :=
  (zCH p0 (-1000000) 1000000).bind fun zy =>
  some zy


def Wm (p0 : zJ) : Option Bool :=
  (WC p0.X).bind fun y101 =>
  (if y101 then 
    (WC p0.Y).bind fun y104 =>
    some y104
   else some false).bind fun zJF =>
  some zJF


def zIE (p0 : zJ) (p1 : zJ) : Option Int :=
  some (w64 ((max (w64 (p0.X - p1.X)) (w64 (p1.X - p0.X))) + (max (w64 (p0.Y - p1.Y)) (w64 (p1.Y - p0.Y)))))

def Jm (kL3 : (List zS) → Option (List zS)) (xL3 : ze) : Nat → List zS → Int → Option (List zS)
  | 0, _, _ => none
  | mL4 + 1, zMV, zFp =>
    if (decide (zFp < (xL3.Xs.length : Int))) then
      (idx xL3.Xs zFp).bind fun zKP =>
      (idx xL3.Xs (w64 (zFp + 1))).bind fun zKO =>
      (apd zMV [(zS.mk zKP xL3.Y0 zKO xL3.Y1)]).bind fun zeJ =>
      (Jm kL3 xL3 mL4) zeJ (w64 (zFp + 2))
    else
      kL3 zMV
def JC (N : Nat) : List ze → Nat → List zS → Option (List zS)
  | [], iL3, zCT =>
    some zCT
  | xL3 :: JF, iL3, zCT =>
    Jm (JC N JF (iL3 + 1)) xL3 N zCT 0
def KG (N : Nat) (p0 : (List ze)) : Option (List zS) :=
  JC N p0 0 ([] : List zS)

noncomputable def Jw (N : Nat) (p1 : Int) (p2 : Int) (p3 : Int) (p4 : Int) (zy : (List zS)) : Nat → List zS → Int → Option (List ze)
  | 0, _, _ => none
  | mL1 + 1, zNg, zKh =>
    if (decide (zKh < (zy.length : Int))) then
      (idx zNg zKh).bind fun Qk =>
      (idx zNg zKh).bind fun zYX =>
      (sets zNg zKh (zS.mk (w64 (Qk.X0 - p1)) (w64 (Qk.Y0 - p3)) (w64 (Qk.X1 + p2)) (w64 (Qk.Y1 + p4)))).bind fun zTp =>
      (Jw N p1 p2 p3 p4 zy mL1) zTp (w64 (zKh + 1))
    else
      (VW N zNg).bind fun Kq =>
      some Kq
noncomputable def Wu (N : Nat) (p0 : (List ze)) (p1 : Int) (p2 : Int) (p3 : Int) (p4 : Int) : Option (List ze) :=
  (KG N p0).bind fun zy =>
  Jw N p1 p2 p3 p4 zy N zy 0


noncomputable def zBc (N : Nat) (p0 : (List ze)) (p1 : zJ) (p2 : zJ) : Option (List ze) :=
  (Wu N p0 (w64 (0 - (min p1.X p2.X))) (max p1.X p2.X) (w64 (0 - (min p1.Y p2.Y))) (max p1.Y p2.Y)).bind fun y102 =>
  some y102

def Jz (x105 : ze) (zE4 : ze) : List ze → Nat → Int → Int → Option zS
  | [], iL1, zEc, zG7 =>
    some (zS.mk zEc x105.Y0 zG7 zE4.Y1)
  | xL1 :: zY, iL1, zEc, zG7 =>
    (idx xL1.Xs 0).bind fun zS0 =>
    (idx xL1.Xs (w64 ((xL1.Xs.length : Int) - 1))).bind fun zKg =>
    (Jz x105 zE4 zY (iL1 + 1)) (min zEc zS0) (max zG7 zKg)
def Ww (p0 : (List ze)) : Option zS :=
  (idx p0 0).bind fun x102 =>
  (idx x102.Xs 0).bind fun x104 =>
  (idx p0 0).bind fun x105 =>
  (idx p0 0).bind fun x107 =>
  (idx x107.Xs 1).bind fun zQO =>
  (idx p0 (w64 ((p0.length : Int) - 1))).bind fun zE4 =>
  Jz x105 zE4 p0 0 x104 zQO


def zBI (p0 : zS) : Option Bool :=
  (WC p0.X0).bind fun y101 =>
  (if y101 then 
    (WC p0.Y0).bind fun y104 =>
    some y104
   else some false).bind fun zJF =>
  (if zJF then 
    (WC p0.X1).bind fun zDB =>
    some zDB
   else some false).bind fun zae =>
  (if zae then 
    (WC p0.Y1).bind fun zAc =>
    some zAc
   else some false).bind fun zQX =>
  some zQX


def zAs (p0 : (List ze)) : Option Bool :=
  (if ((p0.length : Int) == 0) then some true else 
    (Ww p0).bind fun zo =>
    (zBI zo).bind fun y104 =>
    some y104
  ).bind fun zQY =>
  some zQY


def zAf (p0 : (List ze)) (p1 : Int) (p2 : Int) : Option ((List Int) × Int) :=
  if ((p0.length : Int) == 0) then
    some (([] : List Int), p2)
  else
    (idx p0 0).bind fun x102 =>
    if (decide (p1 < x102.Y0)) then
      (idx p0 0).bind fun x104 =>
      some ([], (min p2 x104.Y0))
    else
      (idx p0 0).bind fun zbb =>
      (idx p0 0).bind fun zEd =>
      some (zbb.Xs, (min p2 zEd.Y1))

def Wj (p2 : Bool → Bool → Option Bool) (WQ : List Int) (zB9 : Bool) (kL7 : (List Int) → (List Int) → (List Int) → Bool → Bool → Bool → Option (List Int)) (zDX : Int) (zI2 : List Int) (zIe : Bool) (zTk : List Int) (zRY : Bool) : Option (List Int) :=
  (p2 zIe zRY).bind fun zYP =>
  if (zYP != zB9) then
    (apd WQ [zDX]).bind fun zRy =>
    kL7 zI2 zTk zRy zIe zRY zYP
  else
    kL7 zI2 zTk WQ zIe zRY zB9
def Va (p2 : Bool → Bool → Option Bool) (zAJ : List Int) (WQ : List Int) (zDY : Bool) (zB9 : Bool) (kL7 : (List Int) → (List Int) → (List Int) → Bool → Bool → Bool → Option (List Int)) (zDX : Int) (zI2 : List Int) (zIe : Bool) : Option (List Int) :=
  (if (decide (0 < (zAJ.length : Int))) then 
    (idx zAJ 0).bind fun zhb =>
    some (zhb == zDX)
   else some false).bind fun zcZ =>
  if zcZ then
    (cut zAJ 1 (zAJ.length : Int)).bind fun zeG =>
    Wj p2 WQ zB9 kL7 zDX zI2 zIe zeG (!zDY)
  else
    Wj p2 WQ zB9 kL7 zDX zI2 zIe zAJ zDY
def VG (p2 : Bool → Bool → Option Bool) (Vu : List Int) (zAJ : List Int) (WQ : List Int) (zA3 : Bool) (zDY : Bool) (zB9 : Bool) (kL7 : (List Int) → (List Int) → (List Int) → Bool → Bool → Bool → Option (List Int)) (zDX : Int) : Option (List Int) :=
  (if (decide (0 < (Vu.length : Int))) then 
    (idx Vu 0).bind fun zha =>
    some (zha == zDX)
   else some false).bind fun zcY =>
  if zcY then
    (cut Vu 1 (Vu.length : Int)).bind fun zeF =>
    Va p2 zAJ WQ zDY zB9 kL7 zDX zeF (!zA3)
  else
    Va p2 zAJ WQ zDY zB9 kL7 zDX Vu zA3
def Qr (p2 : Bool → Bool → Option Bool) : Nat → List Int → List Int → List Int → Bool → Bool → Bool → Option (List Int)
  | 0, _, _, _, _, _, _ => none
  | mL7 + 1, Vu, zAJ, WQ, zA3, zDY, zB9 =>
    if ((decide (0 < (Vu.length : Int))) || (decide (0 < (zAJ.length : Int)))) then
      (if ((zAJ.length : Int) == 0) then some true else 
        (if (decide (0 < (Vu.length : Int))) then 
          (idx Vu 0).bind fun zU6 =>
          (idx zAJ 0).bind fun zU5 =>
          some (decide (zU6 ≤ zU5))
         else some false).bind fun zgu =>
        some zgu
      ).bind fun zgv =>
      if zgv then
        (idx Vu 0).bind fun zSq =>
        VG p2 Vu zAJ WQ zA3 zDY zB9 (Qr p2 mL7) zSq
      else
        (idx zAJ 0).bind fun zSp =>
        VG p2 Vu zAJ WQ zA3 zDY zB9 (Qr p2 mL7) zSp
    else
      some WQ
def zDt (N : Nat) (p0 : (List Int)) (p1 : (List Int)) (p2 : Bool → Bool → Option Bool) : Option (List Int) :=
  Qr p2 N p0 p1 ([] : List Int) false false false

def Vh (zCT : List (List ze)) (x153 : Int) (kL3 : Int → Int → (List (List ze)) → Int → Option (List ze)) (zGP : (List ze)) (x160 : Int) (zYW : Int) : Option (List ze) :=
  (idx zGP 0).bind fun JQ =>
  (idx zGP (w64 ((zGP.length : Int) - 1))).bind fun zU7 =>
  kL3 (min x160 JQ.Y0) (max zYW zU7.Y1) zCT (w64 (x153 + 1))
def VQ (N : Nat) (p2 : Bool → Bool → Option Bool) (x151 : Int) (zB6 : List ze) (zCq : Int) (kL9 : (List ze) → (List ze) → (List ze) → Int → Option (List ze)) (zFQ : List ze) : Nat → List ze → Option (List ze)
  | 0, _ => none
  | zd9 + 1, zKq =>
    (if (decide (0 < (zKq.length : Int))) then 
      (idx zKq 0).bind fun zXh =>
      some (decide (zXh.Y1 ≤ zCq))
     else some false).bind fun zcW =>
    if zcW then
      (cut zKq 1 (zKq.length : Int)).bind fun zeD =>
      (VQ N p2 x151 zB6 zCq kL9 zFQ zd9) zeD
    else
      (zAf zFQ zCq x151).bind fun zKN =>
      (zAf zKq zCq x151).bind fun zKM =>
      (zDt N zKN.1 zKM.1 p2).bind fun zK9 =>
      (Ji zB6 (ze.mk zCq (min zKN.2 zKM.2) zK9)).bind fun zNc =>
      kL9 zFQ zKq zNc (min zKN.2 zKM.2)
def VR (N : Nat) (p2 : Bool → Bool → Option Bool) (x151 : Int) (zKr : List ze) (zB6 : List ze) (zCq : Int) (kL9 : (List ze) → (List ze) → (List ze) → Int → Option (List ze)) : Nat → List ze → Option (List ze)
  | 0, _ => none
  | zVR + 1, zFQ =>
    (if (decide (0 < (zFQ.length : Int))) then 
      (idx zFQ 0).bind fun zhZ =>
      some (decide (zhZ.Y1 ≤ zCq))
     else some false).bind fun zcX =>
    if zcX then
      (cut zFQ 1 (zFQ.length : Int)).bind fun zeE =>
      (VR N p2 x151 zKr zB6 zCq kL9 zVR) zeE
    else
      VQ N p2 x151 zB6 zCq kL9 zFQ N zKr
def Jh (N : Nat) (p2 : Bool → Bool → Option Bool) (x151 : Int) : Nat → List ze → List ze → List ze → Int → Option (List ze)
  | 0, _, _, _, _ => none
  | mL9 + 1, zX0, zKr, zB6, zCq =>
    if (decide (zCq < x151)) then
      VR N p2 x151 zKr zB6 zCq (Jh N p2 x151 mL9) N zX0
    else
      some zB6
def Qp (N : Nat) (p0 : (List ze)) (p1 : (List ze)) (p2 : Bool → Bool → Option Bool) : Nat → Int → Int → List (List ze) → Int → Option (List ze)
  | 0, _, _, _, _ => none
  | mL3 + 1, x150, x151, zCT, x153 =>
    if (decide (x153 < 2)) then
      (idx zCT x153).bind fun zGP =>
      if (decide (0 < (zGP.length : Int))) then
        if ((x153 == 0) || ((p0.length : Int) == 0)) then
          (idx zGP 0).bind fun x168 =>
          (idx zGP (w64 ((zGP.length : Int) - 1))).bind fun zFp =>
          Vh zCT x153 (Qp N p0 p1 p2 mL3) zGP x168.Y0 zFp.Y1
        else
          Vh zCT x153 (Qp N p0 p1 p2 mL3) zGP x150 x151
      else
        (Qp N p0 p1 p2 mL3) x150 x151 zCT (w64 (x153 + 1))
    else
      Jh N p2 x151 N p0 p1 ([] : List ze) x150
def zBm (N : Nat) (p0 : (List ze)) (p1 : (List ze)) (p2 : Bool → Bool → Option Bool) : Option (List ze) :=
  if ((w64 ((p0.length : Int) + (p1.length : Int))) == 0) then
    some ([] : List ze)
  else
    Qp N p0 p1 p2 N 0 0 [p0, p1] 0


def Wv (p0 : Bool) (p1 : Bool) : Option Bool :=
  some (p0 && (!p1))


def WX (N : Nat) (p0 : (List ze)) (p1 : (List ze)) : Option (List ze) :=
  (zBm N p0 p1 (fun z0 z1 => Wv z0 z1)).bind fun zy =>
  some zy


def zAr (p0 : Bool) (p1 : Bool) : Option Bool :=
  some (p0 || p1)


def Wl (N : Nat) (p0 : (List ze)) (p1 : (List ze)) : Option (List ze) :=
  (zBm N p0 p1 (fun z0 z1 => zAr z0 z1)).bind fun zy =>
  some zy

def Jy : List ze → Nat → Int → Option Int
  | [], iL1, x112 =>
    some x112
  | xL1 :: zY, iL1, x112 =>
    (Jy zY (iL1 + 1)) (w64 (x112 + (w64 (Int.tdiv (xL1.Xs.length : Int) 2))))
def WW (p0 : (List ze)) : Option Int :=
  Jy p0 0 0

def KQ (zQU : List ze) : Option (Int × (List ze)) :=
  (WW zQU).bind fun y112 =>
  if (decide (2000 < y112)) then
    some (2, zQU)
  else
    some (0, zQU)
def Kw (N : Nat) (p0 : QQ) (p1 : (List ze)) : Option (Int × (List ze)) :=
  (zAs p1).bind fun y113 =>
  if (!y113) then
    some (1, p0.image)
  else
    if p0.clear then
      (WX N p0.image p1).bind fun zE1 =>
      KQ zE1
    else
      (Wl N p0.image p1).bind fun zD9 =>
      KQ zD9

def Jr (p1 : zJ) (x103 : Int) : Option (Int × Int × Int × Bool × Int) :=
  some (0, p1.X, p1.Y, true, x103)
def KP (p0 : QQ) (p1 : zJ) : Option (Int × Int × Int × Bool × Int) :=
  (Wm p1).bind fun y101 =>
  if (!y101) then
    some (1, p0.place.X, p0.place.Y, p0.placed, p0.off)
  else
    if p0.placed then
      (zIE p0.place p1).bind fun QZ =>
      Jr p1 (w64 (p0.off + QZ))
    else
      Jr p1 p0.off


noncomputable def Vw (N : Nat) (p0 : QQ) (p1 : zJ) : Option (Int × Int × Int × Bool × Int × (List ze)) :=
  if (decide (p0.tool < 0)) then
    some (11, p0.place.X, p0.place.Y, p0.placed, p0.off, p0.image)
  else
    (KP p0 p1).bind fun y101 =>
    if (y101.1 != 0) then
      some (y101.1, y101.2.1, y101.2.2.1, y101.2.2.2.1, y101.2.2.2.2, p0.image)
    else
      (idx p0.tools p0.tool).bind fun x104 =>
      (zBc N x104 p1 p1).bind fun QZ =>
      (Kw N (QQ.mk p0.p p0.tools p0.image p0.clear p0.tool (zJ.mk y101.2.1 y101.2.2.1) y101.2.2.2.1 y101.2.2.2.2 p0.on) QZ).bind fun zAc =>
      some (zAc.1, y101.2.1, y101.2.2.1, y101.2.2.2.1, y101.2.2.2.2, zAc.2)

def Jq (p1 : zJ) (x103 : Int) : Option (Int × Int × Int × Bool × Int) :=
  some (0, p1.X, p1.Y, true, x103)
def Kv (p0 : QQ) (p1 : zJ) : Option (Int × Int × Int × Bool × Int) :=
  (Wm p1).bind fun y101 =>
  if (!y101) then
    some (1, p0.place.X, p0.place.Y, p0.placed, p0.on)
  else
    if p0.placed then
      (zIE p0.place p1).bind fun QZ =>
      Jq p1 (w64 (p0.on + QZ))
    else
      Jq p1 p0.on


noncomputable def WN (N : Nat) (p0 : QQ) (p1 : zJ) : Option (Int × Int × Int × Bool × Int × (List ze)) :=
  if ((decide (p0.tool < 0)) || (!p0.placed)) then
    some (11, p0.place.X, p0.place.Y, p0.placed, p0.on, p0.image)
  else
    if ((p1.X != p0.place.X) && (p1.Y != p0.place.Y)) then
      some (3, p0.place.X, p0.place.Y, p0.placed, p0.on, p0.image)
    else
      (Kv p0 p1).bind fun y102 =>
      if (y102.1 != 0) then
        some (y102.1, y102.2.1, y102.2.2.1, y102.2.2.2.1, y102.2.2.2.2, p0.image)
      else
        (idx p0.tools p0.tool).bind fun x105 =>
        (zBc N x105 p0.place p1).bind fun zDB =>
        (Kw N (QQ.mk p0.p p0.tools p0.image p0.clear p0.tool (zJ.mk y102.2.1 y102.2.2.1) y102.2.2.2.1 p0.off y102.2.2.2.2) zDB).bind fun zFK =>
        some (zFK.1, y102.2.1, y102.2.2.1, y102.2.2.2.1, y102.2.2.2.2, zFK.2)


def zAL (p0 : zS) (p1 : zS) : Option Int :=
  some (w64 (p0.X0 - p1.X0))

def KA (zBQ : (List Int)) (zF1 : List ze) (zGw : Int) (kL6 : (List ze) → Int → Option (List ze)) : List zS → Nat → List Int → Option (List ze)
  | [], iL7, zF0 =>
    (idx zBQ zGw).bind fun zYU =>
    (idx zBQ (w64 (zGw + 1))).bind fun zYT =>
    (Ji zF1 (ze.mk zYU zYT zF0)).bind fun zQH =>
    kL6 zQH (w64 (zGw + 1))
  | xL7 :: zAP, iL7, zF0 =>
    (idx zBQ zGw).bind fun zXh =>
    (if (decide (zXh < xL7.Y0)) then some true else 
      (idx zBQ zGw).bind fun zhY =>
      some (decide (xL7.Y1 ≤ zhY))
    ).bind fun zgt =>
    if zgt then
      (KA zBQ zF1 zGw kL6 zAP (iL7 + 1)) zF0
    else
      (if (decide (0 < (zF0.length : Int))) then 
        (idx zF0 (w64 ((zF0.length : Int) - 1))).bind fun zhX =>
        some (zhX == xL7.X0)
       else some false).bind fun zgs =>
      if zgs then
        (pre zF0 (w64 ((zF0.length : Int) - 1))).bind fun zeC =>
        (KA zBQ zF1 zGw kL6 zAP (iL7 + 1)) zeC
      else
        (apd zF0 [xL7.X0]).bind fun zeB =>
        (KA zBQ zF1 zGw kL6 zAP (iL7 + 1)) zeB
def KC (zBQ : (List Int)) (zA6 : (List zS)) : Nat → List ze → Int → Option (List ze)
  | 0, _, _ => none
  | mL6 + 1, zF1, zGw =>
    if (decide ((w64 (zGw + 1)) < (zBQ.length : Int))) then
      KA zBQ zF1 zGw (KC zBQ zA6 mL6) zA6 0 ([] : List Int)
    else
      some zF1
def KT (kL3 : (List Int) → (List zS) → Option (List ze)) (xL3 : (List zJ)) : List zJ → Nat → List Int → List zS → Option (List ze)
  | [], iL8, zQT, zNf =>
    kL3 zQT zNf
  | xL8 :: zFv, iL8, zQT, zNf =>
    (md (w64 ((iL8 : Int) + 1)) (xL3.length : Int)).bind fun q378 =>
    (idx xL3 q378).bind fun zDV =>
    (apd zQT [xL8.Y]).bind fun zZM =>
    if (xL8.X == zDV.X) then
      (apd zNf [(zS.mk xL8.X (min xL8.Y zDV.Y) 0 (max xL8.Y zDV.Y))]).bind fun zeA =>
      (KT kL3 xL3 zFv (iL8 + 1)) zZM zeA
    else
      (KT kL3 xL3 zFv (iL8 + 1)) zZM zNf
noncomputable def KD (N : Nat) : List (List zJ) → Nat → List Int → List zS → Option (List ze)
  | [], iL3, zMU, zG0 =>
    (zTC zMU).bind fun zMG =>
    (cpI zMG).bind fun zBQ =>
    (zOp zG0 (fun z0 z1 => zAL z0 z1)).bind fun zA6 =>
    KC zBQ zA6 N ([] : List ze) 0
  | xL3 :: JF, iL3, zMU, zG0 =>
    KT (KD N JF (iL3 + 1)) xL3 xL3 0 zMU zG0
noncomputable def zCK (N : Nat) (p0 : (List (List zJ))) : Option (List ze) :=
  KD N p0 0 ([] : List Int) ([] : List zS)


def KF (p0 : zJ) : Option Bool :=
  (Wm p0).bind fun y101 =>
  some (!y101)

noncomputable def JP (N : Nat) (p0 : QQ) (p2 : zJ) : List zJ → Nat → List zJ → Option (Int × (List ze))
  | [], iL1, zKt =>
    (zCK N [zKt]).bind fun zGN =>
    (WW zGN).bind fun zIq =>
    if (decide (2000 < zIq)) then
      some (2, p0.image)
    else
      (JR zKt (fun z0 => KF z0)).bind fun zRX =>
      if zRX then
        some (1, p0.image)
      else
        (Kw N p0 zGN).bind fun zE0 =>
        some (zE0.1, zE0.2)
  | xL1 :: zY, iL1, zKt =>
    (Vv p0 xL1 p2).bind fun zHe =>
    (apd zKt [zHe]).bind fun zeL =>
    (JP N p0 p2 zY (iL1 + 1)) zeL
noncomputable def WO (N : Nat) (p0 : QQ) (p1 : (List zJ)) (p2 : zJ) : Option (Int × (List ze)) :=
  JP N p0 p2 p1 0 ([] : List zJ)

def JO (zX1 : List ze) (zU6 : Bool) (zU5 : Int) (zSq : Int) (zSp : Int) (zbY : Bool) (zbX : Int) (zbW : Int) : Option (Int × Bool × Int × Int × Int × Bool × Int × Int × (List ze)) :=
  some (0, zU6, zU5, zSq, zSp, zbY, zbX, zbW, zX1)
def Je (p0 : QQ) (p1 : zG) (p2 : zJ) (rec : QQ → (List zG) → zJ → Option (Int × Bool × Int × Int × Int × Bool × Int × Int × (List ze))) (zCn : Int) (kL9 : (List ze) → Bool → Int → Int → Int → Bool → Int → Int → Int → Option (Int × Bool × Int × Int × Int × Bool × Int × Int × (List ze))) : Nat → List ze → Bool → Int → Int → Int → Bool → Int → Int → Int → Option (Int × Bool × Int × Int × Int × Bool × Int × Int × (List ze))
  | 0, _, _, _, _, _, _, _, _, _ => none
  | zVR + 1, zKp, zOd, zOc, zOb, zOa, zOZ, zOY, zOX, zE2 =>
    if (decide (zE2 < p1.NX)) then
      (rec (QQ.mk p0.p p0.tools zKp zOd zOc (zJ.mk zOb zOa) zOZ zOY zOX) p1.Steps (zJ.mk (w64 (p2.X + (w64 ((w64 (zE2 * p1.At.X)) * p0.p.Unit)))) (w64 (p2.Y + (w64 ((w64 (zCn * p1.At.Y)) * p0.p.Unit)))))).bind fun WZ =>
      if (WZ.1 != 0) then
        some (WZ.1, WZ.2.1, WZ.2.2.1, WZ.2.2.2.1, WZ.2.2.2.2.1, WZ.2.2.2.2.2.1, WZ.2.2.2.2.2.2.1, WZ.2.2.2.2.2.2.2.1, WZ.2.2.2.2.2.2.2.2)
      else
        (Je p0 p1 p2 rec zCn kL9 zVR) WZ.2.2.2.2.2.2.2.2 WZ.2.1 WZ.2.2.1 WZ.2.2.2.1 WZ.2.2.2.2.1 WZ.2.2.2.2.2.1 WZ.2.2.2.2.2.2.1 WZ.2.2.2.2.2.2.2.1 (w64 (zE2 + 1))
    else
      kL9 zKp zOd zOc zOb zOa zOZ zOY zOX (w64 (zCn + 1))
def JA (N : Nat) (p0 : QQ) (p1 : zG) (p2 : zJ) (rec : QQ → (List zG) → zJ → Option (Int × Bool × Int × Int × Int × Bool × Int × Int × (List ze))) : Nat → List ze → Bool → Int → Int → Int → Bool → Int → Int → Int → Option (Int × Bool × Int × Int × Int × Bool × Int × Int × (List ze))
  | 0, _, _, _, _, _, _, _, _, _ => none
  | mL9 + 1, zRx, zU4, zU3, zU2, zU1, zU0, zUz, zUy, zCn =>
    if (decide (zCn < p1.NY)) then
      Je p0 p1 p2 rec zCn (JA N p0 p1 p2 rec mL9) N zRx zU4 zU3 zU2 zU1 zU0 zUz zUy 0
    else
      JO zRx zU4 zU3 zU2 zU1 zU0 zUz zUy
noncomputable def Jf (N : Nat) (p0 : QQ) (p1 : zG) (p2 : zJ) (rec : QQ → (List zG) → zJ → Option (Int × Bool × Int × Int × Int × Bool × Int × Int × (List ze))) (y102 : zJ) (zbV : Bool) : Option (Int × Bool × Int × Int × Int × Bool × Int × Int × (List ze)) :=
  if zbV then
    JO p0.image (p1.Kind == 2) p0.tool p0.place.X p0.place.Y p0.placed p0.off p0.on
  else
    if (p1.Kind == 3) then
      (zBn p0.p p1.Name).bind fun zUs =>
      JO p0.image p0.clear zUs p0.place.X p0.place.Y p0.placed p0.off p0.on
    else
      if (p1.Kind == 4) then
        (KP p0 y102).bind fun zIc =>
        some (zIc.1, p0.clear, p0.tool, zIc.2.1, zIc.2.2.1, zIc.2.2.2.1, zIc.2.2.2.2, p0.on, p0.image)
      else
        if (p1.Kind == 5) then
          (Vw N p0 y102).bind fun zEx =>
          some (zEx.1, p0.clear, p0.tool, zEx.2.1, zEx.2.2.1, zEx.2.2.2.1, zEx.2.2.2.2.1, p0.on, zEx.2.2.2.2.2)
        else
          if (p1.Kind == 6) then
            (WN N p0 y102).bind fun zEw =>
            some (zEw.1, p0.clear, p0.tool, zEw.2.1, zEw.2.2.1, zEw.2.2.2.1, p0.off, zEw.2.2.2.2.1, zEw.2.2.2.2.2)
          else
            if (p1.Kind == 7) then
              (WO N p0 p1.Points p2).bind fun zME =>
              some (zME.1, p0.clear, p0.tool, p0.place.X, p0.place.Y, p0.placed, p0.off, p0.on, zME.2)
            else
              if (p1.Kind == 8) then
                JA N p0 p1 p2 rec N p0.image p0.clear p0.tool p0.place.X p0.place.Y p0.placed p0.off p0.on 0
              else
                JO p0.image p0.clear p0.tool p0.place.X p0.place.Y p0.placed p0.off p0.on
noncomputable def KW (rec : QQ → (List zG) → zJ → Option (Int × Bool × Int × Int × Int × Bool × Int × Int × (List ze))) (N : Nat) (p0 : QQ) (p1 : zG) (p2 : zJ) : Option (Int × Bool × Int × Int × Int × Bool × Int × Int × (List ze)) :=
  (Vv p0 p1.At p2).bind fun y102 =>
  if (p1.Kind == 1) then
    Jf N p0 p1 p2 rec y102 (p1.Kind == 1)
  else
    Jf N p0 p1 p2 rec y102 (p1.Kind == 2)

noncomputable def Jc (N : Nat) (p0 : QQ) (p2 : zJ) (rec : QQ → (List zG) → zJ → Option (Int × Bool × Int × Int × Int × Bool × Int × Int × (List ze))) : List zG → Nat → List ze → Bool → Int → Int → Int → Bool → Int → Int → Option (Int × Bool × Int × Int × Int × Bool × Int × Int × (List ze))
  | [], iL1, zPF, zKg, zSz, zSy, zSx, zSw, zSv, zSu =>
    some (0, zKg, zSz, zSy, zSx, zSw, zSv, zSu, zPF)
  | xL1 :: zY, iL1, zPF, zKg, zSz, zSy, zSx, zSw, zSv, zSu =>
    (KW rec N (QQ.mk p0.p p0.tools zPF zKg zSz (zJ.mk zSy zSx) zSw zSv zSu) xL1 p2).bind fun Wd =>
    if (Wd.1 != 0) then
      some (Wd.1, Wd.2.1, Wd.2.2.1, Wd.2.2.2.1, Wd.2.2.2.2.1, Wd.2.2.2.2.2.1, Wd.2.2.2.2.2.2.1, Wd.2.2.2.2.2.2.2.1, Wd.2.2.2.2.2.2.2.2)
    else
      (Jc N p0 p2 rec zY (iL1 + 1)) Wd.2.2.2.2.2.2.2.2 Wd.2.1 Wd.2.2.1 Wd.2.2.2.1 Wd.2.2.2.2.1 Wd.2.2.2.2.2.1 Wd.2.2.2.2.2.2.1 Wd.2.2.2.2.2.2.2.1
noncomputable def zBs (N : Nat) (rec : QQ → (List zG) → zJ → Option (Int × Bool × Int × Int × Int × Bool × Int × Int × (List ze))) (p0 : QQ) (p1 : (List zG)) (p2 : zJ) : Option (Int × Bool × Int × Int × Int × Bool × Int × Int × (List ze)) :=
  Jc N p0 p2 rec p1 0 p0.image p0.clear p0.tool p0.place.X p0.place.Y p0.placed p0.off p0.on
noncomputable def Vq : Nat → QQ → (List zG) → zJ → Option (Int × Bool × Int × Int × Int × Bool × Int × Int × (List ze))
  | 0 => fun _ _ _ => none
  | N + 1 => zBs N (Vq N)


noncomputable def zDx (N : Nat) (p0 : zm) : Option (QQ × Int) :=
  (zAu N p0).bind fun y101 =>
  (Vq N y101 p0.Steps (zJ.mk 0 0)).bind fun zo =>
  some ((QQ.mk y101.p y101.tools zo.2.2.2.2.2.2.2.2 zo.2.1 zo.2.2.1 (zJ.mk zo.2.2.2.1 zo.2.2.2.2.1) zo.2.2.2.2.2.1 zo.2.2.2.2.2.2.1 zo.2.2.2.2.2.2.2.1), zo.1)


noncomputable def zCL (N : Nat) (p0 : zm) : Option ((List ze) × Int) :=
  (Jv N p0).bind fun y101 =>
  if (y101 != 0) then
    some (([] : List ze), y101)
  else
    (zDx N p0).bind fun y102 =>
    if (y102.2 != 0) then
      some (([] : List ze), y102.2)
    else
      some (y102.1.image, 0)


noncomputable def WG (N : Nat) (p0 : zm) : Option ((List zS) × Int) :=
  (zCL N p0).bind fun y101 =>
  (KG N y101.1).bind fun zo =>
  some (zo, y101.2)


def VB (p0 : Int) (q0 : Bool) (q1 : zm) (q2 : Int) : Option (Int × Bool) :=
  (if q0 then 
    (md (w64 (p0 * q1.Unit)) q2).bind fun q102 =>
    some (q102 == 0)
   else some false).bind fun zX4 =>
  (dv (w64 (p0 * q1.Unit)) q2).bind fun q103 =>
  some (q103, zX4)

def zFm (N : Nat) (x : Nat) (p0 : Int) : Option Int :=
  if x = 95 then zAV p0 else
  none


def zYG (N : Nat) (p0 : zJ) (q0 : Nat) : Option zJ :=
  (zFm N q0 p0.X).bind fun y102 =>
  (zFm N q0 p0.Y).bind fun zo =>
  some (zJ.mk y102 zo)


def zYF (N : Nat) (p0 : zS) (q0 : Nat) : Option zS :=
  (zFm N q0 p0.X0).bind fun y102 =>
  (zFm N q0 p0.Y0).bind fun zo =>
  (zFm N q0 p0.X1).bind fun y104 =>
  (zFm N q0 p0.Y1).bind fun zA7 =>
  some (zS.mk y102 zo y104 zA7)


def Kr (p0 : (List zV)) : Option (List zV) :=
  (apd ([] : List zV) p0).bind fun zKu =>
  some zKu

def zGJ (p1 : zS → Option zS) (zRz : List zV) (zQN : Int) (kL3 : (List zV) → Int → Option (List zV)) (zbZ : zV) : List zS → Nat → List zS → Option (List zV)
  | [], iL4, zZQ =>
    kL3 ((zRz).set (zQN).toNat (zV.mk zbZ.Name zZQ)) (w64 (zQN + 1))
  | xL4 :: Ve, iL4, zZQ =>
    (idx zZQ (iL4 : Int)).bind fun zl9 =>
    (idx zRz zQN).bind fun znI =>
    (p1 zl9).bind fun zXb =>
    (idx zZQ (iL4 : Int)).bind fun znH =>
    (sets zZQ (iL4 : Int) zXb).bind fun zmi =>
    (zGJ p1 zRz zQN kL3 zbZ Ve (iL4 + 1)) zmi
def zGK (p1 : zS → Option zS) (zy : (List zV)) : Nat → List zV → Int → Option (List zV)
  | 0, _, _ => none
  | mL3 + 1, zRz, zQN =>
    if (decide (zQN < (zy.length : Int))) then
      (idx zRz zQN).bind fun zmA =>
      (Kg zmA.Rects).bind fun zRW =>
      (idx zRz zQN).bind fun zbZ =>
      (idx zRz zQN).bind fun znJ =>
      zGJ p1 zRz zQN (zGK p1 zy mL3) zbZ zRW 0 zRW
    else
      some zRz
def zYL (N : Nat) (p0 : (List zV)) (p1 : zS → Option zS) : Option (List zV) :=
  (Kr p0).bind fun zy =>
  zGK p1 zy N zy 0


def Jo (p0 : (List zG)) : Option (List zG) :=
  (apd ([] : List zG) p0).bind fun zKu =>
  some zKu


def KV (p0 : (List zJ)) : Option (List zJ) :=
  (apd ([] : List zJ) p0).bind fun zKu =>
  some zKu


def Kz (p0 : zS) (q1 : Bool) (q2 : zm) (q3 : Int) : Option (zS × Bool) :=
  (VB p0.X0 q1 q2 q3).bind fun zo =>
  (VB p0.Y0 zo.2 q2 q3).bind fun zA7 =>
  (VB p0.X1 zA7.2 q2 q3).bind fun zDB =>
  (VB p0.Y1 zDB.2 q2 q3).bind fun zG6 =>
  some ((zS.mk zo.1 zA7.1 zDB.1 zG6.1), zG6.2)

def QW (q2 : zm) (q3 : Int) (zCs : List zV) (zBf : Int) (kL3 : Bool → (List zV) → Int → Option ((List zV) × Bool)) (zGO : zV) : List zS → Nat → Bool → List zS → Option ((List zV) × Bool)
  | [], iL4, zQM, zGQ =>
    kL3 zQM ((zCs).set (zBf).toNat (zV.mk zGO.Name zGQ)) (w64 (zBf + 1))
  | xL4 :: Ve, iL4, zQM, zGQ =>
    (idx zGQ (iL4 : Int)).bind fun zBW =>
    (idx zCs zBf).bind fun zl7 =>
    (Kz zBW zQM q2 q3).bind fun zEz =>
    (idx zGQ (iL4 : Int)).bind fun zl6 =>
    (sets zGQ (iL4 : Int) zEz.1).bind fun zTm =>
    (QW q2 q3 zCs zBf kL3 zGO Ve (iL4 + 1)) zEz.2 zTm
def QD (q2 : zm) (q3 : Int) (zy : (List zV)) : Nat → Bool → List zV → Int → Option ((List zV) × Bool)
  | 0, _, _, _ => none
  | mL3 + 1, zXi, zCs, zBf =>
    if (decide (zBf < (zy.length : Int))) then
      (idx zCs zBf).bind fun zSt =>
      (Kg zSt.Rects).bind fun zDU =>
      (idx zCs zBf).bind fun zGO =>
      (idx zCs zBf).bind fun zl8 =>
      QW q2 q3 zCs zBf (QD q2 q3 zy mL3) zGO zDU 0 zXi zDU
    else
      some (zCs, zXi)
def Ja (N : Nat) (p0 : (List zV)) (q1 : Bool) (q2 : zm) (q3 : Int) : Option ((List zV) × Bool) :=
  (Kr p0).bind fun zy =>
  QD q2 q3 zy N q1 zy 0


def KR (p0 : zJ) (q1 : Bool) (q2 : zm) (q3 : Int) : Option (zJ × Bool) :=
  (VB p0.X q1 q2 q3).bind fun zo =>
  (VB p0.Y zo.2 q2 q3).bind fun zA7 =>
  some ((zJ.mk zo.1 zA7.1), zA7.2)

def QS (q3 : zm) (q4 : Int) (y101 : (zJ × Bool)) : List zJ → Nat → Bool → List zJ → Option (Int × Int × (List zJ) × Bool)
  | [], iL1, zS1, zIj =>
    some (y101.1.X, y101.1.Y, zIj, zS1)
  | xL1 :: zY, iL1, zS1, zIj =>
    (idx zIj (iL1 : Int)).bind fun zRa =>
    (KR zRa zS1 q3 q4).bind fun zIp =>
    (idx zIj (iL1 : Int)).bind fun zmE =>
    (sets zIj (iL1 : Int) zIp.1).bind fun zTo =>
    (QS q3 q4 y101 zY (iL1 + 1)) zIp.2 zTo
def JX (p0 : zG) (q2 : Bool) (q3 : zm) (q4 : Int) : Option (Int × Int × (List zJ) × Bool) :=
  (KR p0.At q2 q3 q4).bind fun y101 =>
  QS q3 q4 y101 p0.Points 0 y101.2 p0.Points

def QP (q3 : zm) (q4 : Int) (rec : (List zG) → Bool → zm → Int → Option ((List zG) × Bool)) (zy : (List zG)) : Nat → Bool → List zG → Int → Option ((List zG) × Bool)
  | 0, _, _, _ => none
  | mL1 + 1, x157, zB7, x159 =>
    if (decide (x159 < (zy.length : Int))) then
      (idx zB7 x159).bind fun x160 =>
      (KV x160.Points).bind fun zId =>
      (idx zB7 x159).bind fun JQ =>
      (idx zB7 x159).bind fun zU7 =>
      (rec JQ.Steps x157 q3 q4).bind fun y167 =>
      (idx zB7 x159).bind fun zmB =>
      (idx zB7 x159).bind fun zFp =>
      (JX (zG.mk JQ.Kind JQ.Name JQ.At zId JQ.NX JQ.NY y167.1) y167.2 q3 q4).bind fun Vk =>
      (QP q3 q4 rec zy mL1) Vk.2.2.2 ((zB7).set (x159).toNat (zG.mk JQ.Kind JQ.Name (zJ.mk Vk.1 Vk.2.1) Vk.2.2.1 JQ.NX JQ.NY y167.1)) (w64 (x159 + 1))
    else
      some (zB7, x157)
def Qz (N : Nat) (rec : (List zG) → Bool → zm → Int → Option ((List zG) × Bool)) (p0 : (List zG)) (q2 : Bool) (q3 : zm) (q4 : Int) : Option ((List zG) × Bool) :=
  (Jo p0).bind fun zy =>
  QP q3 q4 rec zy N q2 zy 0
def JJ : Nat → (List zG) → Bool → zm → Int → Option ((List zG) × Bool)
  | 0 => fun _ _ _ _ => none
  | N + 1 => Qz N (JJ N)


def WE (N : Nat) (p0 : zm) (q0 : Bool) (q1 : zm) (q2 : Int) : Option (zm × Bool) :=
  (Ja N p0.Tools q0 q1 q2).bind fun y104 =>
  (JJ N p0.Steps y104.2 q1 q2).bind fun QZ =>
  some ((zm.mk p0.Unit y104.1 QZ.1), QZ.2)


def zCz (N : Nat) (p0 : zm) (p1 : Int) : Option (zm × Bool) :=
  (WE N p0 true p0 p1).bind fun y104 =>
  some ((zm.mk p1 y104.1.Tools y104.1.Steps), y104.2)


def zBi (p0 : zG) (q0 : ByteArray) : Option ByteArray :=
  if (p0.Kind == 3) then
    (zFA q0 p0.Name).bind fun zbh =>
    some zbh
  else
    some p0.Name


def zGo (N : Nat) (p0 : zm) : Option (zm × Int) :=
  (Jv N p0).bind fun y102 =>
  if (y102 != 0) then
    some ((zm.mk 0 [] []), y102)
  else
    some (p0, 0)

def Jp (q0 : ByteArray) (rec : (List zG) → ByteArray → Option (List zG)) (zy : (List zG)) : Nat → List zG → Int → Option (List zG)
  | 0, _, _ => none
  | mL1 + 1, zDd, zBo =>
    if (decide (zBo < (zy.length : Int))) then
      (idx zDd zBo).bind fun zRZ =>
      (KV zRZ.Points).bind fun y158 =>
      (idx zDd zBo).bind fun x160 =>
      (idx zDd zBo).bind fun zmD =>
      (rec x160.Steps q0).bind fun zD0 =>
      (idx zDd zBo).bind fun zmC =>
      (idx zDd zBo).bind fun zU7 =>
      (zBi (zG.mk x160.Kind x160.Name x160.At y158 x160.NX x160.NY zD0) q0).bind fun y167 =>
      (Jp q0 rec zy mL1) ((zDd).set (zBo).toNat (zG.mk x160.Kind y167 x160.At y158 x160.NX x160.NY zD0)) (w64 (zBo + 1))
    else
      some zDd
def Vn (N : Nat) (rec : (List zG) → ByteArray → Option (List zG)) (p0 : (List zG)) (q0 : ByteArray) : Option (List zG) :=
  (Jo p0).bind fun zy =>
  Jp q0 rec zy N zy 0
def WM : Nat → (List zG) → ByteArray → Option (List zG)
  | 0 => fun _ _ => none
  | N + 1 => Vn N (WM N)

def Vz (N : Nat) (zEi : List zm) (zE3 : Int) (kL6 : (List zV) → (List zG) → (List zm) → Int → Option (zm × Int)) (zA3 : ByteArray) (Ko : (zm × Bool)) (zFR : List zV) (zTl : List zG) : Option (zm × Int) :=
  (WM N Ko.1.Steps zA3).bind fun zQJ =>
  (apd zTl zQJ).bind fun zZP =>
  kL6 zFR zZP zEi (w64 (zE3 + 1))
def KS (N : Nat) (zE7 : List zG) (zEi : List zm) (zE3 : Int) (kL6 : (List zV) → (List zG) → (List zm) → Int → Option (zm × Int)) (zA3 : ByteArray) (Ko : (zm × Bool)) : List zV → Nat → List zV → Option (zm × Int)
  | [], iL7, zFR =>
    if (zE3 == 1) then
      (apd zE7 ([(zG.mk 1 (⟨#[]⟩) (zJ.mk 0 0) [] 0 0 [])])).bind fun zRy =>
      Vz N zEi zE3 kL6 zA3 Ko zFR zRy
    else
      Vz N zEi zE3 kL6 zA3 Ko zFR zE7
  | xL7 :: zAP, iL7, zFR =>
    (zFA zA3 xL7.Name).bind fun zOj =>
    (apd zFR [(zV.mk zOj xL7.Rects)]).bind fun zZO =>
    (KS N zE7 zEi zE3 kL6 zA3 Ko zAP (iL7 + 1)) zZO
def JY (N : Nat) (x113 : Int) : Nat → List zV → List zG → List zm → Int → Option (zm × Int)
  | 0, _, _, _, _ => none
  | mL6 + 1, zPE, zE7, zEi, zE3 =>
    if (decide (zE3 < 2)) then
      (idx zEi zE3).bind fun VC =>
      (idx ([⟨#[97, 45]⟩, ⟨#[98, 45]⟩]) zE3).bind fun zA3 =>
      (zCz N VC x113).bind fun Ko =>
      KS N zE7 zEi zE3 (JY N x113 mL6) zA3 Ko Ko.1.Tools 0 zPE
    else
      (zGo N (zm.mk x113 zPE zE7)).bind fun zEb =>
      some (zEb.1, zEb.2)
def Vj (N : Nat) (p0 : zm) (p1 : zm) : Nat → Int → Int → Option (zm × Int)
  | 0, _, _ => none
  | mL1 + 1, x113, x114 =>
    if (x114 != 0) then
      (md x113 x114).bind fun q115 =>
      (Vj N p0 p1 mL1) x114 q115
    else
      JY N x113 N ([] : List zV) ([] : List zG) [p0, p1] 0
def zC1 (N : Nat) (p0 : zm) (p1 : zm) : Option (zm × Int) :=
  (Jv N p0).bind fun zo =>
  if (zo != 0) then
    some ((zm.mk 0 [] []), zo)
  else
    (Jv N p1).bind fun y104 =>
    if (y104 != 0) then
      some ((zm.mk 0 [] []), y104)
    else
      Vj N p0 p1 N p0.Unit p1.Unit

def JZ (p0 : (List zG)) (rec : (List zG) → Option Bool) : Nat → Int → Option Bool
  | 0, _ => none
  | mL1 + 1, zCP =>
    if (decide (zCP < (p0.length : Int))) then
      (idx p0 zCP).bind fun zD2 =>
      (if (zD2.Kind == 2) then some true else 
        (idx p0 zCP).bind fun zba =>
        (rec zba.Steps).bind fun zHe =>
        some zHe
      ).bind fun zcc =>
      if zcc then
        some true
      else
        (JZ p0 rec mL1) (w64 (zCP + 1))
    else
      some false
def VX (N : Nat) (rec : (List zG) → Option Bool) (p0 : (List zG)) : Option Bool :=
  JZ p0 rec N 0
def KZ : Nat → (List zG) → Option Bool
  | 0 => fun _ => none
  | N + 1 => VX N (KZ N)



def zAO : List zJ → Nat → ByteArray → Option ByteArray
  | [], iL1, zD2 =>
    some zD2
  | xL1 :: zY, iL1, zD2 =>
    (zLU xL1.X).bind fun zRX =>
    (zFA (⟨#[32]⟩) zRX).bind fun zho =>
    (zFA zho (⟨#[32]⟩)).bind fun zhn =>
    (zLU xL1.Y).bind fun zE0 =>
    (zFA zhn zE0).bind fun zhm =>
    (zFA zD2 zhm).bind fun zdw =>
    (zAO zY (iL1 + 1)) zdw
def zAF (p0 : (List zJ)) : Option ByteArray :=
  zAO p0 0 ByteArray.empty

def Qo (rec : ByteArray → (List zG) → Option ByteArray) : List zG → Nat → ByteArray → Option ByteArray
  | [], iL1, m194 =>
    some m194
  | xL1 :: zY, iL1, m194 =>
    if (xL1.Kind == 1) then
      (sbW m194 (⟨#[100, 97, 114, 107, 10]⟩)).bind fun zXg =>
      (Qo rec zY (iL1 + 1)) zXg
    else
      if (xL1.Kind == 2) then
        (sbW m194 (⟨#[99, 108, 101, 97, 114, 10]⟩)).bind fun zXf =>
        (Qo rec zY (iL1 + 1)) zXf
      else
        if (xL1.Kind == 3) then
          (zFA (⟨#[117, 115, 101, 32]⟩) xL1.Name).bind fun t201 =>
          (zFA t201 (⟨#[10]⟩)).bind fun zYi =>
          (sbW m194 zYi).bind fun zXe =>
          (Qo rec zY (iL1 + 1)) zXe
        else
          if (xL1.Kind == 4) then
            (zAF [xL1.At]).bind fun zbT =>
            (zFA (⟨#[109, 111, 118, 101]⟩) zbT).bind fun zhl =>
            (zFA zhl (⟨#[10]⟩)).bind fun t208 =>
            (sbW m194 t208).bind fun zMF =>
            (Qo rec zY (iL1 + 1)) zMF
          else
            if (xL1.Kind == 5) then
              (zAF [xL1.At]).bind fun zDU =>
              (zFA (⟨#[102, 108, 97, 115, 104]⟩) zDU).bind fun t213 =>
              (zFA t213 (⟨#[10]⟩)).bind fun zYh =>
              (sbW m194 zYh).bind fun zXc =>
              (Qo rec zY (iL1 + 1)) zXc
            else
              if (xL1.Kind == 6) then
                (zAF [xL1.At]).bind fun zXb =>
                (zFA (⟨#[108, 105, 110, 101]⟩) zXb).bind fun zhk =>
                (zFA zhk (⟨#[10]⟩)).bind fun zYg =>
                (sbW m194 zYg).bind fun zXa =>
                (Qo rec zY (iL1 + 1)) zXa
              else
                if (xL1.Kind == 7) then
                  (zAF xL1.Points).bind fun zbS =>
                  (zFA (⟨#[97, 114, 101, 97]⟩) zbS).bind fun zhj =>
                  (zFA zhj (⟨#[10]⟩)).bind fun zYf =>
                  (sbW m194 zYf).bind fun zXZ =>
                  (Qo rec zY (iL1 + 1)) zXZ
                else
                  if (xL1.Kind == 8) then
                    (zAF [(zJ.mk xL1.NX xL1.NY), xL1.At]).bind fun zbR =>
                    (zFA (⟨#[114, 101, 112, 101, 97, 116]⟩) zbR).bind fun zhi =>
                    (zFA zhi (⟨#[10]⟩)).bind fun zYe =>
                    (sbW m194 zYe).bind fun zUu =>
                    (rec zUu xL1.Steps).bind fun zUt =>
                    (sbW zUt (⟨#[100, 111, 110, 101, 10]⟩)).bind fun zXY =>
                    (Qo rec zY (iL1 + 1)) zXY
                  else
                    (Qo rec zY (iL1 + 1)) m194
def zCo (N : Nat) (rec : ByteArray → (List zG) → Option ByteArray) (p0 : ByteArray) (p1 : (List zG)) : Option ByteArray :=
  Qo rec p1 0 p0
def zB0 : Nat → ByteArray → (List zG) → Option ByteArray
  | 0 => fun _ _ => none
  | N + 1 => zCo N (zB0 N)



def zBP (kL3 : ByteArray → Option (ByteArray × Int)) : List zS → Nat → ByteArray → Option (ByteArray × Int)
  | [], iL4, m208 =>
    (sbW m208 (⟨#[10]⟩)).bind fun zMF =>
    kL3 zMF
  | xL4 :: Ve, iL4, m208 =>
    (zAF [(zJ.mk xL4.X0 xL4.Y0), (zJ.mk xL4.X1 xL4.Y1)]).bind fun zUv =>
    (sbW m208 zUv).bind fun zXd =>
    (zBP kL3 Ve (iL4 + 1)) zXd
def WP (N : Nat) (p0 : zm) : List zV → Nat → ByteArray → Option (ByteArray × Int)
  | [], iL3, m178 =>
    (zB0 N m178 p0.Steps).bind fun zUw =>
    (sbL zUw).bind fun zQL =>
    if (decide (200000 < zQL.1)) then
      some (ByteArray.empty, 2)
    else
      (sbS zQL.2).bind fun zFn =>
      some (zFn.1, 0)
  | xL3 :: JF, iL3, m178 =>
    (zFA (⟨#[116, 111, 111, 108, 32]⟩) xL3.Name).bind fun zYj =>
    (sbW m178 zYj).bind fun zRW =>
    zBP (WP N p0 JF (iL3 + 1)) xL3.Rects 0 zRW
def zEv (N : Nat) (p0 : zm) : Option (ByteArray × Int) :=
  (Jv N p0).bind fun y101 =>
  if (y101 != 0) then
    some (ByteArray.empty, y101)
  else
    (zLU p0.Unit).bind fun zo =>
    (zFA (⟨#[117, 110, 105, 116, 32]⟩) zo).bind fun zhp =>
    (zFA zhp (⟨#[10]⟩)).bind fun t105 =>
    (sbW ByteArray.empty t105).bind fun QZ =>
    WP N p0 p0.Tools 0 QZ


def KN (N : Nat)  : Option Bool :=
  (zEv N (zm.mk 7 [] [])).bind fun zy =>
  some ((zy.2 == 0) && (sEq zy.1 (⟨#[117, 110, 105, 116, 32, 55, 10]⟩)))

def Jn : List zS → Nat → Option Int
  | [], iL1 =>
    some 0
  | xL1 :: zY, iL1 =>
    (zBI xL1).bind fun zA7 =>
    if (!zA7) then
      some 1
    else
      if ((decide (xL1.X1 ≤ xL1.X0)) || (decide (xL1.Y1 ≤ xL1.Y0))) then
        some 13
      else
        (Jn zY (iL1 + 1))
def zAU (p0 : (List zS)) : Option Int :=
  if (decide (2000 < (p0.length : Int))) then
    some 2
  else
    Jn p0 0

def Jb (p1 : (List zS)) : List zS → Nat → Option Bool
  | [], iL1 =>
    some true
  | xL1 :: zY, iL1 =>
    (idx p1 (iL1 : Int)).bind fun x103 =>
    if (!(zHx xL1 x103)) then
      some false
    else
      (Jb p1 zY (iL1 + 1))
def Ke (p0 : (List zS)) (p1 : (List zS)) : Option Bool :=
  if ((p0.length : Int) != (p1.length : Int)) then
    some false
  else
    Jb p1 p0 0

noncomputable def Qs (N : Nat) (p0 : (List zS)) : Nat → Int → Option Int
  | 0, _ => none
  | mL1 + 1, zDD =>
    if (decide (zDD < (p0.length : Int))) then
      (idx p0 (w64 (zDD - 1))).bind fun Qk =>
      (idx p0 zDD).bind fun VJ =>
      if ((decide (VJ.Y0 < Qk.Y0)) || ((VJ.Y0 == Qk.Y0) && (decide (VJ.X0 ≤ Qk.X0)))) then
        some 8
      else
        (Qs N p0 mL1) (w64 (zDD + 1))
    else
      (VW N p0).bind fun zIq =>
      (KG N zIq).bind fun zD1 =>
      (Ke zD1 p0).bind fun zE0 =>
      if (!zE0) then
        some 3
      else
        some 0
noncomputable def Vp (N : Nat) (p0 : (List zS)) : Option Int :=
  (zAU p0).bind fun zy =>
  if (zy != 0) then
    some zy
  else
    Qs N p0 N 1


def zAq (N : Nat) (p0 : (List ze)) : Option ((List zS) × Int) :=
  (WW p0).bind fun zy =>
  if (decide (2000 < zy)) then
    some (([] : List zS), 2)
  else
    (KG N p0).bind fun y101 =>
    some (y101, 0)


noncomputable def zC8 (N : Nat) (p0 : (List zS)) (p1 : (List zS)) : Option ((List zS) × Int) :=
  (Vp N p0).bind fun zy =>
  if (zy != 0) then
    some (([] : List zS), zy)
  else
    (Vp N p1).bind fun y101 =>
    if (y101 != 0) then
      some (([] : List zS), y101)
    else
      (VW N p0).bind fun y102 =>
      (VW N p1).bind fun y104 =>
      (Wl N y102 y104).bind fun zAc =>
      (zAq N zAc).bind fun y112 =>
      some (y112.1, y112.2)


noncomputable def zBl (N : Nat) (p0 : (List zS)) (p1 : (List zS)) : Option ((List zS) × Int) :=
  (zC8 N p0 p1).bind fun zy =>
  some (zy.1, zy.2)


noncomputable def KU (N : Nat) (p0 : zm) (p1 : zm) : Option Bool :=
  (WG N p0).bind fun y102 =>
  (WG N p1).bind fun y104 =>
  (zC1 N p0 p1).bind fun QZ =>
  (if (((y102.2 != 0) || (y104.2 != 0)) || (QZ.2 != 0)) then some true else 
    (KZ N p1.Steps).bind fun zFK =>
    some zFK
  ).bind fun zce =>
  if zce then
    (if (((y102.2 == 0) || ((y102.1.length : Int) == 0)) && ((QZ.2 == 0) || (QZ.1.Unit == 0))) then 
      (KN N).bind fun y114 =>
      some y114
     else some false).bind fun zNi =>
    some zNi
  else
    (WG N QZ.1).bind fun y115 =>
    (zBl N y102.1 y104.1).bind fun zB5 =>
    if ((y115.2 != 0) || (zB5.2 != 0)) then
      (if ((y115.2 == 2) || (zB5.2 == 2)) then 
        (KN N).bind fun zGN =>
        some zGN
       else some false).bind fun zQW =>
      some zQW
    else
      (Ke y115.1 zB5.1).bind fun Kq =>
      (if Kq then 
        (KN N).bind fun zD1 =>
        some zD1
       else some false).bind fun zQV =>
      some zQV

end Go.Proofs.YtoageaoknnnfbaaGreatDoor
