/- The plain functions: what each function of the program computes; none where it would panic. -/
import Derived.Test.YtneghcpnehiffaaGreatDoorXT
namespace Go.Proofs.YtneghcpnehiffaaGreatDoor
open Go.RowKit

def Kw (p0 : Int) (p1 : Int) (p2 : Int) : Option Bool :=
  some ((decide (p1 ≤ p0)) && (decide (p0 ≤ p2)))

def WG (p0 : ByteArray) : Nat → Int → Option Bool
  | 0, _ => none
  | mL1 + 1, x105 =>
    if (decide (x105 < (p0.size : Int))) then
      (zSk p0 x105).bind fun c106 =>
      if ((!(((decide (97 ≤ c106)) && (decide (c106 ≤ 122))) || ((decide (65 ≤ c106)) && (decide (c106 ≤ 90))))) && ((x105 == 0) || ((((decide (c106 < 48)) || (decide (57 < c106))) && (c106 != 95)) && (c106 != 45)))) then
        some false
      else
        (WG p0 mL1) (w64 (x105 + 1))
    else
      some ((decide (1 ≤ (p0.size : Int))) && (decide ((p0.size : Int) ≤ 40)))
def WJ (N : Nat) (p0 : ByteArray) : Option Bool :=
  WG p0 N 0


def zAJ (p0 : Int) (p1 : Int) : Option Bool :=
  (dv (-1000000) p1).bind fun q100 =>
  (dv 1000000 p1).bind fun q101 =>
  (Kw p0 q100 q101).bind fun y102 =>
  some y102

def Kh (p1 : Int) : List zK → Nat → Option Int
  | [], iL1 =>
    some 0
  | xL1 :: zY, iL1 =>
    (zAJ xL1.X0 p1).bind fun zFa =>
    (if (!zFa) then some true else 
      (zAJ xL1.Y0 p1).bind fun zbt =>
      some (!zbt)
    ).bind fun zau =>
    (if zau then some true else 
      (zAJ xL1.X1 p1).bind fun Vj =>
      some (!Vj)
    ).bind fun zat =>
    (if zat then some true else 
      (zAJ xL1.Y1 p1).bind fun zGZ =>
      some (!zGZ)
    ).bind fun zc6 =>
    if zc6 then
      some 1
    else
      if ((decide (xL1.X1 ≤ xL1.X0)) || (decide (xL1.Y1 ≤ xL1.Y0))) then
        some 13
      else
        (Kh p1 zY (iL1 + 1))
def zBR (N : Nat) (p0 : zg) (p1 : Int) : Option Int :=
  (WJ N p0.Name).bind fun y101 =>
  if (!y101) then
    some 5
  else
    if ((p0.Rects.length : Int) == 0) then
      some 9
    else
      if (decide (2000 < (p0.Rects.length : Int))) then
        some 2
      else
        Kh p1 p0.Rects 0


def zBN (p0 : Int) : Option Int :=
  (Kw p0 1 100).bind fun QT =>
  if QT then
    some p0
  else
    some 1


def zDm (p0 : zC) : Option Int :=
  (zBN p0.NX).bind fun y101 =>
  (zBN p0.NY).bind fun y102 =>
  some (w64 (y101 * y102))

def Ws (kL3 : Int → Option Int) (zXp : Int) : Option Int :=
  if (decide (3000 < zXp)) then
    some 3001
  else
    kL3 zXp
def Ja (rec : (List zC) → Option Int) : List zC → Nat → Int → Option Int
  | [], iL3, zN1 =>
    some zN1
  | xL3 :: Qu, iL3, zN1 =>
    if (decide (0 < (xL3.Steps.length : Int))) then
      (zDm xL3).bind fun zYX =>
      (rec xL3.Steps).bind fun zYW =>
      Ws (Ja rec Qu (iL3 + 1)) (w64 ((w64 (zN1 + 1)) + (w64 (zYX * zYW))))
    else
      Ws (Ja rec Qu (iL3 + 1)) (w64 (zN1 + 1))
def zFt (N : Nat) (rec : (List zC) → Option Int) (p0 : (List zC)) : Option Int :=
  Ja rec p0 0 0
def zCc : Nat → (List zC) → Option Int
  | 0 => fun _ => none
  | N + 1 => zFt N (zCc N)

def VY (p0 : Int) (x101 : Bool) : Option zEN :=
  if x101 then
    some (zEN.mk false true false false)
  else
    if (p0 == 7) then
      some (zEN.mk false false true false)
    else
      if (p0 == 8) then
        some (zEN.mk false true false true)
      else
        some (zEN.mk false false false false)
def Vv (p0 : Int) : Option zEN :=
  if (p0 == 3) then
    some (zEN.mk true false false false)
  else
    if (p0 == 4) then
      VY p0 (p0 == 4)
    else
      if (p0 == 5) then
        VY p0 (p0 == 5)
      else
        VY p0 (p0 == 6)


def zC5 (p0 : zg) (q0 : ByteArray) : Option Bool :=
  some (sEq p0.Name q0)

def QU (q0 : ByteArray) : List zg → Nat → Option Int
  | [], iL1 =>
    some (-1)
  | xL1 :: zY, iL1 =>
    (zC5 xL1 q0).bind fun VD =>
    if VD then
      some (iL1 : Int)
    else
      (QU q0 zY (iL1 + 1))
def KF (p0 : (List zg)) (q0 : ByteArray) : Option Int :=
  QU q0 p0 0


def zBy (p0 : zt) (p1 : ByteArray) : Option Int :=
  (KF p0.Tools p1).bind fun y102 =>
  some y102


def zBP (p0 : zI) (p1 : Int) : Option Bool :=
  (zAJ p0.X p1).bind fun y101 =>
  (if y101 then 
    (zAJ p0.Y p1).bind fun y104 =>
    some y104
   else some false).bind fun zF4 =>
  some zF4


def Ku (p0 : zI) (q0 : zt) : Option Bool :=
  (zBP p0 q0.Unit).bind fun y101 =>
  some (!y101)

def Qg (p1 : zI → Option Bool) : List zI → Nat → Option Int
  | [], iL1 =>
    some (-1)
  | xL1 :: zY, iL1 =>
    (p1 xL1).bind fun zk =>
    if zk then
      some (iL1 : Int)
    else
      (Qg p1 zY (iL1 + 1))
def VQ (p0 : (List zI)) (p1 : zI → Option Bool) : Option Int :=
  Qg p1 p0 0


def JF (p0 : (List zI)) (p1 : zI → Option Bool) : Option Bool :=
  (VQ p0 p1).bind fun QT =>
  some (decide (0 ≤ QT))

def Vf (p0 : (List zI)) : List zI → Nat → Option Bool
  | [], iL1 =>
    some true
  | xL1 :: zY, iL1 =>
    (md (w64 ((iL1 : Int) + 1)) (p0.length : Int)).bind fun q107 =>
    (idx p0 q107).bind fun zEt =>
    if ((xL1.X == zEt.X) == (xL1.Y == zEt.Y)) then
      some false
    else
      (Vf p0 zY (iL1 + 1))
def zCv (p0 : (List zI)) : Option Bool :=
  if (decide ((p0.length : Int) < 4)) then
    some false
  else
    Vf p0 p0 0

def Qv (p0 : zt) (p1 : zC) (p2 : Int) (zk : zEN) (x105 : Bool) : Option Int :=
  if x105 then
    some 3
  else
    (if zk.name then 
      (zBy p0 p1.Name).bind fun zCn =>
      some (decide (zCn < 0))
     else some false).bind fun zPo =>
    if zPo then
      some 5
    else
      (zBP p1.At p0.Unit).bind fun zJk =>
      (if (!zJk) then some true else 
        (JF p1.Points (fun z0 => Ku z0 p0)).bind fun y114 =>
        some y114
      ).bind fun zc9 =>
      if zc9 then
        some 1
      else
        if (decide (2000 < (p1.Points.length : Int))) then
          some 2
        else
          (if zk.points then 
            (zCv p1.Points).bind fun zJj =>
            some (!zJj)
           else some false).bind fun zc8 =>
          if zc8 then
            some 3
          else
            if (!zk.repeat_) then
              some 0
            else
              (Kw p1.NX 1 100).bind fun zYY =>
              (if (!zYY) then some true else 
                (Kw p1.NY 1 100).bind fun zJ7 =>
                some (!zJ7)
              ).bind fun zc7 =>
              if zc7 then
                some 1
              else
                if ((p1.Steps.length : Int) == 0) then
                  some 9
                else
                  if (decide (5 ≤ p2)) then
                    some 2
                  else
                    some 0
def zBS (p0 : zt) (p1 : zC) (p2 : Int) : Option Int :=
  (Kw p1.Kind 1 8).bind fun y102 =>
  if (!y102) then
    some 4
  else
    (Vv p1.Kind).bind fun zk =>
    if ((!zk.name) && (!sEq p1.Name ByteArray.empty)) then
      Qv p0 p1 p2 zk ((!zk.name) && (!sEq p1.Name ByteArray.empty))
    else
      if ((!zk.at_) && (!(zBq p1.At (zI.mk 0 0)))) then
        Qv p0 p1 p2 zk ((!zk.at_) && (!(zBq p1.At (zI.mk 0 0))))
      else
        if ((!zk.points) && (decide (0 < (p1.Points.length : Int)))) then
          Qv p0 p1 p2 zk ((!zk.points) && (decide (0 < (p1.Points.length : Int))))
        else
          Qv p0 p1 p2 zk ((!zk.repeat_) && (((p1.NX != 0) || (p1.NY != 0)) || (decide (0 < (p1.Steps.length : Int)))))

def KZ (p0 : zt) (p2 : Int) (rec : zt → (List zC) → Int → Option Int) : List zC → Nat → Option Int
  | [], iL1 =>
    some 0
  | xL1 :: zY, iL1 =>
    (zBS p0 xL1 p2).bind fun KW =>
    if (KW != 0) then
      some KW
    else
      (rec p0 xL1.Steps (w64 (p2 + 1))).bind fun zCn =>
      if (zCn != 0) then
        some zCn
      else
        (KZ p0 p2 rec zY (iL1 + 1))
def zCm (N : Nat) (rec : zt → (List zC) → Int → Option Int) (p0 : zt) (p1 : (List zC)) (p2 : Int) : Option Int :=
  KZ p0 p2 rec p1 0
def zA0 : Nat → zt → (List zC) → Int → Option Int
  | 0 => fun _ _ _ => none
  | N + 1 => zCm N (zA0 N)

def KL (N : Nat) (p0 : zt) : List zg → Nat → Option Int
  | [], iL1 =>
    (zCc N p0.Steps).bind fun y112 =>
    if (decide (3000 < y112)) then
      some 2
    else
      (zA0 N p0 p0.Steps 0).bind fun y113 =>
      some y113
  | xL1 :: zY, iL1 =>
    (zBR N xL1 p0.Unit).bind fun zFa =>
    if (zFa != 0) then
      some zFa
    else
      (if (decide (0 < (iL1 : Int))) then 
        (idx p0.Tools (w64 ((iL1 : Int) - 1))).bind fun zYc =>
        some (sLt xL1.Name zYc.Name || sEq xL1.Name zYc.Name)
       else some false).bind fun zif =>
      if zif then
        some 8
      else
        (KL N p0 zY (iL1 + 1))
def Jl (N : Nat) (p0 : zt) : Option Int :=
  (Kw p0.Unit 1 1000).bind fun y101 =>
  if (!y101) then
    some 1
  else
    if (decide (200 < (p0.Tools.length : Int))) then
      some 2
    else
      KL N p0 p0.Tools 0


def VL (p0 : (List zK)) : Option (List zK) :=
  (apd ([] : List zK) p0).bind fun zKJ =>
  some zKJ



def zAm (p0 : zK) (p1 : zK) : Option Int :=
  some (w64 (p0.Y0 - p1.Y0))




def zAl (p0 : zK) (q0 : (List Int)) (q1 : Int) : Option Bool :=
  (idx q0 q1).bind fun x101 =>
  some (decide (p0.Y1 ≤ x101))

def JH (p1 : zK → Option Bool) : List zK → Nat → Option Int
  | [], iL1 =>
    some (-1)
  | xL1 :: zY, iL1 =>
    (p1 xL1).bind fun zk =>
    if zk then
      some (iL1 : Int)
    else
      (JH p1 zY (iL1 + 1))
def WZ (p0 : (List zK)) (p1 : zK → Option Bool) : Option Int :=
  JH p1 p0 0

def Qq (p1 : zK → Option Bool) : Nat → List zK → Int → Int → Option (List zK)
  | 0, _, _, _ => none
  | mL1 + 1, zFD, zE6, zF1 =>
    if (decide (zF1 < (zFD.length : Int))) then
      (idx zFD zF1).bind fun WM =>
      (p1 WM).bind fun zGZ =>
      if (!zGZ) then
        (idx zFD zE6).bind fun zN1 =>
        (sets zFD zE6 WM).bind fun zRb =>
        (Qq p1 mL1) zRb (w64 (zE6 + 1)) (w64 (zF1 + 1))
      else
        (Qq p1 mL1) zFD zE6 (w64 (zF1 + 1))
    else
      (cut zFD zE6 (zFD.length : Int)).bind fun zCk =>
      (pre (clr zFD zE6 (zCk).length (zK.mk 0 0 0 0)) zE6).bind fun zNL =>
      some zNL
def VR (N : Nat) (p0 : (List zK)) (p1 : zK → Option Bool) : Option (List zK) :=
  (WZ p0 p1).bind fun QT =>
  if (QT == (-1)) then
    some p0
  else
    Qq p1 N p0 QT (w64 (QT + 1))


def Vp (p0 : zK) (p1 : zK) : Option Int :=
  some (w64 (p0.X0 - p1.X0))

def JV (QT : (List zK)) : List zK → Nat → List Int → Option ((List Int) × (List zK))
  | [], iL1, zCk =>
    some (zCk, QT)
  | xL1 :: zY, iL1, zCk =>
    (if (decide (0 ≤ (w64 ((zCk.length : Int) - 1)))) then 
      (idx zCk (w64 ((zCk.length : Int) - 1))).bind fun zjO =>
      some (decide (xL1.X0 ≤ zjO))
     else some false).bind fun zc5 =>
    if zc5 then
      (idx zCk (w64 ((zCk.length : Int) - 1))).bind fun zEs =>
      (idx zCk (w64 ((zCk.length : Int) - 1))).bind fun zHM =>
      (sets zCk (w64 ((zCk.length : Int) - 1)) (max zEs xL1.X1)).bind fun zTK =>
      (JV QT zY (iL1 + 1)) zTK
    else
      (apd zCk [xL1.X0, xL1.X1]).bind fun zfc =>
      (JV QT zY (iL1 + 1)) zfc
noncomputable def zAv (p0 : (List zK)) : Option ((List Int) × (List zK)) :=
  (zOB p0 (fun z0 z1 => Vp z0 z1)).bind fun QT =>
  JV QT QT 0 ([] : List Int)

def Jd (p1 : (List Int)) : List Int → Nat → Option Bool
  | [], iL1 =>
    some true
  | xL1 :: zY, iL1 =>
    (idx p1 (iL1 : Int)).bind fun x103 =>
    if (xL1 != x103) then
      some false
    else
      (Jd p1 zY (iL1 + 1))
def zAU (p0 : (List Int)) (p1 : (List Int)) : Option Bool :=
  if ((p0.length : Int) != (p1.length : Int)) then
    some false
  else
    Jd p1 p0 0


def JZ (p0 : (List zZ)) (p1 : zZ) : Option (List zZ) :=
  if (((p1.Xs.length : Int) == 0) || (decide (p1.Y1 ≤ p1.Y0))) then
    some p0
  else
    (if (decide (0 ≤ (w64 ((p0.length : Int) - 1)))) then 
      (idx p0 (w64 ((p0.length : Int) - 1))).bind fun x103 =>
      some (x103.Y1 == p1.Y0)
     else some false).bind fun zPp =>
    (if zPp then 
      (idx p0 (w64 ((p0.length : Int) - 1))).bind fun zEt =>
      (zAU zEt.Xs p1.Xs).bind fun zCn =>
      some zCn
     else some false).bind fun zKL =>
    if zKL then
      (idx p0 (w64 ((p0.length : Int) - 1))).bind fun zYd =>
      (sets p0 (w64 ((p0.length : Int) - 1)) (zZ.mk zYd.Y0 p1.Y1 zYd.Xs)).bind fun zU6 =>
      some zU6
    else
      (apd p0 [p1]).bind fun zfe =>
      some zfe

noncomputable def VG (y102 : (List zK)) (Vj : (List Int)) (zBc : Int) (Vh : List zZ) (kL4 : Int → (List zZ) → (List zK) → Int → Option (List zZ)) : Nat → List zK → Int → Option (List zZ)
  | 0, _, _ => none
  | mL5 + 1, zHZ, zNH =>
    (if (decide (zNH < (y102.length : Int))) then 
      (idx y102 zNH).bind fun zjN =>
      (idx Vj zBc).bind fun zjM =>
      some (decide (zjN.Y0 ≤ zjM))
     else some false).bind fun zc3 =>
    if zc3 then
      (idx y102 zNH).bind fun zFb =>
      (apd zHZ [zFb]).bind fun zfZ =>
      (VG y102 Vj zBc Vh kL4 mL5) zfZ (w64 (zNH + 1))
    else
      (idx Vj zBc).bind fun zSW =>
      (idx Vj (w64 (zBc + 1))).bind fun zSV =>
      (zAv zHZ).bind fun zFw =>
      (JZ Vh (zZ.mk zSW zSV zFw.1)).bind fun zSR =>
      kL4 (w64 (zBc + 1)) zSR zFw.2 zNH
noncomputable def JK (N : Nat) (y102 : (List zK)) (Vj : (List Int)) : Nat → Int → List zZ → List zK → Int → Option (List zZ)
  | 0, _, _, _, _ => none
  | mL4 + 1, zBc, Vh, zAo, zbv =>
    if (decide ((w64 (zBc + 1)) < (Vj.length : Int))) then
      (VR N zAo (fun z0 => zAl z0 Vj zBc)).bind fun zSS =>
      VG y102 Vj zBc Vh (JK N y102 Vj mL4) N zSS zbv
    else
      some Vh
noncomputable def VH (N : Nat) (y102 : (List zK)) : List zK → Nat → List Int → Option (List zZ)
  | [], iL1, zME =>
    (zSl zME).bind fun zA8 =>
    (cpI zA8).bind fun Vj =>
    JK N y102 Vj N 0 ([] : List zZ) ([] : List zK) 0
  | xL1 :: zY, iL1, zME =>
    (apd zME [xL1.Y0, xL1.Y1]).bind fun zZU =>
    (VH N y102 zY (iL1 + 1)) zZU
noncomputable def Vi (N : Nat) (p0 : (List zK)) : Option (List zZ) :=
  (VL p0).bind fun QT =>
  (zOB QT (fun z0 z1 => zAm z0 z1)).bind fun y102 =>
  VH N y102 y102 0 ([] : List Int)

noncomputable def Jv (N : Nat) (p0 : zt) (zIi : List (List zZ)) (kL3 : (List (List zZ)) → Option QM) : List zK → Nat → List zK → Option QM
  | [], iL4, zU5 =>
    (Vi N zU5).bind fun zHH =>
    (apd zIi [zHH]).bind fun zHa =>
    kL3 zHa
  | xL4 :: Vl, iL4, zU5 =>
    (apd zU5 [(zK.mk (w64 (xL4.X0 * p0.Unit)) (w64 (xL4.Y0 * p0.Unit)) (w64 (xL4.X1 * p0.Unit)) (w64 (xL4.Y1 * p0.Unit)))]).bind fun zfa =>
    (Jv N p0 zIi kL3 Vl (iL4 + 1)) zfa
noncomputable def Qz (N : Nat) (p0 : zt) : List zg → Nat → List (List zZ) → Option QM
  | [], iL3, zIi =>
    some (QM.mk p0 zIi [] false (-1) (zI.mk 0 0) false 0 0)
  | xL3 :: Qu, iL3, zIi =>
    Jv N p0 zIi (Qz N p0 Qu (iL3 + 1)) xL3.Rects 0 ([] : List zK)
noncomputable def zAz (N : Nat) (p0 : zt) : Option QM :=
  Qz N p0 p0.Tools 0 ([] : List (List zZ))


def WB (p0 : QM) (p1 : zI) (p2 : zI) : Option zI :=
  some (zI.mk (w64 ((w64 (p1.X * p0.p.Unit)) + p2.X)) (w64 ((w64 (p1.Y * p0.p.Unit)) + p2.Y)))


def WO (p0 : Int) (p1 : Int) (p2 : Int) : Option Bool :=
  some ((decide (p1 ≤ p0)) && (decide (p0 ≤ p2)))


def Vn (p0 : Int) : Option Bool :=
  (WO p0 (-1000000) 1000000).bind fun QT =>
  some QT


def Kc (p0 : zI) : Option Bool :=
  (Vn p0.X).bind fun y101 =>
  (if y101 then 
    (Vn p0.Y).bind fun y104 =>
    some y104
   else some false).bind fun zF4 =>
  some zF4


def zHy (p0 : zI) (p1 : zI) : Option Int :=
  some (w64 ((max (w64 (p0.X - p1.X)) (w64 (p1.X - p0.X))) + (max (w64 (p0.Y - p1.Y)) (w64 (p1.Y - p0.Y)))))

def Je (kL3 : (List zK) → Option (List zK)) (xL3 : zZ) : Nat → List zK → Int → Option (List zK)
  | 0, _, _ => none
  | mL4 + 1, zOc, zGl =>
    if (decide (zGl < (xL3.Xs.length : Int))) then
      (idx xL3.Xs zGl).bind fun zJo =>
      (idx xL3.Xs (w64 (zGl + 1))).bind fun zJn =>
      (apd zOc [(zK.mk zJo xL3.Y0 zJn xL3.Y1)]).bind fun zfb =>
      (Je kL3 xL3 mL4) zfb (w64 (zGl + 2))
    else
      kL3 zOc
def Qs (N : Nat) : List zZ → Nat → List zK → Option (List zK)
  | [], iL3, zDt =>
    some zDt
  | xL3 :: Qu, iL3, zDt =>
    Je (Qs N Qu (iL3 + 1)) xL3 N zDt 0
def Jb (N : Nat) (p0 : (List zZ)) : Option (List zK) :=
  Qs N p0 0 ([] : List zK)

noncomputable def Jo (N : Nat) (p1 : Int) (p2 : Int) (p3 : Int) (p4 : Int) (QT : (List zK)) : Nat → List zK → Int → Option (List zZ)
  | 0, _, _ => none
  | mL1 + 1, zRc, zGn =>
    if (decide (zGn < (QT.length : Int))) then
      (idx zRc zGn).bind fun QY =>
      (idx zRc zGn).bind fun zYc =>
      (sets zRc zGn (zK.mk (w64 (QY.X0 - p1)) (w64 (QY.Y0 - p3)) (w64 (QY.X1 + p2)) (w64 (QY.Y1 + p4)))).bind fun zTM =>
      (Jo N p1 p2 p3 p4 QT mL1) zTM (w64 (zGn + 1))
    else
      (Vi N zRc).bind fun Vj =>
      some Vj
noncomputable def Wu (N : Nat) (p0 : (List zZ)) (p1 : Int) (p2 : Int) (p3 : Int) (p4 : Int) : Option (List zZ) :=
  (Jb N p0).bind fun QT =>
  Jo N p1 p2 p3 p4 QT N QT 0


noncomputable def zBj (N : Nat) (p0 : (List zZ)) (p1 : zI) (p2 : zI) : Option (List zZ) :=
  (Wu N p0 (w64 (0 - (min p1.X p2.X))) (max p1.X p2.X) (w64 (0 - (min p1.Y p2.Y))) (max p1.Y p2.Y)).bind fun y102 =>
  some y102

def Jq (x105 : zZ) (zE7 : zZ) : List zZ → Nat → Int → Int → Option zK
  | [], iL1, zEs, zHM =>
    some (zK.mk zEs x105.Y0 zHM zE7.Y1)
  | xL1 :: zY, iL1, zEs, zHM =>
    (idx xL1.Xs 0).bind fun zSY =>
    (idx xL1.Xs (w64 ((xL1.Xs.length : Int) - 1))).bind fun zKf =>
    (Jq x105 zE7 zY (iL1 + 1)) (min zEs zSY) (max zHM zKf)
def Ww (p0 : (List zZ)) : Option zK :=
  (idx p0 0).bind fun x102 =>
  (idx x102.Xs 0).bind fun x104 =>
  (idx p0 0).bind fun x105 =>
  (idx p0 0).bind fun x107 =>
  (idx x107.Xs 1).bind fun zPh =>
  (idx p0 (w64 ((p0.length : Int) - 1))).bind fun zE7 =>
  Jq x105 zE7 p0 0 x104 zPh


def zBL (p0 : zK) : Option Bool :=
  (Vn p0.X0).bind fun y101 =>
  (if y101 then 
    (Vn p0.Y0).bind fun y104 =>
    some y104
   else some false).bind fun zF4 =>
  (if zF4 then 
    (Vn p0.X1).bind fun zIP =>
    some zIP
   else some false).bind fun zO6 =>
  (if zO6 then 
    (Vn p0.Y1).bind fun zCn =>
    some zCn
   else some false).bind fun zPo =>
  some zPo


def Wh (p0 : (List zZ)) : Option Bool :=
  (if ((p0.length : Int) == 0) then some true else 
    (Ww p0).bind fun zk =>
    (zBL zk).bind fun y104 =>
    some y104
  ).bind fun zPp =>
  some zPp


def zAj (p0 : (List zZ)) (p1 : Int) (p2 : Int) : Option ((List Int) × Int) :=
  if ((p0.length : Int) == 0) then
    some (([] : List Int), p2)
  else
    (idx p0 0).bind fun x102 =>
    if (decide (p1 < x102.Y0)) then
      (idx p0 0).bind fun x104 =>
      some ([], (min p2 x104.Y0))
    else
      (idx p0 0).bind fun zbx =>
      (idx p0 0).bind fun zEt =>
      some (zbx.Xs, (min p2 zEt.Y1))

def Wo (p2 : Bool → Bool → Option Bool) (zAf : List Int) (zCo : Bool) (kL7 : (List Int) → (List Int) → (List Int) → Bool → Bool → Bool → Option (List Int)) (zD0 : Int) (zKI : List Int) (zJm : Bool) (zU4 : List Int) (zSX : Bool) : Option (List Int) :=
  (p2 zJm zSX).bind fun zYN =>
  if (zYN != zCo) then
    (apd zAf [zD0]).bind fun zfY =>
    kL7 zKI zU4 zfY zJm zSX zYN
  else
    kL7 zKI zU4 zAf zJm zSX zCo
def VV (p2 : Bool → Bool → Option Bool) (zAo : List Int) (zAf : List Int) (zD1 : Bool) (zCo : Bool) (kL7 : (List Int) → (List Int) → (List Int) → Bool → Bool → Bool → Option (List Int)) (zD0 : Int) (zKI : List Int) (zJm : Bool) : Option (List Int) :=
  (if (decide (0 < (zAo.length : Int))) then 
    (idx zAo 0).bind fun zjL =>
    some (zjL == zD0)
   else some false).bind fun zc2 =>
  if zc2 then
    (cut zAo 1 (zAo.length : Int)).bind fun zfX =>
    Wo p2 zAf zCo kL7 zD0 zKI zJm zfX (!zD1)
  else
    Wo p2 zAf zCo kL7 zD0 zKI zJm zAo zD1
def VF (p2 : Bool → Bool → Option Bool) (Vh : List Int) (zAo : List Int) (zAf : List Int) (zHK : Bool) (zD1 : Bool) (zCo : Bool) (kL7 : (List Int) → (List Int) → (List Int) → Bool → Bool → Bool → Option (List Int)) (zD0 : Int) : Option (List Int) :=
  (if (decide (0 < (Vh.length : Int))) then 
    (idx Vh 0).bind fun zjK =>
    some (zjK == zD0)
   else some false).bind fun zc1 =>
  if zc1 then
    (cut Vh 1 (Vh.length : Int)).bind fun zfW =>
    VV p2 zAo zAf zD1 zCo kL7 zD0 zfW (!zHK)
  else
    VV p2 zAo zAf zD1 zCo kL7 zD0 Vh zHK
def Qm (p2 : Bool → Bool → Option Bool) : Nat → List Int → List Int → List Int → Bool → Bool → Bool → Option (List Int)
  | 0, _, _, _, _, _, _ => none
  | mL7 + 1, Vh, zAo, zAf, zHK, zD1, zCo =>
    if ((decide (0 < (Vh.length : Int))) || (decide (0 < (zAo.length : Int)))) then
      (if ((zAo.length : Int) == 0) then some true else 
        (if (decide (0 < (Vh.length : Int))) then 
          (idx Vh 0).bind fun zXo =>
          (idx zAo 0).bind fun zXn =>
          some (decide (zXo ≤ zXn))
         else some false).bind fun zid =>
        some zid
      ).bind fun zie =>
      if zie then
        (idx Vh 0).bind fun zUa =>
        VF p2 Vh zAo zAf zHK zD1 zCo (Qm p2 mL7) zUa
      else
        (idx zAo 0).bind fun zUZ =>
        VF p2 Vh zAo zAf zHK zD1 zCo (Qm p2 mL7) zUZ
    else
      some zAf
def zDl (N : Nat) (p0 : (List Int)) (p1 : (List Int)) (p2 : Bool → Bool → Option Bool) : Option (List Int) :=
  Qm p2 N p0 p1 ([] : List Int) false false false

def Ve (zDt : List (List zZ)) (x153 : Int) (kL3 : Int → Int → (List (List zZ)) → Int → Option (List zZ)) (zGm : (List zZ)) (x160 : Int) (zbw : Int) : Option (List zZ) :=
  (idx zGm 0).bind fun zev =>
  (idx zGm (w64 ((zGm.length : Int) - 1))).bind fun zYb =>
  kL3 (min x160 zev.Y0) (max zbw zYb.Y1) zDt (w64 (x153 + 1))
def VN (N : Nat) (p2 : Bool → Bool → Option Bool) (x151 : Int) (zDS : List zZ) (zDV : Int) (kL9 : (List zZ) → (List zZ) → (List zZ) → Int → Option (List zZ)) (zF3 : List zZ) : Nat → List zZ → Option (List zZ)
  | 0, _ => none
  | zfO + 1, zK3 =>
    (if (decide (0 < (zK3.length : Int))) then 
      (idx zK3 0).bind fun zXm =>
      some (decide (zXm.Y1 ≤ zDV))
     else some false).bind fun zcz =>
    if zcz then
      (cut zK3 1 (zK3.length : Int)).bind fun zfU =>
      (VN N p2 x151 zDS zDV kL9 zF3 zfO) zfU
    else
      (zAj zF3 zDV x151).bind fun zKc =>
      (zAj zK3 zDV x151).bind fun zKb =>
      (zDl N zKc.1 zKb.1 p2).bind fun zNG =>
      (JZ zDS (zZ.mk zDV (min zKc.2 zKb.2) zNG)).bind fun zPX =>
      kL9 zF3 zK3 zPX (min zKc.2 zKb.2)
def VO (N : Nat) (p2 : Bool → Bool → Option Bool) (x151 : Int) (zMD : List zZ) (zDS : List zZ) (zDV : Int) (kL9 : (List zZ) → (List zZ) → (List zZ) → Int → Option (List zZ)) : Nat → List zZ → Option (List zZ)
  | 0, _ => none
  | zU0 + 1, zF3 =>
    (if (decide (0 < (zF3.length : Int))) then 
      (idx zF3 0).bind fun zjJ =>
      some (decide (zjJ.Y1 ≤ zDV))
     else some false).bind fun zc0 =>
    if zc0 then
      (cut zF3 1 (zF3.length : Int)).bind fun zfV =>
      (VO N p2 x151 zMD zDS zDV kL9 zU0) zfV
    else
      VN N p2 x151 zDS zDV kL9 zF3 N zMD
def JY (N : Nat) (p2 : Bool → Bool → Option Bool) (x151 : Int) : Nat → List zZ → List zZ → List zZ → Int → Option (List zZ)
  | 0, _, _, _, _ => none
  | mL9 + 1, zZT, zMD, zDS, zDV =>
    if (decide (zDV < x151)) then
      VO N p2 x151 zMD zDS zDV (JY N p2 x151 mL9) N zZT
    else
      some zDS
def Qi (N : Nat) (p0 : (List zZ)) (p1 : (List zZ)) (p2 : Bool → Bool → Option Bool) : Nat → Int → Int → List (List zZ) → Int → Option (List zZ)
  | 0, _, _, _, _ => none
  | mL3 + 1, x150, x151, zDt, x153 =>
    if (decide (x153 < 2)) then
      (idx zDt x153).bind fun zGm =>
      if (decide (0 < (zGm.length : Int))) then
        if ((x153 == 0) || ((p0.length : Int) == 0)) then
          (idx zGm 0).bind fun x168 =>
          (idx zGm (w64 ((zGm.length : Int) - 1))).bind fun zGl =>
          Ve zDt x153 (Qi N p0 p1 p2 mL3) zGm x168.Y0 zGl.Y1
        else
          Ve zDt x153 (Qi N p0 p1 p2 mL3) zGm x150 x151
      else
        (Qi N p0 p1 p2 mL3) x150 x151 zDt (w64 (x153 + 1))
    else
      JY N p2 x151 N p0 p1 ([] : List zZ) x150
def zBx (N : Nat) (p0 : (List zZ)) (p1 : (List zZ)) (p2 : Bool → Bool → Option Bool) : Option (List zZ) :=
  if ((w64 ((p0.length : Int) + (p1.length : Int))) == 0) then
    some ([] : List zZ)
  else
    Qi N p0 p1 p2 N 0 0 [p0, p1] 0


def Wv (p0 : Bool) (p1 : Bool) : Option Bool :=
  some (p0 && (!p1))


def We (N : Nat) (p0 : (List zZ)) (p1 : (List zZ)) : Option (List zZ) :=
  (zBx N p0 p1 (fun z0 z1 => Wv z0 z1)).bind fun QT =>
  some QT


def zAy (p0 : Bool) (p1 : Bool) : Option Bool :=
  some (p0 || p1)


def zAk (N : Nat) (p0 : (List zZ)) (p1 : (List zZ)) : Option (List zZ) :=
  (zBx N p0 p1 (fun z0 z1 => zAy z0 z1)).bind fun QT =>
  some QT

def Jp : List zZ → Nat → Int → Option Int
  | [], iL1, x112 =>
    some x112
  | xL1 :: zY, iL1, x112 =>
    (Jp zY (iL1 + 1)) (w64 (x112 + (w64 (Int.tdiv (xL1.Xs.length : Int) 2))))
def Wd (p0 : (List zZ)) : Option Int :=
  Jp p0 0 0

def KO (zTN : List zZ) : Option (Int × (List zZ)) :=
  (Wd zTN).bind fun y112 =>
  if (decide (2000 < y112)) then
    some (2, zTN)
  else
    some (0, zTN)
def Kt (N : Nat) (p0 : QM) (p1 : (List zZ)) : Option (Int × (List zZ)) :=
  (Wh p1).bind fun y113 =>
  if (!y113) then
    some (1, p0.image)
  else
    if p0.clear then
      (We N p0.image p1).bind fun zFa =>
      KO zFa
    else
      (zAk N p0.image p1).bind fun zA8 =>
      KO zA8

def Ji (p1 : zI) (x103 : Int) : Option (Int × Int × Int × Bool × Int) :=
  some (0, p1.X, p1.Y, true, x103)
def KN (p0 : QM) (p1 : zI) : Option (Int × Int × Int × Bool × Int) :=
  (Kc p1).bind fun y101 =>
  if (!y101) then
    some (1, p0.place.X, p0.place.Y, p0.placed, p0.off)
  else
    if p0.placed then
      (zHy p0.place p1).bind fun zBE =>
      Ji p1 (w64 (p0.off + zBE))
    else
      Ji p1 p0.off


noncomputable def WC (N : Nat) (p0 : QM) (p1 : zI) : Option (Int × Int × Int × Bool × Int × (List zZ)) :=
  if (decide (p0.tool < 0)) then
    some (11, p0.place.X, p0.place.Y, p0.placed, p0.off, p0.image)
  else
    (KN p0 p1).bind fun y101 =>
    if (y101.1 != 0) then
      some (y101.1, y101.2.1, y101.2.2.1, y101.2.2.2.1, y101.2.2.2.2, p0.image)
    else
      (idx p0.tools p0.tool).bind fun x104 =>
      (zBj N x104 p1 p1).bind fun zBE =>
      (Kt N (QM.mk p0.p p0.tools p0.image p0.clear p0.tool (zI.mk y101.2.1 y101.2.2.1) y101.2.2.2.1 y101.2.2.2.2 p0.on) zBE).bind fun zCn =>
      some (zCn.1, y101.2.1, y101.2.2.1, y101.2.2.2.1, y101.2.2.2.2, zCn.2)

def Jh (p1 : zI) (x103 : Int) : Option (Int × Int × Int × Bool × Int) :=
  some (0, p1.X, p1.Y, true, x103)
def Kr (p0 : QM) (p1 : zI) : Option (Int × Int × Int × Bool × Int) :=
  (Kc p1).bind fun y101 =>
  if (!y101) then
    some (1, p0.place.X, p0.place.Y, p0.placed, p0.on)
  else
    if p0.placed then
      (zHy p0.place p1).bind fun zBE =>
      Jh p1 (w64 (p0.on + zBE))
    else
      Jh p1 p0.on


noncomputable def WQ (N : Nat) (p0 : QM) (p1 : zI) : Option (Int × Int × Int × Bool × Int × (List zZ)) :=
  if ((decide (p0.tool < 0)) || (!p0.placed)) then
    some (11, p0.place.X, p0.place.Y, p0.placed, p0.on, p0.image)
  else
    if ((p1.X != p0.place.X) && (p1.Y != p0.place.Y)) then
      some (3, p0.place.X, p0.place.Y, p0.placed, p0.on, p0.image)
    else
      (Kr p0 p1).bind fun y102 =>
      if (y102.1 != 0) then
        some (y102.1, y102.2.1, y102.2.2.1, y102.2.2.2.1, y102.2.2.2.2, p0.image)
      else
        (idx p0.tools p0.tool).bind fun x105 =>
        (zBj N x105 p0.place p1).bind fun zIP =>
        (Kt N (QM.mk p0.p p0.tools p0.image p0.clear p0.tool (zI.mk y102.2.1 y102.2.2.1) y102.2.2.2.1 p0.off y102.2.2.2.2) zIP).bind fun zJk =>
        some (zJk.1, y102.2.1, y102.2.2.1, y102.2.2.2.1, y102.2.2.2.2, zJk.2)


def zAM (p0 : zK) (p1 : zK) : Option Int :=
  some (w64 (p0.X0 - p1.X0))

def Jr (zCW : (List Int)) (zHY : List zZ) (zHJ : Int) (kL6 : (List zZ) → Int → Option (List zZ)) : List zK → Nat → List Int → Option (List zZ)
  | [], iL7, zGd =>
    (idx zCW zHJ).bind fun zYa =>
    (idx zCW (w64 (zHJ + 1))).bind fun zYZ =>
    (JZ zHY (zZ.mk zYa zYZ zGd)).bind fun zSQ =>
    kL6 zSQ (w64 (zHJ + 1))
  | xL7 :: zD2, iL7, zGd =>
    (idx zCW zHJ).bind fun zXm =>
    (if (decide (zXm < xL7.Y0)) then some true else 
      (idx zCW zHJ).bind fun zjI =>
      some (decide (xL7.Y1 ≤ zjI))
    ).bind fun zic =>
    if zic then
      (Jr zCW zHY zHJ kL6 zD2 (iL7 + 1)) zGd
    else
      (if (decide (0 < (zGd.length : Int))) then 
        (idx zGd (w64 ((zGd.length : Int) - 1))).bind fun zjH =>
        some (zjH == xL7.X0)
       else some false).bind fun zib =>
      if zib then
        (pre zGd (w64 ((zGd.length : Int) - 1))).bind fun zfT =>
        (Jr zCW zHY zHJ kL6 zD2 (iL7 + 1)) zfT
      else
        (apd zGd [xL7.X0]).bind fun zfS =>
        (Jr zCW zHY zHJ kL6 zD2 (iL7 + 1)) zfS
def Js (zCW : (List Int)) (zCD : (List zK)) : Nat → List zZ → Int → Option (List zZ)
  | 0, _, _ => none
  | mL6 + 1, zHY, zHJ =>
    if (decide ((w64 (zHJ + 1)) < (zCW.length : Int))) then
      Jr zCW zHY zHJ (Js zCW zCD mL6) zCD 0 ([] : List Int)
    else
      some zHY
def KU (kL3 : (List Int) → (List zK) → Option (List zZ)) (xL3 : (List zI)) : List zI → Nat → List Int → List zK → Option (List zZ)
  | [], iL8, zTI, zPm =>
    kL3 zTI zPm
  | xL8 :: zFh, iL8, zTI, zPm =>
    (md (w64 ((iL8 : Int) + 1)) (xL3.length : Int)).bind fun q378 =>
    (idx xL3 q378).bind fun zDR =>
    (apd zTI [xL8.Y]).bind fun zZS =>
    if (xL8.X == zDR.X) then
      (apd zPm [(zK.mk xL8.X (min xL8.Y zDR.Y) 0 (max xL8.Y zDR.Y))]).bind fun zfR =>
      (KU kL3 xL3 zFh (iL8 + 1)) zZS zfR
    else
      (KU kL3 xL3 zFh (iL8 + 1)) zZS zPm
noncomputable def Jt (N : Nat) : List (List zI) → Nat → List Int → List zK → Option (List zZ)
  | [], iL3, zOb, zHa =>
    (zSl zOb).bind fun zLx =>
    (cpI zLx).bind fun zCW =>
    (zOB zHa (fun z0 z1 => zAM z0 z1)).bind fun zCD =>
    Js zCW zCD N ([] : List zZ) 0
  | xL3 :: Qu, iL3, zOb, zHa =>
    KU (Jt N Qu (iL3 + 1)) xL3 xL3 0 zOb zHa
noncomputable def zCR (N : Nat) (p0 : (List (List zI))) : Option (List zZ) :=
  Jt N p0 0 ([] : List Int) ([] : List zK)


def Jw (p0 : zI) : Option Bool :=
  (Kc p0).bind fun y101 =>
  some (!y101)

noncomputable def JC (N : Nat) (p0 : QM) (p2 : zI) : List zI → Nat → List zI → Option (Int × (List zZ))
  | [], iL1, zFj =>
    (zCR N [zFj]).bind fun zJ7 =>
    (Wd zJ7).bind fun Wl =>
    if (decide (2000 < Wl)) then
      some (2, p0.image)
    else
      (JF zFj (fun z0 => Jw z0)).bind fun Ky =>
      if Ky then
        some (1, p0.image)
      else
        (Kt N p0 zJ7).bind fun zFy =>
        some (zFy.1, zFy.2)
  | xL1 :: zY, iL1, zFj =>
    (WB p0 xL1 p2).bind fun WL =>
    (apd zFj [WL]).bind fun zfd =>
    (JC N p0 p2 zY (iL1 + 1)) zfd
noncomputable def WR (N : Nat) (p0 : QM) (p1 : (List zI)) (p2 : zI) : Option (Int × (List zZ)) :=
  JC N p0 p2 p1 0 ([] : List zI)

def JB (zcS : List zZ) (zXo : Bool) (zXn : Int) (zUa : Int) (zUZ : Int) (zeu : Bool) (zet : Int) (zes : Int) : Option (Int × Bool × Int × Int × Int × Bool × Int × Int × (List zZ)) :=
  some (0, zXo, zXn, zUa, zUZ, zeu, zet, zes, zcS)
def JW (p0 : QM) (p1 : zC) (p2 : zI) (rec : QM → (List zC) → zI → Option (Int × Bool × Int × Int × Int × Bool × Int × Int × (List zZ))) (zDQ : Int) (kL9 : (List zZ) → Bool → Int → Int → Int → Bool → Int → Int → Int → Option (Int × Bool × Int × Int × Int × Bool × Int × Int × (List zZ))) : Nat → List zZ → Bool → Int → Int → Int → Bool → Int → Int → Int → Option (Int × Bool × Int × Int × Int × Bool × Int × Int × (List zZ))
  | 0, _, _, _, _, _, _, _, _, _ => none
  | zU0 + 1, zMC, zPg, zPf, zPe, zPd, zPc, zPb, zPa, zE5 =>
    if (decide (zE5 < p1.NX)) then
      (rec (QM.mk p0.p p0.tools zMC zPg zPf (zI.mk zPe zPd) zPc zPb zPa) p1.Steps (zI.mk (w64 (p2.X + (w64 ((w64 (zE5 * p1.At.X)) * p0.p.Unit)))) (w64 (p2.Y + (w64 ((w64 (zDQ * p1.At.Y)) * p0.p.Unit)))))).bind fun zBC =>
      if (zBC.1 != 0) then
        some (zBC.1, zBC.2.1, zBC.2.2.1, zBC.2.2.2.1, zBC.2.2.2.2.1, zBC.2.2.2.2.2.1, zBC.2.2.2.2.2.2.1, zBC.2.2.2.2.2.2.2.1, zBC.2.2.2.2.2.2.2.2)
      else
        (JW p0 p1 p2 rec zDQ kL9 zU0) zBC.2.2.2.2.2.2.2.2 zBC.2.1 zBC.2.2.1 zBC.2.2.2.1 zBC.2.2.2.2.1 zBC.2.2.2.2.2.1 zBC.2.2.2.2.2.2.1 zBC.2.2.2.2.2.2.2.1 (w64 (zE5 + 1))
    else
      kL9 zMC zPg zPf zPe zPd zPc zPb zPa (w64 (zDQ + 1))
def Qp (N : Nat) (p0 : QM) (p1 : zC) (p2 : zI) (rec : QM → (List zC) → zI → Option (Int × Bool × Int × Int × Int × Bool × Int × Int × (List zZ))) : Nat → List zZ → Bool → Int → Int → Int → Bool → Int → Int → Int → Option (Int × Bool × Int × Int × Int × Bool × Int × Int × (List zZ))
  | 0, _, _, _, _, _, _, _, _, _ => none
  | mL9 + 1, zU3, zXl, zXk, zXj, zXi, zXh, zXg, zXf, zDQ =>
    if (decide (zDQ < p1.NY)) then
      JW p0 p1 p2 rec zDQ (Qp N p0 p1 p2 rec mL9) N zU3 zXl zXk zXj zXi zXh zXg zXf 0
    else
      JB zU3 zXl zXk zXj zXi zXh zXg zXf
noncomputable def JX (N : Nat) (p0 : QM) (p1 : zC) (p2 : zI) (rec : QM → (List zC) → zI → Option (Int × Bool × Int × Int × Int × Bool × Int × Int × (List zZ))) (y102 : zI) (zbu : Bool) : Option (Int × Bool × Int × Int × Int × Bool × Int × Int × (List zZ)) :=
  if zbu then
    JB p0.image (p1.Kind == 2) p0.tool p0.place.X p0.place.Y p0.placed p0.off p0.on
  else
    if (p1.Kind == 3) then
      (zBy p0.p p1.Name).bind fun zUW =>
      JB p0.image p0.clear zUW p0.place.X p0.place.Y p0.placed p0.off p0.on
    else
      if (p1.Kind == 4) then
        (KN p0 y102).bind fun zIO =>
        some (zIO.1, p0.clear, p0.tool, zIO.2.1, zIO.2.2.1, zIO.2.2.2.1, zIO.2.2.2.2, p0.on, p0.image)
      else
        if (p1.Kind == 5) then
          (WC N p0 y102).bind fun zIN =>
          some (zIN.1, p0.clear, p0.tool, zIN.2.1, zIN.2.2.1, zIN.2.2.2.1, zIN.2.2.2.2.1, p0.on, zIN.2.2.2.2.2)
        else
          if (p1.Kind == 6) then
            (WQ N p0 y102).bind fun zIM =>
            some (zIM.1, p0.clear, p0.tool, zIM.2.1, zIM.2.2.1, zIM.2.2.2.1, p0.off, zIM.2.2.2.2.1, zIM.2.2.2.2.2)
          else
            if (p1.Kind == 7) then
              (WR N p0 p1.Points p2).bind fun zPY =>
              some (zPY.1, p0.clear, p0.tool, p0.place.X, p0.place.Y, p0.placed, p0.off, p0.on, zPY.2)
            else
              if (p1.Kind == 8) then
                Qp N p0 p1 p2 rec N p0.image p0.clear p0.tool p0.place.X p0.place.Y p0.placed p0.off p0.on 0
              else
                JB p0.image p0.clear p0.tool p0.place.X p0.place.Y p0.placed p0.off p0.on
noncomputable def KY (rec : QM → (List zC) → zI → Option (Int × Bool × Int × Int × Int × Bool × Int × Int × (List zZ))) (N : Nat) (p0 : QM) (p1 : zC) (p2 : zI) : Option (Int × Bool × Int × Int × Int × Bool × Int × Int × (List zZ)) :=
  (WB p0 p1.At p2).bind fun y102 =>
  if (p1.Kind == 1) then
    JX N p0 p1 p2 rec y102 (p1.Kind == 1)
  else
    JX N p0 p1 p2 rec y102 (p1.Kind == 2)

noncomputable def JS (N : Nat) (p0 : QM) (p2 : zI) (rec : QM → (List zC) → zI → Option (Int × Bool × Int × Int × Int × Bool × Int × Int × (List zZ))) : List zC → Nat → List zZ → Bool → Int → Int → Int → Bool → Int → Int → Option (Int × Bool × Int × Int × Int × Bool × Int × Int × (List zZ))
  | [], iL1, zRa, zKf, zUh, zUg, zUf, zUe, zUd, zUc =>
    some (0, zKf, zUh, zUg, zUf, zUe, zUd, zUc, zRa)
  | xL1 :: zY, iL1, zRa, zKf, zUh, zUg, zUf, zUe, zUd, zUc =>
    (KY rec N (QM.mk p0.p p0.tools zRa zKf zUh (zI.mk zUg zUf) zUe zUd zUc) xL1 p2).bind fun zBD =>
    if (zBD.1 != 0) then
      some (zBD.1, zBD.2.1, zBD.2.2.1, zBD.2.2.2.1, zBD.2.2.2.2.1, zBD.2.2.2.2.2.1, zBD.2.2.2.2.2.2.1, zBD.2.2.2.2.2.2.2.1, zBD.2.2.2.2.2.2.2.2)
    else
      (JS N p0 p2 rec zY (iL1 + 1)) zBD.2.2.2.2.2.2.2.2 zBD.2.1 zBD.2.2.1 zBD.2.2.2.1 zBD.2.2.2.2.1 zBD.2.2.2.2.2.1 zBD.2.2.2.2.2.2.1 zBD.2.2.2.2.2.2.2.1
noncomputable def zB2 (N : Nat) (rec : QM → (List zC) → zI → Option (Int × Bool × Int × Int × Int × Bool × Int × Int × (List zZ))) (p0 : QM) (p1 : (List zC)) (p2 : zI) : Option (Int × Bool × Int × Int × Int × Bool × Int × Int × (List zZ)) :=
  JS N p0 p2 rec p1 0 p0.image p0.clear p0.tool p0.place.X p0.place.Y p0.placed p0.off p0.on
noncomputable def Vq : Nat → QM → (List zC) → zI → Option (Int × Bool × Int × Int × Int × Bool × Int × Int × (List zZ))
  | 0 => fun _ _ _ => none
  | N + 1 => zB2 N (Vq N)


noncomputable def zDp (N : Nat) (p0 : zt) : Option (QM × Int) :=
  (zAz N p0).bind fun y101 =>
  (Vq N y101 p0.Steps (zI.mk 0 0)).bind fun zk =>
  some ((QM.mk y101.p y101.tools zk.2.2.2.2.2.2.2.2 zk.2.1 zk.2.2.1 (zI.mk zk.2.2.2.1 zk.2.2.2.2.1) zk.2.2.2.2.2.1 zk.2.2.2.2.2.2.1 zk.2.2.2.2.2.2.2.1), zk.1)


noncomputable def zCT (N : Nat) (p0 : zt) : Option ((List zZ) × Int) :=
  (Jl N p0).bind fun y101 =>
  if (y101 != 0) then
    some (([] : List zZ), y101)
  else
    (zDp N p0).bind fun y102 =>
    if (y102.2 != 0) then
      some (([] : List zZ), y102.2)
    else
      some (y102.1.image, 0)


noncomputable def zAF (N : Nat) (p0 : zt) : Option ((List zK) × Int) :=
  (zCT N p0).bind fun y101 =>
  (Jb N y101.1).bind fun zk =>
  some (zk, y101.2)



def zAP : List zI → Nat → ByteArray → Option ByteArray
  | [], iL1, zF1 =>
    some zF1
  | xL1 :: zY, iL1, zF1 =>
    (zK4 xL1.X).bind fun Ky =>
    (zF5 (⟨#[32]⟩) Ky).bind fun zjY =>
    (zF5 zjY (⟨#[32]⟩)).bind fun zjX =>
    (zK4 xL1.Y).bind fun zFy =>
    (zF5 zjX zFy).bind fun zjW =>
    (zF5 zF1 zjW).bind fun ze6 =>
    (zAP zY (iL1 + 1)) ze6
def zAI (p0 : (List zI)) : Option ByteArray :=
  zAP p0 0 ByteArray.empty

def Qh (rec : ByteArray → (List zC) → Option ByteArray) : List zC → Nat → ByteArray → Option ByteArray
  | [], iL1, m194 =>
    some m194
  | xL1 :: zY, iL1, m194 =>
    if (xL1.Kind == 1) then
      (sbW m194 (⟨#[100, 97, 114, 107, 10]⟩)).bind fun zYV =>
      (Qh rec zY (iL1 + 1)) zYV
    else
      if (xL1.Kind == 2) then
        (sbW m194 (⟨#[99, 108, 101, 97, 114, 10]⟩)).bind fun zYU =>
        (Qh rec zY (iL1 + 1)) zYU
      else
        if (xL1.Kind == 3) then
          (zF5 (⟨#[117, 115, 101, 32]⟩) xL1.Name).bind fun t201 =>
          (zF5 t201 (⟨#[10]⟩)).bind fun zb6 =>
          (sbW m194 zb6).bind fun zYT =>
          (Qh rec zY (iL1 + 1)) zYT
        else
          if (xL1.Kind == 4) then
            (zAI [xL1.At]).bind fun zbo =>
            (zF5 (⟨#[109, 111, 118, 101]⟩) zbo).bind fun zjV =>
            (zF5 zjV (⟨#[10]⟩)).bind fun t208 =>
            (sbW m194 t208).bind fun zN0 =>
            (Qh rec zY (iL1 + 1)) zN0
          else
            if (xL1.Kind == 5) then
              (zAI [xL1.At]).bind fun zbn =>
              (zF5 (⟨#[102, 108, 97, 115, 104]⟩) zbn).bind fun t213 =>
              (zF5 t213 (⟨#[10]⟩)).bind fun zb5 =>
              (sbW m194 zb5).bind fun zYR =>
              (Qh rec zY (iL1 + 1)) zYR
            else
              if (xL1.Kind == 6) then
                (zAI [xL1.At]).bind fun zGj =>
                (zF5 (⟨#[108, 105, 110, 101]⟩) zGj).bind fun zjU =>
                (zF5 zjU (⟨#[10]⟩)).bind fun zb4 =>
                (sbW m194 zb4).bind fun zYQ =>
                (Qh rec zY (iL1 + 1)) zYQ
              else
                if (xL1.Kind == 7) then
                  (zAI xL1.Points).bind fun zbm =>
                  (zF5 (⟨#[97, 114, 101, 97]⟩) zbm).bind fun zjT =>
                  (zF5 zjT (⟨#[10]⟩)).bind fun zb3 =>
                  (sbW m194 zb3).bind fun zYP =>
                  (Qh rec zY (iL1 + 1)) zYP
                else
                  if (xL1.Kind == 8) then
                    (zAI [(zI.mk xL1.NX xL1.NY), xL1.At]).bind fun zbl =>
                    (zF5 (⟨#[114, 101, 112, 101, 97, 116]⟩) zbl).bind fun zjS =>
                    (zF5 zjS (⟨#[10]⟩)).bind fun zb2 =>
                    (sbW m194 zb2).bind fun zHG =>
                    (rec zHG xL1.Steps).bind fun zXb =>
                    (sbW zXb (⟨#[100, 111, 110, 101, 10]⟩)).bind fun zYO =>
                    (Qh rec zY (iL1 + 1)) zYO
                  else
                    (Qh rec zY (iL1 + 1)) m194
def zCl (N : Nat) (rec : ByteArray → (List zC) → Option ByteArray) (p0 : ByteArray) (p1 : (List zC)) : Option ByteArray :=
  Qh rec p1 0 p0
def zCA : Nat → ByteArray → (List zC) → Option ByteArray
  | 0 => fun _ _ => none
  | N + 1 => zCl N (zCA N)



def zBT (kL3 : ByteArray → Option (ByteArray × Int)) : List zK → Nat → ByteArray → Option (ByteArray × Int)
  | [], iL4, m208 =>
    (sbW m208 (⟨#[10]⟩)).bind fun zN0 =>
    kL3 zN0
  | xL4 :: Vl, iL4, m208 =>
    (zAI [(zI.mk xL4.X0 xL4.Y0), (zI.mk xL4.X1 xL4.Y1)]).bind fun zXc =>
    (sbW m208 zXc).bind fun zYS =>
    (zBT kL3 Vl (iL4 + 1)) zYS
def WS (N : Nat) (p0 : zt) : List zg → Nat → ByteArray → Option (ByteArray × Int)
  | [], iL3, m178 =>
    (zCA N m178 p0.Steps).bind fun zXd =>
    (sbL zXd).bind fun zST =>
    if (decide (200000 < zST.1)) then
      some (ByteArray.empty, 2)
    else
      (sbS zST.2).bind fun zHH =>
      some (zHH.1, 0)
  | xL3 :: Qu, iL3, m178 =>
    (zF5 (⟨#[116, 111, 111, 108, 32]⟩) xL3.Name).bind fun zb7 =>
    (sbW m178 zb7).bind fun zDs =>
    zBT (WS N p0 Qu (iL3 + 1)) xL3.Rects 0 zDs
def zEo (N : Nat) (p0 : zt) : Option (ByteArray × Int) :=
  (Jl N p0).bind fun y101 =>
  if (y101 != 0) then
    some (ByteArray.empty, y101)
  else
    (zK4 p0.Unit).bind fun zk =>
    (zF5 (⟨#[117, 110, 105, 116, 32]⟩) zk).bind fun zjZ =>
    (zF5 zjZ (⟨#[10]⟩)).bind fun t105 =>
    (sbW ByteArray.empty t105).bind fun zBE =>
    WS N p0 p0.Tools 0 zBE


def KI (N : Nat)  : Option Bool :=
  (zEo N (zt.mk 7 [] [])).bind fun QT =>
  some ((QT.2 == 0) && (sEq QT.1 (⟨#[117, 110, 105, 116, 32, 55, 10]⟩)))

def Kl (q0 : Int) (q1 : Int) (x101 : Int) (x102 : Int) : List zI → Nat → List zI → Option (Int × Int × (List zI))
  | [], iL1, zOd =>
    some (x101, x102, zOd)
  | xL1 :: zY, iL1, zOd =>
    (idx zOd (iL1 : Int)).bind fun zSZ =>
    (idx zOd (iL1 : Int)).bind fun zex =>
    (sets zOd (iL1 : Int) (zI.mk (w64 (zSZ.X + q0)) zex.Y)).bind fun zPn =>
    (idx zPn (iL1 : Int)).bind fun zXq =>
    (idx zPn (iL1 : Int)).bind fun zew =>
    (sets zPn (iL1 : Int) (zI.mk zew.X (w64 (zXq.Y + q1)))).bind fun zNL =>
    (Kl q0 q1 x101 x102 zY (iL1 + 1)) zNL
def Vo (p0 : zC) (q0 : Int) (q1 : Int) (x101 : Int) (x102 : Int) : Option (Int × Int × (List zI)) :=
  Kl q0 q1 x101 x102 p0.Points 0 p0.Points
def zCS (p0 : zC) (q0 : Int) (q1 : Int) : Option (Int × Int × (List zI)) :=
  (Vv p0.Kind).bind fun WL =>
  if (WL.at_ && (p0.Kind != 8)) then
    Vo p0 q0 q1 (w64 (p0.At.X + q0)) (w64 (p0.At.Y + q1))
  else
    Vo p0 q0 q1 p0.At.X p0.At.Y


def Va (p0 : (List zC)) : Option (List zC) :=
  (apd ([] : List zC) p0).bind fun zKJ =>
  some zKJ


def KX (p0 : (List zI)) : Option (List zI) :=
  (apd ([] : List zI) p0).bind fun zKJ =>
  some zKJ


def VZ (p0 : (List zg)) : Option (List zg) :=
  (apd ([] : List zg) p0).bind fun zKJ =>
  some zKJ

def Ka (p1 : zK → Option zK) (zD6 : List zg) (zCi : Int) (kL3 : (List zg) → Int → Option (List zg)) (zGk : zg) : List zK → Nat → List zK → Option (List zg)
  | [], iL4, zIh =>
    kL3 ((zD6).set (zCi).toNat (zg.mk zGk.Name zIh)) (w64 (zCi + 1))
  | xL4 :: Vl, iL4, zIh =>
    (idx zIh (iL4 : Int)).bind fun zCE =>
    (idx zD6 zCi).bind fun zny =>
    (p1 zCE).bind fun zGj =>
    (idx zIh (iL4 : Int)).bind fun znx =>
    (sets zIh (iL4 : Int) zGj).bind fun zTJ =>
    (Ka p1 zD6 zCi kL3 zGk Vl (iL4 + 1)) zTJ
def Jc (p1 : zK → Option zK) (QT : (List zg)) : Nat → List zg → Int → Option (List zg)
  | 0, _, _ => none
  | mL3 + 1, zD6, zCi =>
    if (decide (zCi < (QT.length : Int))) then
      (idx zD6 zCi).bind fun zUb =>
      (VL zUb.Rects).bind fun zDs =>
      (idx zD6 zCi).bind fun zGk =>
      (idx zD6 zCi).bind fun znz =>
      Ka p1 zD6 zCi (Jc p1 QT mL3) zGk zDs 0 zDs
    else
      some zD6
def Wp (N : Nat) (p0 : (List zg)) (p1 : zK → Option zK) : Option (List zg) :=
  (VZ p0).bind fun QT =>
  Jc p1 QT N QT 0


def zAK (p0 : zK) : Option zK :=
  some p0


def zAH (N : Nat) (p0 : zt) : Option (zt × Int) :=
  (Jl N p0).bind fun y102 =>
  if (y102 != 0) then
    some ((zt.mk 0 [] []), y102)
  else
    some (p0, 0)

def Ju (q0 : Int) (q1 : Int) (rec : (List zC) → Int → Int → Option (List zC)) (QT : (List zC)) : Nat → List zC → Int → Option (List zC)
  | 0, _, _ => none
  | mL1 + 1, zCY, Wm =>
    if (decide (Wm < (QT.length : Int))) then
      (idx zCY Wm).bind fun zRH =>
      (KX zRH.Points).bind fun y158 =>
      (idx zCY Wm).bind fun x160 =>
      (idx zCY Wm).bind fun zn1 =>
      (rec x160.Steps q0 q1).bind fun zDU =>
      (idx zCY Wm).bind fun zn0 =>
      (idx zCY Wm).bind fun zYb =>
      (zCS (zC.mk x160.Kind x160.Name x160.At y158 x160.NX x160.NY zDU) q0 q1).bind fun y167 =>
      (Ju q0 q1 rec QT mL1) ((zCY).set (Wm).toNat (zC.mk x160.Kind x160.Name (zI.mk y167.1 y167.2.1) y167.2.2 x160.NX x160.NY zDU)) (w64 (Wm + 1))
    else
      some zCY
def WA (N : Nat) (rec : (List zC) → Int → Int → Option (List zC)) (p0 : (List zC)) (q0 : Int) (q1 : Int) : Option (List zC) :=
  (Va p0).bind fun QT =>
  Ju q0 q1 rec QT N QT 0
def Wy : Nat → (List zC) → Int → Int → Option (List zC)
  | 0 => fun _ _ _ => none
  | N + 1 => WA N (Wy N)


def zDq (N : Nat) (p0 : zt) (p1 : zI) : Option (zt × Int) :=
  (Jl N p0).bind fun zk =>
  if (zk != 0) then
    some ((zt.mk 0 [] []), zk)
  else
    (Kc p1).bind fun y104 =>
    if (!y104) then
      some ((zt.mk 0 [] []), 1)
    else
      (md p1.X p0.Unit).bind fun q105 =>
      (if (q105 != 0) then some true else 
        (md p1.Y p0.Unit).bind fun q108 =>
        some (q108 != 0)
      ).bind fun zKL =>
      if zKL then
        some ((zt.mk 0 [] []), 3)
      else
        (dv p1.X p0.Unit).bind fun q110 =>
        (dv p1.Y p0.Unit).bind fun q111 =>
        (Wy N p0.Steps q110 q111).bind fun y114 =>
        (Wp N p0.Tools (fun z0 => zAK z0)).bind fun zJj =>
        (zAH N (zt.mk p0.Unit zJj y114)).bind fun Wl =>
        some (Wl.1, Wl.2)

def Jf : List zK → Nat → Option Int
  | [], iL1 =>
    some 0
  | xL1 :: zY, iL1 =>
    (zBL xL1).bind fun VD =>
    if (!VD) then
      some 1
    else
      if ((decide (xL1.X1 ≤ xL1.X0)) || (decide (xL1.Y1 ≤ xL1.Y0))) then
        some 13
      else
        (Jf zY (iL1 + 1))
def zAW (p0 : (List zK)) : Option Int :=
  if (decide (2000 < (p0.length : Int))) then
    some 2
  else
    Jf p0 0

def JR (p1 : (List zK)) : List zK → Nat → Option Bool
  | [], iL1 =>
    some true
  | xL1 :: zY, iL1 =>
    (idx p1 (iL1 : Int)).bind fun x103 =>
    if (!(zHf xL1 x103)) then
      some false
    else
      (JR p1 zY (iL1 + 1))
def KJ (p0 : (List zK)) (p1 : (List zK)) : Option Bool :=
  if ((p0.length : Int) != (p1.length : Int)) then
    some false
  else
    JR p1 p0 0

noncomputable def Qn (N : Nat) (p0 : (List zK)) : Nat → Int → Option Int
  | 0, _ => none
  | mL1 + 1, zBF =>
    if (decide (zBF < (p0.length : Int))) then
      (idx p0 (w64 (zBF - 1))).bind fun QY =>
      (idx p0 zBF).bind fun Kz =>
      if ((decide (Kz.Y0 < QY.Y0)) || ((Kz.Y0 == QY.Y0) && (decide (Kz.X0 ≤ QY.X0)))) then
        some 8
      else
        (Qn N p0 mL1) (w64 (zBF + 1))
    else
      (Vi N p0).bind fun Wl =>
      (Jb N Wl).bind fun zGZ =>
      (KJ zGZ p0).bind fun zFy =>
      if (!zFy) then
        some 3
      else
        some 0
noncomputable def Wx (N : Nat) (p0 : (List zK)) : Option Int :=
  (zAW p0).bind fun QT =>
  if (QT != 0) then
    some QT
  else
    Qn N p0 N 1


def Wi (p0 : Qf) : Option Int :=
  (WO p0.Quarters 0 3).bind fun y101 =>
  (if (!y101) then some true else 
    (Kc p0.At).bind fun y104 =>
    some (!y104)
  ).bind fun zF4 =>
  if zF4 then
    some 1
  else
    some 0

def Ko (p1 : Qf) : Nat → Int → Int → Int → Option zI
  | 0, _, _, _ => none
  | mL1 + 1, x115, zBF, zGn =>
    if (decide (zGn < p1.Quarters)) then
      (Ko p1 mL1) (w64 (0 - zBF)) x115 (w64 (zGn + 1))
    else
      some (zI.mk (w64 (x115 + p1.At.X)) (w64 (zBF + p1.At.Y)))
def Kq (N : Nat) (p0 : zI) (p1 : Qf) (x103 : Int) : Option zI :=
  Ko p1 N x103 p0.Y 0
def KS (N : Nat) (p0 : zI) (p1 : Qf) : Option zI :=
  if p1.Flip then
    Kq N p0 p1 (w64 (0 - p0.X))
  else
    Kq N p0 p1 p0.X


def Vd (N : Nat) (p0 : zK) (p1 : Qf) : Option zK :=
  (KS N (zI.mk p0.X0 p0.Y0) p1).bind fun y104 =>
  (KS N (zI.mk p0.X1 p0.Y1) p1).bind fun VD =>
  some (zK.mk (min y104.X VD.X) (min y104.Y VD.Y) (max y104.X VD.X) (max y104.Y VD.Y))

noncomputable def Jg (N : Nat) (p1 : Qf) (y101 : (List zK)) : Nat → List zK → Int → Option (List zZ)
  | 0, _, _ => none
  | mL1 + 1, zFj, QY =>
    if (decide (QY < (y101.length : Int))) then
      (idx zFj QY).bind fun Kz =>
      (Vd N Kz p1).bind fun zA8 =>
      (idx zFj QY).bind fun zE6 =>
      (sets zFj QY zA8).bind fun zTL =>
      (Jg N p1 y101 mL1) zTL (w64 (QY + 1))
    else
      (Vi N zFj).bind fun Wl =>
      some Wl
noncomputable def WP (N : Nat) (p0 : (List zZ)) (p1 : Qf) : Option (List zZ) :=
  (Jb N p0).bind fun y101 =>
  Jg N p1 y101 N y101 0


def zAx (N : Nat) (p0 : (List zZ)) : Option ((List zK) × Int) :=
  (Wd p0).bind fun QT =>
  if (decide (2000 < QT)) then
    some (([] : List zK), 2)
  else
    (Jb N p0).bind fun y101 =>
    some (y101, 0)


noncomputable def Vb (N : Nat) (p0 : (List zK)) (p1 : Qf) : Option ((List zK) × Int) :=
  (Wx N p0).bind fun y101 =>
  if (y101 != 0) then
    some (([] : List zK), y101)
  else
    (Wi p1).bind fun y102 =>
    if (y102 != 0) then
      some (([] : List zK), y102)
    else
      (Vi N p0).bind fun y104 =>
      (WP N y104 p1).bind fun zBE =>
      (Wh zBE).bind fun zBb =>
      if (!zBb) then
        some (([] : List zK), 1)
      else
        (zAx N zBE).bind fun KW =>
        some (KW.1, KW.2)

def Vu (p1 : zI) (m459 : List zC) (zU7 : (List zC) → Option (List zC)) (zn : zC) (zF0 : Int) (zFz : Int) (zFv : (List zI)) : Nat → List zI → Int → Option (List zC)
  | 0, _, _ => none
  | zfN + 1, zKH, zE4 =>
    if (decide (zE4 < (zFv.length : Int))) then
      (idx zKH zE4).bind fun zSU =>
      (idx zKH zE4).bind fun zer =>
      (sets zKH zE4 (zI.mk (w64 (zSU.X + p1.X)) zer.Y)).bind fun zPl =>
      (idx zPl zE4).bind fun zXe =>
      (idx zPl zE4).bind fun zeq =>
      (sets zPl zE4 (zI.mk zeq.X (w64 (zXe.Y + p1.Y)))).bind fun zTH =>
      (Vu p1 m459 zU7 zn zF0 zFz zFv zfN) zTH (w64 (zE4 + 1))
    else
      (apd m459 [(zC.mk zn.Kind zn.Name (zI.mk zF0 zFz) zKH zn.NX zn.NY zn.Steps)]).bind fun zfQ =>
      zU7 zfQ
def Wq (N : Nat) (p1 : zI) (m459 : List zC) (zU7 : (List zC) → Option (List zC)) (zn : zC) (zF0 : Int) (zFz : Int) : Option (List zC) :=
  (KX zn.Points).bind fun zFv =>
  Vu p1 m459 zU7 zn zF0 zFz zFv N zFv 0
def Vt (p1 : zI) (rec : (List zC) → zI → Option (List zC)) (zn : zC) (zJl : Int) (zj8 : (List zC) → Int → Option (List zC)) : Nat → List zC → Int → Option (List zC)
  | 0, _, _ => none
  | zfM + 1, m628, zRG =>
    if (decide (zRG < zn.NX)) then
      (rec zn.Steps (zI.mk (w64 (p1.X + (w64 (zRG * zn.At.X)))) (w64 (p1.Y + (w64 (zJl * zn.At.Y)))))).bind fun zRF =>
      (apd m628 zRF).bind fun zfP =>
      (Vt p1 rec zn zJl zj8 zfM) zfP (w64 (zRG + 1))
    else
      zj8 m628 (w64 (zJl + 1))
def Ke (N : Nat) (p1 : zI) (rec : (List zC) → zI → Option (List zC)) (zU7 : (List zC) → Option (List zC)) (zn : zC) : Nat → List zC → Int → Option (List zC)
  | 0, _, _ => none
  | zZG + 1, m612, zJl =>
    if (decide (zJl < zn.NY)) then
      Vt p1 rec zn zJl (Ke N p1 rec zU7 zn zZG) N m612 0
    else
      zU7 m612
def QZ (N : Nat) (p1 : zI) (rec : (List zC) → zI → Option (List zC)) : List zC → Nat → List zC → Option (List zC)
  | [], zFk, m459 =>
    some m459
  | zn :: WW, zFk, m459 =>
    if (zn.Kind == 8) then
      Ke N p1 rec (QZ N p1 rec WW (zFk + 1)) zn N m459 0
    else
      (Vv zn.Kind).bind fun zUV =>
      if zUV.at_ then
        Wq N p1 m459 (QZ N p1 rec WW (zFk + 1)) zn (w64 (zn.At.X + p1.X)) (w64 (zn.At.Y + p1.Y))
      else
        Wq N p1 m459 (QZ N p1 rec WW (zFk + 1)) zn zn.At.X zn.At.Y
def zCx (N : Nat) (rec : (List zC) → zI → Option (List zC)) (p0 : (List zC)) (p1 : zI) : Option (List zC) :=
  QZ N p1 rec p0 0 ([] : List zC)
def zDP : Nat → (List zC) → zI → Option (List zC)
  | 0 => fun _ _ => none
  | N + 1 => zCx N (zDP N)


def zC6 (N : Nat) (p0 : zt) : Option zt :=
  (Wp N p0.Tools (fun z0 => zAK z0)).bind fun zk =>
  (zDP N p0.Steps (zI.mk 0 0)).bind fun VD =>
  some (zt.mk p0.Unit zk VD)


def Vr (N : Nat) (p0 : zK) (q0 : Qf) : Option zK :=
  (Vd N p0 q0).bind fun y102 =>
  some y102

def Jy (N : Nat) (p1 : Qf) (q117 : Int) (q118 : Int) (m193 : List zC) (kL5 : (List zC) → Option (zt × Int)) (iL5 : Nat) (x200 : zC) (zIR : Int) (zIQ : Int) : List zI → Nat → List zI → Option (zt × Int)
  | [], iL6, zIg =>
    kL5 (List.set m193 ((iL5 : Int)).toNat (zC.mk x200.Kind x200.Name (zI.mk zIR zIQ) zIg x200.NX x200.NY x200.Steps))
  | xL6 :: zHS, iL6, zIg =>
    (idx zIg (iL6 : Int)).bind fun zHL =>
    (KS N zHL (Qf.mk p1.Flip p1.Quarters (zI.mk q117 q118))).bind fun zPZ =>
    (idx zIg (iL6 : Int)).bind fun zBc =>
    (sets zIg (iL6 : Int) zPZ).bind fun Vh =>
    (Jy N p1 q117 q118 m193 kL5 iL5 x200 zIR zIQ zHS (iL6 + 1)) Vh
def Kv (N : Nat) (p1 : Qf) (q117 : Int) (q118 : Int) (m193 : List zC) (kL5 : (List zC) → Option (zt × Int)) (iL5 : Nat) (x200 : zC) (zIR : Int) (zIQ : Int) : Option (zt × Int) :=
  Jy N p1 q117 q118 m193 kL5 iL5 x200 zIR zIQ x200.Points 0 x200.Points
def QS (N : Nat) (p1 : Qf) (KW : zt) (y115 : (List zg)) (q117 : Int) (q118 : Int) : List zC → Nat → List zC → Option (zt × Int)
  | [], iL5, m193 =>
    (zAH N (zt.mk KW.Unit y115 m193)).bind fun zFx =>
    some (zFx.1, zFx.2)
  | xL5 :: zDa, iL5, m193 =>
    (idx m193 (iL5 : Int)).bind fun x200 =>
    (Vv x200.Kind).bind fun zUX =>
    if zUX.at_ then
      (KS N x200.At (Qf.mk p1.Flip p1.Quarters (zI.mk q117 q118))).bind fun zHG =>
      Kv N p1 q117 q118 m193 (QS N p1 KW y115 q117 q118 zDa (iL5 + 1)) iL5 x200 zHG.X zHG.Y
    else
      Kv N p1 q117 q118 m193 (QS N p1 KW y115 q117 q118 zDa (iL5 + 1)) iL5 x200 x200.At.X x200.At.Y
def zA1 (N : Nat) (p0 : zt) (p1 : Qf) : Option (zt × Int) :=
  (Jl N p0).bind fun zk =>
  if (zk != 0) then
    some ((zt.mk 0 [] []), zk)
  else
    (Wi p1).bind fun y104 =>
    if (y104 != 0) then
      some ((zt.mk 0 [] []), y104)
    else
      (md p1.At.X p0.Unit).bind fun q105 =>
      (if (q105 != 0) then some true else 
        (md p1.At.Y p0.Unit).bind fun q108 =>
        some (q108 != 0)
      ).bind fun zKL =>
      if zKL then
        some ((zt.mk 0 [] []), 3)
      else
        (zC6 N p0).bind fun KW =>
        (Wp N KW.Tools (fun z0 => Vr N z0 (Qf.mk p1.Flip p1.Quarters (zI.mk 0 0)))).bind fun y115 =>
        (dv p1.At.X p0.Unit).bind fun q117 =>
        (dv p1.At.Y p0.Unit).bind fun q118 =>
        QS N p1 KW y115 q117 q118 KW.Steps 0 KW.Steps

noncomputable def QX (N : Nat) (p0 : zt) (p2 : Qf) (zk : ((List zK) × Int)) : Option Bool :=
  (zA1 N p0 p2).bind fun Ky =>
  if (Ky.2 != 0) then
    (if (Ky.1.Unit == 0) then 
      (KI N).bind fun zbs =>
      some zbs
     else some false).bind fun zas =>
    some zas
  else
    (zAF N Ky.1).bind fun WL =>
    (Vb N zk.1 p2).bind fun zHI =>
    if (WL.2 != 0) then
      (if ((WL.2 == 1) || (WL.2 == 2)) then 
        (KI N).bind fun zbr =>
        some zbr
       else some false).bind fun zar =>
      some zar
    else
      (if (zHI.2 == 0) then 
        (KJ WL.1 zHI.1).bind fun zbq =>
        some zbq
       else some false).bind fun zaq =>
      (if zaq then 
        (KI N).bind fun zbp =>
        some zbp
       else some false).bind fun zao =>
      some zao
noncomputable def KG (N : Nat) (p0 : zt) (p1 : zI) (p2 : Qf) : Option Bool :=
  (zAF N p0).bind fun zk =>
  if (zk.2 != 0) then
    (if ((zk.1.length : Int) == 0) then 
      (KI N).bind fun zIP =>
      some zIP
     else some false).bind fun zO6 =>
    some zO6
  else
    (zDq N p0 p1).bind fun zBb =>
    if (zBb.2 == 0) then
      (zAF N zBb.1).bind fun zKe =>
      (Vb N zk.1 (Qf.mk false 0 p1)).bind fun zKd =>
      (if (zKe.2 == 0) then 
        (if (zKd.2 != 0) then some true else 
          (KJ zKe.1 zKd.1).bind fun y153 =>
          some (!y153)
        ).bind fun zan =>
        some zan
       else some false).bind fun zc4 =>
      if zc4 then
        some false
      else
        QX N p0 p2 zk
    else
      QX N p0 p2 zk

end Go.Proofs.YtneghcpnehiffaaGreatDoor
