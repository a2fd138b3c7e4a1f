/- The plain functions: what each function of the program computes; none where it would panic. -/
import Derived.Test.YtokanbmnoghafaaGreatDoorXT
namespace Go.Proofs.YtokanbmnoghafaaGreatDoor
open Go.RowKit

def Jh (p0 : Int) (p1 : Int) (p2 : Int) : Option Bool :=
  some ((decide (p1 ≤ p0)) && (decide (p0 ≤ p2)))

def Qv (p0 : ByteArray) : Nat → Int → Option Bool
  | 0, _ => none
  | mL1 + 1, x105 =>
    if (decide (x105 < (p0.size : Int))) then
      (zBm p0 x105).bind fun c106 =>
      if ((!(((decide (97 ≤ c106)) && (decide (c106 ≤ 122))) || ((decide (65 ≤ c106)) && (decide (c106 ≤ 90))))) && ((x105 == 0) || ((((decide (c106 < 48)) || (decide (57 < c106))) && (c106 != 95)) && (c106 != 45)))) then
        some false
      else
        (Qv p0 mL1) (w64 (x105 + 1))
    else
      some ((decide (1 ≤ (p0.size : Int))) && (decide ((p0.size : Int) ≤ 40)))
def KP (N : Nat) (p0 : ByteArray) : Option Bool :=
  Qv p0 N 0


def VO (p0 : Int) (p1 : Int) : Option Bool :=
  (dv (-1000000) p1).bind fun q100 =>
  (dv 1000000 p1).bind fun q101 =>
  (Jh p0 q100 q101).bind fun y102 =>
  some y102

def JW (p1 : Int) : List JO → Nat → Option Int
  | [], iL1 =>
    some 0
  | xL1 :: ze, iL1 =>
    (VO xL1.X0 p1).bind fun zHT =>
    (if (!zHT) then some true else 
      (VO xL1.Y0 p1).bind fun KW =>
      some (!KW)
    ).bind fun zGq =>
    (if zGq then some true else 
      (VO xL1.X1 p1).bind fun y122 =>
      some (!y122)
    ).bind fun g121 =>
    (if g121 then some true else 
      (VO xL1.Y1 p1).bind fun JH =>
      some (!JH)
    ).bind fun g124 =>
    if g124 then
      some 1
    else
      if ((decide (xL1.X1 ≤ xL1.X0)) || (decide (xL1.Y1 ≤ xL1.Y0))) then
        some 13
      else
        (JW p1 ze (iL1 + 1))
def Vq (N : Nat) (p0 : zS) (p1 : Int) : Option Int :=
  (KP N p0.Name).bind fun y101 =>
  if (!y101) then
    some 5
  else
    if ((p0.Rects.length : Int) == 0) then
      some 9
    else
      if (decide (2000 < (p0.Rects.length : Int))) then
        some 2
      else
        JW p1 p0.Rects 0


def Vn (p0 : Int) : Option Int :=
  (Jh p0 1 100).bind fun QU =>
  if QU then
    some p0
  else
    some 1


def zAy (p0 : zB) : Option Int :=
  (Vn p0.NX).bind fun y101 =>
  (Vn p0.NY).bind fun y102 =>
  some (w64 (y101 * y102))

def KI (kL3 : Int → Option Int) (VP : Int) : Option Int :=
  if (decide (3000 < VP)) then
    some 3001
  else
    kL3 VP
def QN (rec : (List zB) → Option Int) : List zB → Nat → Int → Option Int
  | [], iL3, zEy =>
    some zEy
  | xL3 :: VL, iL3, zEy =>
    if (decide (0 < (xL3.Steps.length : Int))) then
      (zAy xL3).bind fun zJE =>
      (rec xL3.Steps).bind fun y135 =>
      KI (QN rec VL (iL3 + 1)) (w64 ((w64 (zEy + 1)) + (w64 (zJE * y135))))
    else
      KI (QN rec VL (iL3 + 1)) (w64 (zEy + 1))
def zCP (N : Nat) (rec : (List zB) → Option Int) (p0 : (List zB)) : Option Int :=
  QN rec p0 0 0
def VM : Nat → (List zB) → Option Int
  | 0 => fun _ => none
  | N + 1 => zCP N (VM N)

def KJ (p0 : Int) (x101 : Bool) : Option zBP :=
  if x101 then
    some (zBP.mk false true false false)
  else
    if (p0 == 7) then
      some (zBP.mk false false true false)
    else
      if (p0 == 8) then
        some (zBP.mk false true false true)
      else
        some (zBP.mk false false false false)
def WV (p0 : Int) : Option zBP :=
  if (p0 == 3) then
    some (zBP.mk true false false false)
  else
    if (p0 == 4) then
      KJ p0 (p0 == 4)
    else
      if (p0 == 5) then
        KJ p0 (p0 == 5)
      else
        KJ p0 (p0 == 6)


def zAU (p0 : zS) (q0 : ByteArray) : Option Bool :=
  some (sEq p0.Name q0)

def zq (q0 : ByteArray) : List zS → Nat → Option Int
  | [], iL1 =>
    some (-1)
  | xL1 :: ze, iL1 =>
    (zAU xL1 q0).bind fun y105 =>
    if y105 then
      some (iL1 : Int)
    else
      (zq q0 ze (iL1 + 1))
def JC (p0 : (List zS)) (q0 : ByteArray) : Option Int :=
  zq q0 p0 0


def zAN (p0 : zi) (p1 : ByteArray) : Option Int :=
  (JC p0.Tools p1).bind fun y102 =>
  some y102


def Vo (p0 : zU) (p1 : Int) : Option Bool :=
  (VO p0.X p1).bind fun y101 =>
  (if y101 then 
    (VO p0.Y p1).bind fun y104 =>
    some y104
   else some false).bind fun zFw =>
  some zFw


def Je (p0 : zU) (q0 : zi) : Option Bool :=
  (Vo p0 q0.Unit).bind fun y101 =>
  some (!y101)

def Qe (p1 : zU → Option Bool) : List zU → Nat → Option Int
  | [], iL1 =>
    some (-1)
  | xL1 :: ze, iL1 =>
    (p1 xL1).bind fun zn =>
    if zn then
      some (iL1 : Int)
    else
      (Qe p1 ze (iL1 + 1))
def Ko (p0 : (List zU)) (p1 : zU → Option Bool) : Option Int :=
  Qe p1 p0 0


def JY (p0 : (List zU)) (p1 : zU → Option Bool) : Option Bool :=
  (Ko p0 p1).bind fun QU =>
  some (decide (0 ≤ QU))

def KM (p0 : (List zU)) : List zU → Nat → Option Bool
  | [], iL1 =>
    some true
  | xL1 :: ze, iL1 =>
    (md (w64 ((iL1 : Int) + 1)) (p0.length : Int)).bind fun q107 =>
    (idx p0 q107).bind fun WP =>
    if ((xL1.X == WP.X) == (xL1.Y == WP.Y)) then
      some false
    else
      (KM p0 ze (iL1 + 1))
def zAM (p0 : (List zU)) : Option Bool :=
  if (decide ((p0.length : Int) < 4)) then
    some false
  else
    KM p0 p0 0

def QS (p0 : zi) (p1 : zB) (p2 : Int) (zn : zBP) (x105 : Bool) : Option Int :=
  if x105 then
    some 3
  else
    (if zn.name then 
      (zAN p0 p1.Name).bind fun zA4 =>
      some (decide (zA4 < 0))
     else some false).bind fun g109 =>
    if g109 then
      some 5
    else
      (Vo p1.At p0.Unit).bind fun KH =>
      (if (!KH) then some true else 
        (JY p1.Points (fun z0 => Je z0 p0)).bind fun y114 =>
        some y114
      ).bind fun g113 =>
      if g113 then
        some 1
      else
        if (decide (2000 < (p1.Points.length : Int))) then
          some 2
        else
          (if zn.points then 
            (zAM p1.Points).bind fun y117 =>
            some (!y117)
           else some false).bind fun g116 =>
          if g116 then
            some 3
          else
            if (!zn.repeat_) then
              some 0
            else
              (Jh p1.NX 1 100).bind fun y118 =>
              (if (!y118) then some true else 
                (Jh p1.NY 1 100).bind fun y121 =>
                some (!y121)
              ).bind fun g120 =>
              if g120 then
                some 1
              else
                if ((p1.Steps.length : Int) == 0) then
                  some 9
                else
                  if (decide (5 ≤ p2)) then
                    some 2
                  else
                    some 0
def Vr (p0 : zi) (p1 : zB) (p2 : Int) : Option Int :=
  (Jh p1.Kind 1 8).bind fun y102 =>
  if (!y102) then
    some 4
  else
    (WV p1.Kind).bind fun zn =>
    if ((!zn.name) && (!sEq p1.Name (⟨#[]⟩))) then
      QS p0 p1 p2 zn ((!zn.name) && (!sEq p1.Name (⟨#[]⟩)))
    else
      if ((!zn.at_) && (!(JN p1.At (zU.mk 0 0)))) then
        QS p0 p1 p2 zn ((!zn.at_) && (!(JN p1.At (zU.mk 0 0))))
      else
        if ((!zn.points) && (decide (0 < (p1.Points.length : Int)))) then
          QS p0 p1 p2 zn ((!zn.points) && (decide (0 < (p1.Points.length : Int))))
        else
          QS p0 p1 p2 zn ((!zn.repeat_) && (((p1.NX != 0) || (p1.NY != 0)) || (decide (0 < (p1.Steps.length : Int)))))

def Qn (p0 : zi) (p2 : Int) (rec : zi → (List zB) → Int → Option Int) : List zB → Nat → Option Int
  | [], iL1 =>
    some 0
  | xL1 :: ze, iL1 =>
    (Vr p0 xL1 p2).bind fun zGM =>
    if (zGM != 0) then
      some zGM
    else
      (rec p0 xL1.Steps (w64 (p2 + 1))).bind fun zA4 =>
      if (zA4 != 0) then
        some zA4
      else
        (Qn p0 p2 rec ze (iL1 + 1))
def zAI (N : Nat) (rec : zi → (List zB) → Int → Option Int) (p0 : zi) (p1 : (List zB)) (p2 : Int) : Option Int :=
  Qn p0 p2 rec p1 0
def KA : Nat → zi → (List zB) → Int → Option Int
  | 0 => fun _ _ _ => none
  | N + 1 => zAI N (KA N)

def QT (N : Nat) (p0 : zi) : List zS → Nat → Option Int
  | [], iL1 =>
    (VM N p0.Steps).bind fun y112 =>
    if (decide (3000 < y112)) then
      some 2
    else
      (KA N p0 p0.Steps 0).bind fun y113 =>
      some y113
  | xL1 :: ze, iL1 =>
    (Vq N xL1 p0.Unit).bind fun zHT =>
    if (zHT != 0) then
      some zHT
    else
      (if (decide (0 < (iL1 : Int))) then 
        (idx p0.Tools (w64 ((iL1 : Int) - 1))).bind fun x120 =>
        some (sLt xL1.Name x120.Name || sEq xL1.Name x120.Name)
       else some false).bind fun g119 =>
      if g119 then
        some 8
      else
        (QT N p0 ze (iL1 + 1))
def Qg (N : Nat) (p0 : zi) : Option Int :=
  (Jh p0.Unit 1 1000).bind fun y101 =>
  if (!y101) then
    some 1
  else
    if (decide (200 < (p0.Tools.length : Int))) then
      some 2
    else
      QT N p0 p0.Tools 0



def Jp : List zU → Nat → ByteArray → Option ByteArray
  | [], iL1, zJH =>
    some zJH
  | xL1 :: ze, iL1, zJH =>
    (zEp xL1.X).bind fun zHS =>
    (zAv (⟨#[32]⟩) zHS).bind fun t125 =>
    (zAv t125 (⟨#[32]⟩)).bind fun t126 =>
    (zEp xL1.Y).bind fun y127 =>
    (zAv t126 y127).bind fun t128 =>
    (zAv zJH t128).bind fun t129 =>
    (Jp ze (iL1 + 1)) t129
def KF (p0 : (List zU)) : Option ByteArray :=
  Jp p0 0 (⟨#[]⟩)

def zt (rec : ByteArray → (List zB) → Option ByteArray) : List zB → Nat → ByteArray → Option ByteArray
  | [], iL1, m194 =>
    some m194
  | xL1 :: ze, iL1, m194 =>
    if (xL1.Kind == 1) then
      (sbW m194 (⟨#[100, 97, 114, 107, 10]⟩)).bind fun y197 =>
      (zt rec ze (iL1 + 1)) y197
    else
      if (xL1.Kind == 2) then
        (sbW m194 (⟨#[99, 108, 101, 97, 114, 10]⟩)).bind fun y199 =>
        (zt rec ze (iL1 + 1)) y199
      else
        if (xL1.Kind == 3) then
          (zAv (⟨#[117, 115, 101, 32]⟩) xL1.Name).bind fun t201 =>
          (zAv t201 (⟨#[10]⟩)).bind fun t202 =>
          (sbW m194 t202).bind fun y203 =>
          (zt rec ze (iL1 + 1)) y203
        else
          if (xL1.Kind == 4) then
            (KF [xL1.At]).bind fun y206 =>
            (zAv (⟨#[109, 111, 118, 101]⟩) y206).bind fun t207 =>
            (zAv t207 (⟨#[10]⟩)).bind fun t208 =>
            (sbW m194 t208).bind fun zGL =>
            (zt rec ze (iL1 + 1)) zGL
          else
            if (xL1.Kind == 5) then
              (KF [xL1.At]).bind fun y212 =>
              (zAv (⟨#[102, 108, 97, 115, 104]⟩) y212).bind fun t213 =>
              (zAv t213 (⟨#[10]⟩)).bind fun t214 =>
              (sbW m194 t214).bind fun y215 =>
              (zt rec ze (iL1 + 1)) y215
            else
              if (xL1.Kind == 6) then
                (KF [xL1.At]).bind fun y218 =>
                (zAv (⟨#[108, 105, 110, 101]⟩) y218).bind fun t219 =>
                (zAv t219 (⟨#[10]⟩)).bind fun t220 =>
                (sbW m194 t220).bind fun y221 =>
                (zt rec ze (iL1 + 1)) y221
              else
                if (xL1.Kind == 7) then
                  (KF xL1.Points).bind fun y223 =>
                  (zAv (⟨#[97, 114, 101, 97]⟩) y223).bind fun t224 =>
                  (zAv t224 (⟨#[10]⟩)).bind fun t225 =>
                  (sbW m194 t225).bind fun y226 =>
                  (zt rec ze (iL1 + 1)) y226
                else
                  if (xL1.Kind == 8) then
                    (KF [(zU.mk xL1.NX xL1.NY), xL1.At]).bind fun y229 =>
                    (zAv (⟨#[114, 101, 112, 101, 97, 116]⟩) y229).bind fun t230 =>
                    (zAv t230 (⟨#[10]⟩)).bind fun t231 =>
                    (sbW m194 t231).bind fun y232 =>
                    (rec y232 xL1.Steps).bind fun y234 =>
                    (sbW y234 (⟨#[100, 111, 110, 101, 10]⟩)).bind fun y236 =>
                    (zt rec ze (iL1 + 1)) y236
                  else
                    (zt rec ze (iL1 + 1)) m194
def zAH (N : Nat) (rec : ByteArray → (List zB) → Option ByteArray) (p0 : ByteArray) (p1 : (List zB)) : Option ByteArray :=
  zt rec p1 0 p0
def KU : Nat → ByteArray → (List zB) → Option ByteArray
  | 0 => fun _ _ => none
  | N + 1 => zAH N (KU N)



def KV (kL3 : ByteArray → Option (ByteArray × Int)) : List JO → Nat → ByteArray → Option (ByteArray × Int)
  | [], iL4, m208 =>
    (sbW m208 (⟨#[10]⟩)).bind fun zGL =>
    kL3 zGL
  | xL4 :: zDR, iL4, m208 =>
    (KF [(zU.mk xL4.X0 xL4.Y0), (zU.mk xL4.X1 xL4.Y1)]).bind fun y213 =>
    (sbW m208 y213).bind fun y214 =>
    (KV kL3 zDR (iL4 + 1)) y214
def JP (N : Nat) (p0 : zi) : List zS → Nat → ByteArray → Option (ByteArray × Int)
  | [], iL3, m178 =>
    (KU N m178 p0.Steps).bind fun y179 =>
    (sbL y179).bind fun zJD =>
    if (decide (200000 < zJD.1)) then
      some (⟨#[]⟩, 2)
    else
      (sbS zJD.2).bind fun y183 =>
      some (y183.1, 0)
  | xL3 :: VL, iL3, m178 =>
    (zAv (⟨#[116, 111, 111, 108, 32]⟩) xL3.Name).bind fun t187 =>
    (sbW m178 t187).bind fun y188 =>
    KV (JP N p0 VL (iL3 + 1)) xL3.Rects 0 y188
def Ky (N : Nat) (p0 : zi) : Option (ByteArray × Int) :=
  (Qg N p0).bind fun y101 =>
  if (y101 != 0) then
    some (⟨#[]⟩, y101)
  else
    (zEp p0.Unit).bind fun zn =>
    (zAv (⟨#[117, 110, 105, 116, 32]⟩) zn).bind fun t104 =>
    (zAv t104 (⟨#[10]⟩)).bind fun t105 =>
    (sbW ByteArray.empty t105).bind fun Wp =>
    JP N p0 p0.Tools 0 Wp




def Jc (p0 : ByteArray) (p1 : ByteArray) : Option Bool :=
  (if (decide ((p1.size : Int) ≤ (p0.size : Int))) then 
    (zDM p0 0 (p1.size : Int)).bind fun t102 =>
    some (sEq t102 p1)
   else some false).bind fun zIo =>
  some zIo


def Kn (p0 : ByteArray) (p1 : ByteArray) : Option ByteArray :=
  (Jc p0 p1).bind fun QU =>
  if QU then
    (zDM p0 (p1.size : Int) (p0.size : Int)).bind fun t101 =>
    some t101
  else
    some p0


def Kw (p0 : ByteArray) (p1 : ByteArray) : Option ByteArray :=
  (Kn p0 p1).bind fun QU =>
  some QU




def zAO (p0 : ByteArray) : Option (Int × Bool) :=
  (Kw p0 (⟨#[45]⟩)).bind fun QU =>
  (if ((decide ((QU.size : Int) < 1)) || (decide (9 < (QU.size : Int)))) then some true else 
    (trimF QU (⟨#[48, 49, 50, 51, 52, 53, 54, 55, 56, 57]⟩)).bind fun zn =>
    some (!sEq zn (⟨#[]⟩))
  ).bind fun g102 =>
  (if g102 then some true else 
    (zBm QU 0).bind fun c106 =>
    some ((c106 == 48) && (!sEq p0 (⟨#[48]⟩)))
  ).bind fun g105 =>
  if g105 then
    some (0, false)
  else
    (zHN p0).bind fun zJ6 =>
    some (zJ6, true)

def JZ : List ByteArray → Nat → List Int → Option ((List Int) × Bool)
  | [], iL1, Va =>
    some (Va, true)
  | xL1 :: ze, iL1, Va =>
    (zAO xL1).bind fun y115 =>
    if (!y115.2) then
      some (([] : List Int), false)
    else
      (apd Va [y115.1]).bind fun l117 =>
      (JZ ze (iL1 + 1)) l117
def VA (p0 : (List ByteArray)) : Option ((List Int) × Bool) :=
  JZ p0 0 ([] : List Int)



def Wu (p0 : Int) : Option Bool :=
  some ((decide (p0 < 33)) || (decide (126 < p0)))


def zAA (p0 : ByteArray) : Option Bool :=
  (if (!sEq p0 (⟨#[]⟩)) then 
    (zBL p0 (fun z0 => Wu z0)).bind fun y102 =>
    some (!y102)
   else some false).bind fun zIo =>
  some zIo

def Qx (p0 : QD) (KH : ((List Int) × Bool)) (x113 : ByteArray) : Nat → List JO → Int → Option (Bool × Int × Bool × (List zS) × (List zB))
  | 0, _, _ => none
  | mL1 + 1, zCq, zA5 =>
    if (decide (zA5 < (KH.1.length : Int))) then
      (idx KH.1 zA5).bind fun zDI =>
      (idx KH.1 (w64 (zA5 + 1))).bind fun zCp =>
      (idx KH.1 (w64 (zA5 + 2))).bind fun WY =>
      (idx KH.1 (w64 (zA5 + 3))).bind fun VB =>
      (apd zCq [(JO.mk zDI zCp WY VB)]).bind fun zAL =>
      (Qx p0 KH x113 mL1) zAL (w64 (zA5 + 4))
    else
      (apd p0.p.Tools [(zS.mk x113 zCq)]).bind fun l145 =>
      some (true, p0.p.Unit, p0.unit, l145, p0.open_)
def VK (N : Nat) (p0 : QD) (p1 : (List ByteArray)) : Option (Bool × Int × Bool × (List zS) × (List zB)) :=
  (idx p1 0).bind fun x100 =>
  if (sEq x100 (⟨#[117, 110, 105, 116]⟩)) then
    (cut p1 1 (p1.length : Int)).bind fun l101 =>
    (VA l101).bind fun y102 =>
    if ((p0.unit || (!y102.2)) || ((y102.1.length : Int) != 1)) then
      some (false, p0.p.Unit, p0.unit, p0.p.Tools, p0.open_)
    else
      (idx y102.1 0).bind fun x104 =>
      some (true, x104, true, p0.p.Tools, p0.open_)
  else
    (if (((!p0.unit) || p0.step) || (decide ((p1.length : Int) < 2))) then some true else 
      (idx p1 1).bind fun WP =>
      (zAA WP).bind fun zGM =>
      some (!zGM)
    ).bind fun g107 =>
    if g107 then
      some (false, p0.p.Unit, p0.unit, p0.p.Tools, p0.open_)
    else
      (cut p1 2 (p1.length : Int)).bind fun l110 =>
      (VA l110).bind fun KH =>
      if (((!KH.2) || ((KH.1.length : Int) == 0)) || ((Int.tmod (KH.1.length : Int) 4) != 0)) then
        some (false, p0.p.Unit, p0.unit, p0.p.Tools, p0.open_)
      else
        (idx p1 1).bind fun x113 =>
        Qx p0 KH x113 N ([] : List JO) 0


def Qz (p0 : QD) (p1 : zB) : Option ((List zB) × (List zB)) :=
  if (decide (0 ≤ (w64 ((p0.open_.length : Int) - 1)))) then
    (idx p0.open_ (w64 ((p0.open_.length : Int) - 1))).bind fun x103 =>
    (apd x103.Steps [p1]).bind fun zD1 =>
    some (p0.p.Steps, (List.set p0.open_ ((w64 ((p0.open_.length : Int) - 1))).toNat (zB.mk x103.Kind x103.Name x103.At x103.Points x103.NX x103.NY zD1)))
  else
    (apd p0.p.Steps ([(zB.mk 0 (⟨#[]⟩) (zU.mk 0 0) [] 0 0 [])])).bind fun l118 =>
    (idx l118 (p0.p.Steps.length : Int)).bind fun x119 =>
    (sets l118 (p0.p.Steps.length : Int) p1).bind fun zJL =>
    some (zJL, p0.open_)

def Qh (p1 : ByteArray) : List ByteArray → Nat → Option Int
  | [], iL1 =>
    some (-1)
  | xL1 :: ze, iL1 =>
    if (sEq p1 xL1) then
      some (iL1 : Int)
    else
      (Qh p1 ze (iL1 + 1))
def Qk (p0 : (List ByteArray)) (p1 : ByteArray) : Option Int :=
  Qh p1 p0 0

def Qj (p0 : QD) (WY : Int) (VB : Int) (x140 : Int) (Ww : List zU) : Option (Bool × (List zB) × (List zB)) :=
  (Qz p0 (zB.mk WY (⟨#[]⟩) (zU.mk VB x140) Ww 0 0 [])).bind fun zA3 =>
  some (true, zA3.1, zA3.2)
def Qi (p0 : QD) (p2 : (List Int)) : Nat → List zU → Int → Option (Bool × (List zB) × (List zB))
  | 0, _, _ => none
  | mL4 + 1, zFn, zD5 =>
    if (decide (zD5 < (p2.length : Int))) then
      (idx p2 zD5).bind fun zEx =>
      (idx p2 (w64 (zD5 + 1))).bind fun zEw =>
      (apd zFn [(zU.mk zEx zEw)]).bind fun l174 =>
      (Qi p0 p2 mL4) l174 (w64 (zD5 + 2))
    else
      Qj p0 7 0 0 zFn
def zy (N : Nat) (p0 : QD) (p1 : ByteArray) (p2 : (List Int)) (x148 : Bool) : Option (Bool × (List zB) × (List zB)) :=
  if x148 then
    if ((p2.length : Int) != 2) then
      some (false, p0.p.Steps, p0.open_)
    else
      (Qk ([⟨#[109, 111, 118, 101]⟩, ⟨#[102, 108, 97, 115, 104]⟩, ⟨#[108, 105, 110, 101]⟩]) p1).bind fun y152 =>
      (idx p2 0).bind fun x153 =>
      (idx p2 1).bind fun x154 =>
      Qj p0 (w64 (4 + y152)) x153 x154 ([] : List zU)
  else
    if (sEq p1 (⟨#[97, 114, 101, 97]⟩)) then
      if ((Int.tmod (p2.length : Int) 2) != 0) then
        some (false, p0.p.Steps, p0.open_)
      else
        Qi p0 p2 N ([] : List zU) 0
    else
      if (sEq p1 (⟨#[114, 101, 112, 101, 97, 116]⟩)) then
        if ((p2.length : Int) != 4) then
          some (false, p0.p.Steps, p0.open_)
        else
          (idx p2 0).bind fun zEv =>
          (idx p2 1).bind fun zEu =>
          (idx p2 2).bind fun zDH =>
          (idx p2 3).bind fun zCo =>
          (apd p0.open_ [(zB.mk 8 (⟨#[]⟩) (zU.mk zDH zCo) [] zEv zEu [])]).bind fun l182 =>
          some (true, p0.p.Steps, l182)
      else
        some (false, p0.p.Steps, p0.open_)
def JE (N : Nat) (p0 : QD) (p1 : ByteArray) (p2 : (List Int)) : Option (Bool × (List zB) × (List zB)) :=
  if (sEq p1 (⟨#[109, 111, 118, 101]⟩)) then
    zy N p0 p1 p2 (sEq p1 (⟨#[109, 111, 118, 101]⟩))
  else
    if (sEq p1 (⟨#[102, 108, 97, 115, 104]⟩)) then
      zy N p0 p1 p2 (sEq p1 (⟨#[102, 108, 97, 115, 104]⟩))
    else
      zy N p0 p1 p2 (sEq p1 (⟨#[108, 105, 110, 101]⟩))


def VJ (N : Nat) (p0 : QD) (p1 : ByteArray) : Option (Bool × Int × Bool × Bool × (List zS) × (List zB) × (List zB)) :=
  (zE0 p1 (⟨#[32]⟩)).bind fun QU =>
  (idx QU 0).bind fun x102 =>
  (if (sEq x102 (⟨#[117, 110, 105, 116]⟩)) then some true else 
    (idx QU 0).bind fun x105 =>
    some (sEq x105 (⟨#[116, 111, 111, 108]⟩))
  ).bind fun g104 =>
  if g104 then
    (VK N p0 QU).bind fun Wp =>
    some (Wp.1, Wp.2.1, Wp.2.2.1, p0.step, Wp.2.2.2.1, p0.p.Steps, Wp.2.2.2.2)
  else
    if (!p0.unit) then
      some (false, p0.p.Unit, p0.unit, p0.step, p0.p.Tools, p0.p.Steps, p0.open_)
    else
      if (sEq p1 (⟨#[100, 97, 114, 107]⟩)) then
        (Qz (QD.mk p0.p p0.unit p0.open_ true) (zB.mk 1 (⟨#[]⟩) (zU.mk 0 0) [] 0 0 [])).bind fun zCn =>
        some (true, p0.p.Unit, p0.unit, true, p0.p.Tools, zCn.1, zCn.2)
      else
        if (sEq p1 (⟨#[99, 108, 101, 97, 114]⟩)) then
          (Qz (QD.mk p0.p p0.unit p0.open_ true) (zB.mk 2 (⟨#[]⟩) (zU.mk 0 0) [] 0 0 [])).bind fun zA4 =>
          some (true, p0.p.Unit, p0.unit, true, p0.p.Tools, zA4.1, zA4.2)
        else
          if (sEq p1 (⟨#[100, 111, 110, 101]⟩)) then
            if (decide ((w64 ((p0.open_.length : Int) - 1)) < 0)) then
              some (false, p0.p.Unit, p0.unit, true, p0.p.Tools, p0.p.Steps, p0.open_)
            else
              (idx p0.open_ (w64 ((p0.open_.length : Int) - 1))).bind fun x112 =>
              (pre p0.open_ (w64 ((p0.open_.length : Int) - 1))).bind fun l115 =>
              (Qz (QD.mk p0.p p0.unit l115 true) x112).bind fun KW =>
              some (true, p0.p.Unit, p0.unit, true, p0.p.Tools, KW.1, KW.2)
          else
            (idx QU 0).bind fun x121 =>
            if (sEq x121 (⟨#[117, 115, 101]⟩)) then
              (if ((QU.length : Int) != 2) then some true else 
                (idx QU 1).bind fun zJ8 =>
                (zAA zJ8).bind fun y126 =>
                some (!y126)
              ).bind fun g124 =>
              if g124 then
                some (false, p0.p.Unit, p0.unit, true, p0.p.Tools, p0.p.Steps, p0.open_)
              else
                (idx QU 1).bind fun zFQ =>
                (Qz (QD.mk p0.p p0.unit p0.open_ true) (zB.mk 3 zFQ (zU.mk 0 0) [] 0 0 [])).bind fun zEg =>
                some (true, p0.p.Unit, p0.unit, true, p0.p.Tools, zEg.1, zEg.2)
            else
              (cut QU 1 (QU.length : Int)).bind fun l130 =>
              (VA l130).bind fun zD4 =>
              if zD4.2 then
                (idx QU 0).bind fun zCp =>
                (JE N (QD.mk p0.p p0.unit p0.open_ true) zCp zD4.1).bind fun zBs =>
                some (zBs.1, p0.p.Unit, p0.unit, true, p0.p.Tools, zBs.2.1, zBs.2.2)
              else
                some (false, p0.p.Unit, p0.unit, true, p0.p.Tools, p0.p.Steps, p0.open_)

def Kz (N : Nat) : Nat → List zB → Int → List zS → List zB → Bool → Bool → ByteArray → Int → Option (zi × Int × Int)
  | 0, _, _, _, _, _, _, _, _ => none
  | mL1 + 1, m138, VB, zAL, Ww, zDy, zFP, x144, zGP =>
    if (!sEq x144 (⟨#[]⟩)) then
      (cutF x144 (⟨#[10]⟩)).bind fun zA3 =>
      if (!zA3.2.2) then
        some ((zi.mk 0 [] []), zGP, 10)
      else
        (VJ N (QD.mk (zi.mk VB zAL Ww) zDy m138 zFP) zA3.1).bind fun y150 =>
        if (!y150.1) then
          some ((zi.mk 0 [] []), zGP, 10)
        else
          (Kz N mL1) y150.2.2.2.2.2.2 y150.2.1 y150.2.2.2.2.1 y150.2.2.2.2.2.1 y150.2.2.1 y150.2.2.2.1 zA3.2.1 (w64 (zGP + 1))
    else
      if ((!zDy) || (decide (0 < (m138.length : Int)))) then
        some ((zi.mk 0 [] []), zGP, 10)
      else
        (Qg N (zi.mk VB zAL Ww)).bind fun y152 =>
        if (y152 != 0) then
          some ((zi.mk 0 [] []), 0, y152)
        else
          some ((zi.mk VB zAL Ww), 0, 0)
def KX (N : Nat) (p0 : ByteArray) : Option (zi × Int × Int) :=
  if (decide (200000 < (p0.size : Int))) then
    some ((zi.mk 0 [] []), 0, 2)
  else
    Kz N N ([] : List zB) 0 ([] : List zS) ([] : List zB) false false p0 1

def QO (p0 : (List zU)) (p1 : (List zU)) : Nat → Int → Option Bool
  | 0, _ => none
  | mL1 + 1, x107 =>
    if (decide (x107 < (p0.length : Int))) then
      (idx p0 x107).bind fun WP =>
      (idx p1 x107).bind fun Qb =>
      if (!(JN WP Qb)) then
        some false
      else
        (QO p0 p1 mL1) (w64 (x107 + 1))
    else
      some true
def Jf (N : Nat) (p0 : (List zU)) (p1 : (List zU)) : Option Bool :=
  if ((p0.length : Int) != (p1.length : Int)) then
    some false
  else
    QO p0 p1 N 0

def QY (N : Nat) (p0 : (List zB)) (p1 : (List zB)) (rec : (List zB) → (List zB) → Option Bool) : Nat → Int → Option Bool
  | 0, _ => none
  | mL1 + 1, VP =>
    if (decide (VP < (p0.length : Int))) then
      (idx p0 VP).bind fun zY =>
      (idx p1 VP).bind fun za =>
      (if (((((zY.Kind != za.Kind) || (!sEq zY.Name za.Name)) || (!(JN zY.At za.At))) || (zY.NX != za.NX)) || (zY.NY != za.NY)) then some true else 
        (Jf N zY.Points za.Points).bind fun y141 =>
        some (!y141)
      ).bind fun g140 =>
      (if g140 then some true else 
        (rec zY.Steps za.Steps).bind fun y144 =>
        some (!y144)
      ).bind fun g143 =>
      if g143 then
        some false
      else
        (QY N p0 p1 rec mL1) (w64 (VP + 1))
    else
      some true
def Ja (N : Nat) (rec : (List zB) → (List zB) → Option Bool) (p0 : (List zB)) (p1 : (List zB)) : Option Bool :=
  if ((p0.length : Int) != (p1.length : Int)) then
    some false
  else
    QY N p0 p1 rec N 0
def Ju : Nat → (List zB) → (List zB) → Option Bool
  | 0 => fun _ _ => none
  | N + 1 => Ja N (Ju N)

def QZ (p0 : (List JO)) (p1 : (List JO)) : Nat → Int → Option Bool
  | 0, _ => none
  | mL1 + 1, x107 =>
    if (decide (x107 < (p0.length : Int))) then
      (idx p0 x107).bind fun WP =>
      (idx p1 x107).bind fun Qb =>
      if (!(zDb WP Qb)) then
        some false
      else
        (QZ p0 p1 mL1) (w64 (x107 + 1))
    else
      some true
def Jv (N : Nat) (p0 : (List JO)) (p1 : (List JO)) : Option Bool :=
  if ((p0.length : Int) != (p1.length : Int)) then
    some false
  else
    QZ p0 p1 N 0

def Qf (N : Nat) (p0 : zi) (p1 : zi) : Nat → Int → Option Bool
  | 0, _ => none
  | mL1 + 1, WY =>
    if (decide (WY < (p0.Tools.length : Int))) then
      (idx p0.Tools WY).bind fun VB =>
      (idx p1.Tools WY).bind fun x141 =>
      (if (!sEq VB.Name x141.Name) then some true else 
        (idx p0.Tools WY).bind fun x149 =>
        (idx p1.Tools WY).bind fun x151 =>
        (Jv N x149.Rects x151.Rects).bind fun y153 =>
        some (!y153)
      ).bind fun g148 =>
      if g148 then
        some false
      else
        (Qf N p0 p1 mL1) (w64 (WY + 1))
    else
      some true
def KG (N : Nat) (p0 : zi) (p1 : zi) : Option Bool :=
  (if ((p0.Unit != p1.Unit) || ((p0.Tools.length : Int) != (p1.Tools.length : Int))) then some true else 
    (Ju N p0.Steps p1.Steps).bind fun y104 =>
    some (!y104)
  ).bind fun zFw =>
  if zFw then
    some false
  else
    Qf N p0 p1 N 0


def JD (N : Nat)  : Option Bool :=
  (Ky N (zi.mk 7 [] [])).bind fun QU =>
  some ((QU.2 == 0) && (sEq QU.1 (⟨#[117, 110, 105, 116, 32, 55, 10]⟩)))

def QR (N : Nat) (p1 : ByteArray) : Option Bool :=
  (KX N p1).bind fun y114 =>
  if (y114.2.2 != 0) then
    (if (y114.1.Unit == 0) then 
      (JD N).bind fun KW =>
      some KW
     else some false).bind fun zGq =>
    some zGq
  else
    (Ky N y114.1).bind fun zEh =>
    (if ((zEh.2 == 0) && (sEq zEh.1 p1)) then 
      (JD N).bind fun zJF =>
      some zJF
     else some false).bind fun g122 =>
    some g122
def JK (N : Nat) (p0 : zi) (p1 : ByteArray) : Option Bool :=
  (Ky N p0).bind fun zHS =>
  if (zHS.2 == 0) then
    (KX N zHS.1).bind fun JH =>
    (if (JH.2.2 == 0) then 
      (if (JH.2.1 != 0) then some true else 
        (KG N JH.1 p0).bind fun zJE =>
        some (!zJE)
      ).bind fun g133 =>
      some g133
     else some false).bind fun g131 =>
    if (g131 || (JH.2.2 != 0)) then
      some false
    else
      QR N p1
  else
    QR N p1

def zAd : Nat → List ByteArray → List Bool → ByteArray → Option zw
  | 0, _, _, _ => none
  | mL1 + 1, zJL, l121, zJH =>
    if (!sEq zJH (⟨#[]⟩)) then
      (cutF zJH (⟨#[10]⟩)).bind fun zJF =>
      (apd zJL [zJF.1]).bind fun l125 =>
      (apd l121 [zJF.2.2]).bind fun l127 =>
      (zAd mL1) l125 l127 zJF.2.1
    else
      some (zw.mk zJL l121 0 false)
def zEP (N : Nat) (p0 : ByteArray) : Option zw :=
  zAd N ([] : List ByteArray) ([] : List Bool) p0

def zAP (QU : (List ByteArray)) (zJ7 : Int) (kL3 : Int → Option ((List ByteArray) × Bool)) : Nat → Int → Option ((List ByteArray) × Bool)
  | 0, _ => none
  | mL4 + 1, x184 =>
    (idx QU zJ7).bind fun x185 =>
    if (decide (x184 < (x185.size : Int))) then
      (idx QU zJ7).bind fun x186 =>
      (zBm x186 x184).bind fun c187 =>
      (if (decide (c187 < 33)) then some true else 
        (idx QU zJ7).bind fun x191 =>
        (zBm x191 x184).bind fun c192 =>
        some (decide (126 < c192))
      ).bind fun g190 =>
      if g190 then
        some (([] : List ByteArray), false)
      else
        (zAP QU zJ7 kL3 mL4) (w64 (x184 + 1))
    else
      kL3 (w64 (zJ7 + 1))
def zAQ (N : Nat) (QU : (List ByteArray)) : Nat → Int → Option ((List ByteArray) × Bool)
  | 0, _ => none
  | mL3 + 1, zJ7 =>
    if (decide (zJ7 < (QU.length : Int))) then
      (idx QU zJ7).bind fun zIF =>
      if (sEq zIF (⟨#[]⟩)) then
        some (([] : List ByteArray), false)
      else
        zAP QU zJ7 (zAQ N QU mL3) N 0
    else
      some (QU, true)
def zD3 (N : Nat) (p0 : ByteArray) : Option ((List ByteArray) × Bool) :=
  (zE0 p0 (⟨#[32]⟩)).bind fun QU =>
  zAQ N QU N 0


def zDC (p0 : ByteArray) (p1 : ByteArray) : Option (ByteArray × Bool) :=
  (Jc p0 p1).bind fun QU =>
  if (!QU) then
    some (p0, false)
  else
    (zDM p0 (p1.size : Int) (p0.size : Int)).bind fun t101 =>
    some (t101, true)


def zEk (p0 : ByteArray) (p1 : ByteArray) : Option (ByteArray × Bool) :=
  (zDC p0 p1).bind fun QU =>
  some (QU.1, QU.2)


def QQ (p0 : Int) (p1 : Int) (p2 : Int) : Option Bool :=
  some ((decide (p1 ≤ p0)) && (decide (p0 ≤ p2)))

def zAG (p0 : ByteArray) (QU : (ByteArray × Bool)) : Nat → Int → Option (Int × Bool)
  | 0, _ => none
  | mL1 + 1, zAh =>
    if (decide (zAh < (QU.1.size : Int))) then
      (zBm QU.1 zAh).bind fun c117 =>
      (if (decide (c117 < 48)) then some true else 
        (zBm QU.1 zAh).bind fun c120 =>
        some (decide (57 < c120))
      ).bind fun g119 =>
      if g119 then
        some (0, false)
      else
        (zAG p0 QU mL1) (w64 (zAh + 1))
    else
      (zHN p0).bind fun y121 =>
      some (y121, true)
def zDn (N : Nat) (p0 : ByteArray) : Option (Int × Bool) :=
  (zEk p0 (⟨#[45]⟩)).bind fun QU =>
  (QQ (QU.1.size : Int) 1 9).bind fun y101 =>
  (if (!y101) then some true else 
    (zBm QU.1 0).bind fun c104 =>
    some ((c104 == 48) && ((decide (1 < (QU.1.size : Int))) || QU.2))
  ).bind fun zFw =>
  if zFw then
    some (0, false)
  else
    zAG p0 QU N 0

def Wv (N : Nat) (p0 : (List ByteArray)) : Nat → List Int → Int → Option ((List Int) × Bool)
  | 0, _, _ => none
  | mL1 + 1, Va, x115 =>
    if (decide (x115 < (p0.length : Int))) then
      (idx p0 x115).bind fun zAh =>
      (zDn N zAh).bind fun y117 =>
      if (!y117.2) then
        some (([] : List Int), false)
      else
        (apd Va [y117.1]).bind fun l119 =>
        (Wv N p0 mL1) l119 (w64 (x115 + 1))
    else
      some (Va, true)
def zDF (N : Nat) (p0 : (List ByteArray)) : Option ((List Int) × Bool) :=
  Wv N p0 N ([] : List Int) 0

def Qa (Va : List ByteArray) (zAh : ByteArray) (KW : ((List Int) × Bool)) (zJG : Bool) : Option (ByteArray × ByteArray × (List Int) × Bool) :=
  (idx Va 0).bind fun VP =>
  some (VP, zAh, KW.1, zJG)
def KZ (Va : List ByteArray) (zAh : ByteArray) (KW : ((List Int) × Bool)) (zBe : ByteArray) (zDI : Bool) : Option (ByteArray × ByteArray × (List Int) × Bool) :=
  if zDI then
    Qa Va zAh KW ((KW.1.length : Int) == 2)
  else
    if (sEq zBe (⟨#[97, 114, 101, 97]⟩)) then
      Qa Va zAh KW ((Int.tmod (KW.1.length : Int) 2) == 0)
    else
      if (sEq zBe (⟨#[114, 101, 112, 101, 97, 116]⟩)) then
        Qa Va zAh KW ((KW.1.length : Int) == 4)
      else
        Qa Va zAh KW false
def Jd (Va : List ByteArray) (zAh : ByteArray) (KW : ((List Int) × Bool)) (zBe : ByteArray) (zY : Bool) : Option (ByteArray × ByteArray × (List Int) × Bool) :=
  if zY then
    Qa Va zAh KW ((KW.1.length : Int) == 0)
  else
    if (sEq zBe (⟨#[109, 111, 118, 101]⟩)) then
      KZ Va zAh KW zBe (sEq zBe (⟨#[109, 111, 118, 101]⟩))
    else
      if (sEq zBe (⟨#[102, 108, 97, 115, 104]⟩)) then
        KZ Va zAh KW zBe (sEq zBe (⟨#[102, 108, 97, 115, 104]⟩))
      else
        KZ Va zAh KW zBe (sEq zBe (⟨#[108, 105, 110, 101]⟩))
def Vh (N : Nat) (Va : List ByteArray) (l115 : List ByteArray) (zAh : ByteArray) : Option (ByteArray × ByteArray × (List Int) × Bool) :=
  (zDF N l115).bind fun KW =>
  if (!KW.2) then
    some (⟨#[]⟩, ⟨#[]⟩, ([] : List Int), false)
  else
    (idx Va 0).bind fun zBe =>
    if (sEq zBe (⟨#[117, 110, 105, 116]⟩)) then
      Qa Va zAh KW ((KW.1.length : Int) == 1)
    else
      if (sEq zBe (⟨#[116, 111, 111, 108]⟩)) then
        Qa Va zAh KW ((decide (0 < (KW.1.length : Int))) && ((Int.tmod (KW.1.length : Int) 4) == 0))
      else
        if (sEq zBe (⟨#[100, 97, 114, 107]⟩)) then
          Jd Va zAh KW zBe (sEq zBe (⟨#[100, 97, 114, 107]⟩))
        else
          if (sEq zBe (⟨#[99, 108, 101, 97, 114]⟩)) then
            Jd Va zAh KW zBe (sEq zBe (⟨#[99, 108, 101, 97, 114]⟩))
          else
            if (sEq zBe (⟨#[117, 115, 101]⟩)) then
              Jd Va zAh KW zBe (sEq zBe (⟨#[117, 115, 101]⟩))
            else
              Jd Va zAh KW zBe (sEq zBe (⟨#[100, 111, 110, 101]⟩))
def VH (N : Nat) (p0 : zw) : Option (ByteArray × ByteArray × (List Int) × Bool) :=
  (idx p0.lines p0.at_).bind fun x101 =>
  (zD3 N x101).bind fun y102 =>
  (if (!y102.2) then some true else 
    (idx p0.ends p0.at_).bind fun zHU =>
    some (!zHU)
  ).bind fun g105 =>
  if g105 then
    some (⟨#[]⟩, ⟨#[]⟩, ([] : List Int), false)
  else
    (cut y102.1 1 (y102.1.length : Int)).bind fun zD1 =>
    (idx y102.1 0).bind fun VB =>
    (if (sEq VB (⟨#[116, 111, 111, 108]⟩)) then some true else 
      (idx y102.1 0).bind fun zDy =>
      some (sEq zDy (⟨#[117, 115, 101]⟩))
    ).bind fun g141 =>
    if g141 then
      if ((zD1.length : Int) == 0) then
        some (⟨#[]⟩, ⟨#[]⟩, ([] : List Int), false)
      else
        (idx zD1 0).bind fun zFP =>
        (cut zD1 1 (zD1.length : Int)).bind fun l144 =>
        Vh N y102.1 l144 zFP
    else
      Vh N y102.1 zD1 (⟨#[]⟩)


def zDm (p0 : ByteArray) : Option Int :=
  if (sEq p0 (⟨#[100, 97, 114, 107]⟩)) then
    some 1
  else
    if (sEq p0 (⟨#[99, 108, 101, 97, 114]⟩)) then
      some 2
    else
      if (sEq p0 (⟨#[117, 115, 101]⟩)) then
        some 3
      else
        if (sEq p0 (⟨#[109, 111, 118, 101]⟩)) then
          some 4
        else
          if (sEq p0 (⟨#[102, 108, 97, 115, 104]⟩)) then
            some 5
          else
            if (sEq p0 (⟨#[108, 105, 110, 101]⟩)) then
              some 6
            else
              if (sEq p0 (⟨#[97, 114, 101, 97]⟩)) then
                some 7
              else
                if (sEq p0 (⟨#[114, 101, 112, 101, 97, 116]⟩)) then
                  some 8
                else
                  some 0

def JU (zEF : List zB) (kL11 : Int → Bool → (List zB) → Option ((List zB) × Int × Bool)) (zBR : (ByteArray × ByteArray × (List Int) × Bool)) (zCm : Int) (x316 : Int) (x317 : Bool) (x318 : Int) (x319 : Int) (l320 : List zU) (x321 : Int) (x322 : Int) (l323 : List zB) : Option ((List zB) × Int × Bool) :=
  (apd zEF [(zB.mk zCm zBR.2.1 (zU.mk x318 x319) l320 x321 x322 l323)]).bind fun l331 =>
  kL11 x316 x317 l331
def VY (zEi : Int) (zGN : Bool) (zEF : List zB) (kL11 : Int → Bool → (List zB) → Option ((List zB) × Int × Bool)) (zBR : (ByteArray × ByteArray × (List Int) × Bool)) (zCm : Int) : Nat → List zU → Int → Option ((List zB) × Int × Bool)
  | 0, _, _ => none
  | mL15 + 1, l351, x352 =>
    if (decide (x352 < (zBR.2.2.1.length : Int))) then
      (idx zBR.2.2.1 x352).bind fun x354 =>
      (idx zBR.2.2.1 (w64 (x352 + 1))).bind fun x355 =>
      (apd l351 [(zU.mk x354 x355)]).bind fun l356 =>
      (VY zEi zGN zEF kL11 zBR zCm mL15) l356 (w64 (x352 + 2))
    else
      JU zEF kL11 zBR zCm (w64 (zEi + 1)) zGN 0 0 l351 0 0 ([] : List zB)
def KO (N : Nat) (p0 : zw) (rec : zw → Bool → Option ((List zB) × Int × Bool)) (zEi : Int) (zGN : Bool) (zEF : List zB) (kL11 : Int → Bool → (List zB) → Option ((List zB) × Int × Bool)) (zBR : (ByteArray × ByteArray × (List Int) × Bool)) (zCm : Int) (x332 : Bool) : Option ((List zB) × Int × Bool) :=
  if x332 then
    (idx zBR.2.2.1 0).bind fun x335 =>
    (idx zBR.2.2.1 1).bind fun x336 =>
    JU zEF kL11 zBR zCm (w64 (zEi + 1)) zGN x335 x336 ([] : List zU) 0 0 ([] : List zB)
  else
    if (zCm == 7) then
      VY zEi zGN zEF kL11 zBR zCm N ([] : List zU) 0
    else
      if (zCm == 8) then
        (idx zBR.2.2.1 0).bind fun x358 =>
        (idx zBR.2.2.1 1).bind fun x359 =>
        (idx zBR.2.2.1 2).bind fun x360 =>
        (idx zBR.2.2.1 3).bind fun x361 =>
        (rec (zw.mk p0.lines p0.ends (w64 (zEi + 1)) zGN) true).bind fun y362 =>
        if y362.2.2 then
          some (zEF, y362.2.1, y362.2.2)
        else
          JU zEF kL11 zBR zCm y362.2.1 y362.2.2 x360 x361 ([] : List zU) x358 x359 y362.1
      else
        JU zEF kL11 zBR zCm (w64 (zEi + 1)) zGN 0 0 ([] : List zU) 0 0 ([] : List zB)
def JS (N : Nat) (p0 : zw) (p1 : Bool) (rec : zw → Bool → Option ((List zB) × Int × Bool)) : Nat → Int → Bool → List zB → Option ((List zB) × Int × Bool)
  | 0, _, _, _ => none
  | mL11 + 1, zEi, zGN, zEF =>
    if (decide (zEi < (p0.lines.length : Int))) then
      (VH N (zw.mk p0.lines p0.ends zEi zGN)).bind fun zBR =>
      if ((zBR.2.2.2 && p1) && (sEq zBR.1 (⟨#[100, 111, 110, 101]⟩))) then
        some (zEF, (w64 (zEi + 1)), zGN)
      else
        (zDm zBR.1).bind fun zCm =>
        if ((!zBR.2.2.2) || (zCm == 0)) then
          some (zEF, zEi, true)
        else
          if (zCm == 4) then
            KO N p0 rec zEi zGN zEF (JS N p0 p1 rec mL11) zBR zCm (zCm == 4)
          else
            if (zCm == 5) then
              KO N p0 rec zEi zGN zEF (JS N p0 p1 rec mL11) zBR zCm (zCm == 5)
            else
              KO N p0 rec zEi zGN zEF (JS N p0 p1 rec mL11) zBR zCm (zCm == 6)
    else
      some (zEF, zEi, p1)
def zA8 (N : Nat) (rec : zw → Bool → Option ((List zB) × Int × Bool)) (p0 : zw) (p1 : Bool) : Option ((List zB) × Int × Bool) :=
  JS N p0 p1 rec N p0.at_ p0.bad ([] : List zB)
def Vx : Nat → zw → Bool → Option ((List zB) × Int × Bool)
  | 0 => fun _ _ => none
  | N + 1 => zA8 N (Vx N)

def Kc (p0 : ByteArray) : Nat → Int → Option Bool
  | 0, _ => none
  | mL1 + 1, x105 =>
    if (decide (x105 < (p0.size : Int))) then
      (zBm p0 x105).bind fun c106 =>
      if ((!(((decide (97 ≤ c106)) && (decide (c106 ≤ 122))) || ((decide (65 ≤ c106)) && (decide (c106 ≤ 90))))) && ((x105 == 0) || (((c106 != 95) && (c106 != 45)) && (!((decide (48 ≤ c106)) && (decide (c106 ≤ 57))))))) then
        some false
      else
        (Kc p0 mL1) (w64 (x105 + 1))
    else
      (QQ (p0.size : Int) 1 40).bind fun zJ6 =>
      some zJ6
def zA0 (N : Nat) (p0 : ByteArray) : Option Bool :=
  Kc p0 N 0


def zDo (p0 : Int) (p1 : Int) (p2 : Int) : Option Bool :=
  some ((decide (p1 ≤ p0)) && (decide (p0 ≤ p2)))


def zAY (p0 : Int) : Option Bool :=
  (zDo p0 (-1000000) 1000000).bind fun QU =>
  some QU


def JI (p0 : Int) (p1 : Int) : Option Bool :=
  (zAY p0).bind fun QU =>
  (if QU then 
    (zAY (w64 (p0 * p1))).bind fun zn =>
    some zn
   else some false).bind fun g102 =>
  some g102

def Qs (p0 : (List JO)) (p1 : Int) : Nat → Int → Option Int
  | 0, _ => none
  | mL1 + 1, zFQ =>
    if (decide (zFQ < (p0.length : Int))) then
      (idx p0 zFQ).bind fun zJG =>
      (JI zJG.X0 p1).bind fun y130 =>
      (if (!y130) then some true else 
        (JI zJG.Y0 p1).bind fun y133 =>
        some (!y133)
      ).bind fun g132 =>
      (if g132 then some true else 
        (JI zJG.X1 p1).bind fun y136 =>
        some (!y136)
      ).bind fun g135 =>
      (if g135 then some true else 
        (JI zJG.Y1 p1).bind fun y139 =>
        some (!y139)
      ).bind fun g138 =>
      if g138 then
        some 1
      else
        if ((decide (zJG.X1 ≤ zJG.X0)) || (decide (zJG.Y1 ≤ zJG.Y0))) then
          some 13
        else
          (Qs p0 p1 mL1) (w64 (zFQ + 1))
    else
      some 0
def Ki (N : Nat) (p0 : (List JO)) (p1 : Int) : Option Int :=
  if ((p0.length : Int) == 0) then
    some 9
  else
    if (decide (2000 < (p0.length : Int))) then
      some 2
    else
      Qs p0 p1 N 0

def Kr (p0 : (List zB)) (rec : (List zB) → Option Int) (zIF : Int) (zGO : Int) (kL5 : Int → Int → Option Int) (x171 : Int) (zCo : Int) : Option Int :=
  (idx p0 zGO).bind fun x182 =>
  (rec x182.Steps).bind fun y184 =>
  kL5 (w64 ((w64 (zIF + 1)) + (w64 ((w64 (x171 * zCo)) * y184)))) (w64 (zGO + 1))
def Kq (p0 : (List zB)) (rec : (List zB) → Option Int) (zIF : Int) (zGO : Int) (kL5 : Int → Int → Option Int) (x171 : Int) : Option Int :=
  (idx p0 zGO).bind fun x185 =>
  (QQ x185.NY 1 100).bind fun y187 =>
  if y187 then
    (idx p0 zGO).bind fun x188 =>
    Kr p0 rec zIF zGO kL5 x171 x188.NY
  else
    Kr p0 rec zIF zGO kL5 x171 1
def QA (p0 : (List zB)) (rec : (List zB) → Option Int) : Nat → Int → Int → Option Int
  | 0, _, _ => none
  | mL5 + 1, zIF, zGO =>
    if ((decide (zGO < (p0.length : Int))) && (decide (zIF ≤ 3000))) then
      (idx p0 zGO).bind fun x190 =>
      (QQ x190.NX 1 100).bind fun y192 =>
      if y192 then
        (idx p0 zGO).bind fun x193 =>
        Kq p0 rec zIF zGO (QA p0 rec mL5) x193.NX
      else
        Kq p0 rec zIF zGO (QA p0 rec mL5) 1
    else
      some (min zIF 3001)
def zDE (N : Nat) (rec : (List zB) → Option Int) (p0 : (List zB)) : Option Int :=
  QA p0 rec N 0 0
def Kg : Nat → (List zB) → Option Int
  | 0 => fun _ => none
  | N + 1 => zDE N (Kg N)

def JL (p0 : zB) (x104 : Bool) (x105 : Bool) (zHU : Bool) (x107 : Bool) : Option Bool :=
  some ((((x104 || (sEq p0.Name (⟨#[]⟩))) && (x105 || (JN p0.At (zU.mk 0 0)))) && (zHU || ((p0.Points.length : Int) == 0))) && (x107 || (((p0.NX == 0) && (p0.NY == 0)) && ((p0.Steps.length : Int) == 0))))
def Kb (p0 : zB) (x110 : Bool) : Option Bool :=
  if x110 then
    JL p0 false true false false
  else
    if (p0.Kind == 7) then
      JL p0 false false true false
    else
      if (p0.Kind == 8) then
        JL p0 false true false true
      else
        JL p0 false false false false
def WK (p0 : zB) : Option Bool :=
  if (p0.Kind == 3) then
    JL p0 true false false false
  else
    if (p0.Kind == 4) then
      Kb p0 (p0.Kind == 4)
    else
      if (p0.Kind == 5) then
        Kb p0 (p0.Kind == 5)
      else
        Kb p0 (p0.Kind == 6)

def KN (p0 : zi) (p1 : ByteArray) : Nat → Int → Option Int
  | 0, _ => none
  | mL1 + 1, WP =>
    if (decide (WP < (p0.Tools.length : Int))) then
      (idx p0.Tools WP).bind fun Qb =>
      if (sEq Qb.Name p1) then
        some WP
      else
        (KN p0 p1 mL1) (w64 (WP + 1))
    else
      some (-1)
def zBc (N : Nat) (p0 : zi) (p1 : ByteArray) : Option Int :=
  KN p0 p1 N 0


def Ka (p0 : zU) (p1 : Int) : Option Bool :=
  (JI p0.X p1).bind fun y101 =>
  (if y101 then 
    (JI p0.Y p1).bind fun y104 =>
    some y104
   else some false).bind fun zFw =>
  some zFw

def JQ (p0 : (List zU)) : Nat → Int → Option Int
  | 0, _ => none
  | mL2 + 1, zFQ =>
    if (decide (zFQ < (p0.length : Int))) then
      (idx p0 zFQ).bind fun x129 =>
      (md (w64 (zFQ + 1)) (p0.length : Int)).bind fun q130 =>
      (idx p0 q130).bind fun VP =>
      if ((x129.X == VP.X) == (x129.Y == VP.Y)) then
        some 3
      else
        (JQ p0 mL2) (w64 (zFQ + 1))
    else
      some 0
def JR (N : Nat) (p0 : (List zU)) (p1 : Int) : Nat → Int → Option Int
  | 0, _ => none
  | mL1 + 1, x107 =>
    if (decide (x107 < (p0.length : Int))) then
      (idx p0 x107).bind fun WP =>
      (Ka WP p1).bind fun zGM =>
      if (!zGM) then
        some 1
      else
        (JR N p0 p1 mL1) (w64 (x107 + 1))
    else
      if (decide (2000 < (p0.length : Int))) then
        some 2
      else
        if (decide ((p0.length : Int) < 4)) then
          some 3
        else
          JQ p0 N 0
def zAF (N : Nat) (p0 : (List zU)) (p1 : Int) : Option Int :=
  JR N p0 p1 N 0

def VI : Option Int :=
  some 0
def Vb (N : Nat) (p0 : zi) (p1 : zB) (p2 : Int) : Option Int :=
  (QQ p1.Kind 1 8).bind fun y102 =>
  if (!y102) then
    some 4
  else
    (WK p1).bind fun zn =>
    if (!zn) then
      some 3
    else
      (if (p1.Kind == 3) then 
        (zBc N p0 p1.Name).bind fun Wp =>
        some (decide (Wp < 0))
       else some false).bind fun g105 =>
      if g105 then
        some 5
      else
        (Ka p1.At p0.Unit).bind fun zJ6 =>
        if (!zJ6) then
          some 1
        else
          if (p1.Kind == 7) then
            (zAF N p1.Points p0.Unit).bind fun zCn =>
            some zCn
          else
            if (p1.Kind == 8) then
              (QQ p1.NX 1 100).bind fun y115 =>
              (if (!y115) then some true else 
                (QQ p1.NY 1 100).bind fun y118 =>
                some (!y118)
              ).bind fun g117 =>
              if g117 then
                some 1
              else
                if ((p1.Steps.length : Int) == 0) then
                  some 9
                else
                  if (decide (5 ≤ p2)) then
                    some 2
                  else
                    VI
            else
              VI

def JJ (N : Nat) (p0 : zi) (p1 : (List zB)) (p2 : Int) (rec : zi → (List zB) → Int → Option Int) : Nat → Int → Option Int
  | 0, _ => none
  | mL1 + 1, zAh =>
    if (decide (zAh < (p1.length : Int))) then
      (idx p1 zAh).bind fun x117 =>
      (Vb N p0 x117 p2).bind fun KW =>
      if (KW != 0) then
        some KW
      else
        (idx p1 zAh).bind fun x120 =>
        (rec p0 x120.Steps (w64 (p2 + 1))).bind fun y122 =>
        if (y122 != 0) then
          some y122
        else
          (JJ N p0 p1 p2 rec mL1) (w64 (zAh + 1))
    else
      some 0
def zBk (N : Nat) (rec : zi → (List zB) → Int → Option Int) (p0 : zi) (p1 : (List zB)) (p2 : Int) : Option Int :=
  JJ N p0 p1 p2 rec N 0
def Jg : Nat → zi → (List zB) → Int → Option Int
  | 0 => fun _ _ _ => none
  | N + 1 => zBk N (Jg N)

def Qw (N : Nat) (p0 : zi) : Nat → Int → Option Int
  | 0, _ => none
  | mL1 + 1, zJ8 =>
    if (decide (zJ8 < (p0.Tools.length : Int))) then
      (idx p0.Tools zJ8).bind fun zEy =>
      (zA0 N zEy.Name).bind fun y129 =>
      if (!y129) then
        some 5
      else
        (Ki N zEy.Rects p0.Unit).bind fun y130 =>
        if (y130 != 0) then
          some y130
        else
          (if (decide (0 < zJ8)) then 
            (idx p0.Tools (w64 (zJ8 - 1))).bind fun zA5 =>
            some (sLt zEy.Name zA5.Name || sEq zEy.Name zA5.Name)
           else some false).bind fun g133 =>
          if g133 then
            some 8
          else
            (Qw N p0 mL1) (w64 (zJ8 + 1))
    else
      (Kg N p0.Steps).bind fun y136 =>
      if (decide (3000 < y136)) then
        some 2
      else
        (Jg N p0 p0.Steps 0).bind fun y137 =>
        some y137
def Vd (N : Nat) (p0 : zi) : Option Int :=
  (QQ p0.Unit 1 1000).bind fun y101 =>
  if (!y101) then
    some 1
  else
    if (decide (200 < (p0.Tools.length : Int))) then
      some 2
    else
      Qw N p0 N 0

def zAg (N : Nat) (y102 : zw) (zHU : Int) (x215 : Int) (l216 : List zS) : Option (zi × Int × Int) :=
  (Vx N (zw.mk y102.lines y102.ends x215 y102.bad) false).bind fun y219 =>
  if y219.2.2 then
    some ((zi.mk 0 [] []), (w64 (y219.2.1 + 1)), 10)
  else
    (Vd N (zi.mk zHU l216 y219.1)).bind fun y222 =>
    if (y222 != 0) then
      some ((zi.mk 0 [] []), 0, y222)
    else
      some ((zi.mk zHU l216 y219.1), 0, 0)
def zAe (x295 : Int) (l296 : List zS) (kL8 : Int → (List zS) → Option (zi × Int × Int)) (zIE : (ByteArray × ByteArray × (List Int) × Bool)) : Nat → List JO → Int → Option (zi × Int × Int)
  | 0, _, _ => none
  | mL9 + 1, l318, x319 =>
    if (decide (x319 < (zIE.2.2.1.length : Int))) then
      (idx zIE.2.2.1 x319).bind fun x321 =>
      (idx zIE.2.2.1 (w64 (x319 + 1))).bind fun x322 =>
      (idx zIE.2.2.1 (w64 (x319 + 2))).bind fun x323 =>
      (idx zIE.2.2.1 (w64 (x319 + 3))).bind fun x324 =>
      (apd l318 [(JO.mk x321 x322 x323 x324)]).bind fun l325 =>
      (zAe x295 l296 kL8 zIE mL9) l325 (w64 (x319 + 4))
    else
      (apd l296 [(zS.mk zIE.2.1 l318)]).bind fun l329 =>
      kL8 (w64 (x295 + 1)) l329
def zAf (N : Nat) (y102 : zw) (zHU : Int) : Nat → Int → List zS → Option (zi × Int × Int)
  | 0, _, _ => none
  | mL8 + 1, x295, l296 =>
    if (decide (x295 < (y102.lines.length : Int))) then
      (VH N (zw.mk y102.lines y102.ends x295 y102.bad)).bind fun zIE =>
      if ((!zIE.2.2.2) || (!sEq zIE.1 (⟨#[116, 111, 111, 108]⟩))) then
        zAg N y102 zHU x295 l296
      else
        zAe x295 l296 (zAf N y102 zHU mL8) zIE N ([] : List JO) 0
    else
      zAg N y102 zHU x295 l296
def F_etchhouseref3_Read (N : Nat) (p0 : ByteArray) : Option (zi × Int × Int) :=
  if (decide (200000 < (p0.size : Int))) then
    some ((zi.mk 0 [] []), 0, 2)
  else
    (zEP N p0).bind fun y102 =>
    if ((y102.lines.length : Int) == 0) then
      some ((zi.mk 0 [] []), 1, 10)
    else
      (VH N y102).bind fun y104 =>
      if ((!y104.2.2.2) || (!sEq y104.1 (⟨#[117, 110, 105, 116]⟩))) then
        some ((zi.mk 0 [] []), 1, 10)
      else
        (idx y104.2.2.1 0).bind fun zHU =>
        zAf N y102 zHU N (w64 (y102.at_ + 1)) ([] : List zS)

end Go.Proofs.YtokanbmnoghafaaGreatDoor
