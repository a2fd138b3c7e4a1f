/- The plain functions: what each function of the program computes; none where it would panic. -/
import Derived.Test.YtoageaoknnnfbaaGreatDoorXT
namespace Go.Proofs.YtoageaoknnnfbaaGreatDoor
open Go.RowKit

def Jp (p0 : Int) (p1 : Int) (p2 : Int) : Option Bool :=
  some ((decide (p1 ≤ p0)) && (decide (p0 ≤ p2)))

def Ve (p0 : ByteArray) : Nat → Int → Option Bool
  | 0, _ => none
  | mL1 + 1, x105 =>
    if (decide (x105 < (p0.size : Int))) then
      (strAt p0 x105).bind fun c106 =>
      if ((!(((decide (97 ≤ c106)) && (decide (c106 ≤ 122))) || ((decide (65 ≤ c106)) && (decide (c106 ≤ 90))))) && ((x105 == 0) || ((((decide (c106 < 48)) || (decide (57 < c106))) && (c106 != 95)) && (c106 != 45)))) then
        some false
      else
        (Ve p0 mL1) (w64 (x105 + 1))
    else
      some ((decide (1 ≤ (p0.size : Int))) && (decide ((p0.size : Int) ≤ 40)))
def Vk (N : Nat) (p0 : ByteArray) : Option Bool :=
  Ve p0 N 0


def WW (p0 : Int) (p1 : Int) : Option Bool :=
  (dv (-1000000) p1).bind fun q100 =>
  (dv 1000000 p1).bind fun q101 =>
  (Jp p0 q100 q101).bind fun y102 =>
  some y102

def KC (p1 : Int) : List zT → Nat → Option Int
  | [], iL1 =>
    some 0
  | xL1 :: QF, iL1 =>
    (WW xL1.X0 p1).bind fun zD7 =>
    (if (!zD7) then some true else 
      (WW xL1.Y0 p1).bind fun y119 =>
      some (!y119)
    ).bind fun g118 =>
    (if g118 then some true else 
      (WW xL1.X1 p1).bind fun KH =>
      some (!KH)
    ).bind fun g121 =>
    (if g121 then some true else 
      (WW xL1.Y1 p1).bind fun y125 =>
      some (!y125)
    ).bind fun g124 =>
    if g124 then
      some 1
    else
      if ((decide (xL1.X1 ≤ xL1.X0)) || (decide (xL1.Y1 ≤ xL1.Y0))) then
        some 13
      else
        (KC p1 QF (iL1 + 1))
def zAu (N : Nat) (p0 : zS) (p1 : Int) : Option Int :=
  (Vk N p0.Name).bind fun y101 =>
  if (!y101) then
    some 5
  else
    if ((p0.Rects.length : Int) == 0) then
      some 9
    else
      if (decide (2000 < (p0.Rects.length : Int))) then
        some 2
      else
        KC p1 p0.Rects 0


def Wl (p0 : Int) : Option Int :=
  (Jp p0 1 100).bind fun QT =>
  if QT then
    some p0
  else
    some 1


def zDB (p0 : zD) : Option Int :=
  (Wl p0.NX).bind fun y101 =>
  (Wl p0.NY).bind fun y102 =>
  some (w64 (y101 * y102))

def WG (kL3 : Int → Option Int) (Wy : Int) : Option Int :=
  if (decide (3000 < Wy)) then
    some 3001
  else
    kL3 Wy
def JH (rec : (List zD) → Option Int) : List zD → Nat → Int → Option Int
  | [], iL3, x126 =>
    some x126
  | xL3 :: Qh, iL3, x126 =>
    if (decide (0 < (xL3.Steps.length : Int))) then
      (zDB xL3).bind fun y134 =>
      (rec xL3.Steps).bind fun y135 =>
      WG (JH rec Qh (iL3 + 1)) (w64 ((w64 (x126 + 1)) + (w64 (y134 * y135))))
    else
      WG (JH rec Qh (iL3 + 1)) (w64 (x126 + 1))
def zFO (N : Nat) (rec : (List zD) → Option Int) (p0 : (List zD)) : Option Int :=
  JH rec p0 0 0
def zB8 : Nat → (List zD) → Option Int
  | 0 => fun _ => none
  | N + 1 => zFO N (zB8 N)

def Kz (p0 : Int) (x101 : Bool) : Option zDf :=
  if x101 then
    some (zDf.mk false true false false)
  else
    if (p0 == 7) then
      some (zDf.mk false false true false)
    else
      if (p0 == 8) then
        some (zDf.mk false true false true)
      else
        some (zDf.mk false false false false)
def zBO (p0 : Int) : Option zDf :=
  if (p0 == 3) then
    some (zDf.mk true false false false)
  else
    if (p0 == 4) then
      Kz p0 (p0 == 4)
    else
      if (p0 == 5) then
        Kz p0 (p0 == 5)
      else
        Kz p0 (p0 == 6)


def zCd (p0 : zS) (q0 : ByteArray) : Option Bool :=
  some (sEq p0.Name q0)

def zw (q0 : ByteArray) : List zS → Nat → Option Int
  | [], iL1 =>
    some (-1)
  | xL1 :: QF, iL1 =>
    (zCd xL1 q0).bind fun zBf =>
    if zBf then
      some (iL1 : Int)
    else
      (zw q0 QF (iL1 + 1))
def Jf (p0 : (List zS)) (q0 : ByteArray) : Option Int :=
  zw q0 p0 0


def zBT (p0 : zt) (p1 : ByteArray) : Option Int :=
  (Jf p0.Tools p1).bind fun y102 =>
  some y102


def zAs (p0 : zI) (p1 : Int) : Option Bool :=
  (WW p0.X p1).bind fun y101 =>
  (if y101 then 
    (WW p0.Y p1).bind fun y104 =>
    some y104
   else some false).bind fun zFT =>
  some zFT


def KN (p0 : zI) (q0 : zt) : Option Bool :=
  (zAs p0 q0.Unit).bind fun y101 =>
  some (!y101)

def zAD (p1 : zI → Option Bool) : List zI → Nat → Option Int
  | [], iL1 =>
    some (-1)
  | xL1 :: QF, iL1 =>
    (p1 xL1).bind fun QJ =>
    if QJ then
      some (iL1 : Int)
    else
      (zAD p1 QF (iL1 + 1))
def Kq (p0 : (List zI)) (p1 : zI → Option Bool) : Option Int :=
  zAD p1 p0 0


def Qr (p0 : (List zI)) (p1 : zI → Option Bool) : Option Bool :=
  (Kq p0 p1).bind fun QT =>
  some (decide (0 ≤ QT))

def VC (p0 : (List zI)) : List zI → Nat → Option Bool
  | [], iL1 =>
    some true
  | xL1 :: QF, iL1 =>
    (md (w64 ((iL1 : Int) + 1)) (p0.length : Int)).bind fun q107 =>
    (idx p0 q107).bind fun zAy =>
    if ((xL1.X == zAy.X) == (xL1.Y == zAy.Y)) then
      some false
    else
      (VC p0 QF (iL1 + 1))
def zCU (p0 : (List zI)) : Option Bool :=
  if (decide ((p0.length : Int) < 4)) then
    some false
  else
    VC p0 p0 0

def zAP (p0 : zt) (p1 : zD) (p2 : Int) (QJ : zDf) (x105 : Bool) : Option Int :=
  if x105 then
    some 3
  else
    (if QJ.name then 
      (zBT p0 p1.Name).bind fun zBj =>
      some (decide (zBj < 0))
     else some false).bind fun g109 =>
    if g109 then
      some 5
    else
      (zAs p1.At p0.Unit).bind fun VF =>
      (if (!VF) then some true else 
        (Qr p1.Points (fun z0 => KN z0 p0)).bind fun y114 =>
        some y114
      ).bind fun g113 =>
      if g113 then
        some 1
      else
        if (decide (2000 < (p1.Points.length : Int))) then
          some 2
        else
          (if QJ.points then 
            (zCU p1.Points).bind fun y117 =>
            some (!y117)
           else some false).bind fun g116 =>
          if g116 then
            some 3
          else
            if (!QJ.repeat_) then
              some 0
            else
              (Jp p1.NX 1 100).bind fun y118 =>
              (if (!y118) then some true else 
                (Jp p1.NY 1 100).bind fun zHg =>
                some (!zHg)
              ).bind fun g120 =>
              if g120 then
                some 1
              else
                if ((p1.Steps.length : Int) == 0) then
                  some 9
                else
                  if (decide (5 ≤ p2)) then
                    some 2
                  else
                    some 0
def zAv (p0 : zt) (p1 : zD) (p2 : Int) : Option Int :=
  (Jp p1.Kind 1 8).bind fun y102 =>
  if (!y102) then
    some 4
  else
    (zBO p1.Kind).bind fun QJ =>
    if ((!QJ.name) && (!sEq p1.Name ByteArray.empty)) then
      zAP p0 p1 p2 QJ ((!QJ.name) && (!sEq p1.Name ByteArray.empty))
    else
      if ((!QJ.at_) && (!(KD p1.At (zI.mk 0 0)))) then
        zAP p0 p1 p2 QJ ((!QJ.at_) && (!(KD p1.At (zI.mk 0 0))))
      else
        if ((!QJ.points) && (decide (0 < (p1.Points.length : Int)))) then
          zAP p0 p1 p2 QJ ((!QJ.points) && (decide (0 < (p1.Points.length : Int))))
        else
          zAP p0 p1 p2 QJ ((!QJ.repeat_) && (((p1.NX != 0) || (p1.NY != 0)) || (decide (0 < (p1.Steps.length : Int)))))

def Ju (p0 : zt) (p2 : Int) (rec : zt → (List zD) → Int → Option Int) : List zD → Nat → Option Int
  | [], iL1 =>
    some 0
  | xL1 :: QF, iL1 =>
    (zAv p0 xL1 p2).bind fun zF8 =>
    if (zF8 != 0) then
      some zF8
    else
      (rec p0 xL1.Steps (w64 (p2 + 1))).bind fun zBj =>
      if (zBj != 0) then
        some zBj
      else
        (Ju p0 p2 rec QF (iL1 + 1))
def zCK (N : Nat) (rec : zt → (List zD) → Int → Option Int) (p0 : zt) (p1 : (List zD)) (p2 : Int) : Option Int :=
  Ju p0 p2 rec p1 0
def zAa : Nat → zt → (List zD) → Int → Option Int
  | 0 => fun _ _ _ => none
  | N + 1 => zCK N (zAa N)

def Jh (N : Nat) (p0 : zt) : List zS → Nat → Option Int
  | [], iL1 =>
    (zB8 N p0.Steps).bind fun y112 =>
    if (decide (3000 < y112)) then
      some 2
    else
      (zAa N p0 p0.Steps 0).bind fun y113 =>
      some y113
  | xL1 :: QF, iL1 =>
    (zAu N xL1 p0.Unit).bind fun zD7 =>
    if (zD7 != 0) then
      some zD7
    else
      (if (decide (0 < (iL1 : Int))) then 
        (idx p0.Tools (w64 ((iL1 : Int) - 1))).bind fun x120 =>
        some (sLt xL1.Name x120.Name || sEq xL1.Name x120.Name)
       else some false).bind fun g119 =>
      if g119 then
        some 8
      else
        (Jh N p0 QF (iL1 + 1))
def Jm (N : Nat) (p0 : zt) : Option Int :=
  (Jp p0.Unit 1 1000).bind fun y101 =>
  if (!y101) then
    some 1
  else
    if (decide (200 < (p0.Tools.length : Int))) then
      some 2
    else
      Jh N p0 p0.Tools 0


def KQ (p0 : Int) (q0 : Bool) (q1 : zt) (q2 : Int) : Option (Int × Bool) :=
  (if q0 then 
    (md (w64 (p0 * q1.Unit)) q2).bind fun q102 =>
    some (q102 == 0)
   else some false).bind fun g101 =>
  (dv (w64 (p0 * q1.Unit)) q2).bind fun q103 =>
  some (q103, g101)

def zEq (N : Nat) (x : Nat) (p0 : Int) : Option Int :=
  if x = 95 then Wl p0 else
  none


def F_plot_changed_1 (N : Nat) (p0 : zI) (q0 : Nat) : Option zI :=
  (zEq N q0 p0.X).bind fun y102 =>
  (zEq N q0 p0.Y).bind fun QJ =>
  some (zI.mk y102 QJ)


def F_plot_changed_2 (N : Nat) (p0 : zT) (q0 : Nat) : Option zT :=
  (zEq N q0 p0.X0).bind fun y102 =>
  (zEq N q0 p0.Y0).bind fun QJ =>
  (zEq N q0 p0.X1).bind fun y104 =>
  (zEq N q0 p0.Y1).bind fun zBf =>
  some (zT.mk y102 QJ y104 zBf)


def KG (p0 : (List zS)) : Option (List zS) :=
  (apd ([] : List zS) p0).bind fun zJY =>
  some zJY


def KA (p0 : (List zT)) : Option (List zT) :=
  (apd ([] : List zT) p0).bind fun zJY =>
  some zJY

def zFM (p1 : zT → Option zT) (l184 : List zS) (x185 : Int) (kL3 : (List zS) → Int → Option (List zS)) (x190 : zS) : List zT → Nat → List zT → Option (List zS)
  | [], iL4, l211 =>
    kL3 ((l184).set (x185).toNat (zS.mk x190.Name l211)) (w64 (x185 + 1))
  | xL4 :: Ky, iL4, l211 =>
    (idx l211 (iL4 : Int)).bind fun x215 =>
    (idx l184 x185).bind fun x217 =>
    (p1 x215).bind fun y218 =>
    (idx l211 (iL4 : Int)).bind fun x219 =>
    (sets l211 (iL4 : Int) y218).bind fun l220 =>
    (zFM p1 l184 x185 kL3 x190 Ky (iL4 + 1)) l220
def zFN (p1 : zT → Option zT) (QT : (List zS)) : Nat → List zS → Int → Option (List zS)
  | 0, _, _ => none
  | mL3 + 1, l184, x185 =>
    if (decide (x185 < (QT.length : Int))) then
      (idx l184 x185).bind fun x186 =>
      (KA x186.Rects).bind fun y188 =>
      (idx l184 x185).bind fun x190 =>
      (idx l184 x185).bind fun x192 =>
      zFM p1 l184 x185 (zFN p1 QT mL3) x190 y188 0 y188
    else
      some l184
def F_plot_ownTools (N : Nat) (p0 : (List zS)) (p1 : zT → Option zT) : Option (List zS) :=
  (KG p0).bind fun QT =>
  zFN p1 QT N QT 0


def VA (p0 : (List zD)) : Option (List zD) :=
  (apd ([] : List zD) p0).bind fun zJY =>
  some zJY


def Vo (p0 : (List zI)) : Option (List zI) :=
  (apd ([] : List zI) p0).bind fun zJY =>
  some zJY


def KO (p0 : zT) (q1 : Bool) (q2 : zt) (q3 : Int) : Option (zT × Bool) :=
  (KQ p0.X0 q1 q2 q3).bind fun QJ =>
  (KQ p0.Y0 QJ.2 q2 q3).bind fun zBf =>
  (KQ p0.X1 zBf.2 q2 q3).bind fun JJ =>
  (KQ p0.Y1 JJ.2 q2 q3).bind fun zF8 =>
  some ((zT.mk QJ.1 zBf.1 JJ.1 zF8.1), zF8.2)

def zm (q2 : zt) (q3 : Int) (zCN : List zS) (zBM : Int) (kL3 : Bool → (List zS) → Int → Option ((List zS) × Bool)) (zFQ : zS) : List zT → Nat → Bool → List zT → Option ((List zS) × Bool)
  | [], iL4, x242, zFS =>
    kL3 x242 ((zCN).set (zBM).toNat (zS.mk zFQ.Name zFS)) (w64 (zBM + 1))
  | xL4 :: Ky, iL4, x242, zFS =>
    (idx zFS (iL4 : Int)).bind fun zA5 =>
    (idx zCN zBM).bind fun x250 =>
    (KO zA5 x242 q2 q3).bind fun zD6 =>
    (idx zFS (iL4 : Int)).bind fun x253 =>
    (sets zFS (iL4 : Int) zD6.1).bind fun l254 =>
    (zm q2 q3 zCN zBM kL3 zFQ Ky (iL4 + 1)) zD6.2 l254
def za (q2 : zt) (q3 : Int) (QT : (List zS)) : Nat → Bool → List zS → Int → Option ((List zS) × Bool)
  | 0, _, _, _ => none
  | mL3 + 1, x207, zCN, zBM =>
    if (decide (zBM < (QT.length : Int))) then
      (idx zCN zBM).bind fun x210 =>
      (KA x210.Rects).bind fun zCo =>
      (idx zCN zBM).bind fun zFQ =>
      (idx zCN zBM).bind fun x216 =>
      zm q2 q3 zCN zBM (za q2 q3 QT mL3) zFQ zCo 0 x207 zCo
    else
      some (zCN, x207)
def Qx (N : Nat) (p0 : (List zS)) (q1 : Bool) (q2 : zt) (q3 : Int) : Option ((List zS) × Bool) :=
  (KG p0).bind fun QT =>
  za q2 q3 QT N q1 QT 0


def Jl (p0 : zI) (q1 : Bool) (q2 : zt) (q3 : Int) : Option (zI × Bool) :=
  (KQ p0.X q1 q2 q3).bind fun QJ =>
  (KQ p0.Y QJ.2 q2 q3).bind fun zBf =>
  some ((zI.mk QJ.1 zBf.1), zBf.2)

def zl (q3 : zt) (q4 : Int) (y101 : (zI × Bool)) : List zI → Nat → Bool → List zI → Option (Int × Int × (List zI) × Bool)
  | [], iL1, x124, zHa =>
    some (y101.1.X, y101.1.Y, zHa, x124)
  | xL1 :: QF, iL1, x124, zHa =>
    (idx zHa (iL1 : Int)).bind fun x127 =>
    (Jl x127 x124 q3 q4).bind fun zHf =>
    (idx zHa (iL1 : Int)).bind fun x130 =>
    (sets zHa (iL1 : Int) zHf.1).bind fun l131 =>
    (zl q3 q4 y101 QF (iL1 + 1)) zHf.2 l131
def Qw (p0 : zD) (q2 : Bool) (q3 : zt) (q4 : Int) : Option (Int × Int × (List zI) × Bool) :=
  (Jl p0.At q2 q3 q4).bind fun y101 =>
  zl q3 q4 y101 p0.Points 0 y101.2 p0.Points

def zk (q3 : zt) (q4 : Int) (rec : (List zD) → Bool → zt → Int → Option ((List zD) × Bool)) (QT : (List zD)) : Nat → Bool → List zD → Int → Option ((List zD) × Bool)
  | 0, _, _, _ => none
  | mL1 + 1, x157, zBh, x159 =>
    if (decide (x159 < (QT.length : Int))) then
      (idx zBh x159).bind fun x160 =>
      (Vo x160.Points).bind fun zHU =>
      (idx zBh x159).bind fun Qn =>
      (idx zBh x159).bind fun x166 =>
      (rec Qn.Steps x157 q3 q4).bind fun y167 =>
      (idx zBh x159).bind fun x169 =>
      (idx zBh x159).bind fun zEt =>
      (Qw (zD.mk Qn.Kind Qn.Name Qn.At zHU Qn.NX Qn.NY y167.1) y167.2 q3 q4).bind fun VE =>
      (zk q3 q4 rec QT mL1) VE.2.2.2 ((zBh).set (x159).toNat (zD.mk Qn.Kind Qn.Name (zI.mk VE.1 VE.2.1) VE.2.2.1 Qn.NX Qn.NY y167.1)) (w64 (x159 + 1))
    else
      some (zBh, x157)
def zAG (N : Nat) (rec : (List zD) → Bool → zt → Int → Option ((List zD) × Bool)) (p0 : (List zD)) (q2 : Bool) (q3 : zt) (q4 : Int) : Option ((List zD) × Bool) :=
  (VA p0).bind fun QT =>
  zk q3 q4 rec QT N q2 QT 0
def zAL : Nat → (List zD) → Bool → zt → Int → Option ((List zD) × Bool)
  | 0 => fun _ _ _ _ => none
  | N + 1 => zAG N (zAL N)


def Vj (N : Nat) (p0 : zt) (q0 : Bool) (q1 : zt) (q2 : Int) : Option (zt × Bool) :=
  (Qx N p0.Tools q0 q1 q2).bind fun y104 =>
  (zAL N p0.Steps y104.2 q1 q2).bind fun VU =>
  some ((zt.mk p0.Unit y104.1 VU.1), VU.2)


def zCV (N : Nat) (p0 : zt) (p1 : Int) : Option (zt × Bool) :=
  (Vj N p0 true p0 p1).bind fun y104 =>
  some ((zt.mk p1 y104.1.Tools y104.1.Steps), y104.2)


def zFo (N : Nat) (p0 : zt) : Option (zt × Int) :=
  (Jm N p0).bind fun y102 =>
  if (y102 != 0) then
    some ((zt.mk 0 [] []), y102)
  else
    some (p0, 0)


def zAc (N : Nat) (p0 : zt) (p1 : Int) : Option (zt × Bool × Int) :=
  (Jm N p0).bind fun y102 =>
  if (y102 != 0) then
    some ((zt.mk 0 [] []), false, y102)
  else
    (Jp p1 1 1000).bind fun QJ =>
    if (!QJ) then
      some ((zt.mk 0 [] []), false, 1)
    else
      (zCV N p0 p1).bind fun y104 =>
      if (!y104.2) then
        some ((zt.mk 0 [] []), false, 0)
      else
        (zFo N y104.1).bind fun VF =>
        some (VF.1, (VF.2 == 0), VF.2)



def Wh : List zI → Nat → ByteArray → Option ByteArray
  | [], iL1, zEP =>
    some zEP
  | xL1 :: QF, iL1, zEP =>
    (zKA xL1.X).bind fun y124 =>
    (zFU (⟨#[32]⟩) y124).bind fun t125 =>
    (zFU t125 (⟨#[32]⟩)).bind fun t126 =>
    (zKA xL1.Y).bind fun zHV =>
    (zFU t126 zHV).bind fun t128 =>
    (zFU zEP t128).bind fun t129 =>
    (Wh QF (iL1 + 1)) t129
def WV (p0 : (List zI)) : Option ByteArray :=
  Wh p0 0 ByteArray.empty

def zAE (rec : ByteArray → (List zD) → Option ByteArray) : List zD → Nat → ByteArray → Option ByteArray
  | [], iL1, m194 =>
    some m194
  | xL1 :: QF, iL1, m194 =>
    if (xL1.Kind == 1) then
      (sbW m194 (⟨#[100, 97, 114, 107, 10]⟩)).bind fun y197 =>
      (zAE rec QF (iL1 + 1)) y197
    else
      if (xL1.Kind == 2) then
        (sbW m194 (⟨#[99, 108, 101, 97, 114, 10]⟩)).bind fun y199 =>
        (zAE rec QF (iL1 + 1)) y199
      else
        if (xL1.Kind == 3) then
          (zFU (⟨#[117, 115, 101, 32]⟩) xL1.Name).bind fun t201 =>
          (zFU t201 (⟨#[10]⟩)).bind fun t202 =>
          (sbW m194 t202).bind fun y203 =>
          (zAE rec QF (iL1 + 1)) y203
        else
          if (xL1.Kind == 4) then
            (WV [xL1.At]).bind fun y206 =>
            (zFU (⟨#[109, 111, 118, 101]⟩) y206).bind fun t207 =>
            (zFU t207 (⟨#[10]⟩)).bind fun t208 =>
            (sbW m194 t208).bind fun zKp =>
            (zAE rec QF (iL1 + 1)) zKp
          else
            if (xL1.Kind == 5) then
              (WV [xL1.At]).bind fun zCo =>
              (zFU (⟨#[102, 108, 97, 115, 104]⟩) zCo).bind fun t213 =>
              (zFU t213 (⟨#[10]⟩)).bind fun t214 =>
              (sbW m194 t214).bind fun y215 =>
              (zAE rec QF (iL1 + 1)) y215
            else
              if (xL1.Kind == 6) then
                (WV [xL1.At]).bind fun y218 =>
                (zFU (⟨#[108, 105, 110, 101]⟩) y218).bind fun t219 =>
                (zFU t219 (⟨#[10]⟩)).bind fun t220 =>
                (sbW m194 t220).bind fun y221 =>
                (zAE rec QF (iL1 + 1)) y221
              else
                if (xL1.Kind == 7) then
                  (WV xL1.Points).bind fun y223 =>
                  (zFU (⟨#[97, 114, 101, 97]⟩) y223).bind fun t224 =>
                  (zFU t224 (⟨#[10]⟩)).bind fun t225 =>
                  (sbW m194 t225).bind fun y226 =>
                  (zAE rec QF (iL1 + 1)) y226
                else
                  if (xL1.Kind == 8) then
                    (WV [(zI.mk xL1.NX xL1.NY), xL1.At]).bind fun y229 =>
                    (zFU (⟨#[114, 101, 112, 101, 97, 116]⟩) y229).bind fun t230 =>
                    (zFU t230 (⟨#[10]⟩)).bind fun t231 =>
                    (sbW m194 t231).bind fun y232 =>
                    (rec y232 xL1.Steps).bind fun y234 =>
                    (sbW y234 (⟨#[100, 111, 110, 101, 10]⟩)).bind fun y236 =>
                    (zAE rec QF (iL1 + 1)) y236
                  else
                    (zAE rec QF (iL1 + 1)) m194
def zCJ (N : Nat) (rec : ByteArray → (List zD) → Option ByteArray) (p0 : ByteArray) (p1 : (List zD)) : Option ByteArray :=
  zAE rec p1 0 p0
def zBc : Nat → ByteArray → (List zD) → Option ByteArray
  | 0 => fun _ _ => none
  | N + 1 => zCJ N (zBc N)



def zAw (kL3 : ByteArray → Option (ByteArray × Int)) : List zT → Nat → ByteArray → Option (ByteArray × Int)
  | [], iL4, m208 =>
    (sbW m208 (⟨#[10]⟩)).bind fun zKp =>
    kL3 zKp
  | xL4 :: Ky, iL4, m208 =>
    (WV [(zI.mk xL4.X0 xL4.Y0), (zI.mk xL4.X1 xL4.Y1)]).bind fun y213 =>
    (sbW m208 y213).bind fun y214 =>
    (zAw kL3 Ky (iL4 + 1)) y214
def Vr (N : Nat) (p0 : zt) : List zS → Nat → ByteArray → Option (ByteArray × Int)
  | [], iL3, m178 =>
    (zBc N m178 p0.Steps).bind fun y179 =>
    (sbL y179).bind fun y181 =>
    if (decide (200000 < y181.1)) then
      some (ByteArray.empty, 2)
    else
      (sbS y181.2).bind fun zEr =>
      some (zEr.1, 0)
  | xL3 :: Qh, iL3, m178 =>
    (zFU (⟨#[116, 111, 111, 108, 32]⟩) xL3.Name).bind fun t187 =>
    (sbW m178 t187).bind fun y188 =>
    zAw (Vr N p0 Qh (iL3 + 1)) xL3.Rects 0 y188
def zD1 (N : Nat) (p0 : zt) : Option (ByteArray × Int) :=
  (Jm N p0).bind fun y101 =>
  if (y101 != 0) then
    some (ByteArray.empty, y101)
  else
    (zKA p0.Unit).bind fun QJ =>
    (zFU (⟨#[117, 110, 105, 116, 32]⟩) QJ).bind fun t104 =>
    (zFU t104 (⟨#[10]⟩)).bind fun t105 =>
    (sbW ByteArray.empty t105).bind fun VU =>
    Vr N p0 p0.Tools 0 VU


def Kn (N : Nat)  : Option Bool :=
  (zD1 N (zt.mk 7 [] [])).bind fun QT =>
  some ((QT.2 == 0) && (sEq QT.1 (⟨#[117, 110, 105, 116, 32, 55, 10]⟩)))

def zAM (p0 : (List zI)) (p1 : (List zI)) : Nat → Int → Option Bool
  | 0, _ => none
  | mL1 + 1, x107 =>
    if (decide (x107 < (p0.length : Int))) then
      (idx p0 x107).bind fun zAy =>
      (idx p1 x107).bind fun zEQ =>
      if (!(KD zAy zEQ)) then
        some false
      else
        (zAM p0 p1 mL1) (w64 (x107 + 1))
    else
      some true
def KP (N : Nat) (p0 : (List zI)) (p1 : (List zI)) : Option Bool :=
  if ((p0.length : Int) != (p1.length : Int)) then
    some false
  else
    zAM p0 p1 N 0

def zAN (N : Nat) (p0 : (List zD)) (p1 : (List zD)) (rec : (List zD) → (List zD) → Option Bool) : Nat → Int → Option Bool
  | 0, _ => none
  | mL1 + 1, Wy =>
    if (decide (Wy < (p0.length : Int))) then
      (idx p0 Wy).bind fun QI =>
      (idx p1 Wy).bind fun QK =>
      (if (((((QI.Kind != QK.Kind) || (!sEq QI.Name QK.Name)) || (!(KD QI.At QK.At))) || (QI.NX != QK.NX)) || (QI.NY != QK.NY)) then some true else 
        (KP N QI.Points QK.Points).bind fun y141 =>
        some (!y141)
      ).bind fun g140 =>
      (if g140 then some true else 
        (rec QI.Steps QK.Steps).bind fun y144 =>
        some (!y144)
      ).bind fun g143 =>
      if g143 then
        some false
      else
        (zAN N p0 p1 rec mL1) (w64 (Wy + 1))
    else
      some true
def KE (N : Nat) (rec : (List zD) → (List zD) → Option Bool) (p0 : (List zD)) (p1 : (List zD)) : Option Bool :=
  if ((p0.length : Int) != (p1.length : Int)) then
    some false
  else
    zAN N p0 p1 rec N 0
def Ke : Nat → (List zD) → (List zD) → Option Bool
  | 0 => fun _ _ => none
  | N + 1 => KE N (Ke N)

def zAO (p0 : (List zT)) (p1 : (List zT)) : Nat → Int → Option Bool
  | 0, _ => none
  | mL1 + 1, x107 =>
    if (decide (x107 < (p0.length : Int))) then
      (idx p0 x107).bind fun zAy =>
      (idx p1 x107).bind fun zEQ =>
      if (!(zEW zAy zEQ)) then
        some false
      else
        (zAO p0 p1 mL1) (w64 (x107 + 1))
    else
      some true
def Kg (N : Nat) (p0 : (List zT)) (p1 : (List zT)) : Option Bool :=
  if ((p0.length : Int) != (p1.length : Int)) then
    some false
  else
    zAO p0 p1 N 0

def Qs (N : Nat) (p0 : zt) (p1 : zt) : Nat → Int → Option Bool
  | 0, _ => none
  | mL1 + 1, zGA =>
    if (decide (zGA < (p0.Tools.length : Int))) then
      (idx p0.Tools zGA).bind fun zGe =>
      (idx p1.Tools zGA).bind fun x141 =>
      (if (!sEq zGe.Name x141.Name) then some true else 
        (idx p0.Tools zGA).bind fun x149 =>
        (idx p1.Tools zGA).bind fun x151 =>
        (Kg N x149.Rects x151.Rects).bind fun y153 =>
        some (!y153)
      ).bind fun g148 =>
      if g148 then
        some false
      else
        (Qs N p0 p1 mL1) (w64 (zGA + 1))
    else
      some true
def Jc (N : Nat) (p0 : zt) (p1 : zt) : Option Bool :=
  (if ((p0.Unit != p1.Unit) || ((p0.Tools.length : Int) != (p1.Tools.length : Int))) then some true else 
    (Ke N p0.Steps p1.Steps).bind fun y104 =>
    some (!y104)
  ).bind fun zFT =>
  if zFT then
    some false
  else
    Qs N p0 p1 N 0



def Ww (p0 : zT) (p1 : zT) : Option Int :=
  some (w64 (p0.Y0 - p1.Y0))




def Wv (p0 : zT) (q0 : (List Int)) (q1 : Int) : Option Bool :=
  (idx q0 q1).bind fun x101 =>
  some (decide (p0.Y1 ≤ x101))

def Qu (p1 : zT → Option Bool) : List zT → Nat → Option Int
  | [], iL1 =>
    some (-1)
  | xL1 :: QF, iL1 =>
    (p1 xL1).bind fun QJ =>
    if QJ then
      some (iL1 : Int)
    else
      (Qu p1 QF (iL1 + 1))
def Vx (p0 : (List zT)) (p1 : zT → Option Bool) : Option Int :=
  Qu p1 p0 0

def zAH (p1 : zT → Option Bool) : Nat → List zT → Int → Int → Option (List zT)
  | 0, _, _, _ => none
  | mL1 + 1, zDr, zEu, zEP =>
    if (decide (zEP < (zDr.length : Int))) then
      (idx zDr zEP).bind fun Vl =>
      (p1 Vl).bind fun y125 =>
      if (!y125) then
        (idx zDr zEu).bind fun x126 =>
        (sets zDr zEu Vl).bind fun l127 =>
        (zAH p1 mL1) l127 (w64 (zEu + 1)) (w64 (zEP + 1))
      else
        (zAH p1 mL1) zDr zEu (w64 (zEP + 1))
    else
      (cut zDr zEu (zDr.length : Int)).bind fun zBo =>
      (pre (clr zDr zEu (zBo).length (zT.mk 0 0 0 0)) zEu).bind fun l129 =>
      some l129
def Kr (N : Nat) (p0 : (List zT)) (p1 : zT → Option Bool) : Option (List zT) :=
  (Vx p0 p1).bind fun QT =>
  if (QT == (-1)) then
    some p0
  else
    zAH p1 N p0 QT (w64 (QT + 1))


def VN (p0 : zT) (p1 : zT) : Option Int :=
  some (w64 (p0.X0 - p1.X0))

def JC (QT : (List zT)) : List zT → Nat → List Int → Option ((List Int) × (List zT))
  | [], iL1, zBo =>
    some (zBo, QT)
  | xL1 :: QF, iL1, zBo =>
    (if (decide (0 ≤ (w64 ((zBo.length : Int) - 1)))) then 
      (idx zBo (w64 ((zBo.length : Int) - 1))).bind fun x132 =>
      some (decide (xL1.X0 ≤ x132))
     else some false).bind fun g131 =>
    if g131 then
      (idx zBo (w64 ((zBo.length : Int) - 1))).bind fun QI =>
      (idx zBo (w64 ((zBo.length : Int) - 1))).bind fun zGB =>
      (sets zBo (w64 ((zBo.length : Int) - 1)) (max QI xL1.X1)).bind fun l135 =>
      (JC QT QF (iL1 + 1)) l135
    else
      (apd zBo [xL1.X0, xL1.X1]).bind fun l137 =>
      (JC QT QF (iL1 + 1)) l137
noncomputable def zAU (p0 : (List zT)) : Option ((List Int) × (List zT)) :=
  (srtF p0 (fun z0 z1 => VN z0 z1)).bind fun QT =>
  JC QT QT 0 ([] : List Int)

def JK (p1 : (List Int)) : List Int → Nat → Option Bool
  | [], iL1 =>
    some true
  | xL1 :: QF, iL1 =>
    (idx p1 (iL1 : Int)).bind fun x103 =>
    if (xL1 != x103) then
      some false
    else
      (JK p1 QF (iL1 + 1))
def Wj (p0 : (List Int)) (p1 : (List Int)) : Option Bool :=
  if ((p0.length : Int) != (p1.length : Int)) then
    some false
  else
    JK p1 p0 0


def JG (p0 : (List zV)) (p1 : zV) : Option (List zV) :=
  if (((p1.Xs.length : Int) == 0) || (decide (p1.Y1 ≤ p1.Y0))) then
    some p0
  else
    (if (decide (0 ≤ (w64 ((p0.length : Int) - 1)))) then 
      (idx p0 (w64 ((p0.length : Int) - 1))).bind fun x103 =>
      some (x103.Y1 == p1.Y0)
     else some false).bind fun g102 =>
    (if g102 then 
      (idx p0 (w64 ((p0.length : Int) - 1))).bind fun zAy =>
      (Wj zAy.Xs p1.Xs).bind fun zBj =>
      some zBj
     else some false).bind fun g107 =>
    if g107 then
      (idx p0 (w64 ((p0.length : Int) - 1))).bind fun x111 =>
      (sets p0 (w64 ((p0.length : Int) - 1)) (zV.mk x111.Y0 p1.Y1 x111.Xs)).bind fun l112 =>
      some l112
    else
      (apd p0 [p1]).bind fun l114 =>
      some l114

noncomputable def KY (y102 : (List zT)) (KH : (List Int)) (zA6 : Int) (VW : List zV) (kL4 : Int → (List zV) → (List zT) → Int → Option (List zV)) : Nat → List zT → Int → Option (List zV)
  | 0, _, _ => none
  | mL5 + 1, zF0, zKr =>
    (if (decide (zKr < (y102.length : Int))) then 
      (idx y102 zKr).bind fun x262 =>
      (idx KH zA6).bind fun x263 =>
      some (decide (x262.Y0 ≤ x263))
     else some false).bind fun g261 =>
    if g261 then
      (idx y102 zKr).bind fun zEs =>
      (apd zF0 [zEs]).bind fun l266 =>
      (KY y102 KH zA6 VW kL4 mL5) l266 (w64 (zKr + 1))
    else
      (idx KH zA6).bind fun x268 =>
      (idx KH (w64 (zA6 + 1))).bind fun x269 =>
      (zAU zF0).bind fun zD5 =>
      (JG VW (zV.mk x268 x269 zD5.1)).bind fun y274 =>
      kL4 (w64 (zA6 + 1)) y274 zD5.2 zKr
noncomputable def Qv (N : Nat) (y102 : (List zT)) (KH : (List Int)) : Nat → Int → List zV → List zT → Int → Option (List zV)
  | 0, _, _, _, _ => none
  | mL4 + 1, zA6, VW, WZ, x232 =>
    if (decide ((w64 (zA6 + 1)) < (KH.length : Int))) then
      (Kr N WZ (fun z0 => Wv z0 KH zA6)).bind fun y233 =>
      KY y102 KH zA6 VW (Qv N y102 KH mL4) N y233 x232
    else
      some VW
noncomputable def KZ (N : Nat) (y102 : (List zT)) : List zT → Nat → List Int → Option (List zV)
  | [], iL1, zJW =>
    (srtI zJW).bind fun zDL =>
    (cpI zDL).bind fun KH =>
    Qv N y102 KH N 0 ([] : List zV) ([] : List zT) 0
  | xL1 :: QF, iL1, zJW =>
    (apd zJW [xL1.Y0, xL1.Y1]).bind fun l279 =>
    (KZ N y102 QF (iL1 + 1)) l279
noncomputable def zBR (N : Nat) (p0 : (List zT)) : Option (List zV) :=
  (KA p0).bind fun QT =>
  (srtF QT (fun z0 z1 => Ww z0 z1)).bind fun y102 =>
  KZ N y102 y102 0 ([] : List Int)

noncomputable def Ja (N : Nat) (p0 : zt) (zF2 : List (List zV)) (kL3 : (List (List zV)) → Option zAA) : List zT → Nat → List zT → Option zAA
  | [], iL4, l181 =>
    (zBR N l181).bind fun zEr =>
    (apd zF2 [zEr]).bind fun zF1 =>
    kL3 zF1
  | xL4 :: Ky, iL4, l181 =>
    (apd l181 [(zT.mk (w64 (xL4.X0 * p0.Unit)) (w64 (xL4.Y0 * p0.Unit)) (w64 (xL4.X1 * p0.Unit)) (w64 (xL4.Y1 * p0.Unit)))]).bind fun l191 =>
    (Ja N p0 zF2 kL3 Ky (iL4 + 1)) l191
noncomputable def zAQ (N : Nat) (p0 : zt) : List zS → Nat → List (List zV) → Option zAA
  | [], iL3, zF2 =>
    some (zAA.mk p0 zF2 [] false (-1) (zI.mk 0 0) false 0 0)
  | xL3 :: Qh, iL3, zF2 =>
    Ja N p0 zF2 (zAQ N p0 Qh (iL3 + 1)) xL3.Rects 0 ([] : List zT)
noncomputable def zAZ (N : Nat) (p0 : zt) : Option zAA :=
  zAQ N p0 p0.Tools 0 ([] : List (List zV))


def VX (p0 : zAA) (p1 : zI) (p2 : zI) : Option zI :=
  some (zI.mk (w64 ((w64 (p1.X * p0.p.Unit)) + p2.X)) (w64 ((w64 (p1.Y * p0.p.Unit)) + p2.Y)))


def zBu (p0 : Int) (p1 : Int) (p2 : Int) : Option Bool :=
  some ((decide (p1 ≤ p0)) && (decide (p0 ≤ p2)))


def Vi (p0 : Int) : Option Bool :=
  (zBu p0 (-1000000) 1000000).bind fun QT =>
  some QT


def WF (p0 : zI) : Option Bool :=
  (Vi p0.X).bind fun y101 =>
  (if y101 then 
    (Vi p0.Y).bind fun y104 =>
    some y104
   else some false).bind fun zFT =>
  some zFT


def zHB (p0 : zI) (p1 : zI) : Option Int :=
  some (w64 ((max (w64 (p0.X - p1.X)) (w64 (p1.X - p0.X))) + (max (w64 (p0.Y - p1.Y)) (w64 (p1.Y - p0.Y)))))

def JL (kL3 : (List zT) → Option (List zT)) (xL3 : zV) : Nat → List zT → Int → Option (List zT)
  | 0, _, _ => none
  | mL4 + 1, l169, zEt =>
    if (decide (zEt < (xL3.Xs.length : Int))) then
      (idx xL3.Xs zEt).bind fun zIy =>
      (idx xL3.Xs (w64 (zEt + 1))).bind fun zIx =>
      (apd l169 [(zT.mk zIy xL3.Y0 zIx xL3.Y1)]).bind fun l174 =>
      (JL kL3 xL3 mL4) l174 (w64 (zEt + 2))
    else
      kL3 l169
def zAK (N : Nat) : List zV → Nat → List zT → Option (List zT)
  | [], iL3, zB2 =>
    some zB2
  | xL3 :: Qh, iL3, zB2 =>
    JL (zAK N Qh (iL3 + 1)) xL3 N zB2 0
def Va (N : Nat) (p0 : (List zV)) : Option (List zT) :=
  zAK N p0 0 ([] : List zT)

noncomputable def JU (N : Nat) (p1 : Int) (p2 : Int) (p3 : Int) (p4 : Int) (QT : (List zT)) : Nat → List zT → Int → Option (List zV)
  | 0, _, _ => none
  | mL1 + 1, l116, zJJ =>
    if (decide (zJJ < (QT.length : Int))) then
      (idx l116 zJJ).bind fun KS =>
      (idx l116 zJJ).bind fun x120 =>
      (sets l116 zJJ (zT.mk (w64 (KS.X0 - p1)) (w64 (KS.Y0 - p3)) (w64 (KS.X1 + p2)) (w64 (KS.Y1 + p4)))).bind fun l121 =>
      (JU N p1 p2 p3 p4 QT mL1) l121 (w64 (zJJ + 1))
    else
      (zBR N l116).bind fun KH =>
      some KH
noncomputable def WM (N : Nat) (p0 : (List zV)) (p1 : Int) (p2 : Int) (p3 : Int) (p4 : Int) : Option (List zV) :=
  (Va N p0).bind fun QT =>
  JU N p1 p2 p3 p4 QT N QT 0


noncomputable def zBG (N : Nat) (p0 : (List zV)) (p1 : zI) (p2 : zI) : Option (List zV) :=
  (WM N p0 (w64 (0 - (min p1.X p2.X))) (max p1.X p2.X) (w64 (0 - (min p1.Y p2.Y))) (max p1.Y p2.Y)).bind fun y102 =>
  some y102

def JW (x105 : zV) (zD9 : zV) : List zV → Nat → Int → Int → Option zT
  | [], iL1, QI, zGB =>
    some (zT.mk QI x105.Y0 zGB zD9.Y1)
  | xL1 :: QF, iL1, QI, zGB =>
    (idx xL1.Xs 0).bind fun zGA =>
    (idx xL1.Xs (w64 ((xL1.Xs.length : Int) - 1))).bind fun zGe =>
    (JW x105 zD9 QF (iL1 + 1)) (min QI zGA) (max zGB zGe)
def WO (p0 : (List zV)) : Option zT :=
  (idx p0 0).bind fun x102 =>
  (idx x102.Xs 0).bind fun x104 =>
  (idx p0 0).bind fun x105 =>
  (idx p0 0).bind fun x107 =>
  (idx x107.Xs 1).bind fun zEQ =>
  (idx p0 (w64 ((p0.length : Int) - 1))).bind fun zD9 =>
  JW x105 zD9 p0 0 x104 zEQ


def zBv (p0 : zT) : Option Bool :=
  (Vi p0.X0).bind fun y101 =>
  (if y101 then 
    (Vi p0.Y0).bind fun y104 =>
    some y104
   else some false).bind fun zFT =>
  (if zFT then 
    (Vi p0.X1).bind fun JJ =>
    some JJ
   else some false).bind fun g106 =>
  (if g106 then 
    (Vi p0.Y1).bind fun zBj =>
    some zBj
   else some false).bind fun g109 =>
  some g109


def zAX (p0 : (List zV)) : Option Bool :=
  (if ((p0.length : Int) == 0) then some true else 
    (WO p0).bind fun QJ =>
    (zBv QJ).bind fun y104 =>
    some y104
  ).bind fun g102 =>
  some g102


def Wt (p0 : (List zV)) (p1 : Int) (p2 : Int) : Option ((List Int) × Int) :=
  if ((p0.length : Int) == 0) then
    some (([] : List Int), p2)
  else
    (idx p0 0).bind fun x102 =>
    if (decide (p1 < x102.Y0)) then
      (idx p0 0).bind fun x104 =>
      some ([], (min p2 x104.Y0))
    else
      (idx p0 0).bind fun x106 =>
      (idx p0 0).bind fun zAy =>
      some (x106.Xs, (min p2 zAy.Y1))

def WE (p2 : Bool → Bool → Option Bool) (Vs : List Int) (zBk : Bool) (kL7 : (List Int) → (List Int) → (List Int) → Bool → Bool → Bool → Option (List Int)) (zCr : Int) (zHq : List Int) (zHW : Bool) (l264 : List Int) (x265 : Bool) : Option (List Int) :=
  (p2 zHW x265).bind fun y268 =>
  if (y268 != zBk) then
    (apd Vs [zCr]).bind fun l270 =>
    kL7 zHq l264 l270 zHW x265 y268
  else
    kL7 zHq l264 Vs zHW x265 zBk
def Ku (p2 : Bool → Bool → Option Bool) (WZ : List Int) (Vs : List Int) (zCs : Bool) (zBk : Bool) (kL7 : (List Int) → (List Int) → (List Int) → Bool → Bool → Bool → Option (List Int)) (zCr : Int) (zHq : List Int) (zHW : Bool) : Option (List Int) :=
  (if (decide (0 < (WZ.length : Int))) then 
    (idx WZ 0).bind fun x273 =>
    some (x273 == zCr)
   else some false).bind fun g272 =>
  if g272 then
    (cut WZ 1 (WZ.length : Int)).bind fun l274 =>
    WE p2 Vs zBk kL7 zCr zHq zHW l274 (!zCs)
  else
    WE p2 Vs zBk kL7 zCr zHq zHW WZ zCs
def KX (p2 : Bool → Bool → Option Bool) (VW : List Int) (WZ : List Int) (Vs : List Int) (zF9 : Bool) (zCs : Bool) (zBk : Bool) (kL7 : (List Int) → (List Int) → (List Int) → Bool → Bool → Bool → Option (List Int)) (zCr : Int) : Option (List Int) :=
  (if (decide (0 < (VW.length : Int))) then 
    (idx VW 0).bind fun x277 =>
    some (x277 == zCr)
   else some false).bind fun g276 =>
  if g276 then
    (cut VW 1 (VW.length : Int)).bind fun l278 =>
    Ku p2 WZ Vs zCs zBk kL7 zCr l278 (!zF9)
  else
    Ku p2 WZ Vs zCs zBk kL7 zCr VW zF9
def zAI (p2 : Bool → Bool → Option Bool) : Nat → List Int → List Int → List Int → Bool → Bool → Bool → Option (List Int)
  | 0, _, _, _, _, _, _ => none
  | mL7 + 1, VW, WZ, Vs, zF9, zCs, zBk =>
    if ((decide (0 < (VW.length : Int))) || (decide (0 < (WZ.length : Int)))) then
      (if ((WZ.length : Int) == 0) then some true else 
        (if (decide (0 < (VW.length : Int))) then 
          (idx VW 0).bind fun x288 =>
          (idx WZ 0).bind fun x289 =>
          some (decide (x288 ≤ x289))
         else some false).bind fun g287 =>
        some g287
      ).bind fun g284 =>
      if g284 then
        (idx VW 0).bind fun x290 =>
        KX p2 VW WZ Vs zF9 zCs zBk (zAI p2 mL7) x290
      else
        (idx WZ 0).bind fun x291 =>
        KX p2 VW WZ Vs zF9 zCs zBk (zAI p2 mL7) x291
    else
      some Vs
def zDA (N : Nat) (p0 : (List Int)) (p1 : (List Int)) (p2 : Bool → Bool → Option Bool) : Option (List Int) :=
  zAI p2 N p0 p1 ([] : List Int) false false false

def VB (zB2 : List (List zV)) (x153 : Int) (kL3 : Int → Int → (List (List zV)) → Int → Option (List zV)) (zFR : (List zV)) (x160 : Int) (x161 : Int) : Option (List zV) :=
  (idx zFR 0).bind fun Qn =>
  (idx zFR (w64 ((zFR.length : Int) - 1))).bind fun x166 =>
  kL3 (min x160 Qn.Y0) (max x161 x166.Y1) zB2 (w64 (x153 + 1))
def Kj (N : Nat) (p2 : Bool → Bool → Option Bool) (x151 : Int) (zBg : List zV) (zCL : Int) (kL9 : (List zV) → (List zV) → (List zV) → Int → Option (List zV)) (zEV : List zV) : Nat → List zV → Option (List zV)
  | 0, _ => none
  | mL11 + 1, zJU =>
    (if (decide (0 < (zJU.length : Int))) then 
      (idx zJU 0).bind fun x337 =>
      some (decide (x337.Y1 ≤ zCL))
     else some false).bind fun g336 =>
    if g336 then
      (cut zJU 1 (zJU.length : Int)).bind fun l339 =>
      (Kj N p2 x151 zBg zCL kL9 zEV mL11) l339
    else
      (Wt zEV zCL x151).bind fun zIw =>
      (Wt zJU zCL x151).bind fun zIv =>
      (zDA N zIw.1 zIv.1 p2).bind fun zJm =>
      (JG zBg (zV.mk zCL (min zIw.2 zIv.2) zJm)).bind fun y348 =>
      kL9 zEV zJU y348 (min zIw.2 zIv.2)
def Kk (N : Nat) (p2 : Bool → Bool → Option Bool) (x151 : Int) (zJV : List zV) (zBg : List zV) (zCL : Int) (kL9 : (List zV) → (List zV) → (List zV) → Int → Option (List zV)) : Nat → List zV → Option (List zV)
  | 0, _ => none
  | mL10 + 1, zEV =>
    (if (decide (0 < (zEV.length : Int))) then 
      (idx zEV 0).bind fun x315 =>
      some (decide (x315.Y1 ≤ zCL))
     else some false).bind fun g314 =>
    if g314 then
      (cut zEV 1 (zEV.length : Int)).bind fun l317 =>
      (Kk N p2 x151 zJV zBg zCL kL9 mL10) l317
    else
      Kj N p2 x151 zBg zCL kL9 zEV N zJV
def JF (N : Nat) (p2 : Bool → Bool → Option Bool) (x151 : Int) : Nat → List zV → List zV → List zV → Int → Option (List zV)
  | 0, _, _, _, _ => none
  | mL9 + 1, l292, zJV, zBg, zCL =>
    if (decide (zCL < x151)) then
      Kk N p2 x151 zJV zBg zCL (JF N p2 x151 mL9) N l292
    else
      some zBg
def zAF (N : Nat) (p0 : (List zV)) (p1 : (List zV)) (p2 : Bool → Bool → Option Bool) : Nat → Int → Int → List (List zV) → Int → Option (List zV)
  | 0, _, _, _, _ => none
  | mL3 + 1, x150, x151, zB2, x153 =>
    if (decide (x153 < 2)) then
      (idx zB2 x153).bind fun zFR =>
      if (decide (0 < (zFR.length : Int))) then
        if ((x153 == 0) || ((p0.length : Int) == 0)) then
          (idx zFR 0).bind fun x168 =>
          (idx zFR (w64 ((zFR.length : Int) - 1))).bind fun zEt =>
          VB zB2 x153 (zAF N p0 p1 p2 mL3) zFR x168.Y0 zEt.Y1
        else
          VB zB2 x153 (zAF N p0 p1 p2 mL3) zFR x150 x151
      else
        (zAF N p0 p1 p2 mL3) x150 x151 zB2 (w64 (x153 + 1))
    else
      JF N p2 x151 N p0 p1 ([] : List zV) x150
def zBS (N : Nat) (p0 : (List zV)) (p1 : (List zV)) (p2 : Bool → Bool → Option Bool) : Option (List zV) :=
  if ((w64 ((p0.length : Int) + (p1.length : Int))) == 0) then
    some ([] : List zV)
  else
    zAF N p0 p1 p2 N 0 0 [p0, p1] 0


def WN (p0 : Bool) (p1 : Bool) : Option Bool :=
  some (p0 && (!p1))


def Vy (N : Nat) (p0 : (List zV)) (p1 : (List zV)) : Option (List zV) :=
  (zBS N p0 p1 (fun z0 z1 => WN z0 z1)).bind fun QT =>
  some QT


def zAV (p0 : Bool) (p1 : Bool) : Option Bool :=
  some (p0 || p1)


def Wu (N : Nat) (p0 : (List zV)) (p1 : (List zV)) : Option (List zV) :=
  (zBS N p0 p1 (fun z0 z1 => zAV z0 z1)).bind fun QT =>
  some QT

def JV : List zV → Nat → Int → Option Int
  | [], iL1, x112 =>
    some x112
  | xL1 :: QF, iL1, x112 =>
    (JV QF (iL1 + 1)) (w64 (x112 + (w64 (Int.tdiv (xL1.Xs.length : Int) 2))))
def zAW (p0 : (List zV)) : Option Int :=
  JV p0 0 0

def Jk (l109 : List zV) : Option (Int × (List zV)) :=
  (zAW l109).bind fun y112 =>
  if (decide (2000 < y112)) then
    some (2, l109)
  else
    some (0, l109)
def KM (N : Nat) (p0 : zAA) (p1 : (List zV)) : Option (Int × (List zV)) :=
  (zAX p1).bind fun y113 =>
  if (!y113) then
    some (1, p0.image)
  else
    if p0.clear then
      (Vy N p0.image p1).bind fun zD7 =>
      Jk zD7
    else
      (Wu N p0.image p1).bind fun zDL =>
      Jk zDL

def JN (p1 : zI) (x103 : Int) : Option (Int × Int × Int × Bool × Int) :=
  some (0, p1.X, p1.Y, true, x103)
def Jj (p0 : zAA) (p1 : zI) : Option (Int × Int × Int × Bool × Int) :=
  (WF p1).bind fun y101 =>
  if (!y101) then
    some (1, p0.place.X, p0.place.Y, p0.placed, p0.off)
  else
    if p0.placed then
      (zHB p0.place p1).bind fun VU =>
      JN p1 (w64 (p0.off + VU))
    else
      JN p1 p0.off


noncomputable def VY (N : Nat) (p0 : zAA) (p1 : zI) : Option (Int × Int × Int × Bool × Int × (List zV)) :=
  if (decide (p0.tool < 0)) then
    some (11, p0.place.X, p0.place.Y, p0.placed, p0.off, p0.image)
  else
    (Jj p0 p1).bind fun y101 =>
    if (y101.1 != 0) then
      some (y101.1, y101.2.1, y101.2.2.1, y101.2.2.2.1, y101.2.2.2.2, p0.image)
    else
      (idx p0.tools p0.tool).bind fun x104 =>
      (zBG N x104 p1 p1).bind fun VU =>
      (KM N (zAA.mk p0.p p0.tools p0.image p0.clear p0.tool (zI.mk y101.2.1 y101.2.2.1) y101.2.2.2.1 y101.2.2.2.2 p0.on) VU).bind fun zBj =>
      some (zBj.1, y101.2.1, y101.2.2.1, y101.2.2.2.1, y101.2.2.2.2, zBj.2)

def JM (p1 : zI) (x103 : Int) : Option (Int × Int × Int × Bool × Int) :=
  some (0, p1.X, p1.Y, true, x103)
def KL (p0 : zAA) (p1 : zI) : Option (Int × Int × Int × Bool × Int) :=
  (WF p1).bind fun y101 =>
  if (!y101) then
    some (1, p0.place.X, p0.place.Y, p0.placed, p0.on)
  else
    if p0.placed then
      (zHB p0.place p1).bind fun VU =>
      JM p1 (w64 (p0.on + VU))
    else
      JM p1 p0.on


noncomputable def Vp (N : Nat) (p0 : zAA) (p1 : zI) : Option (Int × Int × Int × Bool × Int × (List zV)) :=
  if ((decide (p0.tool < 0)) || (!p0.placed)) then
    some (11, p0.place.X, p0.place.Y, p0.placed, p0.on, p0.image)
  else
    if ((p1.X != p0.place.X) && (p1.Y != p0.place.Y)) then
      some (3, p0.place.X, p0.place.Y, p0.placed, p0.on, p0.image)
    else
      (KL p0 p1).bind fun y102 =>
      if (y102.1 != 0) then
        some (y102.1, y102.2.1, y102.2.2.1, y102.2.2.2.1, y102.2.2.2.2, p0.image)
      else
        (idx p0.tools p0.tool).bind fun x105 =>
        (zBG N x105 p0.place p1).bind fun JJ =>
        (KM N (zAA.mk p0.p p0.tools p0.image p0.clear p0.tool (zI.mk y102.2.1 y102.2.2.1) y102.2.2.2.1 p0.off y102.2.2.2.2) JJ).bind fun VF =>
        some (VF.1, y102.2.1, y102.2.2.1, y102.2.2.2.1, y102.2.2.2.2, VF.2)


def Wd (p0 : zT) (p1 : zT) : Option Int :=
  some (w64 (p0.X0 - p1.X0))

def JX (zAx : (List Int)) (zE7 : List zV) (zFx : Int) (kL6 : (List zV) → Int → Option (List zV)) : List zT → Nat → List Int → Option (List zV)
  | [], iL7, zE6 =>
    (idx zAx zFx).bind fun x330 =>
    (idx zAx (w64 (zFx + 1))).bind fun x331 =>
    (JG zE7 (zV.mk x330 x331 zE6)).bind fun y334 =>
    kL6 y334 (w64 (zFx + 1))
  | xL7 :: zDP, iL7, zE6 =>
    (idx zAx zFx).bind fun x337 =>
    (if (decide (x337 < xL7.Y0)) then some true else 
      (idx zAx zFx).bind fun x340 =>
      some (decide (xL7.Y1 ≤ x340))
    ).bind fun g339 =>
    if g339 then
      (JX zAx zE7 zFx kL6 zDP (iL7 + 1)) zE6
    else
      (if (decide (0 < (zE6.length : Int))) then 
        (idx zE6 (w64 ((zE6.length : Int) - 1))).bind fun x343 =>
        some (x343 == xL7.X0)
       else some false).bind fun g342 =>
      if g342 then
        (pre zE6 (w64 ((zE6.length : Int) - 1))).bind fun l344 =>
        (JX zAx zE7 zFx kL6 zDP (iL7 + 1)) l344
      else
        (apd zE6 [xL7.X0]).bind fun l346 =>
        (JX zAx zE7 zFx kL6 zDP (iL7 + 1)) l346
def JY (zAx : (List Int)) (zAh : (List zT)) : Nat → List zV → Int → Option (List zV)
  | 0, _, _ => none
  | mL6 + 1, zE7, zFx =>
    if (decide ((w64 (zFx + 1)) < (zAx.length : Int))) then
      JX zAx zE7 zFx (JY zAx zAh mL6) zAh 0 ([] : List Int)
    else
      some zE7
def Jo (kL3 : (List Int) → (List zT) → Option (List zV)) (xL3 : (List zI)) : List zI → Nat → List Int → List zT → Option (List zV)
  | [], iL8, l375, l376 =>
    kL3 l375 l376
  | xL8 :: zE0, iL8, l375, l376 =>
    (md (w64 ((iL8 : Int) + 1)) (xL3.length : Int)).bind fun q378 =>
    (idx xL3 q378).bind fun zCp =>
    (apd l375 [xL8.Y]).bind fun l382 =>
    if (xL8.X == zCp.X) then
      (apd l376 [(zT.mk xL8.X (min xL8.Y zCp.Y) 0 (max xL8.Y zCp.Y))]).bind fun l384 =>
      (Jo kL3 xL3 zE0 (iL8 + 1)) l382 l384
    else
      (Jo kL3 xL3 zE0 (iL8 + 1)) l382 l376
noncomputable def JZ (N : Nat) : List (List zI) → Nat → List Int → List zT → Option (List zV)
  | [], iL3, l187, zF1 =>
    (srtI l187).bind fun zKq =>
    (cpI zKq).bind fun zAx =>
    (srtF zF1 (fun z0 z1 => Wd z0 z1)).bind fun zAh =>
    JY zAx zAh N ([] : List zV) 0
  | xL3 :: Qh, iL3, l187, zF1 =>
    Jo (JZ N Qh (iL3 + 1)) xL3 xL3 0 l187 zF1
noncomputable def zBx (N : Nat) (p0 : (List (List zI))) : Option (List zV) :=
  JZ N p0 0 ([] : List Int) ([] : List zT)


def Jb (p0 : zI) : Option Bool :=
  (WF p0).bind fun y101 =>
  some (!y101)

noncomputable def Qm (N : Nat) (p0 : zAA) (p2 : zI) : List zI → Nat → List zI → Option (Int × (List zV))
  | [], iL1, zJX =>
    (zBx N [zJX]).bind fun zHg =>
    (zAW zHg).bind fun y123 =>
    if (decide (2000 < y123)) then
      some (2, p0.image)
    else
      (Qr zJX (fun z0 => Jb z0)).bind fun y124 =>
      if y124 then
        some (1, p0.image)
      else
        (KM N p0 zHg).bind fun zHV =>
        some (zHV.1, zHV.2)
  | xL1 :: QF, iL1, zJX =>
    (VX p0 xL1 p2).bind fun zJn =>
    (apd zJX [zJn]).bind fun l132 =>
    (Qm N p0 p2 QF (iL1 + 1)) l132
noncomputable def Vq (N : Nat) (p0 : zAA) (p1 : (List zI)) (p2 : zI) : Option (Int × (List zV)) :=
  Qm N p0 p2 p1 0 ([] : List zI)

def Ql (l287 : List zV) (x288 : Bool) (x289 : Int) (x290 : Int) (x291 : Int) (x292 : Bool) (x293 : Int) (x294 : Int) : Option (Int × Bool × Int × Int × Int × Bool × Int × Int × (List zV)) :=
  some (0, x288, x289, x290, x291, x292, x293, x294, l287)
def JD (p0 : zAA) (p1 : zD) (p2 : zI) (rec : zAA → (List zD) → zI → Option (Int × Bool × Int × Int × Int × Bool × Int × Int × (List zV))) (zCF : Int) (kL9 : (List zV) → Bool → Int → Int → Int → Bool → Int → Int → Int → Option (Int × Bool × Int × Int × Int × Bool × Int × Int × (List zV))) : Nat → List zV → Bool → Int → Int → Int → Bool → Int → Int → Int → Option (Int × Bool × Int × Int × Int × Bool × Int × Int × (List zV))
  | 0, _, _, _, _, _, _, _, _, _ => none
  | mL10 + 1, zJT, x469, x470, x471, x472, x473, x474, x475, zD8 =>
    if (decide (zD8 < p1.NX)) then
      (rec (zAA.mk p0.p p0.tools zJT x469 x470 (zI.mk x471 x472) x473 x474 x475) p1.Steps (zI.mk (w64 (p2.X + (w64 ((w64 (zD8 * p1.At.X)) * p0.p.Unit)))) (w64 (p2.Y + (w64 ((w64 (zCF * p1.At.Y)) * p0.p.Unit)))))).bind fun WB =>
      if (WB.1 != 0) then
        some (WB.1, WB.2.1, WB.2.2.1, WB.2.2.2.1, WB.2.2.2.2.1, WB.2.2.2.2.2.1, WB.2.2.2.2.2.2.1, WB.2.2.2.2.2.2.2.1, WB.2.2.2.2.2.2.2.2)
      else
        (JD p0 p1 p2 rec zCF kL9 mL10) WB.2.2.2.2.2.2.2.2 WB.2.1 WB.2.2.1 WB.2.2.2.1 WB.2.2.2.2.1 WB.2.2.2.2.2.1 WB.2.2.2.2.2.2.1 WB.2.2.2.2.2.2.2.1 (w64 (zD8 + 1))
    else
      kL9 zJT x469 x470 x471 x472 x473 x474 x475 (w64 (zCF + 1))
def zAJ (N : Nat) (p0 : zAA) (p1 : zD) (p2 : zI) (rec : zAA → (List zD) → zI → Option (Int × Bool × Int × Int × Int × Bool × Int × Int × (List zV))) : Nat → List zV → Bool → Int → Int → Int → Bool → Int → Int → Int → Option (Int × Bool × Int × Int × Int × Bool × Int × Int × (List zV))
  | 0, _, _, _, _, _, _, _, _, _ => none
  | mL9 + 1, l426, x427, x428, x429, x430, x431, x432, x433, zCF =>
    if (decide (zCF < p1.NY)) then
      JD p0 p1 p2 rec zCF (zAJ N p0 p1 p2 rec mL9) N l426 x427 x428 x429 x430 x431 x432 x433 0
    else
      Ql l426 x427 x428 x429 x430 x431 x432 x433
noncomputable def JE (N : Nat) (p0 : zAA) (p1 : zD) (p2 : zI) (rec : zAA → (List zD) → zI → Option (Int × Bool × Int × Int × Int × Bool × Int × Int × (List zV))) (y102 : zI) (x297 : Bool) : Option (Int × Bool × Int × Int × Int × Bool × Int × Int × (List zV)) :=
  if x297 then
    Ql p0.image (p1.Kind == 2) p0.tool p0.place.X p0.place.Y p0.placed p0.off p0.on
  else
    if (p1.Kind == 3) then
      (zBT p0.p p1.Name).bind fun y300 =>
      Ql p0.image p0.clear y300 p0.place.X p0.place.Y p0.placed p0.off p0.on
    else
      if (p1.Kind == 4) then
        (Jj p0 y102).bind fun zHT =>
        some (zHT.1, p0.clear, p0.tool, zHT.2.1, zHT.2.2.1, zHT.2.2.2.1, zHT.2.2.2.2, p0.on, p0.image)
      else
        if (p1.Kind == 5) then
          (VY N p0 y102).bind fun zD4 =>
          some (zD4.1, p0.clear, p0.tool, zD4.2.1, zD4.2.2.1, zD4.2.2.2.1, zD4.2.2.2.2.1, p0.on, zD4.2.2.2.2.2)
        else
          if (p1.Kind == 6) then
            (Vp N p0 y102).bind fun zD3 =>
            some (zD3.1, p0.clear, p0.tool, zD3.2.1, zD3.2.2.1, zD3.2.2.2.1, p0.off, zD3.2.2.2.2.1, zD3.2.2.2.2.2)
          else
            if (p1.Kind == 7) then
              (Vq N p0 p1.Points p2).bind fun zKo =>
              some (zKo.1, p0.clear, p0.tool, p0.place.X, p0.place.Y, p0.placed, p0.off, p0.on, zKo.2)
            else
              if (p1.Kind == 8) then
                zAJ N p0 p1 p2 rec N p0.image p0.clear p0.tool p0.place.X p0.place.Y p0.placed p0.off p0.on 0
              else
                Ql p0.image p0.clear p0.tool p0.place.X p0.place.Y p0.placed p0.off p0.on
noncomputable def Jt (rec : zAA → (List zD) → zI → Option (Int × Bool × Int × Int × Int × Bool × Int × Int × (List zV))) (N : Nat) (p0 : zAA) (p1 : zD) (p2 : zI) : Option (Int × Bool × Int × Int × Int × Bool × Int × Int × (List zV)) :=
  (VX p0 p1.At p2).bind fun y102 =>
  if (p1.Kind == 1) then
    JE N p0 p1 p2 rec y102 (p1.Kind == 1)
  else
    JE N p0 p1 p2 rec y102 (p1.Kind == 2)

noncomputable def JA (N : Nat) (p0 : zAA) (p2 : zI) (rec : zAA → (List zD) → zI → Option (Int × Bool × Int × Int × Int × Bool × Int × Int × (List zV))) : List zD → Nat → List zV → Bool → Int → Int → Int → Bool → Int → Int → Option (Int × Bool × Int × Int × Int × Bool × Int × Int × (List zV))
  | [], iL1, l138, zGe, x140, x141, x142, x143, x144, x145 =>
    some (0, zGe, x140, x141, x142, x143, x144, x145, l138)
  | xL1 :: QF, iL1, l138, zGe, x140, x141, x142, x143, x144, x145 =>
    (Jt rec N (zAA.mk p0.p p0.tools l138 zGe x140 (zI.mk x141 x142) x143 x144 x145) xL1 p2).bind fun WC =>
    if (WC.1 != 0) then
      some (WC.1, WC.2.1, WC.2.2.1, WC.2.2.2.1, WC.2.2.2.2.1, WC.2.2.2.2.2.1, WC.2.2.2.2.2.2.1, WC.2.2.2.2.2.2.2.1, WC.2.2.2.2.2.2.2.2)
    else
      (JA N p0 p2 rec QF (iL1 + 1)) WC.2.2.2.2.2.2.2.2 WC.2.1 WC.2.2.1 WC.2.2.2.1 WC.2.2.2.2.1 WC.2.2.2.2.2.1 WC.2.2.2.2.2.2.1 WC.2.2.2.2.2.2.2.1
noncomputable def zBW (N : Nat) (rec : zAA → (List zD) → zI → Option (Int × Bool × Int × Int × Int × Bool × Int × Int × (List zV))) (p0 : zAA) (p1 : (List zD)) (p2 : zI) : Option (Int × Bool × Int × Int × Int × Bool × Int × Int × (List zV)) :=
  JA N p0 p2 rec p1 0 p0.image p0.clear p0.tool p0.place.X p0.place.Y p0.placed p0.off p0.on
noncomputable def VO : Nat → zAA → (List zD) → zI → Option (Int × Bool × Int × Int × Int × Bool × Int × Int × (List zV))
  | 0 => fun _ _ _ => none
  | N + 1 => zBW N (VO N)


noncomputable def zDD (N : Nat) (p0 : zt) : Option (zAA × Int) :=
  (zAZ N p0).bind fun y101 =>
  (VO N y101 p0.Steps (zI.mk 0 0)).bind fun QJ =>
  some ((zAA.mk y101.p y101.tools QJ.2.2.2.2.2.2.2.2 QJ.2.1 QJ.2.2.1 (zI.mk QJ.2.2.2.1 QJ.2.2.2.2.1) QJ.2.2.2.2.2.1 QJ.2.2.2.2.2.2.1 QJ.2.2.2.2.2.2.2.1), QJ.1)


noncomputable def zDE (N : Nat) (p0 : zt) : Option ((List zV) × Int) :=
  (Jm N p0).bind fun y101 =>
  if (y101 != 0) then
    some (([] : List zV), y101)
  else
    (zDD N p0).bind fun y102 =>
    if (y102.2 != 0) then
      some (([] : List zV), y102.2)
    else
      some (y102.1.image, 0)


noncomputable def zBH (N : Nat) (p0 : zt) : Option ((List zT) × Int) :=
  (zDE N p0).bind fun y101 =>
  (Va N y101.1).bind fun QJ =>
  some (QJ, y101.2)

def Qz (p1 : (List zT)) : List zT → Nat → Option Bool
  | [], iL1 =>
    some true
  | xL1 :: QF, iL1 =>
    (idx p1 (iL1 : Int)).bind fun x103 =>
    if (!(zEW xL1 x103)) then
      some false
    else
      (Qz p1 QF (iL1 + 1))
def WL (p0 : (List zT)) (p1 : (List zT)) : Option Bool :=
  if ((p0.length : Int) != (p1.length : Int)) then
    some false
  else
    Qz p1 p0 0


noncomputable def Jq (N : Nat) (p0 : zt) (p1 : Int) : Option Bool :=
  (zAc N p0 p1).bind fun y101 =>
  if ((y101.2.2 != 0) || (!y101.2.1)) then
    (if (y101.1.Unit == 0) then 
      (Kn N).bind fun VU =>
      some VU
     else some false).bind fun g105 =>
    some g105
  else
    (zAc N y101.1 p0.Unit).bind fun JJ =>
    (if ((JJ.2.2 != 0) || (!JJ.2.1)) then some true else 
      (Jc N JJ.1 p0).bind fun y112 =>
      some (!y112)
    ).bind fun g111 =>
    if g111 then
      some false
    else
      (zBH N p0).bind fun y113 =>
      (zBH N y101.1).bind fun y115 =>
      (if (y113.2 == y115.2) then 
        (WL y113.1 y115.1).bind fun y119 =>
        some y119
       else some false).bind fun g118 =>
      (if g118 then 
        (Kn N).bind fun KH =>
        some KH
       else some false).bind fun g121 =>
      some g121

end Go.Proofs.YtoageaoknnnfbaaGreatDoor
