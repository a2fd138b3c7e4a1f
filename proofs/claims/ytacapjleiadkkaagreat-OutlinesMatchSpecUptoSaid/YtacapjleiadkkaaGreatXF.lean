/- The plain functions: what each function of the program computes; none where it would panic. -/
import Derived.Test.YtacapjleiadkkaaGreatXT
namespace Go.Proofs.YtacapjleiadkkaaGreat
open Go.RowKit

def zDt (p0 : Int) (p1 : Int) (p2 : Int) : Option Bool :=
  some ((decide (p1 ≤ p0)) && (decide (p0 ≤ p2)))


def zAN (p0 : Int) : Option Bool :=
  (zDt p0 (-1000000) 1000000).bind fun zN =>
  some zN


def zCf (p0 : zJ) : Option Bool :=
  (zAN p0.X0).bind fun y101 =>
  (if y101 then 
    (zAN p0.Y0).bind fun y104 =>
    some y104
   else some false).bind fun zIM =>
  (if zIM then 
    (zAN p0.X1).bind fun zLD =>
    some zLD
   else some false).bind fun zbY =>
  (if zbY then 
    (zAN p0.Y1).bind fun zI8 =>
    some zI8
   else some false).bind fun zbX =>
  some zbX

def KO : List zJ → Nat → Option Int
  | [], iL1 =>
    some 0
  | xL1 :: zV, iL1 =>
    (zCf xL1).bind fun zcN =>
    if (!zcN) then
      some 1
    else
      if ((decide (xL1.X1 ≤ xL1.X0)) || (decide (xL1.Y1 ≤ xL1.Y0))) then
        some 13
      else
        (KO zV (iL1 + 1))
def zAJ (p0 : (List zJ)) : Option Int :=
  if (decide (2000 < (p0.length : Int))) then
    some 2
  else
    KO p0 0


def zAj (p0 : (List zJ)) : Option (List zJ) :=
  (apd ([] : List zJ) p0).bind fun zFp =>
  some zFp



def zAf (p0 : zJ) (p1 : zJ) : Option Int :=
  some (w64 (p0.Y0 - p1.Y0))




def zAe (p0 : zJ) (q0 : (List Int)) (q1 : Int) : Option Bool :=
  (idx q0 q1).bind fun x101 =>
  some (decide (p0.Y1 ≤ x101))

def Ji (p1 : zJ → Option Bool) : List zJ → Nat → Option Int
  | [], iL1 =>
    some (-1)
  | xL1 :: zV, iL1 =>
    (p1 xL1).bind fun Wv =>
    if Wv then
      some (iL1 : Int)
    else
      (Ji p1 zV (iL1 + 1))
def zAW (p0 : (List zJ)) (p1 : zJ → Option Bool) : Option Int :=
  Ji p1 p0 0

def JC (p1 : zJ → Option Bool) : Nat → List zJ → Int → Int → Option (List zJ)
  | 0, _, _, _ => none
  | mL1 + 1, zEU, zFN, zJB =>
    if (decide (zJB < (zEU.length : Int))) then
      (idx zEU zJB).bind fun Jp =>
      (p1 Jp).bind fun zHo =>
      if (!zHo) then
        (idx zEU zFN).bind fun zYT =>
        (sets zEU zFN Jp).bind fun zLa =>
        (JC p1 mL1) zLa (w64 (zFN + 1)) (w64 (zJB + 1))
      else
        (JC p1 mL1) zEU zFN (w64 (zJB + 1))
    else
      (cut zEU zFN (zEU.length : Int)).bind fun zA8 =>
      (pre (clr zEU zFN (zA8).length (zJ.mk 0 0 0 0)) zFN).bind fun zfs =>
      some zfs
def VY (N : Nat) (p0 : (List zJ)) (p1 : zJ → Option Bool) : Option (List zJ) :=
  (zAW p0 p1).bind fun zN =>
  if (zN == (-1)) then
    some p0
  else
    JC p1 N p0 zN (w64 (zN + 1))


def WG (p0 : zJ) (p1 : zJ) : Option Int :=
  some (w64 (p0.X0 - p1.X0))

def KD (zN : (List zJ)) : List zJ → Nat → List Int → Option ((List Int) × (List zJ))
  | [], iL1, zA8 =>
    some (zA8, zN)
  | xL1 :: zV, iL1, zA8 =>
    (if (decide (0 ≤ (w64 ((zA8.length : Int) - 1)))) then 
      (idx zA8 (w64 ((zA8.length : Int) - 1))).bind fun zEx =>
      some (decide (xL1.X0 ≤ zEx))
     else some false).bind fun zdX =>
    if zdX then
      (idx zA8 (w64 ((zA8.length : Int) - 1))).bind fun zNb =>
      (idx zA8 (w64 ((zA8.length : Int) - 1))).bind fun zqi =>
      (sets zA8 (w64 ((zA8.length : Int) - 1)) (max zNb xL1.X1)).bind fun zTZ =>
      (KD zN zV (iL1 + 1)) zTZ
    else
      (apd zA8 [xL1.X0, xL1.X1]).bind fun zfq =>
      (KD zN zV (iL1 + 1)) zfq
noncomputable def WI (p0 : (List zJ)) : Option ((List Int) × (List zJ)) :=
  (zJi p0 (fun z0 z1 => WG z0 z1)).bind fun zN =>
  KD zN zN 0 ([] : List Int)

def KM (p1 : (List Int)) : List Int → Nat → Option Bool
  | [], iL1 =>
    some true
  | xL1 :: zV, iL1 =>
    (idx p1 (iL1 : Int)).bind fun x103 =>
    if (xL1 != x103) then
      some false
    else
      (KM p1 zV (iL1 + 1))
def zA5 (p0 : (List Int)) (p1 : (List Int)) : Option Bool :=
  if ((p0.length : Int) != (p1.length : Int)) then
    some false
  else
    KM p1 p0 0


def VG (p0 : (List JD)) (p1 : JD) : Option (List JD) :=
  if (((p1.Xs.length : Int) == 0) || (decide (p1.Y1 ≤ p1.Y0))) then
    some p0
  else
    (if (decide (0 ≤ (w64 ((p0.length : Int) - 1)))) then 
      (idx p0 (w64 ((p0.length : Int) - 1))).bind fun x103 =>
      some (x103.Y1 == p1.Y0)
     else some false).bind fun zSN =>
    (if zSN then 
      (idx p0 (w64 ((p0.length : Int) - 1))).bind fun Vt =>
      (zA5 Vt.Xs p1.Xs).bind fun zI8 =>
      some zI8
     else some false).bind fun zSM =>
    if zSM then
      (idx p0 (w64 ((p0.length : Int) - 1))).bind fun zB7 =>
      (sets p0 (w64 ((p0.length : Int) - 1)) (JD.mk zB7.Y0 p1.Y1 zB7.Xs)).bind fun zJp =>
      some zJp
    else
      (apd p0 [p1]).bind fun zLb =>
      some zLb

noncomputable def Kc (y102 : (List zJ)) (VM : (List Int)) (zBw : Int) (Wy : List JD) (kL4 : Int → (List JD) → (List zJ) → Int → Option (List JD)) : Nat → List zJ → Int → Option (List JD)
  | 0, _, _ => none
  | mL5 + 1, zEj, zLF =>
    (if (decide (zLF < (y102.length : Int))) then 
      (idx y102 zLF).bind fun zlY =>
      (idx VM zBw).bind fun zlX =>
      some (decide (zlY.Y0 ≤ zlX))
     else some false).bind fun zYy =>
    if zYy then
      (idx y102 zLF).bind fun zFL =>
      (apd zEj [zFL]).bind fun zfn =>
      (Kc y102 VM zBw Wy kL4 mL5) zfn (w64 (zLF + 1))
    else
      (idx VM zBw).bind fun zG4 =>
      (idx VM (w64 (zBw + 1))).bind fun zMQ =>
      (WI zEj).bind fun zD1 =>
      (VG Wy (JD.mk zG4 zMQ zD1.1)).bind fun zMM =>
      kL4 (w64 (zBw + 1)) zMM zD1.2 zLF
noncomputable def Qo (N : Nat) (y102 : (List zJ)) (VM : (List Int)) : Nat → Int → List JD → List zJ → Int → Option (List JD)
  | 0, _, _, _, _ => none
  | mL4 + 1, zBw, Wy, zAw, zZQ =>
    if (decide ((w64 (zBw + 1)) < (VM.length : Int))) then
      (VY N zAw (fun z0 => zAe z0 VM zBw)).bind fun zPX =>
      Kc y102 VM zBw Wy (Qo N y102 VM mL4) N zPX zZQ
    else
      some Wy
noncomputable def VE (N : Nat) (y102 : (List zJ)) : List zJ → Nat → List Int → Option (List JD)
  | [], iL1, zBj =>
    (zPd zBj).bind fun zEg =>
    (cpI zEg).bind fun VM =>
    Qo N y102 VM N 0 ([] : List JD) ([] : List zJ) 0
  | xL1 :: zV, iL1, zBj =>
    (apd zBj [xL1.Y0, xL1.Y1]).bind fun zZ5 =>
    (VE N y102 zV (iL1 + 1)) zZ5
noncomputable def Wj (N : Nat) (p0 : (List zJ)) : Option (List JD) :=
  (zAj p0).bind fun zN =>
  (zJi zN (fun z0 z1 => zAf z0 z1)).bind fun y102 =>
  VE N y102 y102 0 ([] : List Int)

def KN (kL3 : (List zJ) → Option (List zJ)) (xL3 : JD) : Nat → List zJ → Int → Option (List zJ)
  | 0, _, _ => none
  | mL4 + 1, zLZ, zH0 =>
    if (decide (zH0 < (xL3.Xs.length : Int))) then
      (idx xL3.Xs zH0).bind fun zJA =>
      (idx xL3.Xs (w64 (zH0 + 1))).bind fun zD3 =>
      (apd zLZ [(zJ.mk zJA xL3.Y0 zD3 xL3.Y1)]).bind fun zfo =>
      (KN kL3 xL3 mL4) zfo (w64 (zH0 + 2))
    else
      kL3 zLZ
def JF (N : Nat) : List JD → Nat → List zJ → Option (List zJ)
  | [], iL3, zPm =>
    some zPm
  | xL3 :: zA0, iL3, zPm =>
    KN (JF N zA0 (iL3 + 1)) xL3 N zPm 0
def zAI (N : Nat) (p0 : (List JD)) : Option (List zJ) :=
  JF N p0 0 ([] : List zJ)

def Jz (p1 : (List zJ)) : List zJ → Nat → Option Bool
  | [], iL1 =>
    some true
  | xL1 :: zV, iL1 =>
    (idx p1 (iL1 : Int)).bind fun x103 =>
    if (!(zE3 xL1 x103)) then
      some false
    else
      (Jz p1 zV (iL1 + 1))
def WF (p0 : (List zJ)) (p1 : (List zJ)) : Option Bool :=
  if ((p0.length : Int) != (p1.length : Int)) then
    some false
  else
    Jz p1 p0 0

noncomputable def Qp (N : Nat) (p0 : (List zJ)) : Nat → Int → Option Int
  | 0, _ => none
  | mL1 + 1, zCL =>
    if (decide (zCL < (p0.length : Int))) then
      (idx p0 (w64 (zCL - 1))).bind fun VO =>
      (idx p0 zCL).bind fun VN =>
      if ((decide (VN.Y0 < VO.Y0)) || ((VN.Y0 == VO.Y0) && (decide (VN.X0 ≤ VO.X0)))) then
        some 8
      else
        (Qp N p0 mL1) (w64 (zCL + 1))
    else
      (Wj N p0).bind fun zMP =>
      (zAI N zMP).bind fun zHo =>
      (WF zHo p0).bind fun zYK =>
      if (!zYK) then
        some 3
      else
        some 0
noncomputable def WH (N : Nat) (p0 : (List zJ)) : Option Int :=
  (zAJ p0).bind fun zN =>
  if (zN != 0) then
    some zN
  else
    Qp N p0 N 1


def VI (p0 : Int) (p1 : Int) (p2 : Int) (p3 : Int) (q0 : (List Qw)) : Option (List Qw) :=
  (apd q0 [(Qw.mk (zG.mk p0 p1) (zG.mk p2 p3))]).bind fun zFp =>
  some zFp

def zAd (p2 : Bool → Bool → Option Bool) (zAU : List Int) (zCU : Bool) (kL7 : (List Int) → (List Int) → (List Int) → Bool → Bool → Bool → Option (List Int)) (zBA : Int) (zIG : List Int) (zHp : Bool) (zTX : List Int) (zRb : Bool) : Option (List Int) :=
  (p2 zHp zRb).bind fun zZI =>
  if (zZI != zCU) then
    (apd zAU [zBA]).bind fun zfm =>
    kL7 zIG zTX zfm zHp zRb zZI
  else
    kL7 zIG zTX zAU zHp zRb zCU
def WO (p2 : Bool → Bool → Option Bool) (zAw : List Int) (zAU : List Int) (zDV : Bool) (zCU : Bool) (kL7 : (List Int) → (List Int) → (List Int) → Bool → Bool → Bool → Option (List Int)) (zBA : Int) (zIG : List Int) (zHp : Bool) : Option (List Int) :=
  (if (decide (0 < (zAw.length : Int))) then 
    (idx zAw 0).bind fun zYR =>
    some (zYR == zBA)
   else some false).bind fun zdV =>
  if zdV then
    (cut zAw 1 (zAw.length : Int)).bind fun zfl =>
    zAd p2 zAU zCU kL7 zBA zIG zHp zfl (!zDV)
  else
    zAd p2 zAU zCU kL7 zBA zIG zHp zAw zDV
def Vy (p2 : Bool → Bool → Option Bool) (Wy : List Int) (zAw : List Int) (zAU : List Int) (zGV : Bool) (zDV : Bool) (zCU : Bool) (kL7 : (List Int) → (List Int) → (List Int) → Bool → Bool → Bool → Option (List Int)) (zBA : Int) : Option (List Int) :=
  (if (decide (0 < (Wy.length : Int))) then 
    (idx Wy 0).bind fun zlW =>
    some (zlW == zBA)
   else some false).bind fun zdU =>
  if zdU then
    (cut Wy 1 (Wy.length : Int)).bind fun zfk =>
    WO p2 zAw zAU zDV zCU kL7 zBA zfk (!zGV)
  else
    WO p2 zAw zAU zDV zCU kL7 zBA Wy zGV
def Qx (p2 : Bool → Bool → Option Bool) : Nat → List Int → List Int → List Int → Bool → Bool → Bool → Option (List Int)
  | 0, _, _, _, _, _, _ => none
  | mL7 + 1, Wy, zAw, zAU, zGV, zDV, zCU =>
    if ((decide (0 < (Wy.length : Int))) || (decide (0 < (zAw.length : Int)))) then
      (if ((zAw.length : Int) == 0) then some true else 
        (if (decide (0 < (Wy.length : Int))) then 
          (idx Wy 0).bind fun zlV =>
          (idx zAw 0).bind fun zlU =>
          some (decide (zlV ≤ zlU))
         else some false).bind fun zkn =>
        some zkn
      ).bind fun zko =>
      if zko then
        (idx Wy 0).bind fun ze2 =>
        Vy p2 Wy zAw zAU zGV zDV zCU (Qx p2 mL7) ze2
      else
        (idx zAw 0).bind fun ze1 =>
        Vy p2 Wy zAw zAU zGV zDV zCU (Qx p2 mL7) ze1
    else
      some zAU
def zAp (N : Nat) (p0 : (List Int)) (p1 : (List Int)) (p2 : Bool → Bool → Option Bool) : Option (List Int) :=
  Qx p2 N p0 p1 ([] : List Int) false false false


def VS (p0 : Bool) (p1 : Bool) : Option Bool :=
  some (p0 && (!p1))


def VR (p0 : Bool) (p1 : Bool) : Option Bool :=
  some (p1 && (!p0))

def Qc (p0 : Int) (VM : (List Int)) : Nat → List Qw → Int → Option (List Qw)
  | 0, _, _ => none
  | mL2 + 1, zGd, zSx =>
    if (decide (zSx < (VM.length : Int))) then
      (idx VM zSx).bind fun ze8 =>
      (idx VM (w64 (zSx + 1))).bind fun zEP =>
      (VI ze8 p0 zEP p0 zGd).bind fun zPa =>
      (Qc p0 VM mL2) zPa (w64 (zSx + 2))
    else
      some zGd
def Qt (N : Nat) (p0 : Int) (p1 : (List Int)) (p2 : (List Int)) (zN : (List Int)) : Nat → List Qw → Int → Option (List Qw)
  | 0, _, _ => none
  | mL1 + 1, zOH, zSy =>
    if (decide (zSy < (zN.length : Int))) then
      (idx zN (w64 (zSy + 1))).bind fun VO =>
      (idx zN zSy).bind fun VN =>
      (VI VO p0 VN p0 zOH).bind fun zEg =>
      (Qt N p0 p1 p2 zN mL1) zEg (w64 (zSy + 2))
    else
      (zAp N p1 p2 (fun z0 z1 => VR z0 z1)).bind fun VM =>
      Qc p0 VM N zOH 0
def JH (N : Nat) (p0 : Int) (p1 : (List Int)) (p2 : (List Int)) (q1 : (List Qw)) : Option (List Qw) :=
  (zAp N p1 p2 (fun z0 z1 => VS z0 z1)).bind fun zN =>
  Qt N p0 p1 p2 zN N q1 0

def Vb (N : Nat) (p0 : (List JD)) (kL5 : (List Qw) → Option (List Qw)) (xL5 : JD) (iL5 : Nat) (zOF : List Qw) : Option (List Qw) :=
  (if ((w64 ((iL5 : Int) + 1)) == (p0.length : Int)) then some true else 
    (idx p0 (w64 ((iL5 : Int) + 1))).bind fun zlT =>
    some (decide (xL5.Y1 < zlT.Y0))
  ).bind fun zkm =>
  if zkm then
    (JH N xL5.Y1 xL5.Xs [] zOF).bind fun zPV =>
    kL5 zPV
  else
    kL5 zOF
def JR (N : Nat) (p0 : (List JD)) (kL5 : (List Qw) → Option (List Qw)) (xL5 : JD) (iL5 : Nat) : Nat → List Qw → Int → Option (List Qw)
  | 0, _, _ => none
  | mL6 + 1, zJE, zG4 =>
    if (decide (zG4 < (xL5.Xs.length : Int))) then
      (idx xL5.Xs zG4).bind fun zMQ =>
      (idx xL5.Xs zG4).bind fun ze4 =>
      (VI zMQ xL5.Y1 ze4 xL5.Y0 zJE).bind fun zMN =>
      (idx xL5.Xs (w64 (zG4 + 1))).bind fun zYR =>
      (idx xL5.Xs (w64 (zG4 + 1))).bind fun ze3 =>
      (VI zYR xL5.Y0 ze3 xL5.Y1 zMN).bind fun zPW =>
      (JR N p0 kL5 xL5 iL5 mL6) zPW (w64 (zG4 + 2))
    else
      (if ((iL5 : Int) == 0) then some true else 
        (idx p0 (w64 ((iL5 : Int) - 1))).bind fun zlS =>
        some (decide (zlS.Y1 < xL5.Y0))
      ).bind fun zkl =>
      if zkl then
        (JH N xL5.Y0 [] xL5.Xs zJE).bind fun zPU =>
        Vb N p0 kL5 xL5 iL5 zPU
      else
        (idx p0 (w64 ((iL5 : Int) - 1))).bind fun zcQ =>
        (JH N xL5.Y0 zcQ.Xs xL5.Xs zJE).bind fun zPT =>
        Vb N p0 kL5 xL5 iL5 zPT
def QR (N : Nat) (p0 : (List JD)) : List JD → Nat → List Qw → Option (List Qw)
  | [], iL5, zEk =>
    some zEk
  | xL5 :: zDb, iL5, zEk =>
    JR N p0 (QR N p0 zDb (iL5 + 1)) xL5 iL5 N zEk 0
def zB3 (N : Nat) (p0 : (List JD)) : Option (List Qw) :=
  QR N p0 p0 0 ([] : List Qw)


def WC (p0 : Int) : Option Int :=
  some (min 1 (max (-1) p0))


def JP (p0 : Qw) : Option zG :=
  (WC (w64 (p0.to_.X - p0.from_.X))).bind fun y102 =>
  (WC (w64 (p0.to_.Y - p0.from_.Y))).bind fun Wv =>
  some (zG.mk y102 Wv)


def Vz (p0 : Qw) : Option zG :=
  (JP p0).bind fun y102 =>
  some (zG.mk (w64 (0 - y102.Y)) y102.X)

def zY9 (N : Nat) (x : Nat) (p0 : Qw) : Option zG :=
  if x = 39 then Vz p0 else
  none


def zSh (N : Nat) (p0 : Qw) (p1 : Qw) (q0 : (List ((Int × Int) × List Int))) (q1 : Nat) : Option Bool :=
  (zDd okP q0 (p0.to_.X, p0.to_.Y)).bind fun zMW =>
  (if ((zMW.length : Int) == 1) then some true else 
    (JP p1).bind fun zDT =>
    (zY9 N q1 p0).bind fun zLD =>
    some (Vo zDT zLD)
  ).bind fun zY0 =>
  some zY0


def zB2 (p0 : zG) (p1 : zG) : Option Bool :=
  some ((decide (p0.Y < p1.Y)) || ((p0.Y == p1.Y) && (decide (p0.X < p1.X))))


def Je : List (List zG) → Nat → List zG → Option (List zG)
  | [], iL2, zPn =>
    some zPn
  | xL2 :: WQ, iL2, zPn =>
    (apd zPn xL2).bind fun zLa =>
    (Je WQ (iL2 + 1)) zLa
def Jf (p0 : (List (List zG))) : List (List zG) → Nat → Int → Option (List zG)
  | [], iL1, zAm =>
    (grN zAm).bind fun zJZ =>
    Je p0 0 zJZ
  | xL1 :: zV, iL1, zAm =>
    if (decide ((w64 (zAm + (xL1.length : Int))) < 0)) then
      none
    else
      (Jf p0 zV (iL1 + 1)) (w64 (zAm + (xL1.length : Int)))
def WK (p0 : (List (List zG))) : Option (List zG) :=
  Jf p0 p0 0 0

def Jc (Wi : List zG) : List zG → Nat → Int → Option (List zG)
  | [], iL2, zH1 =>
    (cut Wi zH1 (Wi.length : Int)).bind fun zGd =>
    (pre Wi zH1).bind fun zAH =>
    (WK [zGd, zAH]).bind fun zMO =>
    some zMO
  | xL2 :: WQ, iL2, zH1 =>
    (idx Wi zH1).bind fun zZU =>
    (zB2 xL2 zZU).bind fun zHz =>
    if zHz then
      (Jc Wi WQ (iL2 + 1)) (iL2 : Int)
    else
      (Jc Wi WQ (iL2 + 1)) zH1
def Jq (p0 : (List Qw)) : List Qw → Nat → List zG → Option (List zG)
  | [], iL1, Wi =>
    Jc Wi Wi 0 0
  | xL1 :: zV, iL1, Wi =>
    (JP xL1).bind fun zYI =>
    (md (w64 ((w64 ((iL1 : Int) + (p0.length : Int))) - 1)) (p0.length : Int)).bind fun q150 =>
    (idx p0 q150).bind fun x151 =>
    (JP x151).bind fun y152 =>
    if (!(Vo zYI y152)) then
      (apd Wi [xL1.from_]).bind fun zfp =>
      (Jq p0 zV (iL1 + 1)) zfp
    else
      (Jq p0 zV (iL1 + 1)) Wi
def zCG (p0 : (List Qw)) : Option (List zG) :=
  Jq p0 p0 0 ([] : List zG)


def Jr (x112 : Bool) : Option Int :=
  if x112 then
    some (-1)
  else
    some 1
def Qd (p0 : (List zG)) (p1 : (List zG)) : Option Int :=
  (idx p0 0).bind fun x115 =>
  (idx p1 0).bind fun zCL =>
  (zB2 x115 zCL).bind fun zYL =>
  if zYL then
    Jr zYL
  else
    (idx p0 0).bind fun VO =>
    (idx p1 0).bind fun VN =>
    (if (Vo VO VN) then 
      (idx p1 1).bind fun zBa =>
      (idx p0 1).bind fun zDW =>
      (zB2 zBa zDW).bind fun zcL =>
      some zcL
     else some false).bind fun zdZ =>
    Jr zdZ


def JE (p0 : Qw) (p1 : Qw) (q0 : (List ((Int × Int) × List Int))) : Option Bool :=
  (zDd okP q0 (p0.to_.X, p0.to_.Y)).bind fun zMW =>
  (if ((zMW.length : Int) == 1) then some true else 
    (JP p1).bind fun zDT =>
    (Vz p0).bind fun zLD =>
    some (Vo zDT zLD)
  ).bind fun zY0 =>
  some zY0

def QG (p0 : Qw) (q1 : (List Bool)) (q3 : (List Qw)) (q4 : (List ((Int × Int) × List Int))) : List Int → Nat → Option Int
  | [], iL1 =>
    some (-1)
  | xL1 :: zV, iL1 =>
    (idx q1 xL1).bind fun zAm =>
    (if (!zAm) then 
      (idx q3 xL1).bind fun x114 =>
      (JE p0 x114 q4).bind fun y115 =>
      some y115
     else some false).bind fun zSL =>
    if zSL then
      some xL1
    else
      (QG p0 q1 q3 q4 zV (iL1 + 1))
def JA (p0 : Qw) (q0 : (List ((Int × Int) × List Int))) (q1 : (List Bool)) (q3 : (List Qw)) (q4 : (List ((Int × Int) × List Int))) : Option Int :=
  (zDd okP q0 (p0.to_.X, p0.to_.Y)).bind fun zFp =>
  QG p0 q1 q3 q4 zFp 0

def Kn (zCT : List (List zG)) (kL8 : (List Bool) → (List (List zG)) → Option (List (List zG))) (zIF : List Bool) (zYq : List Qw) : Option (List (List zG)) :=
  (zCG zYq).bind fun zJ5 =>
  (apd zCT [zJ5]).bind fun zfe =>
  kL8 zIF zfe
def Km (zN : (List Qw)) (m123 : List ((Int × Int) × List Int)) (zCT : List (List zG)) (kL8 : (List Bool) → (List (List zG)) → Option (List (List zG))) (xL8 : Qw) : Nat → List Bool → List Qw → Int → Option (List (List zG))
  | 0, _, _, _ => none
  | zfV + 1, zOE, zOD, zI9 =>
    if (decide (0 ≤ zI9)) then
      (idx zOE zI9).bind fun zqg =>
      (sets zOE zI9 true).bind fun zOC =>
      (idx zN zI9).bind fun zFK =>
      (apd zOD [zFK]).bind fun zYp =>
      (idx zN zI9).bind fun zYQ =>
      (if (Vo zYQ.to_ xL8.from_) then 
        (idx zN zI9).bind fun zRa =>
        (JE zRa xL8 m123).bind fun zYH =>
        some zYH
       else some false).bind fun zki =>
      if zki then
        Kn zCT kL8 zOC zYp
      else
        (idx zN zI9).bind fun zU5 =>
        (JA zU5 m123 zOC zN m123).bind fun zZH =>
        (Km zN m123 zCT kL8 xL8 zfV) zOC zYp zZH
    else
      Kn zCT kL8 zOE zOD
noncomputable def QH (N : Nat) (zN : (List Qw)) (m123 : List ((Int × Int) × List Int)) : List Qw → Nat → List Bool → List (List zG) → Option (List (List zG))
  | [], iL8, zKP, zCT =>
    (zNl zCT (fun z0 z1 => Qd z0 z1)).bind fun zML =>
    some zML
  | xL8 :: zAF, iL8, zKP, zCT =>
    (idx zKP (iL8 : Int)).bind fun zlP =>
    if zlP then
      (QH N zN m123 zAF (iL8 + 1)) zKP zCT
    else
      Km zN m123 zCT (QH N zN m123 zAF (iL8 + 1)) xL8 N zKP ([] : List Qw) (iL8 : Int)
noncomputable def Qs (N : Nat) (zN : (List Qw)) : List Qw → Nat → List ((Int × Int) × List Int) → Option (List (List zG))
  | [], iL1, m123 =>
    (mkl false (zN.length : Int)).bind fun zKR =>
    QH N zN m123 zN 0 zKR ([] : List (List zG))
  | xL1 :: zV, iL1, m123 =>
    (zDd okP m123 (xL1.from_.X, xL1.from_.Y)).bind fun zfb =>
    (apd zfb [(iL1 : Int)]).bind fun zfa =>
    (Qs N zN zV (iL1 + 1)) (zF3 m123 (xL1.from_.X, xL1.from_.Y) zfa)
noncomputable def zAT (N : Nat) (p0 : (List JD)) : Option (List (List zG)) :=
  (zB3 N p0).bind fun zN =>
  Qs N zN zN 0 ([] : List ((Int × Int) × List Int))

def VA (Wv : (List (List zG))) : List (List zG) → Nat → Int → Option ((List (List zG)) × Int)
  | [], iL1, x115 =>
    if (decide (2000 < x115)) then
      some (([] : List (List zG)), 2)
    else
      some (Wv, 0)
  | xL1 :: zV, iL1, x115 =>
    (VA Wv zV (iL1 + 1)) (w64 (x115 + (xL1.length : Int)))
noncomputable def zBm (N : Nat) (p0 : (List zJ)) : Option ((List (List zG)) × Int) :=
  (WH N p0).bind fun zN =>
  if (zN != 0) then
    some (([] : List (List zG)), zN)
  else
    (Wj N p0).bind fun y101 =>
    (zAT N y101).bind fun Wv =>
    VA Wv Wv 0 0


def zB4 (p0 : Int) (p1 : Int) (p2 : Int) : Option Bool :=
  some ((decide (p1 ≤ p0)) && (decide (p0 ≤ p2)))


def Kq (p0 : Int) : Option Bool :=
  (zB4 p0 (-1000000) 1000000).bind fun zN =>
  some zN

def JJ (p0 : (List zJ)) : Nat → Int → Option Int
  | 0, _ => none
  | mL1 + 1, Vk =>
    if (decide (Vk < (p0.length : Int))) then
      (idx p0 Vk).bind fun JM =>
      (Kq JM.X0).bind fun zBv =>
      (if (!zBv) then some true else 
        (Kq JM.Y0).bind fun zcK =>
        some (!zcK)
      ).bind fun zbW =>
      (if zbW then some true else 
        (Kq JM.X1).bind fun zcJ =>
        some (!zcJ)
      ).bind fun zbV =>
      (if zbV then some true else 
        (Kq JM.Y1).bind fun zcI =>
        some (!zcI)
      ).bind fun zdW =>
      if zdW then
        some 1
      else
        if ((decide (JM.X1 ≤ JM.X0)) || (decide (JM.Y1 ≤ JM.Y0))) then
          some 13
        else
          (JJ p0 mL1) (w64 (Vk + 1))
    else
      some 0
def Vs (N : Nat) (p0 : (List zJ)) : Option Int :=
  if (decide (2000 < (p0.length : Int))) then
    some 2
  else
    JJ p0 N 0


def Wu (p0 : zJ) (p1 : zJ) : Option Bool :=
  some ((decide (p0.Y0 < p1.Y0)) || ((p0.Y0 == p1.Y0) && (decide (p0.X0 < p1.X0))))

def KC (p0 : (List Int)) (p1 : Int) : Nat → Int → Int → Option (List Int)
  | 0, _, _ => none
  | mL1 + 1, Vt, zEh =>
    if (decide (Vt < zEh)) then
      (idx p0 (w64 (Int.tdiv (w64 (Vt + zEh)) 2))).bind fun zAm =>
      if (decide (zAm < p1)) then
        (KC p0 p1 mL1) (w64 ((w64 (Int.tdiv (w64 (Vt + zEh)) 2)) + 1)) zEh
      else
        (KC p0 p1 mL1) Vt (w64 (Int.tdiv (w64 (Vt + zEh)) 2))
    else
      (if (decide (Vt < (p0.length : Int))) then 
        (idx p0 Vt).bind fun x113 =>
        some (x113 == p1)
       else some false).bind fun zYz =>
      if zYz then
        some p0
      else
        (pre p0 Vt).bind fun zLb =>
        (apd ([] : List Int) zLb).bind fun zaF =>
        (apd zaF [p1]).bind fun zaE =>
        (cut p0 Vt (p0.length : Int)).bind fun zaD =>
        (apd zaE zaD).bind fun zBj =>
        some zBj
def KS (N : Nat) (p0 : (List Int)) (p1 : Int) : Option (List Int) :=
  KC p0 p1 N 0 (p0.length : Int)

def Jj (N : Nat) (p0 : (List zJ)) : Nat → List Int → Int → Option (List Int)
  | 0, _, _ => none
  | mL1 + 1, Wi, Jp =>
    if (decide (Jp < (p0.length : Int))) then
      (idx p0 Jp).bind fun Vk =>
      (idx p0 Jp).bind fun JM =>
      (KS N Wi Vk.Y0).bind fun zJY =>
      (KS N zJY JM.Y1).bind fun zDO =>
      (Jj N p0 mL1) zDO (w64 (Jp + 1))
    else
      some Wi
def zAZ (N : Nat) (p0 : (List zJ)) : Option (List Int) :=
  Jj N p0 N ([] : List Int) 0

def Jt (p0 : (List KH)) (zBj : List KH) : Nat → Int → Int → Int → Option (List KH)
  | 0, _, _, _ => none
  | mL2 + 1, zGM, zGL, x150 =>
    (if (decide (x150 < (p0.length : Int))) then 
      (idx p0 x150).bind fun x153 =>
      some (decide (x153.from_ ≤ zGL))
     else some false).bind fun zkq =>
    if zkq then
      (idx p0 x150).bind fun zJ6 =>
      (idx p0 x150).bind fun zYS =>
      (Jt p0 zBj mL2) (min zGM zJ6.from_) (max zGL zYS.to_) (w64 (x150 + 1))
    else
      (apd zBj [(KH.mk zGM zGL)]).bind fun zA7 =>
      (cut p0 x150 (p0.length : Int)).bind fun zSA =>
      (apd zA7 zSA).bind fun zR9 =>
      some zR9
def Ju (N : Nat) (p0 : (List KH)) (p1 : KH) : Nat → List KH → Int → Option (List KH)
  | 0, _, _ => none
  | mL1 + 1, zBj, zMS =>
    (if (decide (zMS < (p0.length : Int))) then 
      (idx p0 zMS).bind fun Jp =>
      some (decide (Jp.to_ < p1.from_))
     else some false).bind fun zks =>
    if zks then
      (idx p0 zMS).bind fun zBa =>
      (apd zBj [zBa]).bind fun zKR =>
      (Ju N p0 p1 mL1) zKR (w64 (zMS + 1))
    else
      Jt p0 zBj N p1.from_ p1.to_ zMS
def VV (N : Nat) (p0 : (List KH)) (p1 : KH) : Option (List KH) :=
  Ju N p0 p1 N ([] : List KH) 0

def KA (N : Nat) (p0 : (List zJ)) (p1 : Int) : Nat → List KH → Int → Option (List KH)
  | 0, _, _ => none
  | mL1 + 1, Wi, Jp =>
    if (decide (Jp < (p0.length : Int))) then
      (idx p0 Jp).bind fun zBa =>
      (if (decide (zBa.Y0 ≤ p1)) then 
        (idx p0 Jp).bind fun Vk =>
        some (decide (p1 < Vk.Y1))
       else some false).bind fun zdY =>
      if zdY then
        (idx p0 Jp).bind fun JM =>
        (idx p0 Jp).bind fun zAb =>
        (VV N Wi (KH.mk JM.X0 zAb.X1)).bind fun zBv =>
        (KA N p0 p1 mL1) zBv (w64 (Jp + 1))
      else
        (KA N p0 p1 mL1) Wi (w64 (Jp + 1))
    else
      some Wi
def zAl (N : Nat) (p0 : (List zJ)) (p1 : Int) : Option (List KH) :=
  KA N p0 p1 N ([] : List KH) 0

def JN (p0 : (List KH)) (p1 : (List KH)) : Nat → Int → Option Bool
  | 0, _ => none
  | mL1 + 1, x107 =>
    if (decide (x107 < (p0.length : Int))) then
      (idx p0 x107).bind fun Vt =>
      (idx p1 x107).bind fun zEh =>
      if (!(zHM Vt zEh)) then
        some false
      else
        (JN p0 p1 mL1) (w64 (x107 + 1))
    else
      some true
def VJ (N : Nat) (p0 : (List KH)) (p1 : (List KH)) : Option Bool :=
  if ((p0.length : Int) != (p1.length : Int)) then
    some false
  else
    JN p0 p1 N 0


def KQ (N : Nat) (p0 : (List zk)) (p1 : zk) : Option (List zk) :=
  if ((p1.spans.length : Int) == 0) then
    some p0
  else
    (if (decide (0 < (p0.length : Int))) then 
      (idx p0 (w64 ((p0.length : Int) - 1))).bind fun x103 =>
      some (x103.to_ == p1.from_)
     else some false).bind fun zSN =>
    (if zSN then 
      (idx p0 (w64 ((p0.length : Int) - 1))).bind fun Vt =>
      (VJ N Vt.spans p1.spans).bind fun zI8 =>
      some zI8
     else some false).bind fun zSM =>
    if zSM then
      (idx p0 (w64 ((p0.length : Int) - 1))).bind fun zB7 =>
      (sets p0 (w64 ((p0.length : Int) - 1)) (zk.mk zB7.from_ p1.to_ zB7.spans)).bind fun zJp =>
      some zJp
    else
      (apd p0 [p1]).bind fun zLb =>
      some zLb

def KP (p0 : (List zk)) (zB6 : Int) (kL3 : (List zJ) → Int → Option (List zJ)) : Nat → List zJ → Int → Option (List zJ)
  | 0, _, _ => none
  | mL4 + 1, zEk, zFM =>
    (idx p0 zB6).bind fun zZP =>
    if (decide (zFM < (zZP.spans.length : Int))) then
      (idx p0 zB6).bind fun zcS =>
      (idx zcS.spans zFM).bind fun zBA =>
      (idx p0 zB6).bind fun zJd =>
      (idx p0 zB6).bind fun zcR =>
      (idx zcR.spans zFM).bind fun zJc =>
      (idx p0 zB6).bind fun zJb =>
      (apd zEk [(zJ.mk zBA.from_ zJd.from_ zJc.to_ zJb.to_)]).bind fun zEj =>
      (KP p0 zB6 kL3 mL4) zEj (w64 (zFM + 1))
    else
      kL3 zEk (w64 (zB6 + 1))
def JB (N : Nat) (p0 : (List zk)) : Nat → List zJ → Int → Option (List zJ)
  | 0, _, _ => none
  | mL3 + 1, zR8, zB6 =>
    if (decide (zB6 < (p0.length : Int))) then
      KP p0 zB6 (JB N p0 mL3) N zR8 0
    else
      some zR8
def Vp (N : Nat) (p0 : (List zk)) : Option (List zJ) :=
  JB N p0 N ([] : List zJ) 0

def QU (N : Nat) (p0 : (List zJ)) (zN : (List Int)) : Nat → List zk → Int → Option (List zJ)
  | 0, _, _ => none
  | mL1 + 1, zA8, zAb =>
    if (decide (zAb < (zN.length : Int))) then
      (idx zN (w64 (zAb - 1))).bind fun zEA =>
      (idx zN zAb).bind fun zEx =>
      (idx zN (w64 (zAb - 1))).bind fun zNb =>
      (zAl N p0 zNb).bind fun zLC =>
      (KQ N zA8 (zk.mk zEA zEx zLC)).bind fun zPc =>
      (QU N p0 zN mL1) zPc (w64 (zAb + 1))
    else
      (Vp N zA8).bind fun zPb =>
      some zPb
def VL (N : Nat) (p0 : (List zJ)) : Option (List zJ) :=
  (zAZ N p0).bind fun zN =>
  QU N p0 zN N ([] : List zk) 1

def JO (p0 : (List zJ)) (p1 : (List zJ)) : Nat → Int → Option Bool
  | 0, _ => none
  | mL1 + 1, x107 =>
    if (decide (x107 < (p0.length : Int))) then
      (idx p0 x107).bind fun Vt =>
      (idx p1 x107).bind fun zEh =>
      if (!(zE3 Vt zEh)) then
        some false
      else
        (JO p0 p1 mL1) (w64 (x107 + 1))
    else
      some true
def VK (N : Nat) (p0 : (List zJ)) (p1 : (List zJ)) : Option Bool :=
  if ((p0.length : Int) != (p1.length : Int)) then
    some false
  else
    JO p0 p1 N 0

def QL (N : Nat) (p0 : (List zJ)) : Nat → Int → Option Int
  | 0, _ => none
  | mL1 + 1, zAm =>
    if (decide (zAm < (p0.length : Int))) then
      (idx p0 (w64 (zAm - 1))).bind fun zB7 =>
      (idx p0 zAm).bind fun x112 =>
      (Wu zB7 x112).bind fun y113 =>
      if (!y113) then
        some 8
      else
        (QL N p0 mL1) (w64 (zAm + 1))
    else
      (VL N p0).bind fun y114 =>
      (VK N p0 y114).bind fun zGJ =>
      if (!zGJ) then
        some 3
      else
        some 0
def Vg (N : Nat) (p0 : (List zJ)) : Option Int :=
  (Vs N p0).bind fun zN =>
  if (zN != 0) then
    some zN
  else
    QL N p0 N 1

def Jv (p0 : (List KH)) (p1 : Int) : Nat → Int → Option Bool
  | 0, _ => none
  | mL1 + 1, zB7 =>
    if (decide (zB7 < (p0.length : Int))) then
      (idx p0 zB7).bind fun x112 =>
      (if (decide (x112.from_ ≤ p1)) then 
        (idx p0 zB7).bind fun x115 =>
        some (decide (p1 < x115.to_))
       else some false).bind fun zda =>
      if zda then
        some true
      else
        (Jv p0 p1 mL1) (w64 (zB7 + 1))
    else
      some false
def zAs (N : Nat) (p0 : (List KH)) (p1 : Int) : Option Bool :=
  Jv p0 p1 N 0

def JL (N : Nat) (zAH : List Int) (zDQ : List (List Bool)) (zJe : Int) (kL4 : (List (List Bool)) → Int → Option zCq) (zFn : (List KH)) : Nat → List Bool → Int → Option zCq
  | 0, _, _ => none
  | mL5 + 1, zKQ, zHq =>
    if (decide (zHq < (zAH.length : Int))) then
      (idx zAH (w64 (zHq - 1))).bind fun zFM =>
      (zAs N zFn zFM).bind fun zUw =>
      (idx zKQ (w64 (zHq - 1))).bind fun zqh =>
      (sets zKQ (w64 (zHq - 1)) zUw).bind fun zVT =>
      (JL N zAH zDQ zJe kL4 zFn mL5) zVT (w64 (zHq + 1))
    else
      (apd zDQ [zKQ]).bind fun zZ6 =>
      kL4 zZ6 (w64 (zJe + 1))
def QM (N : Nat) (p0 : (List zJ)) (zAH : List Int) (zCN : List Int) : Nat → List (List Bool) → Int → Option zCq
  | 0, _, _ => none
  | mL4 + 1, zDQ, zJe =>
    if (decide (zJe < (zCN.length : Int))) then
      (idx zCN (w64 (zJe - 1))).bind fun ze5 =>
      (zAl N p0 ze5).bind fun zFn =>
      (mkl false (zAH.length : Int)).bind fun zcw =>
      JL N zAH zDQ zJe (QM N p0 zAH zCN mL4) zFn N zcw 1
    else
      some (zCq.mk zAH zCN zDQ)
def Jl (N : Nat) (p0 : (List zJ)) : Nat → List Int → List Int → Int → Option zCq
  | 0, _, _, _ => none
  | mL1 + 1, zAH, zCN, zEP =>
    if (decide (zEP < (p0.length : Int))) then
      (idx p0 zEP).bind fun zcU =>
      (idx p0 zEP).bind fun zcT =>
      (KS N zAH zcU.X0).bind fun zSu =>
      (KS N zSu zcT.X1).bind fun zHz =>
      (idx p0 zEP).bind fun x150 =>
      (idx p0 zEP).bind fun x151 =>
      (KS N zCN x150.Y0).bind fun y152 =>
      (KS N y152 x151.Y1).bind fun zPZ =>
      (Jl N p0 mL1) zHz zPZ (w64 (zEP + 1))
    else
      QM N p0 zAH zCN N ([] : List (List Bool)) 1
def Wd (N : Nat) (p0 : (List zJ)) : Option zCq :=
  Jl N p0 N [] [] 0


def Jk (p0 : zCq) (p1 : Int) (p2 : Int) : Option Bool :=
  (if ((((decide (0 ≤ p2)) && (decide (p2 < (p0.in_.length : Int)))) && (decide (0 ≤ p1))) && (decide (p1 < (w64 ((p0.xs.length : Int) - 1))))) then 
    (idx p0.in_ p2).bind fun x105 =>
    (idx x105 p1).bind fun x107 =>
    some x107
   else some false).bind fun zbZ =>
  some zbZ

def Ka (zN : zCq) (zAO : Int) (zBZ : Int) (zTa : (List zM) → Int → Option (List zM)) (WV : Int) (WU : Int) (WT : Int) (zIF : List zM) : Option (List zM) :=
  (Jk zN (w64 (zBZ - 1)) zAO).bind fun zcG =>
  if (!zcG) then
    (apd zIF [(zM.mk (zG.mk WV WT) (zG.mk WV WU))]).bind fun zfg =>
    zTa zfg (w64 (zBZ + 1))
  else
    zTa zIF (w64 (zBZ + 1))
def KZ (zN : zCq) (zAO : Int) (zBZ : Int) (zTa : (List zM) → Int → Option (List zM)) (WV : Int) (zAE : Int) (WU : Int) (WT : Int) (zR5 : List zM) : Option (List zM) :=
  (Jk zN zBZ (w64 (zAO + 1))).bind fun zcF =>
  if (!zcF) then
    (apd zR5 [(zM.mk (zG.mk zAE WT) (zG.mk WV WT))]).bind fun zff =>
    Ka zN zAO zBZ zTa WV WU WT zff
  else
    Ka zN zAO zBZ zTa WV WU WT zR5
def KY (zN : zCq) (zAO : Int) (zBZ : Int) (zTa : (List zM) → Int → Option (List zM)) (WV : Int) (zAE : Int) (WU : Int) (WT : Int) (zR6 : List zM) : Option (List zM) :=
  (Jk zN (w64 (zBZ + 1)) zAO).bind fun zcE =>
  if (!zcE) then
    (apd zR6 [(zM.mk (zG.mk zAE WU) (zG.mk zAE WT))]).bind fun zfd =>
    KZ zN zAO zBZ zTa WV zAE WU WT zfd
  else
    KZ zN zAO zBZ zTa WV zAE WU WT zR6
def zo (zN : zCq) (zAO : Int) (zcx : (List zM) → Int → Option (List zM)) : Nat → List zM → Int → Option (List zM)
  | 0, _, _ => none
  | zN8 + 1, zLX, zBZ =>
    if (decide (zBZ < (w64 ((zN.xs.length : Int) - 1)))) then
      (idx zN.in_ zAO).bind fun zU6 =>
      (idx zU6 zBZ).bind fun zlO =>
      if (!zlO) then
        (zo zN zAO zcx zN8) zLX (w64 (zBZ + 1))
      else
        (idx zN.xs zBZ).bind fun WV =>
        (idx zN.xs (w64 (zBZ + 1))).bind fun zAE =>
        (idx zN.ys zAO).bind fun WU =>
        (idx zN.ys (w64 (zAO + 1))).bind fun WT =>
        (Jk zN zBZ (w64 (zAO - 1))).bind fun zcD =>
        if (!zcD) then
          (apd zLX [(zM.mk (zG.mk WV WU) (zG.mk zAE WU))]).bind fun zfc =>
          KY zN zAO zBZ (zo zN zAO zcx zN8) WV zAE WU WT zfc
        else
          KY zN zAO zBZ (zo zN zAO zcx zN8) WV zAE WU WT zLX
    else
      zcx zLX (w64 (zAO + 1))
def QD (N : Nat) (zN : zCq) : Nat → List zM → Int → Option (List zM)
  | 0, _, _ => none
  | zN9 + 1, zR7, zAO =>
    if (decide (zAO < (zN.in_.length : Int))) then
      zo zN zAO (QD N zN zN9) N zR7 0
    else
      some zR7
def zAB (N : Nat) (p0 : (List zJ)) : Option (List zM) :=
  (Wd N p0).bind fun zN =>
  QD N zN N ([] : List zM) 0


def Kk (p0 : Int) : Option Int :=
  if (decide (p0 < 0)) then
    some (-1)
  else
    if (decide (0 < p0)) then
      some 1
    else
      some 0


def VB (p0 : zM) : Option zG :=
  (Kk (w64 (p0.to_.X - p0.from_.X))).bind fun y102 =>
  (Kk (w64 (p0.to_.Y - p0.from_.Y))).bind fun Wv =>
  some (zG.mk y102 Wv)

def QO (p0 : (List zM)) (p1 : (List Bool)) (p2 : zM) (y101 : zG) : Nat → Int → Int → Option Int
  | 0, _, _ => none
  | mL1 + 1, Jp, zBa =>
    if (decide (zBa < (p0.length : Int))) then
      (idx p1 zBa).bind fun zDW =>
      (if zDW then some true else 
        (idx p0 zBa).bind fun JM =>
        some (!(Vo JM.from_ p2.to_))
      ).bind fun zkr =>
      if zkr then
        (QO p0 p1 p2 y101 mL1) Jp (w64 (zBa + 1))
      else
        (idx p0 zBa).bind fun zAb =>
        (VB zAb).bind fun zBv =>
        if ((decide (Jp < 0)) || (decide (0 < (w64 ((w64 (y101.X * zBv.Y)) - (w64 (y101.Y * zBv.X))))))) then
          (QO p0 p1 p2 y101 mL1) zBa (w64 (zBa + 1))
        else
          (QO p0 p1 p2 y101 mL1) Jp (w64 (zBa + 1))
    else
      some Jp
def zBQ (N : Nat) (p0 : (List zM)) (p1 : (List Bool)) (p2 : zM) : Option Int :=
  (VB p2).bind fun y101 =>
  QO p0 p1 p2 y101 N (-1) 0


def Vq (p0 : zG) (p1 : zG) : Option Bool :=
  some ((decide (p0.Y < p1.Y)) || ((p0.Y == p1.Y) && (decide (p0.X < p1.X))))

def Qv (zEl : List zG) : Nat → Int → Int → Option (List zG)
  | 0, _, _ => none
  | mL2 + 1, x152, x153 =>
    if (decide (x153 < (zEl.length : Int))) then
      (idx zEl x153).bind fun zZT =>
      (idx zEl x152).bind fun zJ6 =>
      (Vq zZT zJ6).bind fun zcH =>
      if zcH then
        (Qv zEl mL2) x153 (w64 (x153 + 1))
      else
        (Qv zEl mL2) x152 (w64 (x153 + 1))
    else
      (cut zEl x152 (zEl.length : Int)).bind fun zaC =>
      (apd ([] : List zG) zaC).bind fun zA7 =>
      (pre zEl x152).bind fun zSA =>
      (apd zA7 zSA).bind fun zR9 =>
      some zR9
def JK (N : Nat) (p0 : (List zM)) : Nat → List zG → Int → Option (List zG)
  | 0, _, _ => none
  | mL1 + 1, zEl, zDW =>
    if (decide (zDW < (p0.length : Int))) then
      (md (w64 ((w64 (zDW + (p0.length : Int))) - 1)) (p0.length : Int)).bind fun q126 =>
      (idx p0 q126).bind fun Vk =>
      (VB Vk).bind fun zJY =>
      (idx p0 zDW).bind fun zU8 =>
      (VB zU8).bind fun zDO =>
      if (!(Vo zJY zDO)) then
        (idx p0 zDW).bind fun zEx =>
        (apd zEl [zEx.from_]).bind fun zfr =>
        (JK N p0 mL1) zfr (w64 (zDW + 1))
      else
        (JK N p0 mL1) zEl (w64 (zDW + 1))
    else
      Qv zEl N 0 0
def Vj (N : Nat) (p0 : (List zM)) : Option (List zG) :=
  JK N p0 N ([] : List zG) 0

def Qu (zBs : List (List zG)) (zDU : Int) (kL5 : (List Bool) → (List (List zG)) → Int → Option (List (List zG))) (zFo : List Bool) (zC2 : (List zG)) : Nat → Int → Option (List (List zG))
  | 0, _ => none
  | mL7 + 1, zJa =>
    (if (decide (0 < zJa)) then 
      (idx zC2 0).bind fun zZM =>
      (idx zBs (w64 (zJa - 1))).bind fun zU3 =>
      (idx zU3 0).bind fun zZL =>
      (Vq zZM zZL).bind fun zZF =>
      (if zZF then some true else 
        (idx zC2 0).bind fun zYP =>
        (idx zBs (w64 (zJa - 1))).bind fun zU2 =>
        (idx zU2 0).bind fun zYO =>
        (if (Vo zYP zYO) then 
          (idx zBs (w64 (zJa - 1))).bind fun zU1 =>
          (idx zU1 1).bind fun zZK =>
          (idx zC2 1).bind fun zZJ =>
          (Vq zZK zZJ).bind fun zcC =>
          some zcC
         else some false).bind fun zkf =>
        some zkf
      ).bind fun zkg =>
      some zkg
     else some false).bind fun zkh =>
    if zkh then
      (Qu zBs zDU kL5 zFo zC2 mL7) (w64 (zJa - 1))
    else
      (pre zBs zJa).bind fun zZ3 =>
      (apd ([] : List (List zG)) zZ3).bind fun zZ2 =>
      (apd zZ2 [zC2]).bind fun zZ1 =>
      (cut zBs zJa (zBs.length : Int)).bind fun zZ0 =>
      (apd zZ1 zZ0).bind fun zZz =>
      kL5 zFo zZz (w64 (zDU + 1))
def JI (N : Nat) (zN : (List zM)) (zBs : List (List zG)) (zDU : Int) (kL5 : (List Bool) → (List (List zG)) → Int → Option (List (List zG))) : Nat → List Bool → List zM → Int → Option (List (List zG))
  | 0, _, _, _ => none
  | mL6 + 1, zFo, zPj, zLE =>
    if (decide (0 ≤ zLE)) then
      (idx zFo zLE).bind fun zqf =>
      (sets zFo zLE true).bind fun zR4 =>
      (idx zN zLE).bind fun zFJ =>
      (apd zPj [zFJ]).bind fun zfZ =>
      (idx zN zLE).bind fun zU4 =>
      (zBQ N zN zR4 zU4).bind fun zZG =>
      (JI N zN zBs zDU kL5 mL6) zR4 zfZ zZG
    else
      (Vj N zPj).bind fun zC2 =>
      Qu zBs zDU kL5 zFo zC2 N (zBs.length : Int)
def zt (N : Nat) (zN : (List zM)) : Nat → List Bool → List (List zG) → Int → Option (List (List zG))
  | 0, _, _, _ => none
  | mL5 + 1, zPk, zBs, zDU =>
    if (decide (zDU < (zN.length : Int))) then
      (idx zPk zDU).bind fun zlN =>
      if zlN then
        (zt N zN mL5) zPk zBs (w64 (zDU + 1))
      else
        JI N zN zBs zDU (zt N zN mL5) N zPk ([] : List zM) zDU
    else
      some zBs
def Vr (N : Nat) (p0 : (List zJ)) : Option (List (List zG)) :=
  (zAB N p0).bind fun zN =>
  (mkl false (zN.length : Int)).bind fun zMW =>
  zt N zN N zMW ([] : List (List zG)) 0

def JW (y101 : (List (List zG))) : Nat → Int → Int → Option ((List (List zG)) × Int)
  | 0, _, _ => none
  | mL1 + 1, x113, x114 =>
    if (decide (x114 < (y101.length : Int))) then
      (idx y101 x114).bind fun x115 =>
      (JW y101 mL1) (w64 (x113 + (x115.length : Int))) (w64 (x114 + 1))
    else
      if (decide (2000 < x113)) then
        some (([] : List (List zG)), 2)
      else
        some (y101, 0)
def WM (N : Nat) (p0 : (List zJ)) : Option ((List (List zG)) × Int) :=
  (Vg N p0).bind fun zN =>
  if (zN != 0) then
    some (([] : List (List zG)), zN)
  else
    (Vr N p0).bind fun y101 =>
    JW y101 N 0 0

def JU (p1 : zG → Option Bool) : List zG → Nat → Option Int
  | [], iL1 =>
    some (-1)
  | xL1 :: zV, iL1 =>
    (p1 xL1).bind fun Wv =>
    if Wv then
      some (iL1 : Int)
    else
      (JU p1 zV (iL1 + 1))
def zAM (p0 : (List zG)) (p1 : zG → Option Bool) : Option Int :=
  JU p1 p0 0


def Kt (p0 : (List zG)) (p1 : zG → Option Bool) : Option Bool :=
  (zAM p0 p1).bind fun zN =>
  some (decide (0 ≤ zN))


def zCH (p0 : zG) : Option Bool :=
  (zAN p0.X).bind fun y101 =>
  (if y101 then 
    (zAN p0.Y).bind fun y104 =>
    some y104
   else some false).bind fun zIM =>
  some zIM


def WA (p0 : zG) : Option Bool :=
  (zCH p0).bind fun y101 =>
  some (!y101)

def WZ (p0 : (List zG)) : List zG → Nat → Option Bool
  | [], iL1 =>
    some true
  | xL1 :: zV, iL1 =>
    (md (w64 ((iL1 : Int) + 1)) (p0.length : Int)).bind fun q107 =>
    (idx p0 q107).bind fun Vt =>
    if ((xL1.X == Vt.X) == (xL1.Y == Vt.Y)) then
      some false
    else
      (WZ p0 zV (iL1 + 1))
def zCx (p0 : (List zG)) : Option Bool :=
  if (decide ((p0.length : Int) < 4)) then
    some false
  else
    WZ p0 p0 0


def zAx (p0 : zJ) (p1 : zJ) : Option Int :=
  some (w64 (p0.X0 - p1.X0))

def Ki (zBq : (List Int)) (zFW : List JD) (zGK : Int) (kL6 : (List JD) → Int → Option (List JD)) : List zJ → Nat → List Int → Option (List JD)
  | [], iL7, zFV =>
    (idx zBq zGK).bind fun zZO =>
    (idx zBq (w64 (zGK + 1))).bind fun zZN =>
    (VG zFW (JD.mk zZO zZN zFV)).bind fun zPS =>
    kL6 zPS (w64 (zGK + 1))
  | xL7 :: zEC, iL7, zFV =>
    (idx zBq zGK).bind fun ze0 =>
    (if (decide (ze0 < xL7.Y0)) then some true else 
      (idx zBq zGK).bind fun zlR =>
      some (decide (xL7.Y1 ≤ zlR))
    ).bind fun zkk =>
    if zkk then
      (Ki zBq zFW zGK kL6 zEC (iL7 + 1)) zFV
    else
      (if (decide (0 < (zFV.length : Int))) then 
        (idx zFV (w64 ((zFV.length : Int) - 1))).bind fun zlQ =>
        some (zlQ == xL7.X0)
       else some false).bind fun zkj =>
      if zkj then
        (pre zFV (w64 ((zFV.length : Int) - 1))).bind fun zfj =>
        (Ki zBq zFW zGK kL6 zEC (iL7 + 1)) zfj
      else
        (apd zFV [xL7.X0]).bind fun zfi =>
        (Ki zBq zFW zGK kL6 zEC (iL7 + 1)) zfi
def Kj (zBq : (List Int)) (zBh : (List zJ)) : Nat → List JD → Int → Option (List JD)
  | 0, _, _ => none
  | mL6 + 1, zFW, zGK =>
    if (decide ((w64 (zGK + 1)) < (zBq.length : Int))) then
      Ki zBq zFW zGK (Kj zBq zBh mL6) zBh 0 ([] : List Int)
    else
      some zFW
def Kh (kL3 : (List Int) → (List zJ) → Option (List JD)) (xL3 : (List zG)) : List zG → Nat → List Int → List zJ → Option (List JD)
  | [], iL8, zPl, zMV =>
    kL3 zPl zMV
  | xL8 :: zAF, iL8, zPl, zMV =>
    (md (w64 ((iL8 : Int) + 1)) (xL3.length : Int)).bind fun q378 =>
    (idx xL3 q378).bind fun zDP =>
    (apd zPl [xL8.Y]).bind fun zZ4 =>
    if (xL8.X == zDP.X) then
      (apd zMV [(zJ.mk xL8.X (min xL8.Y zDP.Y) 0 (max xL8.Y zDP.Y))]).bind fun zfh =>
      (Kh kL3 xL3 zAF (iL8 + 1)) zZ4 zfh
    else
      (Kh kL3 xL3 zAF (iL8 + 1)) zZ4 zMV
noncomputable def JV (N : Nat) : List (List zG) → Nat → List Int → List zJ → Option (List JD)
  | [], iL3, zLY, zJo =>
    (zPd zLY).bind fun zLB =>
    (cpI zLB).bind fun zBq =>
    (zJi zJo (fun z0 z1 => zAx z0 z1)).bind fun zBh =>
    Kj zBq zBh N ([] : List JD) 0
  | xL3 :: zA0, iL3, zLY, zJo =>
    Kh (JV N zA0 (iL3 + 1)) xL3 xL3 0 zLY zJo
noncomputable def zA6 (N : Nat) (p0 : (List (List zG))) : Option (List JD) :=
  JV N p0 0 ([] : List Int) ([] : List zJ)

def Kg : List JD → Nat → Int → Option Int
  | [], iL1, x112 =>
    some x112
  | xL1 :: zV, iL1, x112 =>
    (Kg zV (iL1 + 1)) (w64 (x112 + (w64 (Int.tdiv (xL1.Xs.length : Int) 2))))
def zCQ (p0 : (List JD)) : Option Int :=
  Kg p0 0 0


def Wt (N : Nat) (p0 : (List JD)) : Option ((List zJ) × Int) :=
  (zCQ p0).bind fun zN =>
  if (decide (2000 < zN)) then
    some (([] : List zJ), 2)
  else
    (zAI N p0).bind fun y101 =>
    some (y101, 0)

noncomputable def VH (N : Nat) (p0 : (List (List zG))) : List (List zG) → Nat → Option ((List zJ) × Int)
  | [], iL2 =>
    (zA6 N p0).bind fun zGJ =>
    (Wt N zGJ).bind fun zGU =>
    some (zGU.1, zGU.2)
  | xL2 :: WQ, iL2 =>
    if (decide ((xL2.length : Int) < 4)) then
      some (([] : List zJ), 3)
    else
      (Kt xL2 (fun z0 => WA z0)).bind fun zcM =>
      if zcM then
        some (([] : List zJ), 1)
      else
        (zCx xL2).bind fun VM =>
        if (!VM) then
          some (([] : List zJ), 3)
        else
          (VH N p0 WQ (iL2 + 1))
noncomputable def Vf (N : Nat) (p0 : (List (List zG))) : List (List zG) → Nat → Int → Option ((List zJ) × Int)
  | [], iL1, zAm =>
    if (decide (2000 < zAm)) then
      some (([] : List zJ), 2)
    else
      VH N p0 p0 0
  | xL1 :: zV, iL1, zAm =>
    (Vf N p0 zV (iL1 + 1)) (w64 (zAm + (xL1.length : Int)))
noncomputable def zBn (N : Nat) (p0 : (List (List zG))) : Option ((List zJ) × Int) :=
  Vf N p0 p0 0 0


def We (p0 : zG) : Option Bool :=
  (Kq p0.X).bind fun y101 =>
  (if y101 then 
    (Kq p0.Y).bind fun y104 =>
    some y104
   else some false).bind fun zIM =>
  some zIM

def JY (p0 : (List zG)) : Nat → Int → Option Int
  | 0, _ => none
  | mL2 + 1, Vk =>
    if (decide (Vk < (p0.length : Int))) then
      (idx p0 Vk).bind fun zAb =>
      (md (w64 (Vk + 1)) (p0.length : Int)).bind fun q130 =>
      (idx p0 q130).bind fun zEA =>
      if ((zAb.X == zEA.X) == (zAb.Y == zEA.Y)) then
        some 3
      else
        (JY p0 mL2) (w64 (Vk + 1))
    else
      some 0
def JZ (N : Nat) (p0 : (List zG)) : Nat → Int → Option Int
  | 0, _ => none
  | mL1 + 1, x107 =>
    if (decide (x107 < (p0.length : Int))) then
      (idx p0 x107).bind fun Vt =>
      (We Vt).bind fun zRZ =>
      if (!zRZ) then
        some 1
      else
        (JZ N p0 mL1) (w64 (x107 + 1))
    else
      JY p0 N 0
def WN (N : Nat) (p0 : (List zG)) : Option Int :=
  if (decide ((p0.length : Int) < 4)) then
    some 3
  else
    JZ N p0 N 0

def Js (p0 : (List Int)) (zA7 : List Int) (x159 : Int) (kL3 : (List Int) → Int → Option (List KH)) : Nat → Int → Option (List KH)
  | 0, _ => none
  | mL4 + 1, zD3 =>
    (if (decide (0 < zD3)) then 
      (idx zA7 (w64 (zD3 - 1))).bind fun zlc =>
      (idx p0 x159).bind fun zlb =>
      some (decide (zlb < zlc))
     else some false).bind fun zkp =>
    if zkp then
      (Js p0 zA7 x159 kL3 mL4) (w64 (zD3 - 1))
    else
      (pre zA7 zD3).bind fun zaB =>
      (apd ([] : List Int) zaB).bind fun zaA =>
      (idx p0 x159).bind fun zRc =>
      (apd zaA [zRc]).bind fun zZ9 =>
      (cut zA7 zD3 (zA7.length : Int)).bind fun zZ8 =>
      (apd zZ9 zZ8).bind fun zZ7 =>
      kL3 zZ7 (w64 (x159 + 1))
def Qz (N : Nat) (zA7 : List Int) : Nat → List KH → Int → Option (List KH)
  | 0, _, _ => none
  | mL5 + 1, zOG, zMR =>
    if (decide ((w64 (zMR + 1)) < (zA7.length : Int))) then
      (idx zA7 zMR).bind fun zlZ =>
      (idx zA7 (w64 (zMR + 1))).bind fun zB6 =>
      if (decide (zlZ < zB6)) then
        (idx zA7 zMR).bind fun zZS =>
        (idx zA7 (w64 (zMR + 1))).bind fun zZR =>
        (VV N zOG (KH.mk zZS zZR)).bind fun zPY =>
        (Qz N zA7 mL5) zPY (w64 (zMR + 2))
      else
        (Qz N zA7 mL5) zOG (w64 (zMR + 2))
    else
      some zOG
def Qr (N : Nat) (p0 : (List Int)) : Nat → List Int → Int → Option (List KH)
  | 0, _, _ => none
  | mL3 + 1, zA7, x159 =>
    if (decide (x159 < (p0.length : Int))) then
      Js p0 zA7 x159 (Qr N p0 mL3) N (zA7.length : Int)
    else
      Qz N zA7 N ([] : List KH) 0
def zAr (N : Nat) (p0 : (List Int)) : Option (List KH) :=
  Qr N p0 N ([] : List Int) 0

def JX (N : Nat) (p0 : (List (List zG))) (zJf : Int) (kL3 : (List Int) → Int → Option (List zJ)) : Nat → List Int → Int → Option (List zJ)
  | 0, _, _ => none
  | mL4 + 1, zTY, zU7 =>
    (idx p0 zJf).bind fun zla =>
    if (decide (zU7 < (zla.length : Int))) then
      (idx p0 zJf).bind fun ze7 =>
      (idx ze7 zU7).bind fun ze6 =>
      (KS N zTY ze6.Y).bind fun zSt =>
      (JX N p0 zJf kL3 mL4) zSt (w64 (zU7 + 1))
    else
      kL3 zTY (w64 (zJf + 1))
def Qj (p0 : (List (List zG))) (zBE : List Int) (zCS : Int) (zBr : Int) (zft : (List Int) → Int → Option (List zJ)) : Nat → List Int → Int → Option (List zJ)
  | 0, _, _ => none
  | zct + 1, zIE, zD2 =>
    (idx p0 zBr).bind fun zSw =>
    if (decide (zD2 < (zSw.length : Int))) then
      (idx p0 zBr).bind fun zYN =>
      (idx zYN zD2).bind fun zC4 =>
      (idx p0 zBr).bind fun zYM =>
      (idx p0 zBr).bind fun zU0 =>
      (md (w64 (zD2 + 1)) (zU0.length : Int)).bind fun q931 =>
      (idx zYM q931).bind fun zFI =>
      (if (zC4.X == zFI.X) then 
        (idx zBE (w64 (zCS - 1))).bind fun zcP =>
        some (decide ((min zC4.Y zFI.Y) ≤ zcP))
       else some false).bind fun zYx =>
      (if zYx then 
        (idx zBE (w64 (zCS - 1))).bind fun zcO =>
        some (decide (zcO < (max zC4.Y zFI.Y)))
       else some false).bind fun zke =>
      if zke then
        (apd zIE [zC4.X]).bind fun zfY =>
        (Qj p0 zBE zCS zBr zft zct) zfY (w64 (zD2 + 1))
      else
        (Qj p0 zBE zCS zBr zft zct) zIE (w64 (zD2 + 1))
    else
      zft zIE (w64 (zBr + 1))
def Qa (N : Nat) (p0 : (List (List zG))) (zBE : List Int) (zC9 : List zk) (zCS : Int) (zmA : (List zk) → Int → Option (List zJ)) : Nat → List Int → Int → Option (List zJ)
  | 0, _, _ => none
  | zZp + 1, zPi, zBr =>
    if (decide (zBr < (p0.length : Int))) then
      Qj p0 zBE zCS zBr (Qa N p0 zBE zC9 zCS zmA zZp) N zPi 0
    else
      (idx zBE (w64 (zCS - 1))).bind fun zUz =>
      (idx zBE zCS).bind fun zUy =>
      (zAr N zPi).bind fun zLA =>
      (KQ N zC9 (zk.mk zUz zUy zLA)).bind fun zPR =>
      zmA zPR (w64 (zCS + 1))
def QC (N : Nat) (p0 : (List (List zG))) (zBE : List Int) : Nat → List zk → Int → Option (List zJ)
  | 0, _, _ => none
  | zVS + 1, zC9, zCS =>
    if (decide (zCS < (zBE.length : Int))) then
      Qa N p0 zBE zC9 zCS (QC N p0 zBE zVS) N ([] : List Int) 0
    else
      (Vp N zC9).bind fun zPQ =>
      some zPQ
def Qe (N : Nat) (p0 : (List (List zG))) : Nat → List Int → Int → Option (List zJ)
  | 0, _, _ => none
  | mL3 + 1, zBE, zJf =>
    if (decide (zJf < (p0.length : Int))) then
      JX N p0 zJf (Qe N p0 mL3) N zBE 0
    else
      QC N p0 zBE N ([] : List zk) 1
def Ko (N : Nat) (p0 : (List (List zG))) : Option (List zJ) :=
  Qe N p0 N ([] : List Int) 0


def Vi (p0 : (List zJ)) : Option ((List zJ) × Int) :=
  if (decide (2000 < (p0.length : Int))) then
    some (([] : List zJ), 2)
  else
    some (p0, 0)

def JQ (N : Nat) (p0 : (List (List zG))) : Nat → Int → Option ((List zJ) × Int)
  | 0, _ => none
  | mL2 + 1, zDW =>
    if (decide (zDW < (p0.length : Int))) then
      (idx p0 zDW).bind fun zYT =>
      (WN N zYT).bind fun zYJ =>
      if (zYJ != 0) then
        some (([] : List zJ), zYJ)
      else
        (JQ N p0 mL2) (w64 (zDW + 1))
    else
      (Ko N p0).bind fun zDO =>
      (Vi zDO).bind fun zHn =>
      some (zHn.1, zHn.2)
def Jw (N : Nat) (p0 : (List (List zG))) : Nat → Int → Int → Option ((List zJ) × Int)
  | 0, _, _ => none
  | mL1 + 1, zAm, zB7 =>
    if (decide (zB7 < (p0.length : Int))) then
      (idx p0 zB7).bind fun x112 =>
      (Jw N p0 mL1) (w64 (zAm + (x112.length : Int))) (w64 (zB7 + 1))
    else
      if (decide (2000 < zAm)) then
        some (([] : List zJ), 2)
      else
        JQ N p0 N 0
def WB (N : Nat) (p0 : (List (List zG))) : Option ((List zJ) × Int) :=
  Jw N p0 N 0 0

def Jo (p1 : (List zG)) : List zG → Nat → Option Bool
  | [], iL1 =>
    some true
  | xL1 :: zV, iL1 =>
    (idx p1 (iL1 : Int)).bind fun x103 =>
    if (!(Vo xL1 x103)) then
      some false
    else
      (Jo p1 zV (iL1 + 1))
def zAS (p0 : (List zG)) (p1 : (List zG)) : Option Bool :=
  if ((p0.length : Int) != (p1.length : Int)) then
    some false
  else
    Jo p1 p0 0

def zAY : List zJ → Nat → Int → Option Int
  | [], iL1, zAm =>
    some zAm
  | xL1 :: zV, iL1, zAm =>
    (zAY zV (iL1 + 1)) (w64 (zAm + (w64 ((w64 (xL1.X1 - xL1.X0)) * (w64 (xL1.Y1 - xL1.Y0))))))
def zFh (p0 : (List zJ)) : Option Int :=
  zAY p0 0 0


noncomputable def zE8 (N : Nat) (p0 : (List zJ)) : Option (Int × Int) :=
  (WH N p0).bind fun zN =>
  if (zN != 0) then
    some (0, zN)
  else
    (zFh p0).bind fun y101 =>
    some (y101, 0)


noncomputable def zAC (N : Nat)  : Option Bool :=
  (zE8 N [(zJ.mk 0 0 2 3)]).bind fun y101 =>
  some ((y101.2 == 0) && (y101.1 == 6))

def QX (p1 : (List (List zG))) : List (List zG) → Nat → Option Bool
  | [], iL1 =>
    some true
  | xL1 :: zV, iL1 =>
    (idx p1 (iL1 : Int)).bind fun x107 =>
    (zAS xL1 x107).bind fun zRZ =>
    if (!zRZ) then
      some false
    else
      (QX p1 zV (iL1 + 1))
def Kw (p0 : (List (List zG))) (p1 : (List (List zG))) : Option Bool :=
  if ((p0.length : Int) != (p1.length : Int)) then
    some false
  else
    QX p1 p0 0


noncomputable def KW (N : Nat) (p0 : (List zJ)) (p1 : (List (List zG))) : Option Bool :=
  (zBm N p0).bind fun zN =>
  (WM N p0).bind fun y102 =>
  (zBn N p1).bind fun y104 =>
  (WB N p1).bind fun zDT =>
  (Kw zN.1 y102.1).bind fun zSv =>
  (if (zSv && (zN.2 == y102.2)) then 
    (WF y104.1 zDT.1).bind fun zJZ =>
    some zJZ
   else some false).bind fun zT6 =>
  (if (zT6 && (y104.2 == zDT.2)) then 
    (zAC N).bind fun y114 =>
    some y114
   else some false).bind fun zSL =>
  some zSL

end Go.Proofs.YtacapjleiadkkaaGreat
