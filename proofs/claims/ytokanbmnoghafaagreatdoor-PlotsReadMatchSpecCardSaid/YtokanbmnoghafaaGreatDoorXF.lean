/- The plain functions: what each function of the program computes; none where it would panic. -/
import Derived.Test.YtokanbmnoghafaaGreatDoorXT
namespace Go.Proofs.YtokanbmnoghafaaGreatDoor
open Go.RowKit



def Ke (p0 : ByteArray) (p1 : ByteArray) : Option Bool :=
  (if (decide ((p1.size : Int) ≤ (p0.size : Int))) then 
    (zEn p0 0 (p1.size : Int)).bind fun t102 =>
    some (sEq t102 p1)
   else some false).bind fun g101 =>
  some g101


def Vv (p0 : ByteArray) (p1 : ByteArray) : Option ByteArray :=
  (Ke p0 p1).bind fun zl =>
  if zl then
    (zEn p0 (p1.size : Int) (p0.size : Int)).bind fun t101 =>
    some t101
  else
    some p0


def Vz (p0 : ByteArray) (p1 : ByteArray) : Option ByteArray :=
  (Vv p0 p1).bind fun zl =>
  some zl




def zBa (p0 : ByteArray) : Option (Int × Bool) :=
  (Vz p0 (⟨#[45]⟩)).bind fun zl =>
  (if ((decide ((zl.size : Int) < 1)) || (decide (9 < (zl.size : Int)))) then some true else 
    (trimF zl (⟨#[48, 49, 50, 51, 52, 53, 54, 55, 56, 57]⟩)).bind fun zk =>
    some (!sEq zk (⟨#[]⟩))
  ).bind fun g102 =>
  (if g102 then some true else 
    (zCN zl 0).bind fun c106 =>
    some ((c106 == 48) && (!sEq p0 (⟨#[48]⟩)))
  ).bind fun zIG =>
  if zIG then
    some (0, false)
  else
    (zHW p0).bind fun zGB =>
    some (zGB, true)

def KY : List ByteArray → Nat → List Int → Option ((List Int) × Bool)
  | [], iL1, Kl =>
    some (Kl, true)
  | xL1 :: zz, iL1, Kl =>
    (zBa xL1).bind fun y115 =>
    if (!y115.2) then
      some (([] : List Int), false)
    else
      (apd Kl [y115.1]).bind fun l117 =>
      (KY zz (iL1 + 1)) l117
def WB (p0 : (List ByteArray)) : Option ((List Int) × Bool) :=
  KY p0 0 ([] : List Int)



def zBB (p0 : Int) : Option Bool :=
  some ((decide (p0 < 33)) || (decide (126 < p0)))


def zBM (p0 : ByteArray) : Option Bool :=
  (if (!sEq p0 (⟨#[]⟩)) then 
    (zCc p0 (fun z0 => zBB z0)).bind fun y102 =>
    some (!y102)
   else some false).bind fun g101 =>
  some g101

def Jv (p0 : QZ) (VQ : ((List Int) × Bool)) (x113 : ByteArray) : Nat → List VS → Int → Option (Bool × Int × Bool × (List zt) × (List zD))
  | 0, _, _ => none
  | mL1 + 1, zEA, zBv =>
    if (decide (zBv < (VQ.1.length : Int))) then
      (idx VQ.1 zBv).bind fun zDe =>
      (idx VQ.1 (w64 (zBv + 1))).bind fun zD8 =>
      (idx VQ.1 (w64 (zBv + 2))).bind fun zAv =>
      (idx VQ.1 (w64 (zBv + 3))).bind fun Vt =>
      (apd zEA [(VS.mk zDe zD8 zAv Vt)]).bind fun zBX =>
      (Jv p0 VQ x113 mL1) zBX (w64 (zBv + 4))
    else
      (apd p0.p.Tools [(zt.mk x113 zEA)]).bind fun l145 =>
      some (true, p0.p.Unit, p0.unit, l145, p0.open_)
def WU (N : Nat) (p0 : QZ) (p1 : (List ByteArray)) : Option (Bool × Int × Bool × (List zt) × (List zD)) :=
  (idx p1 0).bind fun x100 =>
  if (sEq x100 (⟨#[117, 110, 105, 116]⟩)) then
    (cut p1 1 (p1.length : Int)).bind fun l101 =>
    (WB l101).bind fun y102 =>
    if ((p0.unit || (!y102.2)) || ((y102.1.length : Int) != 1)) then
      some (false, p0.p.Unit, p0.unit, p0.p.Tools, p0.open_)
    else
      (idx y102.1 0).bind fun x104 =>
      some (true, x104, true, p0.p.Tools, p0.open_)
  else
    (if (((!p0.unit) || p0.step) || (decide ((p1.length : Int) < 2))) then some true else 
      (idx p1 1).bind fun Wm =>
      (zBM Wm).bind fun zD7 =>
      some (!zD7)
    ).bind fun g107 =>
    if g107 then
      some (false, p0.p.Unit, p0.unit, p0.p.Tools, p0.open_)
    else
      (cut p1 2 (p1.length : Int)).bind fun l110 =>
      (WB l110).bind fun VQ =>
      if (((!VQ.2) || ((VQ.1.length : Int) == 0)) || ((Int.tmod (VQ.1.length : Int) 4) != 0)) then
        some (false, p0.p.Unit, p0.unit, p0.p.Tools, p0.open_)
      else
        (idx p1 1).bind fun x113 =>
        Jv p0 VQ x113 N ([] : List VS) 0


def Jw (p0 : QZ) (p1 : zD) : Option ((List zD) × (List zD)) :=
  if (decide (0 ≤ (w64 ((p0.open_.length : Int) - 1)))) then
    (idx p0.open_ (w64 ((p0.open_.length : Int) - 1))).bind fun x103 =>
    (apd x103.Steps [p1]).bind fun zDh =>
    some (p0.p.Steps, (List.set p0.open_ ((w64 ((p0.open_.length : Int) - 1))).toNat (zD.mk x103.Kind x103.Name x103.At x103.Points x103.NX x103.NY zDh)))
  else
    (apd p0.p.Steps ([(zD.mk 0 (⟨#[]⟩) (zf.mk 0 0) [] 0 0 [])])).bind fun l118 =>
    (idx l118 (p0.p.Steps.length : Int)).bind fun x119 =>
    (sets l118 (p0.p.Steps.length : Int) p1).bind fun zFj =>
    some (zFj, p0.open_)

def JQ (p1 : ByteArray) : List ByteArray → Nat → Option Int
  | [], iL1 =>
    some (-1)
  | xL1 :: zz, iL1 =>
    if (sEq p1 xL1) then
      some (iL1 : Int)
    else
      (JQ p1 zz (iL1 + 1))
def Je (p0 : (List ByteArray)) (p1 : ByteArray) : Option Int :=
  JQ p1 p0 0

def JV (p0 : QZ) (zAv : Int) (Vt : Int) (x140 : Int) (zBF : List zf) : Option (Bool × (List zD) × (List zD)) :=
  (Jw p0 (zD.mk zAv (⟨#[]⟩) (zf.mk Vt x140) zBF 0 0 [])).bind fun zCH =>
  some (true, zCH.1, zCH.2)
def JU (p0 : QZ) (p2 : (List Int)) : Nat → List zf → Int → Option (Bool × (List zD) × (List zD))
  | 0, _, _ => none
  | mL4 + 1, zG6, zFX =>
    if (decide (zFX < (p2.length : Int))) then
      (idx p2 zFX).bind fun zGU =>
      (idx p2 (w64 (zFX + 1))).bind fun zGT =>
      (apd zG6 [(zf.mk zGU zGT)]).bind fun l174 =>
      (JU p0 p2 mL4) l174 (w64 (zFX + 2))
    else
      JV p0 7 0 0 zG6
def QU (N : Nat) (p0 : QZ) (p1 : ByteArray) (p2 : (List Int)) (x148 : Bool) : Option (Bool × (List zD) × (List zD)) :=
  if x148 then
    if ((p2.length : Int) != 2) then
      some (false, p0.p.Steps, p0.open_)
    else
      (Je ([⟨#[109, 111, 118, 101]⟩, ⟨#[102, 108, 97, 115, 104]⟩, ⟨#[108, 105, 110, 101]⟩]) p1).bind fun y152 =>
      (idx p2 0).bind fun x153 =>
      (idx p2 1).bind fun x154 =>
      JV p0 (w64 (4 + y152)) x153 x154 ([] : List zf)
  else
    if (sEq p1 (⟨#[97, 114, 101, 97]⟩)) then
      if ((Int.tmod (p2.length : Int) 2) != 0) then
        some (false, p0.p.Steps, p0.open_)
      else
        JU p0 p2 N ([] : List zf) 0
    else
      if (sEq p1 (⟨#[114, 101, 112, 101, 97, 116]⟩)) then
        if ((p2.length : Int) != 4) then
          some (false, p0.p.Steps, p0.open_)
        else
          (idx p2 0).bind fun zGS =>
          (idx p2 1).bind fun zGR =>
          (idx p2 2).bind fun zEh =>
          (idx p2 3).bind fun zCz =>
          (apd p0.open_ [(zD.mk 8 (⟨#[]⟩) (zf.mk zEh zCz) [] zGS zGR [])]).bind fun l182 =>
          some (true, p0.p.Steps, l182)
      else
        some (false, p0.p.Steps, p0.open_)
def KG (N : Nat) (p0 : QZ) (p1 : ByteArray) (p2 : (List Int)) : Option (Bool × (List zD) × (List zD)) :=
  if (sEq p1 (⟨#[109, 111, 118, 101]⟩)) then
    QU N p0 p1 p2 (sEq p1 (⟨#[109, 111, 118, 101]⟩))
  else
    if (sEq p1 (⟨#[102, 108, 97, 115, 104]⟩)) then
      QU N p0 p1 p2 (sEq p1 (⟨#[102, 108, 97, 115, 104]⟩))
    else
      QU N p0 p1 p2 (sEq p1 (⟨#[108, 105, 110, 101]⟩))


def WT (N : Nat) (p0 : QZ) (p1 : ByteArray) : Option (Bool × Int × Bool × Bool × (List zt) × (List zD) × (List zD)) :=
  (zGY p1 (⟨#[32]⟩)).bind fun zl =>
  (idx zl 0).bind fun x102 =>
  (if (sEq x102 (⟨#[117, 110, 105, 116]⟩)) then some true else 
    (idx zl 0).bind fun x105 =>
    some (sEq x105 (⟨#[116, 111, 111, 108]⟩))
  ).bind fun g104 =>
  if g104 then
    (WU N p0 zl).bind fun WP =>
    some (WP.1, WP.2.1, WP.2.2.1, p0.step, WP.2.2.2.1, p0.p.Steps, WP.2.2.2.2)
  else
    if (!p0.unit) then
      some (false, p0.p.Unit, p0.unit, p0.step, p0.p.Tools, p0.p.Steps, p0.open_)
    else
      if (sEq p1 (⟨#[100, 97, 114, 107]⟩)) then
        (Jw (QZ.mk p0.p p0.unit p0.open_ true) (zD.mk 1 (⟨#[]⟩) (zf.mk 0 0) [] 0 0 [])).bind fun zCy =>
        some (true, p0.p.Unit, p0.unit, true, p0.p.Tools, zCy.1, zCy.2)
      else
        if (sEq p1 (⟨#[99, 108, 101, 97, 114]⟩)) then
          (Jw (QZ.mk p0.p p0.unit p0.open_ true) (zD.mk 2 (⟨#[]⟩) (zf.mk 0 0) [] 0 0 [])).bind fun zCI =>
          some (true, p0.p.Unit, p0.unit, true, p0.p.Tools, zCI.1, zCI.2)
        else
          if (sEq p1 (⟨#[100, 111, 110, 101]⟩)) then
            if (decide ((w64 ((p0.open_.length : Int) - 1)) < 0)) then
              some (false, p0.p.Unit, p0.unit, true, p0.p.Tools, p0.p.Steps, p0.open_)
            else
              (idx p0.open_ (w64 ((p0.open_.length : Int) - 1))).bind fun x112 =>
              (pre p0.open_ (w64 ((p0.open_.length : Int) - 1))).bind fun zG7 =>
              (Jw (QZ.mk p0.p p0.unit zG7 true) x112).bind fun Ja =>
              some (true, p0.p.Unit, p0.unit, true, p0.p.Tools, Ja.1, Ja.2)
          else
            (idx zl 0).bind fun x121 =>
            if (sEq x121 (⟨#[117, 115, 101]⟩)) then
              (if ((zl.length : Int) != 2) then some true else 
                (idx zl 1).bind fun zGV =>
                (zBM zGV).bind fun y126 =>
                some (!y126)
              ).bind fun g124 =>
              if g124 then
                some (false, p0.p.Unit, p0.unit, true, p0.p.Tools, p0.p.Steps, p0.open_)
              else
                (idx zl 1).bind fun Ww =>
                (Jw (QZ.mk p0.p p0.unit p0.open_ true) (zD.mk 3 Ww (zf.mk 0 0) [] 0 0 [])).bind fun zF9 =>
                some (true, p0.p.Unit, p0.unit, true, p0.p.Tools, zF9.1, zF9.2)
            else
              (cut zl 1 (zl.length : Int)).bind fun l130 =>
              (WB l130).bind fun zFV =>
              if zFV.2 then
                (idx zl 0).bind fun zD8 =>
                (KG N (QZ.mk p0.p p0.unit p0.open_ true) zD8 zFV.1).bind fun zDE =>
                some (zDE.1, p0.p.Unit, p0.unit, true, p0.p.Tools, zDE.2.1, zDE.2.2)
              else
                some (false, p0.p.Unit, p0.unit, true, p0.p.Tools, p0.p.Steps, p0.open_)


def VO (p0 : Int) (p1 : Int) (p2 : Int) : Option Bool :=
  some ((decide (p1 ≤ p0)) && (decide (p0 ≤ p2)))

def Ku (p0 : ByteArray) : Nat → Int → Option Bool
  | 0, _ => none
  | mL1 + 1, x105 =>
    if (decide (x105 < (p0.size : Int))) then
      (zCN p0 x105).bind fun c106 =>
      if ((!(((decide (97 ≤ c106)) && (decide (c106 ≤ 122))) || ((decide (65 ≤ c106)) && (decide (c106 ≤ 90))))) && ((x105 == 0) || ((((decide (c106 < 48)) || (decide (57 < c106))) && (c106 != 95)) && (c106 != 45)))) then
        some false
      else
        (Ku p0 mL1) (w64 (x105 + 1))
    else
      some ((decide (1 ≤ (p0.size : Int))) && (decide ((p0.size : Int) ≤ 40)))
def zBb (N : Nat) (p0 : ByteArray) : Option Bool :=
  Ku p0 N 0


def We (p0 : Int) (p1 : Int) : Option Bool :=
  (dv (-1000000) p1).bind fun q100 =>
  (dv 1000000 p1).bind fun q101 =>
  (VO p0 q100 q101).bind fun y102 =>
  some y102

def KS (p1 : Int) : List VS → Nat → Option Int
  | [], iL1 =>
    some 0
  | xL1 :: zz, iL1 =>
    (We xL1.X0 p1).bind fun zIg =>
    (if (!zIg) then some true else 
      (We xL1.Y0 p1).bind fun Ja =>
      some (!Ja)
    ).bind fun g118 =>
    (if g118 then some true else 
      (We xL1.X1 p1).bind fun zJR =>
      some (!zJR)
    ).bind fun g121 =>
    (if g121 then some true else 
      (We xL1.Y1 p1).bind fun y125 =>
      some (!y125)
    ).bind fun g124 =>
    if g124 then
      some 1
    else
      if ((decide (xL1.X1 ≤ xL1.X0)) || (decide (xL1.Y1 ≤ xL1.Y0))) then
        some 13
      else
        (KS p1 zz (iL1 + 1))
def zAV (N : Nat) (p0 : zt) (p1 : Int) : Option Int :=
  (zBb N p0.Name).bind fun y101 =>
  if (!y101) then
    some 5
  else
    if ((p0.Rects.length : Int) == 0) then
      some 9
    else
      if (decide (2000 < (p0.Rects.length : Int))) then
        some 2
      else
        KS p1 p0.Rects 0


def zAS (p0 : Int) : Option Int :=
  (VO p0 1 100).bind fun zl =>
  if zl then
    some p0
  else
    some 1


def zCF (p0 : zD) : Option Int :=
  (zAS p0.NX).bind fun y101 =>
  (zAS p0.NY).bind fun y102 =>
  some (w64 (y101 * y102))

def WN (kL3 : Int → Option Int) (VG : Int) : Option Int :=
  if (decide (3000 < VG)) then
    some 3001
  else
    kL3 VG
def Jt (rec : (List zD) → Option Int) : List zD → Nat → Int → Option Int
  | [], iL3, zBi =>
    some zBi
  | xL3 :: WV, iL3, zBi =>
    if (decide (0 < (xL3.Steps.length : Int))) then
      (zCF xL3).bind fun y134 =>
      (rec xL3.Steps).bind fun y135 =>
      WN (Jt rec WV (iL3 + 1)) (w64 ((w64 (zBi + 1)) + (w64 (y134 * y135))))
    else
      WN (Jt rec WV (iL3 + 1)) (w64 (zBi + 1))
def zDb (N : Nat) (rec : (List zD) → Option Int) (p0 : (List zD)) : Option Int :=
  Jt rec p0 0 0
def zAi : Nat → (List zD) → Option Int
  | 0 => fun _ => none
  | N + 1 => zDb N (zAi N)

def VU (p0 : Int) (x101 : Bool) : Option zCi :=
  if x101 then
    some (zCi.mk false true false false)
  else
    if (p0 == 7) then
      some (zCi.mk false false true false)
    else
      if (p0 == 8) then
        some (zCi.mk false true false true)
      else
        some (zCi.mk false false false false)
def zAq (p0 : Int) : Option zCi :=
  if (p0 == 3) then
    some (zCi.mk true false false false)
  else
    if (p0 == 4) then
      VU p0 (p0 == 4)
    else
      if (p0 == 5) then
        VU p0 (p0 == 5)
      else
        VU p0 (p0 == 6)


def zBg (p0 : zt) (q0 : ByteArray) : Option Bool :=
  some (sEq p0.Name q0)

def QP (q0 : ByteArray) : List zt → Nat → Option Int
  | [], iL1 =>
    some (-1)
  | xL1 :: zz, iL1 =>
    (zBg xL1 q0).bind fun y105 =>
    if y105 then
      some (iL1 : Int)
    else
      (QP q0 zz (iL1 + 1))
def KC (p0 : (List zt)) (q0 : ByteArray) : Option Int :=
  QP q0 p0 0


def zBZ (p0 : QN) (p1 : ByteArray) : Option Int :=
  (KC p0.Tools p1).bind fun y102 =>
  some y102


def zAT (p0 : zf) (p1 : Int) : Option Bool :=
  (We p0.X p1).bind fun y101 =>
  (if y101 then 
    (We p0.Y p1).bind fun y104 =>
    some y104
   else some false).bind fun zEB =>
  some zEB


def Ki (p0 : zf) (q0 : QN) : Option Bool :=
  (zAT p0 q0.Unit).bind fun y101 =>
  some (!y101)

def JM (p1 : zf → Option Bool) : List zf → Nat → Option Int
  | [], iL1 =>
    some (-1)
  | xL1 :: zz, iL1 =>
    (p1 xL1).bind fun zk =>
    if zk then
      some (iL1 : Int)
    else
      (JM p1 zz (iL1 + 1))
def Vw (p0 : (List zf)) (p1 : zf → Option Bool) : Option Int :=
  JM p1 p0 0


def KX (p0 : (List zf)) (p1 : zf → Option Bool) : Option Bool :=
  (Vw p0 p1).bind fun zl =>
  some (decide (0 ≤ zl))

def VV (p0 : (List zf)) : List zf → Nat → Option Bool
  | [], iL1 =>
    some true
  | xL1 :: zz, iL1 =>
    (md (w64 ((iL1 : Int) + 1)) (p0.length : Int)).bind fun q107 =>
    (idx p0 q107).bind fun Wm =>
    if ((xL1.X == Wm.X) == (xL1.Y == Wm.Y)) then
      some false
    else
      (VV p0 zz (iL1 + 1))
def zBY (p0 : (List zf)) : Option Bool :=
  if (decide ((p0.length : Int) < 4)) then
    some false
  else
    VV p0 p0 0

def Qy (p0 : QN) (p1 : zD) (p2 : Int) (zk : zCi) (x105 : Bool) : Option Int :=
  if x105 then
    some 3
  else
    (if zk.name then 
      (zBZ p0 p1.Name).bind fun zCI =>
      some (decide (zCI < 0))
     else some false).bind fun g109 =>
    if g109 then
      some 5
    else
      (zAT p1.At p0.Unit).bind fun VQ =>
      (if (!VQ) then some true else 
        (KX p1.Points (fun z0 => Ki z0 p0)).bind fun y114 =>
        some y114
      ).bind fun g113 =>
      if g113 then
        some 1
      else
        if (decide (2000 < (p1.Points.length : Int))) then
          some 2
        else
          (if zk.points then 
            (zBY p1.Points).bind fun zGA =>
            some (!zGA)
           else some false).bind fun g116 =>
          if g116 then
            some 3
          else
            if (!zk.repeat_) then
              some 0
            else
              (VO p1.NX 1 100).bind fun y118 =>
              (if (!y118) then some true else 
                (VO p1.NY 1 100).bind fun y121 =>
                some (!y121)
              ).bind fun g120 =>
              if g120 then
                some 1
              else
                if ((p1.Steps.length : Int) == 0) then
                  some 9
                else
                  if (decide (5 ≤ p2)) then
                    some 2
                  else
                    some 0
def zAW (p0 : QN) (p1 : zD) (p2 : Int) : Option Int :=
  (VO p1.Kind 1 8).bind fun y102 =>
  if (!y102) then
    some 4
  else
    (zAq p1.Kind).bind fun zk =>
    if ((!zk.name) && (!sEq p1.Name (⟨#[]⟩))) then
      Qy p0 p1 p2 zk ((!zk.name) && (!sEq p1.Name (⟨#[]⟩)))
    else
      if ((!zk.at_) && (!(JP p1.At (zf.mk 0 0)))) then
        Qy p0 p1 p2 zk ((!zk.at_) && (!(JP p1.At (zf.mk 0 0))))
      else
        if ((!zk.points) && (decide (0 < (p1.Points.length : Int)))) then
          Qy p0 p1 p2 zk ((!zk.points) && (decide (0 < (p1.Points.length : Int))))
        else
          Qy p0 p1 p2 zk ((!zk.repeat_) && (((p1.NX != 0) || (p1.NY != 0)) || (decide (0 < (p1.Steps.length : Int)))))

def KO (p0 : QN) (p2 : Int) (rec : QN → (List zD) → Int → Option Int) : List zD → Nat → Option Int
  | [], iL1 =>
    some 0
  | xL1 :: zz, iL1 =>
    (zAW p0 xL1 p2).bind fun zD7 =>
    if (zD7 != 0) then
      some zD7
    else
      (rec p0 xL1.Steps (w64 (p2 + 1))).bind fun zCI =>
      if (zCI != 0) then
        some zCI
      else
        (KO p0 p2 rec zz (iL1 + 1))
def zBV (N : Nat) (rec : QN → (List zD) → Int → Option Int) (p0 : QN) (p1 : (List zD)) (p2 : Int) : Option Int :=
  KO p0 p2 rec p1 0
def Ve : Nat → QN → (List zD) → Int → Option Int
  | 0 => fun _ _ _ => none
  | N + 1 => zBV N (Ve N)

def Jo (N : Nat) (p0 : QN) : List zt → Nat → Option Int
  | [], iL1 =>
    (zAi N p0.Steps).bind fun y112 =>
    if (decide (3000 < y112)) then
      some 2
    else
      (Ve N p0 p0.Steps 0).bind fun y113 =>
      some y113
  | xL1 :: zz, iL1 =>
    (zAV N xL1 p0.Unit).bind fun zIg =>
    if (zIg != 0) then
      some zIg
    else
      (if (decide (0 < (iL1 : Int))) then 
        (idx p0.Tools (w64 ((iL1 : Int) - 1))).bind fun x120 =>
        some (sLt xL1.Name x120.Name || sEq xL1.Name x120.Name)
       else some false).bind fun g119 =>
      if g119 then
        some 8
      else
        (Jo N p0 zz (iL1 + 1))
def KH (N : Nat) (p0 : QN) : Option Int :=
  (VO p0.Unit 1 1000).bind fun y101 =>
  if (!y101) then
    some 1
  else
    if (decide (200 < (p0.Tools.length : Int))) then
      some 2
    else
      Jo N p0 p0.Tools 0

def WA (N : Nat) : Nat → List zD → Int → List zt → List zD → Bool → Bool → ByteArray → Int → Option (QN × Int × Int)
  | 0, _, _, _, _, _, _, _, _ => none
  | mL1 + 1, m138, Vt, zBX, zBF, zEj, zGC, x144, zHn =>
    if (!sEq x144 (⟨#[]⟩)) then
      (cutF x144 (⟨#[10]⟩)).bind fun zCH =>
      if (!zCH.2.2) then
        some ((QN.mk 0 [] []), zHn, 10)
      else
        (WT N (QZ.mk (QN.mk Vt zBX zBF) zEj m138 zGC) zCH.1).bind fun y150 =>
        if (!y150.1) then
          some ((QN.mk 0 [] []), zHn, 10)
        else
          (WA N mL1) y150.2.2.2.2.2.2 y150.2.1 y150.2.2.2.2.1 y150.2.2.2.2.2.1 y150.2.2.1 y150.2.2.2.1 zCH.2.1 (w64 (zHn + 1))
    else
      if ((!zEj) || (decide (0 < (m138.length : Int)))) then
        some ((QN.mk 0 [] []), zHn, 10)
      else
        (KH N (QN.mk Vt zBX zBF)).bind fun y152 =>
        if (y152 != 0) then
          some ((QN.mk 0 [] []), 0, y152)
        else
          some ((QN.mk Vt zBX zBF), 0, 0)
def zAc (N : Nat) (p0 : ByteArray) : Option (QN × Int × Int) :=
  if (decide (200000 < (p0.size : Int))) then
    some ((QN.mk 0 [] []), 0, 2)
  else
    WA N N ([] : List zD) 0 ([] : List zt) ([] : List zD) false false p0 1

def KI : Nat → List ByteArray → List Bool → ByteArray → Option zh
  | 0, _, _, _ => none
  | mL1 + 1, zFj, zFT, zGo =>
    if (!sEq zGo (⟨#[]⟩)) then
      (cutF zGo (⟨#[10]⟩)).bind fun zEg =>
      (apd zFj [zEg.1]).bind fun l125 =>
      (apd zFT [zEg.2.2]).bind fun l127 =>
      (KI mL1) l125 l127 zEg.2.1
    else
      some (zh.mk zFj zFT 0 false)
def zAF (N : Nat) (p0 : ByteArray) : Option zh :=
  KI N ([] : List ByteArray) ([] : List Bool) p0

def Jj (zl : (List ByteArray)) (zEi : Int) (kL3 : Int → Option ((List ByteArray) × Bool)) : Nat → Int → Option ((List ByteArray) × Bool)
  | 0, _ => none
  | mL4 + 1, x184 =>
    (idx zl zEi).bind fun x185 =>
    if (decide (x184 < (x185.size : Int))) then
      (idx zl zEi).bind fun x186 =>
      (zCN x186 x184).bind fun c187 =>
      (if (decide (c187 < 33)) then some true else 
        (idx zl zEi).bind fun x191 =>
        (zCN x191 x184).bind fun c192 =>
        some (decide (126 < c192))
      ).bind fun g190 =>
      if g190 then
        some (([] : List ByteArray), false)
      else
        (Jj zl zEi kL3 mL4) (w64 (x184 + 1))
    else
      kL3 (w64 (zEi + 1))
def Ql (N : Nat) (zl : (List ByteArray)) : Nat → Int → Option ((List ByteArray) × Bool)
  | 0, _ => none
  | mL3 + 1, zEi =>
    if (decide (zEi < (zl.length : Int))) then
      (idx zl zEi).bind fun zBu =>
      if (sEq zBu (⟨#[]⟩)) then
        some (([] : List ByteArray), false)
      else
        Jj zl zEi (Ql N zl mL3) N 0
    else
      some (zl, true)
def Vp (N : Nat) (p0 : ByteArray) : Option ((List ByteArray) × Bool) :=
  (zGY p0 (⟨#[32]⟩)).bind fun zl =>
  Ql N zl N 0


def WH (p0 : ByteArray) (p1 : ByteArray) : Option (ByteArray × Bool) :=
  (Ke p0 p1).bind fun zl =>
  if (!zl) then
    some (p0, false)
  else
    (zEn p0 (p1.size : Int) (p0.size : Int)).bind fun t101 =>
    some (t101, true)


def WS (p0 : ByteArray) (p1 : ByteArray) : Option (ByteArray × Bool) :=
  (WH p0 p1).bind fun zl =>
  some (zl.1, zl.2)


def QW (p0 : Int) (p1 : Int) (p2 : Int) : Option Bool :=
  some ((decide (p1 ≤ p0)) && (decide (p0 ≤ p2)))

def Jg (p0 : ByteArray) (zl : (ByteArray × Bool)) : Nat → Int → Option (Int × Bool)
  | 0, _ => none
  | mL1 + 1, VY =>
    if (decide (VY < (zl.1.size : Int))) then
      (zCN zl.1 VY).bind fun c117 =>
      (if (decide (c117 < 48)) then some true else 
        (zCN zl.1 VY).bind fun c120 =>
        some (decide (57 < c120))
      ).bind fun g119 =>
      if g119 then
        some (0, false)
      else
        (Jg p0 zl mL1) (w64 (VY + 1))
    else
      (zHW p0).bind fun y121 =>
      some (y121, true)
def Vh (N : Nat) (p0 : ByteArray) : Option (Int × Bool) :=
  (WS p0 (⟨#[45]⟩)).bind fun zl =>
  (QW (zl.1.size : Int) 1 9).bind fun y101 =>
  (if (!y101) then some true else 
    (zCN zl.1 0).bind fun c104 =>
    some ((c104 == 48) && ((decide (1 < (zl.1.size : Int))) || zl.2))
  ).bind fun zEB =>
  if zEB then
    some (0, false)
  else
    Jg p0 zl N 0

def JX (N : Nat) (p0 : (List ByteArray)) : Nat → List Int → Int → Option ((List Int) × Bool)
  | 0, _, _ => none
  | mL1 + 1, Kl, x115 =>
    if (decide (x115 < (p0.length : Int))) then
      (idx p0 x115).bind fun VY =>
      (Vh N VY).bind fun zGA =>
      if (!zGA.2) then
        some (([] : List Int), false)
      else
        (apd Kl [zGA.1]).bind fun l119 =>
        (JX N p0 mL1) l119 (w64 (x115 + 1))
    else
      some (Kl, true)
def VW (N : Nat) (p0 : (List ByteArray)) : Option ((List Int) × Bool) :=
  JX N p0 N ([] : List Int) 0

def QO (Kl : List ByteArray) (VY : ByteArray) (Ja : ((List Int) × Bool)) (JY : Bool) : Option (ByteArray × ByteArray × (List Int) × Bool) :=
  (idx Kl 0).bind fun VG =>
  some (VG, VY, Ja.1, JY)
def JI (Kl : List ByteArray) (VY : ByteArray) (Ja : ((List Int) × Bool)) (zAK : ByteArray) (zDe : Bool) : Option (ByteArray × ByteArray × (List Int) × Bool) :=
  if zDe then
    QO Kl VY Ja ((Ja.1.length : Int) == 2)
  else
    if (sEq zAK (⟨#[97, 114, 101, 97]⟩)) then
      QO Kl VY Ja ((Int.tmod (Ja.1.length : Int) 2) == 0)
    else
      if (sEq zAK (⟨#[114, 101, 112, 101, 97, 116]⟩)) then
        QO Kl VY Ja ((Ja.1.length : Int) == 4)
      else
        QO Kl VY Ja false
def Qm (Kl : List ByteArray) (VY : ByteArray) (Ja : ((List Int) × Bool)) (zAK : ByteArray) (zm : Bool) : Option (ByteArray × ByteArray × (List Int) × Bool) :=
  if zm then
    QO Kl VY Ja ((Ja.1.length : Int) == 0)
  else
    if (sEq zAK (⟨#[109, 111, 118, 101]⟩)) then
      JI Kl VY Ja zAK (sEq zAK (⟨#[109, 111, 118, 101]⟩))
    else
      if (sEq zAK (⟨#[102, 108, 97, 115, 104]⟩)) then
        JI Kl VY Ja zAK (sEq zAK (⟨#[102, 108, 97, 115, 104]⟩))
      else
        JI Kl VY Ja zAK (sEq zAK (⟨#[108, 105, 110, 101]⟩))
def JH (N : Nat) (Kl : List ByteArray) (zG7 : List ByteArray) (VY : ByteArray) : Option (ByteArray × ByteArray × (List Int) × Bool) :=
  (VW N zG7).bind fun Ja =>
  if (!Ja.2) then
    some (⟨#[]⟩, ⟨#[]⟩, ([] : List Int), false)
  else
    (idx Kl 0).bind fun zAK =>
    if (sEq zAK (⟨#[117, 110, 105, 116]⟩)) then
      QO Kl VY Ja ((Ja.1.length : Int) == 1)
    else
      if (sEq zAK (⟨#[116, 111, 111, 108]⟩)) then
        QO Kl VY Ja ((decide (0 < (Ja.1.length : Int))) && ((Int.tmod (Ja.1.length : Int) 4) == 0))
      else
        if (sEq zAK (⟨#[100, 97, 114, 107]⟩)) then
          Qm Kl VY Ja zAK (sEq zAK (⟨#[100, 97, 114, 107]⟩))
        else
          if (sEq zAK (⟨#[99, 108, 101, 97, 114]⟩)) then
            Qm Kl VY Ja zAK (sEq zAK (⟨#[99, 108, 101, 97, 114]⟩))
          else
            if (sEq zAK (⟨#[117, 115, 101]⟩)) then
              Qm Kl VY Ja zAK (sEq zAK (⟨#[117, 115, 101]⟩))
            else
              Qm Kl VY Ja zAK (sEq zAK (⟨#[100, 111, 110, 101]⟩))
def JB (N : Nat) (p0 : zh) : Option (ByteArray × ByteArray × (List Int) × Bool) :=
  (idx p0.lines p0.at_).bind fun x101 =>
  (Vp N x101).bind fun y102 =>
  (if (!y102.2) then some true else 
    (idx p0.ends p0.at_).bind fun VK =>
    some (!VK)
  ).bind fun zIG =>
  if zIG then
    some (⟨#[]⟩, ⟨#[]⟩, ([] : List Int), false)
  else
    (cut y102.1 1 (y102.1.length : Int)).bind fun zDh =>
    (idx y102.1 0).bind fun Vt =>
    (if (sEq Vt (⟨#[116, 111, 111, 108]⟩)) then some true else 
      (idx y102.1 0).bind fun zEj =>
      some (sEq zEj (⟨#[117, 115, 101]⟩))
    ).bind fun g141 =>
    if g141 then
      if ((zDh.length : Int) == 0) then
        some (⟨#[]⟩, ⟨#[]⟩, ([] : List Int), false)
      else
        (idx zDh 0).bind fun zGC =>
        (cut zDh 1 (zDh.length : Int)).bind fun l144 =>
        JH N y102.1 l144 zGC
    else
      JH N y102.1 zDh (⟨#[]⟩)


def KQ (p0 : ByteArray) : Option Int :=
  if (sEq p0 (⟨#[100, 97, 114, 107]⟩)) then
    some 1
  else
    if (sEq p0 (⟨#[99, 108, 101, 97, 114]⟩)) then
      some 2
    else
      if (sEq p0 (⟨#[117, 115, 101]⟩)) then
        some 3
      else
        if (sEq p0 (⟨#[109, 111, 118, 101]⟩)) then
          some 4
        else
          if (sEq p0 (⟨#[102, 108, 97, 115, 104]⟩)) then
            some 5
          else
            if (sEq p0 (⟨#[108, 105, 110, 101]⟩)) then
              some 6
            else
              if (sEq p0 (⟨#[97, 114, 101, 97]⟩)) then
                some 7
              else
                if (sEq p0 (⟨#[114, 101, 112, 101, 97, 116]⟩)) then
                  some 8
                else
                  some 0

def QQ (VZ : List zD) (kL11 : Int → Bool → (List zD) → Option ((List zD) × Int × Bool)) (Qn : (ByteArray × ByteArray × (List Int) × Bool)) (VP : Int) (x316 : Int) (x317 : Bool) (zJU : Int) (zAu : Int) (zIk : List zf) (zCS : Int) (zCR : Int) (zIj : List zD) : Option ((List zD) × Int × Bool) :=
  (apd VZ [(zD.mk VP Qn.2.1 (zf.mk zJU zAu) zIk zCS zCR zIj)]).bind fun l331 =>
  kL11 x316 x317 l331
def Qe (WQ : Int) (zAG : Bool) (VZ : List zD) (kL11 : Int → Bool → (List zD) → Option ((List zD) × Int × Bool)) (Qn : (ByteArray × ByteArray × (List Int) × Bool)) (VP : Int) : Nat → List zf → Int → Option ((List zD) × Int × Bool)
  | 0, _, _ => none
  | mL15 + 1, zG5, zFW =>
    if (decide (zFW < (Qn.2.2.1.length : Int))) then
      (idx Qn.2.2.1 zFW).bind fun zGO =>
      (idx Qn.2.2.1 (w64 (zFW + 1))).bind fun zGN =>
      (apd zG5 [(zf.mk zGO zGN)]).bind fun l356 =>
      (Qe WQ zAG VZ kL11 Qn VP mL15) l356 (w64 (zFW + 2))
    else
      QQ VZ kL11 Qn VP (w64 (WQ + 1)) zAG 0 0 zG5 0 0 ([] : List zD)
def zy (N : Nat) (p0 : zh) (rec : zh → Bool → Option ((List zD) × Int × Bool)) (WQ : Int) (zAG : Bool) (VZ : List zD) (kL11 : Int → Bool → (List zD) → Option ((List zD) × Int × Bool)) (Qn : (ByteArray × ByteArray × (List Int) × Bool)) (VP : Int) (x332 : Bool) : Option ((List zD) × Int × Bool) :=
  if x332 then
    (idx Qn.2.2.1 0).bind fun x335 =>
    (idx Qn.2.2.1 1).bind fun x336 =>
    QQ VZ kL11 Qn VP (w64 (WQ + 1)) zAG x335 x336 ([] : List zf) 0 0 ([] : List zD)
  else
    if (VP == 7) then
      Qe WQ zAG VZ kL11 Qn VP N ([] : List zf) 0
    else
      if (VP == 8) then
        (idx Qn.2.2.1 0).bind fun x358 =>
        (idx Qn.2.2.1 1).bind fun x359 =>
        (idx Qn.2.2.1 2).bind fun zJT =>
        (idx Qn.2.2.1 3).bind fun zJS =>
        (rec (zh.mk p0.lines p0.ends (w64 (WQ + 1)) zAG) true).bind fun zCk =>
        if zCk.2.2 then
          some (VZ, zCk.2.1, zCk.2.2)
        else
          QQ VZ kL11 Qn VP zCk.2.1 zCk.2.2 zJT zJS ([] : List zf) x358 x359 zCk.1
      else
        QQ VZ kL11 Qn VP (w64 (WQ + 1)) zAG 0 0 ([] : List zf) 0 0 ([] : List zD)
def zZ (N : Nat) (p0 : zh) (p1 : Bool) (rec : zh → Bool → Option ((List zD) × Int × Bool)) : Nat → Int → Bool → List zD → Option ((List zD) × Int × Bool)
  | 0, _, _, _ => none
  | zJr + 1, WQ, zAG, VZ =>
    if (decide (WQ < (p0.lines.length : Int))) then
      (JB N (zh.mk p0.lines p0.ends WQ zAG)).bind fun Qn =>
      if ((Qn.2.2.2 && p1) && (sEq Qn.1 (⟨#[100, 111, 110, 101]⟩))) then
        some (VZ, (w64 (WQ + 1)), zAG)
      else
        (KQ Qn.1).bind fun VP =>
        if ((!Qn.2.2.2) || (VP == 0)) then
          some (VZ, WQ, true)
        else
          if (VP == 4) then
            zy N p0 rec WQ zAG VZ (zZ N p0 p1 rec zJr) Qn VP (VP == 4)
          else
            if (VP == 5) then
              zy N p0 rec WQ zAG VZ (zZ N p0 p1 rec zJr) Qn VP (VP == 5)
            else
              zy N p0 rec WQ zAG VZ (zZ N p0 p1 rec zJr) Qn VP (VP == 6)
    else
      some (VZ, WQ, p1)
def KD (N : Nat) (rec : zh → Bool → Option ((List zD) × Int × Bool)) (p0 : zh) (p1 : Bool) : Option ((List zD) × Int × Bool) :=
  zZ N p0 p1 rec N p0.at_ p0.bad ([] : List zD)
def JW : Nat → zh → Bool → Option ((List zD) × Int × Bool)
  | 0 => fun _ _ => none
  | N + 1 => KD N (JW N)

def Jr (p0 : ByteArray) : Nat → Int → Option Bool
  | 0, _ => none
  | mL1 + 1, x105 =>
    if (decide (x105 < (p0.size : Int))) then
      (zCN p0 x105).bind fun c106 =>
      if ((!(((decide (97 ≤ c106)) && (decide (c106 ≤ 122))) || ((decide (65 ≤ c106)) && (decide (c106 ≤ 90))))) && ((x105 == 0) || (((c106 != 95) && (c106 != 45)) && (!((decide (48 ≤ c106)) && (decide (c106 ≤ 57))))))) then
        some false
      else
        (Jr p0 mL1) (w64 (x105 + 1))
    else
      (QW (p0.size : Int) 1 40).bind fun zGB =>
      some zGB
def WX (N : Nat) (p0 : ByteArray) : Option Bool :=
  Jr p0 N 0


def zAj (p0 : Int) (p1 : Int) (p2 : Int) : Option Bool :=
  some ((decide (p1 ≤ p0)) && (decide (p0 ≤ p2)))


def Ws (p0 : Int) : Option Bool :=
  (zAj p0 (-1000000) 1000000).bind fun zl =>
  some zl


def Ji (p0 : Int) (p1 : Int) : Option Bool :=
  (Ws p0).bind fun zl =>
  (if zl then 
    (Ws (w64 (p0 * p1))).bind fun zk =>
    some zk
   else some false).bind fun g102 =>
  some g102

def Qf (p0 : (List VS)) (p1 : Int) : Nat → Int → Option Int
  | 0, _ => none
  | mL1 + 1, Ww =>
    if (decide (Ww < (p0.length : Int))) then
      (idx p0 Ww).bind fun JY =>
      (Ji JY.X0 p1).bind fun zIf =>
      (if (!zIf) then some true else 
        (Ji JY.Y0 p1).bind fun y133 =>
        some (!y133)
      ).bind fun g132 =>
      (if g132 then some true else 
        (Ji JY.X1 p1).bind fun y136 =>
        some (!y136)
      ).bind fun g135 =>
      (if g135 then some true else 
        (Ji JY.Y1 p1).bind fun y139 =>
        some (!y139)
      ).bind fun g138 =>
      if g138 then
        some 1
      else
        if ((decide (JY.X1 ≤ JY.X0)) || (decide (JY.Y1 ≤ JY.Y0))) then
          some 13
        else
          (Qf p0 p1 mL1) (w64 (Ww + 1))
    else
      some 0
def KJ (N : Nat) (p0 : (List VS)) (p1 : Int) : Option Int :=
  if ((p0.length : Int) == 0) then
    some 9
  else
    if (decide (2000 < (p0.length : Int))) then
      some 2
    else
      Qf p0 p1 N 0

def Jz (p0 : (List zD)) (rec : (List zD) → Option Int) (zBu : Int) (zBq : Int) (kL5 : Int → Int → Option Int) (zIh : Int) (zCz : Int) : Option Int :=
  (idx p0 zBq).bind fun x182 =>
  (rec x182.Steps).bind fun y184 =>
  kL5 (w64 ((w64 (zBu + 1)) + (w64 ((w64 (zIh * zCz)) * y184)))) (w64 (zBq + 1))
def Jy (p0 : (List zD)) (rec : (List zD) → Option Int) (zBu : Int) (zBq : Int) (kL5 : Int → Int → Option Int) (zIh : Int) : Option Int :=
  (idx p0 zBq).bind fun x185 =>
  (QW x185.NY 1 100).bind fun y187 =>
  if y187 then
    (idx p0 zBq).bind fun x188 =>
    Jz p0 rec zBu zBq kL5 zIh x188.NY
  else
    Jz p0 rec zBu zBq kL5 zIh 1
def QA (p0 : (List zD)) (rec : (List zD) → Option Int) : Nat → Int → Int → Option Int
  | 0, _, _ => none
  | mL5 + 1, zBu, zBq =>
    if ((decide (zBq < (p0.length : Int))) && (decide (zBu ≤ 3000))) then
      (idx p0 zBq).bind fun x190 =>
      (QW x190.NX 1 100).bind fun y192 =>
      if y192 then
        (idx p0 zBq).bind fun x193 =>
        Jy p0 rec zBu zBq (QA p0 rec mL5) x193.NX
      else
        Jy p0 rec zBu zBq (QA p0 rec mL5) 1
    else
      some (min zBu 3001)
def zAY (N : Nat) (rec : (List zD) → Option Int) (p0 : (List zD)) : Option Int :=
  QA p0 rec N 0 0
def KU : Nat → (List zD) → Option Int
  | 0 => fun _ => none
  | N + 1 => zAY N (KU N)

def JJ (p0 : zD) (x104 : Bool) (x105 : Bool) (VK : Bool) (x107 : Bool) : Option Bool :=
  some ((((x104 || (sEq p0.Name (⟨#[]⟩))) && (x105 || (JP p0.At (zf.mk 0 0)))) && (VK || ((p0.Points.length : Int) == 0))) && (x107 || (((p0.NX == 0) && (p0.NY == 0)) && ((p0.Steps.length : Int) == 0))))
def Jq (p0 : zD) (x110 : Bool) : Option Bool :=
  if x110 then
    JJ p0 false true false false
  else
    if (p0.Kind == 7) then
      JJ p0 false false true false
    else
      if (p0.Kind == 8) then
        JJ p0 false true false true
      else
        JJ p0 false false false false
def Vg (p0 : zD) : Option Bool :=
  if (p0.Kind == 3) then
    JJ p0 true false false false
  else
    if (p0.Kind == 4) then
      Jq p0 (p0.Kind == 4)
    else
      if (p0.Kind == 5) then
        Jq p0 (p0.Kind == 5)
      else
        Jq p0 (p0.Kind == 6)

def Jm (p0 : QN) (p1 : ByteArray) : Nat → Int → Option Int
  | 0, _ => none
  | mL1 + 1, Wm =>
    if (decide (Wm < (p0.Tools.length : Int))) then
      (idx p0.Tools Wm).bind fun JF =>
      if (sEq JF.Name p1) then
        some Wm
      else
        (Jm p0 p1 mL1) (w64 (Wm + 1))
    else
      some (-1)
def zAD (N : Nat) (p0 : QN) (p1 : ByteArray) : Option Int :=
  Jm p0 p1 N 0


def KP (p0 : zf) (p1 : Int) : Option Bool :=
  (Ji p0.X p1).bind fun y101 =>
  (if y101 then 
    (Ji p0.Y p1).bind fun y104 =>
    some y104
   else some false).bind fun zEB =>
  some zEB

def JC (p0 : (List zf)) : Nat → Int → Option Int
  | 0, _ => none
  | mL2 + 1, Ww =>
    if (decide (Ww < (p0.length : Int))) then
      (idx p0 Ww).bind fun zEk =>
      (md (w64 (Ww + 1)) (p0.length : Int)).bind fun q130 =>
      (idx p0 q130).bind fun VG =>
      if ((zEk.X == VG.X) == (zEk.Y == VG.Y)) then
        some 3
      else
        (JC p0 mL2) (w64 (Ww + 1))
    else
      some 0
def JD (N : Nat) (p0 : (List zf)) (p1 : Int) : Nat → Int → Option Int
  | 0, _ => none
  | mL1 + 1, x107 =>
    if (decide (x107 < (p0.length : Int))) then
      (idx p0 x107).bind fun Wm =>
      (KP Wm p1).bind fun zD7 =>
      if (!zD7) then
        some 1
      else
        (JD N p0 p1 mL1) (w64 (x107 + 1))
    else
      if (decide (2000 < (p0.length : Int))) then
        some 2
      else
        if (decide ((p0.length : Int) < 4)) then
          some 3
        else
          JC p0 N 0
def Vm (N : Nat) (p0 : (List zf)) (p1 : Int) : Option Int :=
  JD N p0 p1 N 0

def Ju : Option Int :=
  some 0
def VE (N : Nat) (p0 : QN) (p1 : zD) (p2 : Int) : Option Int :=
  (QW p1.Kind 1 8).bind fun y102 =>
  if (!y102) then
    some 4
  else
    (Vg p1).bind fun zk =>
    if (!zk) then
      some 3
    else
      (if (p1.Kind == 3) then 
        (zAD N p0 p1.Name).bind fun WP =>
        some (decide (WP < 0))
       else some false).bind fun zIG =>
      if zIG then
        some 5
      else
        (KP p1.At p0.Unit).bind fun zGB =>
        if (!zGB) then
          some 1
        else
          if (p1.Kind == 7) then
            (Vm N p1.Points p0.Unit).bind fun zCy =>
            some zCy
          else
            if (p1.Kind == 8) then
              (QW p1.NX 1 100).bind fun y115 =>
              (if (!y115) then some true else 
                (QW p1.NY 1 100).bind fun y118 =>
                some (!y118)
              ).bind fun g117 =>
              if g117 then
                some 1
              else
                if ((p1.Steps.length : Int) == 0) then
                  some 9
                else
                  if (decide (5 ≤ p2)) then
                    some 2
                  else
                    Ju
            else
              Ju

def Qx (N : Nat) (p0 : QN) (p1 : (List zD)) (p2 : Int) (rec : QN → (List zD) → Int → Option Int) : Nat → Int → Option Int
  | 0, _ => none
  | mL1 + 1, VY =>
    if (decide (VY < (p1.length : Int))) then
      (idx p1 VY).bind fun zHo =>
      (VE N p0 zHo p2).bind fun Ja =>
      if (Ja != 0) then
        some Ja
      else
        (idx p1 VY).bind fun x120 =>
        (rec p0 x120.Steps (w64 (p2 + 1))).bind fun zJR =>
        if (zJR != 0) then
          some zJR
        else
          (Qx N p0 p1 p2 rec mL1) (w64 (VY + 1))
    else
      some 0
def WO (N : Nat) (rec : QN → (List zD) → Int → Option Int) (p0 : QN) (p1 : (List zD)) (p2 : Int) : Option Int :=
  Qx N p0 p1 p2 rec N 0
def Jk : Nat → QN → (List zD) → Int → Option Int
  | 0 => fun _ _ _ => none
  | N + 1 => WO N (Jk N)

def Qo (N : Nat) (p0 : QN) : Nat → Int → Option Int
  | 0, _ => none
  | mL1 + 1, zGV =>
    if (decide (zGV < (p0.Tools.length : Int))) then
      (idx p0.Tools zGV).bind fun zBi =>
      (WX N zBi.Name).bind fun y129 =>
      if (!y129) then
        some 5
      else
        (KJ N zBi.Rects p0.Unit).bind fun zIf =>
        if (zIf != 0) then
          some zIf
        else
          (if (decide (0 < zGV)) then 
            (idx p0.Tools (w64 (zGV - 1))).bind fun zBv =>
            some (sLt zBi.Name zBv.Name || sEq zBi.Name zBv.Name)
           else some false).bind fun g133 =>
          if g133 then
            some 8
          else
            (Qo N p0 mL1) (w64 (zGV + 1))
    else
      (KU N p0.Steps).bind fun y136 =>
      if (decide (3000 < y136)) then
        some 2
      else
        (Jk N p0 p0.Steps 0).bind fun y137 =>
        some y137
def JK (N : Nat) (p0 : QN) : Option Int :=
  (QW p0.Unit 1 1000).bind fun y101 =>
  if (!y101) then
    some 1
  else
    if (decide (200 < (p0.Tools.length : Int))) then
      some 2
    else
      Qo N p0 N 0

def KL (N : Nat) (y102 : zh) (VK : Int) (x215 : Int) (zGD : List zt) : Option (QN × Int × Int) :=
  (JW N (zh.mk y102.lines y102.ends x215 y102.bad) false).bind fun zBC =>
  if zBC.2.2 then
    some ((QN.mk 0 [] []), (w64 (zBC.2.1 + 1)), 10)
  else
    (JK N (QN.mk VK zGD zBC.1)).bind fun y222 =>
    if (y222 != 0) then
      some ((QN.mk 0 [] []), 0, y222)
    else
      some ((QN.mk VK zGD zBC.1), 0, 0)
def Jn (zCT : Int) (zCY : List zt) (kL8 : Int → (List zt) → Option (QN × Int × Int)) (VB : (ByteArray × ByteArray × (List Int) × Bool)) : Nat → List VS → Int → Option (QN × Int × Int)
  | 0, _, _ => none
  | mL9 + 1, zEw, zAu =>
    if (decide (zAu < (VB.2.2.1.length : Int))) then
      (idx VB.2.2.1 zAu).bind fun zCS =>
      (idx VB.2.2.1 (w64 (zAu + 1))).bind fun zCR =>
      (idx VB.2.2.1 (w64 (zAu + 2))).bind fun zGQ =>
      (idx VB.2.2.1 (w64 (zAu + 3))).bind fun zGP =>
      (apd zEw [(VS.mk zCS zCR zGQ zGP)]).bind fun l325 =>
      (Jn zCT zCY kL8 VB mL9) l325 (w64 (zAu + 4))
    else
      (apd zCY [(zt.mk VB.2.1 zEw)]).bind fun l329 =>
      kL8 (w64 (zCT + 1)) l329
def Qg (N : Nat) (y102 : zh) (VK : Int) : Nat → Int → List zt → Option (QN × Int × Int)
  | 0, _, _ => none
  | mL8 + 1, zCT, zCY =>
    if (decide (zCT < (y102.lines.length : Int))) then
      (JB N (zh.mk y102.lines y102.ends zCT y102.bad)).bind fun VB =>
      if ((!VB.2.2.2) || (!sEq VB.1 (⟨#[116, 111, 111, 108]⟩))) then
        KL N y102 VK zCT zCY
      else
        Jn zCT zCY (Qg N y102 VK mL8) VB N ([] : List VS) 0
    else
      KL N y102 VK zCT zCY
def Kk (N : Nat) (p0 : ByteArray) : Option (QN × Int × Int) :=
  if (decide (200000 < (p0.size : Int))) then
    some ((QN.mk 0 [] []), 0, 2)
  else
    (zAF N p0).bind fun y102 =>
    if ((y102.lines.length : Int) == 0) then
      some ((QN.mk 0 [] []), 1, 10)
    else
      (JB N y102).bind fun y104 =>
      if ((!y104.2.2.2) || (!sEq y104.1 (⟨#[117, 110, 105, 116]⟩))) then
        some ((QN.mk 0 [] []), 1, 10)
      else
        (idx y104.2.2.1 0).bind fun VK =>
        Qg N y102 VK N (w64 (y102.at_ + 1)) ([] : List zt)

def Qw (p0 : (List zf)) (p1 : (List zf)) : Nat → Int → Option Bool
  | 0, _ => none
  | mL1 + 1, x107 =>
    if (decide (x107 < (p0.length : Int))) then
      (idx p0 x107).bind fun Wm =>
      (idx p1 x107).bind fun JF =>
      if (!(JP Wm JF)) then
        some false
      else
        (Qw p0 p1 mL1) (w64 (x107 + 1))
    else
      some true
def Kj (N : Nat) (p0 : (List zf)) (p1 : (List zf)) : Option Bool :=
  if ((p0.length : Int) != (p1.length : Int)) then
    some false
  else
    Qw p0 p1 N 0

def JA (N : Nat) (p0 : (List zD)) (p1 : (List zD)) (rec : (List zD) → (List zD) → Option Bool) : Nat → Int → Option Bool
  | 0, _ => none
  | mL1 + 1, VG =>
    if (decide (VG < (p0.length : Int))) then
      (idx p0 VG).bind fun zm =>
      (idx p1 VG).bind fun zq =>
      (if (((((zm.Kind != zq.Kind) || (!sEq zm.Name zq.Name)) || (!(JP zm.At zq.At))) || (zm.NX != zq.NX)) || (zm.NY != zq.NY)) then some true else 
        (Kj N zm.Points zq.Points).bind fun y141 =>
        some (!y141)
      ).bind fun g140 =>
      (if g140 then some true else 
        (rec zm.Steps zq.Steps).bind fun y144 =>
        some (!y144)
      ).bind fun g143 =>
      if g143 then
        some false
      else
        (JA N p0 p1 rec mL1) (w64 (VG + 1))
    else
      some true
def KZ (N : Nat) (rec : (List zD) → (List zD) → Option Bool) (p0 : (List zD)) (p1 : (List zD)) : Option Bool :=
  if ((p0.length : Int) != (p1.length : Int)) then
    some false
  else
    JA N p0 p1 rec N 0
def VD : Nat → (List zD) → (List zD) → Option Bool
  | 0 => fun _ _ => none
  | N + 1 => KZ N (VD N)

def JE (p0 : (List VS)) (p1 : (List VS)) : Nat → Int → Option Bool
  | 0, _ => none
  | mL1 + 1, x107 =>
    if (decide (x107 < (p0.length : Int))) then
      (idx p0 x107).bind fun Wm =>
      (idx p1 x107).bind fun JF =>
      if (!(zE5 Wm JF)) then
        some false
      else
        (JE p0 p1 mL1) (w64 (x107 + 1))
    else
      some true
def VF (N : Nat) (p0 : (List VS)) (p1 : (List VS)) : Option Bool :=
  if ((p0.length : Int) != (p1.length : Int)) then
    some false
  else
    JE p0 p1 N 0

def JN (N : Nat) (p0 : QN) (p1 : QN) : Nat → Int → Option Bool
  | 0, _ => none
  | mL1 + 1, zAv =>
    if (decide (zAv < (p0.Tools.length : Int))) then
      (idx p0.Tools zAv).bind fun Vt =>
      (idx p1.Tools zAv).bind fun x141 =>
      (if (!sEq Vt.Name x141.Name) then some true else 
        (idx p0.Tools zAv).bind fun x149 =>
        (idx p1.Tools zAv).bind fun x151 =>
        (VF N x149.Rects x151.Rects).bind fun y153 =>
        some (!y153)
      ).bind fun g148 =>
      if g148 then
        some false
      else
        (JN N p0 p1 mL1) (w64 (zAv + 1))
    else
      some true
def KA (N : Nat) (p0 : QN) (p1 : QN) : Option Bool :=
  (if ((p0.Unit != p1.Unit) || ((p0.Tools.length : Int) != (p1.Tools.length : Int))) then some true else 
    (VD N p0.Steps p1.Steps).bind fun y104 =>
    some (!y104)
  ).bind fun zEB =>
  if zEB then
    some false
  else
    JN N p0 p1 N 0



def Wl : List zf → Nat → ByteArray → Option ByteArray
  | [], iL1, zGo =>
    some zGo
  | xL1 :: zz, iL1, zGo =>
    (zG9 xL1.X).bind fun y124 =>
    (zDK (⟨#[32]⟩) y124).bind fun t125 =>
    (zDK t125 (⟨#[32]⟩)).bind fun t126 =>
    (zG9 xL1.Y).bind fun y127 =>
    (zDK t126 y127).bind fun t128 =>
    (zDK zGo t128).bind fun t129 =>
    (Wl zz (iL1 + 1)) t129
def WZ (p0 : (List zf)) : Option ByteArray :=
  Wl p0 0 (⟨#[]⟩)

def Qi (rec : ByteArray → (List zD) → Option ByteArray) : List zD → Nat → ByteArray → Option ByteArray
  | [], iL1, m194 =>
    some m194
  | xL1 :: zz, iL1, m194 =>
    if (xL1.Kind == 1) then
      (sbW m194 (⟨#[100, 97, 114, 107, 10]⟩)).bind fun y197 =>
      (Qi rec zz (iL1 + 1)) y197
    else
      if (xL1.Kind == 2) then
        (sbW m194 (⟨#[99, 108, 101, 97, 114, 10]⟩)).bind fun y199 =>
        (Qi rec zz (iL1 + 1)) y199
      else
        if (xL1.Kind == 3) then
          (zDK (⟨#[117, 115, 101, 32]⟩) xL1.Name).bind fun t201 =>
          (zDK t201 (⟨#[10]⟩)).bind fun t202 =>
          (sbW m194 t202).bind fun y203 =>
          (Qi rec zz (iL1 + 1)) y203
        else
          if (xL1.Kind == 4) then
            (WZ [xL1.At]).bind fun y206 =>
            (zDK (⟨#[109, 111, 118, 101]⟩) y206).bind fun t207 =>
            (zDK t207 (⟨#[10]⟩)).bind fun t208 =>
            (sbW m194 t208).bind fun zHm =>
            (Qi rec zz (iL1 + 1)) zHm
          else
            if (xL1.Kind == 5) then
              (WZ [xL1.At]).bind fun y212 =>
              (zDK (⟨#[102, 108, 97, 115, 104]⟩) y212).bind fun t213 =>
              (zDK t213 (⟨#[10]⟩)).bind fun t214 =>
              (sbW m194 t214).bind fun y215 =>
              (Qi rec zz (iL1 + 1)) y215
            else
              if (xL1.Kind == 6) then
                (WZ [xL1.At]).bind fun y218 =>
                (zDK (⟨#[108, 105, 110, 101]⟩) y218).bind fun t219 =>
                (zDK t219 (⟨#[10]⟩)).bind fun t220 =>
                (sbW m194 t220).bind fun y221 =>
                (Qi rec zz (iL1 + 1)) y221
              else
                if (xL1.Kind == 7) then
                  (WZ xL1.Points).bind fun y223 =>
                  (zDK (⟨#[97, 114, 101, 97]⟩) y223).bind fun t224 =>
                  (zDK t224 (⟨#[10]⟩)).bind fun t225 =>
                  (sbW m194 t225).bind fun y226 =>
                  (Qi rec zz (iL1 + 1)) y226
                else
                  if (xL1.Kind == 8) then
                    (WZ [(zf.mk xL1.NX xL1.NY), xL1.At]).bind fun y229 =>
                    (zDK (⟨#[114, 101, 112, 101, 97, 116]⟩) y229).bind fun t230 =>
                    (zDK t230 (⟨#[10]⟩)).bind fun t231 =>
                    (sbW m194 t231).bind fun y232 =>
                    (rec y232 xL1.Steps).bind fun y234 =>
                    (sbW y234 (⟨#[100, 111, 110, 101, 10]⟩)).bind fun y236 =>
                    (Qi rec zz (iL1 + 1)) y236
                  else
                    (Qi rec zz (iL1 + 1)) m194
def zBU (N : Nat) (rec : ByteArray → (List zD) → Option ByteArray) (p0 : ByteArray) (p1 : (List zD)) : Option ByteArray :=
  Qi rec p1 0 p0
def WI : Nat → ByteArray → (List zD) → Option ByteArray
  | 0 => fun _ _ => none
  | N + 1 => zBU N (WI N)



def zAX (kL3 : ByteArray → Option (ByteArray × Int)) : List VS → Nat → ByteArray → Option (ByteArray × Int)
  | [], iL4, m208 =>
    (sbW m208 (⟨#[10]⟩)).bind fun zHm =>
    kL3 zHm
  | xL4 :: zEp, iL4, m208 =>
    (WZ [(zf.mk xL4.X0 xL4.Y0), (zf.mk xL4.X1 xL4.Y1)]).bind fun y213 =>
    (sbW m208 y213).bind fun y214 =>
    (zAX kL3 zEp (iL4 + 1)) y214
def Vf (N : Nat) (p0 : QN) : List zt → Nat → ByteArray → Option (ByteArray × Int)
  | [], iL3, m178 =>
    (WI N m178 p0.Steps).bind fun y179 =>
    (sbL y179).bind fun y181 =>
    if (decide (200000 < y181.1)) then
      some (⟨#[]⟩, 2)
    else
      (sbS y181.2).bind fun y183 =>
      some (y183.1, 0)
  | xL3 :: WV, iL3, m178 =>
    (zDK (⟨#[116, 111, 111, 108, 32]⟩) xL3.Name).bind fun t187 =>
    (sbW m178 t187).bind fun y188 =>
    zAX (Vf N p0 WV (iL3 + 1)) xL3.Rects 0 y188
def zD2 (N : Nat) (p0 : QN) : Option (ByteArray × Int) :=
  (KH N p0).bind fun y101 =>
  if (y101 != 0) then
    some (⟨#[]⟩, y101)
  else
    (zG9 p0.Unit).bind fun zk =>
    (zDK (⟨#[117, 110, 105, 116, 32]⟩) zk).bind fun t104 =>
    (zDK t104 (⟨#[10]⟩)).bind fun t105 =>
    (sbW ByteArray.empty t105).bind fun WP =>
    Vf N p0 p0.Tools 0 WP


def Vq (N : Nat)  : Option Bool :=
  (zD2 N (QN.mk 7 [] [])).bind fun zl =>
  some ((zl.2 == 0) && (sEq zl.1 (⟨#[117, 110, 105, 116, 32, 55, 10]⟩)))


def JO (N : Nat) (p0 : ByteArray) : Option Bool :=
  (zAc N p0).bind fun zl =>
  (Kk N p0).bind fun zk =>
  (KA N zl.1 zk.1).bind fun WP =>
  (if ((WP && (zl.2.1 == zk.2.1)) && (zl.2.2 == zk.2.2)) then 
    (Vq N).bind fun zD7 =>
    some zD7
   else some false).bind fun g108 =>
  some g108

end Go.Proofs.YtokanbmnoghafaaGreatDoor
