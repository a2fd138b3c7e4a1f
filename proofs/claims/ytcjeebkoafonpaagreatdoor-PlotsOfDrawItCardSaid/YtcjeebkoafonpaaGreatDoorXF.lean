/- The plain functions: what each function of the program computes; none where it would panic. -/
import Derived.Test.YtcjeebkoafonpaaGreatDoorXT
namespace Go.Proofs.YtcjeebkoafonpaaGreatDoor
open Go.RowKit

def qo (p0 : Int) (p1 : Int) (p2 : Int) : Option Bool :=
  some ((decide (p1 ≤ p0)) && (decide (p0 ≤ p2)))


def lu (p0 : Int) : Option Bool :=
  (qo p0 (-1000000) 1000000).bind fun a =>
  some a


def oz (p0 : aQ) : Option Bool :=
  (lu p0.X0).bind fun a =>
  (if a then 
    (lu p0.Y0).bind fun b =>
    some b
   else some false).bind fun c =>
  (if c then 
    (lu p0.X1).bind fun d =>
    some d
   else some false).bind fun e =>
  (if e then 
    (lu p0.Y1).bind fun f =>
    some f
   else some false).bind fun g =>
  some g

def gZ : List aQ → Nat → Option Int
  | [], c =>
    some 0
  | a :: b, c =>
    (oz a).bind fun d =>
    if (!d) then
      some 1
    else
      if ((decide (a.X1 ≤ a.X0)) || (decide (a.Y1 ≤ a.Y0))) then
        some 13
      else
        (gZ b (c + 1))
def mP (p0 : (List aQ)) : Option Int :=
  if (decide (2000 < (p0.length : Int))) then
    some 2
  else
    gZ p0 0


def nX (p0 : (List aQ)) : Option (List aQ) :=
  (yX ([] : List aQ) p0).bind fun a =>
  some a



def ng (p0 : aQ) (p1 : aQ) : Option Int :=
  some (bG (p0.Y0 - p1.Y0))




def mZ (p0 : aQ) (q0 : (List Int)) (q1 : Int) : Option Bool :=
  (idx q0 q1).bind fun a =>
  some (decide (p0.Y1 ≤ a))

def gq (p1 : aQ → Option Bool) : List aQ → Nat → Option Int
  | [], a =>
    some (-1)
  | d :: b, a =>
    (p1 d).bind fun c =>
    if c then
      some (a : Int)
    else
      (gq p1 b (a + 1))
def lM (p0 : (List aQ)) (p1 : aQ → Option Bool) : Option Int :=
  gq p1 p0 0

def fB (p1 : aQ → Option Bool) : Nat → List aQ → Int → Int → Option (List aQ)
  | 0, _, _, _ => none
  | e + 1, a, b, c =>
    if (decide (c < (a.length : Int))) then
      (idx a c).bind fun d =>
      (p1 d).bind fun f =>
      if (!f) then
        (idx a b).bind fun j =>
        (sets a b d).bind fun g =>
        (fB p1 e) g (bG (b + 1)) (bG (c + 1))
      else
        (fB p1 e) a b (bG (c + 1))
    else
      (cut a b (a.length : Int)).bind fun h =>
      (pre (Pg a b (h).length (aQ.mk 0 0 0 0)) b).bind fun i =>
      some i
def kr (N : Nat) (p0 : (List aQ)) (p1 : aQ → Option Bool) : Option (List aQ) :=
  (lM p0 p1).bind fun a =>
  if (a == (-1)) then
    some p0
  else
    fB p1 N p0 a (bG (a + 1))


def kZ (p0 : aQ) (p1 : aQ) : Option Int :=
  some (bG (p0.X0 - p1.X0))

def gT (c : (List aQ)) : List aQ → Nat → List Int → Option ((List Int) × (List aQ))
  | [], e, a =>
    some (a, c)
  | d :: b, e, a =>
    (if (decide (0 ≤ (bG ((a.length : Int) - 1)))) then 
      (idx a (bG ((a.length : Int) - 1))).bind fun f =>
      some (decide (d.X0 ≤ f))
     else some false).bind fun g =>
    if g then
      (idx a (bG ((a.length : Int) - 1))).bind fun h =>
      (idx a (bG ((a.length : Int) - 1))).bind fun l =>
      (sets a (bG ((a.length : Int) - 1)) (max h d.X1)).bind fun i =>
      (gT c b (e + 1)) i
    else
      (yX a [d.X0, d.X1]).bind fun j =>
      (gT c b (e + 1)) j
noncomputable def nD (p0 : (List aQ)) : Option ((List Int) × (List aQ)) :=
  (CK p0 (fun z0 z1 => kZ z0 z1)).bind fun a =>
  gT a a 0 ([] : List Int)

def gX (p1 : (List Int)) : List Int → Nat → Option Bool
  | [], a =>
    some true
  | d :: b, a =>
    (idx p1 (a : Int)).bind fun c =>
    if (d != c) then
      some false
    else
      (gX p1 b (a + 1))
def mO (p0 : (List Int)) (p1 : (List Int)) : Option Bool :=
  if ((p0.length : Int) != (p1.length : Int)) then
    some false
  else
    gX p1 p0 0


def gW (p0 : (List aV)) (p1 : aV) : Option (List aV) :=
  if (((p1.Xs.length : Int) == 0) || (decide (p1.Y1 ≤ p1.Y0))) then
    some p0
  else
    (if (decide (0 ≤ (bG ((p0.length : Int) - 1)))) then 
      (idx p0 (bG ((p0.length : Int) - 1))).bind fun b =>
      some (b.Y1 == p1.Y0)
     else some false).bind fun c =>
    (if c then 
      (idx p0 (bG ((p0.length : Int) - 1))).bind fun d =>
      (mO d.Xs p1.Xs).bind fun e =>
      some e
     else some false).bind fun f =>
    if f then
      (idx p0 (bG ((p0.length : Int) - 1))).bind fun a =>
      (sets p0 (bG ((p0.length : Int) - 1)) (aV.mk a.Y0 p1.Y1 a.Xs)).bind fun g =>
      some g
    else
      (yX p0 [p1]).bind fun h =>
      some h

noncomputable def jI (c : (List aQ)) (d : (List Int)) (a : Int) (e : List aV) (h : Int → (List aV) → (List aQ) → Int → Option (List aV)) : Nat → List aQ → Int → Option (List aV)
  | 0, _, _ => none
  | u + 1, f, b =>
    (if (decide (b < (c.length : Int))) then 
      (idx c b).bind fun i =>
      (idx d a).bind fun j =>
      some (decide (i.Y0 ≤ j))
     else some false).bind fun l =>
    if l then
      (idx c b).bind fun n =>
      (yX f [n]).bind fun o =>
      (jI c d a e h u) o (bG (b + 1))
    else
      (idx d a).bind fun q =>
      (idx d (bG (a + 1))).bind fun s =>
      (nD f).bind fun g =>
      (gW e (aV.mk q s g.1)).bind fun t =>
      h (bG (a + 1)) t g.2 b
noncomputable def gD (N : Nat) (c : (List aQ)) (a : (List Int)) : Nat → Int → List aV → List aQ → Int → Option (List aV)
  | 0, _, _, _, _ => none
  | h + 1, b, d, e, f =>
    if (decide ((bG (b + 1)) < (a.length : Int))) then
      (kr N e (fun z0 => mZ z0 a b)).bind fun g =>
      jI c a b d (gD N c a h) N g f
    else
      some d
noncomputable def jJ (N : Nat) (b : (List aQ)) : List aQ → Nat → List Int → Option (List aV)
  | [], d, a =>
    (Iz a).bind fun f =>
    (TD f).bind fun g =>
    gD N b g N 0 ([] : List aV) ([] : List aQ) 0
  | e :: c, d, a =>
    (yX a [e.Y0, e.Y1]).bind fun h =>
    (jJ N b c (d + 1)) h
noncomputable def mD (N : Nat) (p0 : (List aQ)) : Option (List aV) :=
  (nX p0).bind fun b =>
  (CK b (fun z0 z1 => ng z0 z1)).bind fun a =>
  jJ N a a 0 ([] : List Int)

def gY (d : (List aQ) → Option (List aQ)) (a : aV) : Nat → List aQ → Int → Option (List aQ)
  | 0, _, _ => none
  | h + 1, c, b =>
    if (decide (b < (a.Xs.length : Int))) then
      (idx a.Xs b).bind fun e =>
      (idx a.Xs (bG (b + 1))).bind fun f =>
      (yX c [(aQ.mk e a.Y0 f a.Y1)]).bind fun g =>
      (gY d a h) g (bG (b + 2))
    else
      d c
def fD (N : Nat) : List aV → Nat → List aQ → Option (List aQ)
  | [], c, a =>
    some a
  | d :: b, c, a =>
    gY (fD N b (c + 1)) d N a 0
def kC (N : Nat) (p0 : (List aV)) : Option (List aQ) :=
  fD N p0 0 ([] : List aQ)

def gQ (p1 : (List aQ)) : List aQ → Nat → Option Bool
  | [], a =>
    some true
  | d :: b, a =>
    (idx p1 (a : Int)).bind fun c =>
    if (!(xO d c)) then
      some false
    else
      (gQ p1 b (a + 1))
def jd (p0 : (List aQ)) (p1 : (List aQ)) : Option Bool :=
  if ((p0.length : Int) != (p1.length : Int)) then
    some false
  else
    gQ p1 p0 0

noncomputable def eX (N : Nat) (p0 : (List aQ)) : Nat → Int → Option Int
  | 0, _ => none
  | g + 1, a =>
    if (decide (a < (p0.length : Int))) then
      (idx p0 (bG (a - 1))).bind fun b =>
      (idx p0 a).bind fun c =>
      if ((decide (c.Y0 < b.Y0)) || ((c.Y0 == b.Y0) && (decide (c.X0 ≤ b.X0)))) then
        some 8
      else
        (eX N p0 g) (bG (a + 1))
    else
      (mD N p0).bind fun d =>
      (kC N d).bind fun e =>
      (jd e p0).bind fun f =>
      if (!f) then
        some 3
      else
        some 0
noncomputable def mh (N : Nat) (p0 : (List aQ)) : Option Int :=
  (mP p0).bind fun a =>
  if (a != 0) then
    some a
  else
    eX N p0 N 1


def iT (p0 : Int) (p1 : Int) (p2 : Int) (p3 : Int) (q0 : (List fE)) : Option (List fE) :=
  (yX q0 [(fE.mk (au.mk p0 p1) (au.mk p2 p3))]).bind fun a =>
  some a

def lV (p2 : Bool → Bool → Option Bool) (c : List Int) (d : Bool) (h : (List Int) → (List Int) → (List Int) → Bool → Bool → Bool → Option (List Int)) (i : Int) (e : List Int) (a : Bool) (f : List Int) (b : Bool) : Option (List Int) :=
  (p2 a b).bind fun g =>
  if (g != d) then
    (yX c [i]).bind fun j =>
    h e f j a b g
  else
    h e f c a b d
def ky (p2 : Bool → Bool → Option Bool) (a : List Int) (c : List Int) (d : Bool) (e : Bool) (h : (List Int) → (List Int) → (List Int) → Bool → Bool → Bool → Option (List Int)) (b : Int) (f : List Int) (g : Bool) : Option (List Int) :=
  (if (decide (0 < (a.length : Int))) then 
    (idx a 0).bind fun i =>
    some (i == b)
   else some false).bind fun j =>
  if j then
    (cut a 1 (a.length : Int)).bind fun l =>
    lV p2 c e h b f g l (!d)
  else
    lV p2 c e h b f g a d
def jH (p2 : Bool → Bool → Option Bool) (a : List Int) (c : List Int) (d : List Int) (e : Bool) (f : Bool) (g : Bool) (h : (List Int) → (List Int) → (List Int) → Bool → Bool → Bool → Option (List Int)) (b : Int) : Option (List Int) :=
  (if (decide (0 < (a.length : Int))) then 
    (idx a 0).bind fun i =>
    some (i == b)
   else some false).bind fun j =>
  if j then
    (cut a 1 (a.length : Int)).bind fun l =>
    ky p2 c d f g h b l (!e)
  else
    ky p2 c d f g h b a e
def eU (p2 : Bool → Bool → Option Bool) : Nat → List Int → List Int → List Int → Bool → Bool → Bool → Option (List Int)
  | 0, _, _, _, _, _, _ => none
  | g + 1, a, b, c, d, e, f =>
    if ((decide (0 < (a.length : Int))) || (decide (0 < (b.length : Int)))) then
      (if ((b.length : Int) == 0) then some true else 
        (if (decide (0 < (a.length : Int))) then 
          (idx a 0).bind fun h =>
          (idx b 0).bind fun i =>
          some (decide (h ≤ i))
         else some false).bind fun j =>
        some j
      ).bind fun l =>
      if l then
        (idx a 0).bind fun n =>
        jH p2 a b c d e f (eU p2 g) n
      else
        (idx b 0).bind fun o =>
        jH p2 a b c d e f (eU p2 g) o
    else
      some c
def kV (N : Nat) (p0 : (List Int)) (p1 : (List Int)) (p2 : Bool → Bool → Option Bool) : Option (List Int) :=
  eU p2 N p0 p1 ([] : List Int) false false false


def iZ (p0 : Bool) (p1 : Bool) : Option Bool :=
  some (p0 && (!p1))


def iY (p0 : Bool) (p1 : Bool) : Option Bool :=
  some (p1 && (!p0))

def dO (p0 : Int) (a : (List Int)) : Nat → List fE → Int → Option (List fE)
  | 0, _, _ => none
  | g + 1, c, b =>
    if (decide (b < (a.length : Int))) then
      (idx a b).bind fun d =>
      (idx a (bG (b + 1))).bind fun e =>
      (iT d p0 e p0 c).bind fun f =>
      (dO p0 a g) f (bG (b + 2))
    else
      some c
def eG (N : Nat) (p0 : Int) (p1 : (List Int)) (p2 : (List Int)) (a : (List Int)) : Nat → List fE → Int → Option (List fE)
  | 0, _, _ => none
  | h + 1, c, b =>
    if (decide (b < (a.length : Int))) then
      (idx a (bG (b + 1))).bind fun d =>
      (idx a b).bind fun e =>
      (iT d p0 e p0 c).bind fun f =>
      (eG N p0 p1 p2 a h) f (bG (b + 2))
    else
      (kV N p1 p2 (fun z0 z1 => iY z0 z1)).bind fun g =>
      dO p0 g N c 0
def fG (N : Nat) (p0 : Int) (p1 : (List Int)) (p2 : (List Int)) (q1 : (List fE)) : Option (List fE) :=
  (kV N p1 p2 (fun z0 z1 => iZ z0 z1)).bind fun a =>
  eG N p0 p1 p2 a N q1 0

def jf (N : Nat) (p0 : (List aV)) (c : (List fE) → Option (List fE)) (a : aV) (d : Nat) (b : List fE) : Option (List fE) :=
  (if ((bG ((d : Int) + 1)) == (p0.length : Int)) then some true else 
    (idx p0 (bG ((d : Int) + 1))).bind fun e =>
    some (decide (a.Y1 < e.Y0))
  ).bind fun f =>
  if f then
    (fG N a.Y1 a.Xs [] b).bind fun g =>
    c g
  else
    c b
def fP (N : Nat) (p0 : (List aV)) (e : (List fE) → Option (List fE)) (a : aV) (c : Nat) : Nat → List fE → Int → Option (List fE)
  | 0, _, _ => none
  | u + 1, d, b =>
    if (decide (b < (a.Xs.length : Int))) then
      (idx a.Xs b).bind fun f =>
      (idx a.Xs b).bind fun g =>
      (iT f a.Y1 g a.Y0 d).bind fun h =>
      (idx a.Xs (bG (b + 1))).bind fun i =>
      (idx a.Xs (bG (b + 1))).bind fun j =>
      (iT i a.Y0 j a.Y1 h).bind fun l =>
      (fP N p0 e a c u) l (bG (b + 2))
    else
      (if ((c : Int) == 0) then some true else 
        (idx p0 (bG ((c : Int) - 1))).bind fun n =>
        some (decide (n.Y1 < a.Y0))
      ).bind fun o =>
      if o then
        (fG N a.Y0 [] a.Xs d).bind fun q =>
        jf N p0 e a c q
      else
        (idx p0 (bG ((c : Int) - 1))).bind fun s =>
        (fG N a.Y0 s.Xs a.Xs d).bind fun t =>
        jf N p0 e a c t
def dn (N : Nat) (p0 : (List aV)) : List aV → Nat → List fE → Option (List fE)
  | [], b, a =>
    some a
  | d :: c, b, a =>
    fP N p0 (dn N p0 c (b + 1)) d b N a 0
def oO (N : Nat) (p0 : (List aV)) : Option (List fE) :=
  dn N p0 p0 0 ([] : List fE)


def jN (p0 : Int) : Option Int :=
  some (min 1 (max (-1) p0))


def gB (p0 : fE) : Option au :=
  (jN (bG (p0.to_.X - p0.from_.X))).bind fun a =>
  (jN (bG (p0.to_.Y - p0.from_.Y))).bind fun b =>
  some (au.mk a b)


def kX (p0 : fE) : Option au :=
  (gB p0).bind fun a =>
  some (au.mk (bG (0 - a.Y)) a.X)


def oN (p0 : au) (p1 : au) : Option Bool :=
  some ((decide (p0.Y < p1.Y)) || ((p0.Y == p1.Y) && (decide (p0.X < p1.X))))


def fV : List (List au) → Nat → List au → Option (List au)
  | [], c, a =>
    some a
  | e :: b, c, a =>
    (yX a e).bind fun d =>
    (fV b (c + 1)) d
def fZ (p0 : (List (List au))) : List (List au) → Nat → Int → Option (List au)
  | [], c, a =>
    (Ut a).bind fun e =>
    fV p0 0 e
  | d :: b, c, a =>
    if (decide ((bG (a + (d.length : Int))) < 0)) then
      none
    else
      (fZ p0 b (c + 1)) (bG (a + (d.length : Int)))
def jX (p0 : (List (List au))) : Option (List au) :=
  fZ p0 p0 0 0

def fU (a : List au) : List au → Nat → Int → Option (List au)
  | [], d, b =>
    (cut a b (a.length : Int)).bind fun e =>
    (pre a b).bind fun f =>
    (jX [e, f]).bind fun g =>
    some g
  | j :: c, d, b =>
    (idx a b).bind fun h =>
    (oN j h).bind fun i =>
    if i then
      (fU a c (d + 1)) (d : Int)
    else
      (fU a c (d + 1)) b
def gF (p0 : (List fE)) : List fE → Nat → List au → Option (List au)
  | [], c, a =>
    fU a a 0 0
  | d :: b, c, a =>
    (gB d).bind fun e =>
    (md (bG ((bG ((c : Int) + (p0.length : Int))) - 1)) (p0.length : Int)).bind fun f =>
    (idx p0 f).bind fun g =>
    (gB g).bind fun h =>
    if (!(gz e h)) then
      (yX a [d.from_]).bind fun i =>
      (gF p0 b (c + 1)) i
    else
      (gF p0 b (c + 1)) a
def pg (p0 : (List fE)) : Option (List au) :=
  gF p0 p0 0 ([] : List au)


def gG (a : Bool) : Option Int :=
  if a then
    some (-1)
  else
    some 1
def dP (p0 : (List au)) (p1 : (List au)) : Option Int :=
  (idx p0 0).bind fun b =>
  (idx p1 0).bind fun c =>
  (oN b c).bind fun a =>
  if a then
    gG a
  else
    (idx p0 0).bind fun d =>
    (idx p1 0).bind fun e =>
    (if (gz d e) then 
      (idx p1 1).bind fun f =>
      (idx p0 1).bind fun g =>
      (oN f g).bind fun h =>
      some h
     else some false).bind fun i =>
    gG i


def fC (p0 : fE) (p1 : fE) (q0 : (List ((Int × Int) × List Int))) : Option Bool :=
  (sN Ij q0 (p0.to_.X, p0.to_.Y)).bind fun a =>
  (if ((a.length : Int) == 1) then some true else 
    (gB p1).bind fun b =>
    (kX p0).bind fun c =>
    some (gz b c)
  ).bind fun d =>
  some d

def bP (p0 : fE) (q1 : (List Bool)) (q3 : (List fE)) (q4 : (List ((Int × Int) × List Int))) : List Int → Nat → Option Int
  | [], c =>
    some (-1)
  | a :: b, c =>
    (idx q1 a).bind fun d =>
    (if (!d) then 
      (idx q3 a).bind fun e =>
      (fC p0 e q4).bind fun f =>
      some f
     else some false).bind fun g =>
    if g then
      some a
    else
      (bP p0 q1 q3 q4 b (c + 1))
def fw (p0 : fE) (q0 : (List ((Int × Int) × List Int))) (q1 : (List Bool)) (q3 : (List fE)) (q4 : (List ((Int × Int) × List Int))) : Option Int :=
  (sN Ij q0 (p0.to_.X, p0.to_.Y)).bind fun a =>
  bP p0 q1 q3 q4 a 0

def iH (a : List (List au)) (f : (List Bool) → (List (List au)) → Option (List (List au))) (b : List Bool) (c : List fE) : Option (List (List au)) :=
  (pg c).bind fun d =>
  (yX a [d]).bind fun e =>
  f b e
def iG (b : (List fE)) (c : List ((Int × Int) × List Int)) (d : List (List au)) (g : (List Bool) → (List (List au)) → Option (List (List au))) (h : fE) : Nat → List Bool → List fE → Int → Option (List (List au))
  | 0, _, _, _ => none
  | l + 1, e, i, a =>
    if (decide (0 ≤ a)) then
      (idx e a).bind fun w =>
      (sets e a true).bind fun f =>
      (idx b a).bind fun n =>
      (yX i [n]).bind fun j =>
      (idx b a).bind fun o =>
      (if (gz o.to_ h.from_) then 
        (idx b a).bind fun q =>
        (fC q h c).bind fun s =>
        some s
       else some false).bind fun t =>
      if t then
        iH d g f j
      else
        (idx b a).bind fun u =>
        (fw u c f b c).bind fun v =>
        (iG b c d g h l) f j v
    else
      iH d g e i
noncomputable def bQ (N : Nat) (e : (List fE)) (f : List ((Int × Int) × List Int)) : List fE → Nat → List Bool → List (List au) → Option (List (List au))
  | [], c, a, b =>
    (DT b (fun z0 z1 => dP z0 z1)).bind fun g =>
    some g
  | i :: d, c, a, b =>
    (idx a (c : Int)).bind fun h =>
    if h then
      (bQ N e f d (c + 1)) a b
    else
      iG e f b (bQ N e f d (c + 1)) i N a ([] : List fE) (c : Int)
noncomputable def eu (N : Nat) (a : (List fE)) : List fE → Nat → List ((Int × Int) × List Int) → Option (List (List au))
  | [], d, b =>
    (TC false (a.length : Int)).bind fun f =>
    bQ N a b a 0 f ([] : List (List au))
  | c :: e, d, b =>
    (sN Ij b (c.from_.X, c.from_.Y)).bind fun g =>
    (yX g [(d : Int)]).bind fun h =>
    (eu N a e (d + 1)) (vW b (c.from_.X, c.from_.Y) h)
noncomputable def lD (N : Nat) (p0 : (List aV)) : Option (List (List au)) :=
  (oO N p0).bind fun a =>
  eu N a a 0 ([] : List ((Int × Int) × List Int))

def iK (b : (List (List au))) : List (List au) → Nat → Int → Option ((List (List au)) × Int)
  | [], d, a =>
    if (decide (2000 < a)) then
      some (([] : List (List au)), 2)
    else
      some (b, 0)
  | e :: c, d, a =>
    (iK b c (d + 1)) (bG (a + (e.length : Int)))
noncomputable def mF (N : Nat) (p0 : (List aQ)) : Option ((List (List au)) × Int) :=
  (mh N p0).bind fun a =>
  if (a != 0) then
    some (([] : List (List au)), a)
  else
    (mD N p0).bind fun c =>
    (lD N c).bind fun b =>
    iK b b 0 0


def um (p0 : dK) : Option Int :=
  some (max p0.area (bG (0 - p0.area)))


def pG (p0 : Int) : Option Bool :=
  some (p0 != p0)


def qa (p0 : Int) (p1 : Int) : Option Int :=
  (pG p0).bind fun b =>
  (pG p1).bind fun a =>
  if b then
    if a then
      some 0
    else
      some (-1)
  else
    if a then
      some 1
    else
      if (decide (p0 < p1)) then
        some (-1)
      else
        if (decide (p1 < p0)) then
          some 1
        else
          some 0


def jV (p0 : dK) (p1 : dK) : Option Int :=
  (um p1).bind fun a =>
  (um p0).bind fun b =>
  (qa a b).bind fun c =>
  some c

def cK (p1 : Int) (c : Int) (e : (List dK) → Int → Option (List dK)) : Nat → List dK → Int → Option (List dK)
  | 0, _, _ => none
  | o + 1, b, a =>
    (if (decide (p1 < a)) then 
      (idx b a).bind fun f =>
      (idx b (bG (a - 1))).bind fun g =>
      (jV f g).bind fun h =>
      some (decide (h < 0))
     else some false).bind fun i =>
    if i then
      (idx b (bG (a - 1))).bind fun j =>
      (idx b a).bind fun l =>
      (idx b a).bind fun q =>
      (sets b a j).bind fun d =>
      (idx d (bG (a - 1))).bind fun s =>
      (sets d (bG (a - 1)) l).bind fun n =>
      (cK p1 c e o) n (bG (a - 1))
    else
      e b (bG (c + 1))
def bB (N : Nat) (p1 : Int) (p2 : Int) : Nat → List dK → Int → Option (List dK)
  | 0, _, _ => none
  | c + 1, b, a =>
    if (decide (a < p2)) then
      cK p1 a (bB N p1 p2 c) N b a
    else
      some b
def dN (N : Nat) (p0 : (List dK)) (p1 : Int) (p2 : Int) : Option (List dK) :=
  bB N p1 p2 N p0 (bG (p1 + 1))

def dw (p1 : Int) (p2 : Int) (p3 : Int) : Nat → List dK → Int → Option (List dK)
  | 0, _, _ => none
  | g + 1, b, a =>
    if (decide (a < p3)) then
      (idx b (bG (p2 + a))).bind fun d =>
      (idx b (bG (p1 + a))).bind fun e =>
      (idx b (bG (p1 + a))).bind fun h =>
      (sets b (bG (p1 + a)) d).bind fun c =>
      (idx c (bG (p2 + a))).bind fun i =>
      (sets c (bG (p2 + a)) e).bind fun f =>
      (dw p1 p2 p3 g) f (bG (a + 1))
    else
      some b
def ed (N : Nat) (p0 : (List dK)) (p1 : Int) (p2 : Int) (p3 : Int) : Option (List dK) :=
  dw p1 p2 p3 N p0 0

def dh (N : Nat) (p2 : Int) : Nat → List dK → Int → Int → Option (List dK)
  | 0, _, _, _ => none
  | d + 1, c, a, b =>
    if (a != b) then
      if (decide (b < a)) then
        (ed N c (bG (p2 - a)) p2 b).bind fun e =>
        (dh N p2 d) e (bG (a - b)) b
      else
        (ed N c (bG (p2 - a)) (bG ((bG (p2 + b)) - a)) a).bind fun f =>
        (dh N p2 d) f a (bG (b - a))
    else
      (ed N c (bG (p2 - a)) p2 a).bind fun g =>
      some g
def gp (N : Nat) (p0 : (List dK)) (p1 : Int) (p2 : Int) (p3 : Int) : Option (List dK) :=
  dh N p2 N p0 (bG (p2 - p1)) (bG (p3 - p2))

def cu (c : Int) : Nat → List dK → Int → Option (List dK)
  | 0, _, _ => none
  | h + 1, b, a =>
    if (decide (a < (bG (c - 1)))) then
      (idx b (bG (a + 1))).bind fun e =>
      (idx b a).bind fun f =>
      (idx b a).bind fun i =>
      (sets b a e).bind fun d =>
      (idx d (bG (a + 1))).bind fun j =>
      (sets d (bG (a + 1)) f).bind fun g =>
      (cu c h) g (bG (a + 1))
    else
      some b
def cz (N : Nat) (p0 : (List dK)) (p1 : Int) : Nat → Int → Int → Option (List dK)
  | 0, _, _ => none
  | d + 1, a, b =>
    if (decide (a < b)) then
      (uO (bG (a + b))).bind fun e =>
      (uO (e / 2)).bind fun c =>
      (idx p0 c).bind fun f =>
      (idx p0 p1).bind fun g =>
      (jV f g).bind fun h =>
      if (decide (h < 0)) then
        (cz N p0 p1 d) (bG (c + 1)) b
      else
        (cz N p0 p1 d) a c
    else
      cu a N p0 p1
def bY (c : Int) : Nat → List dK → Int → Option (List dK)
  | 0, _, _ => none
  | h + 1, b, a =>
    if (decide (c < a)) then
      (idx b (bG (a - 1))).bind fun e =>
      (idx b a).bind fun f =>
      (idx b a).bind fun i =>
      (sets b a e).bind fun d =>
      (idx d (bG (a - 1))).bind fun j =>
      (sets d (bG (a - 1)) f).bind fun g =>
      (bY c h) g (bG (a - 1))
    else
      some b
def bZ (N : Nat) (p0 : (List dK)) (p2 : Int) : Nat → Int → Int → Option (List dK)
  | 0, _, _ => none
  | d + 1, a, b =>
    if (decide (a < b)) then
      (uO (bG (a + b))).bind fun e =>
      (uO (e / 2)).bind fun c =>
      (idx p0 p2).bind fun f =>
      (idx p0 c).bind fun g =>
      (jV f g).bind fun h =>
      if (!(decide (h < 0))) then
        (bZ N p0 p2 d) (bG (c + 1)) b
      else
        (bZ N p0 p2 d) a c
    else
      bY a N p0 p2
def dB (p2 : Int) (p3 : Int) (rec : (List dK) → Int → Int → Int → Option (List dK)) (a : Int) (b : Int) (c : List dK) : Option (List dK) :=
  if ((decide (a < (bG ((bG (a + p2)) - b)))) && (decide ((bG ((bG (a + p2)) - b)) < p3))) then
    (rec c a (bG ((bG (a + p2)) - b)) p3).bind fun d =>
    some d
  else
    some c
def dA (p1 : Int) (p2 : Int) (p3 : Int) (rec : (List dK) → Int → Int → Int → Option (List dK)) (b : Int) (a : Int) (c : List dK) : Option (List dK) :=
  if ((decide (p1 < a)) && (decide (a < b))) then
    (rec c p1 a b).bind fun d =>
    dB p2 p3 rec b a d
  else
    dB p2 p3 rec b a c
def bC (N : Nat) (p0 : (List dK)) (p1 : Int) (p2 : Int) (p3 : Int) (rec : (List dK) → Int → Int → Int → Option (List dK)) (b : Int) : Nat → Int → Int → Option (List dK)
  | 0, _, _ => none
  | e + 1, a, d =>
    if (decide (a < d)) then
      (uO (bG (a + d))).bind fun f =>
      (uO (f / 2)).bind fun c =>
      (idx p0 (bG ((bG ((bG (b + p2)) - 1)) - c))).bind fun g =>
      (idx p0 c).bind fun h =>
      (jV g h).bind fun i =>
      if (!(decide (i < 0))) then
        (bC N p0 p1 p2 p3 rec b e) (bG (c + 1)) d
      else
        (bC N p0 p1 p2 p3 rec b e) a c
    else
      if ((decide (a < p2)) && (decide (p2 < (bG ((bG (b + p2)) - a))))) then
        (gp N p0 a p2 (bG ((bG (b + p2)) - a))).bind fun j =>
        dA p1 p2 p3 rec b a j
      else
        dA p1 p2 p3 rec b a p0
def dz (N : Nat) (p0 : (List dK)) (p1 : Int) (p2 : Int) (p3 : Int) (rec : (List dK) → Int → Int → Int → Option (List dK)) (a : Int) (b : Int) (c : Int) : Option (List dK) :=
  bC N p0 p1 p2 p3 rec a N b c
def gP (N : Nat) (rec : (List dK) → Int → Int → Int → Option (List dK)) (p0 : (List dK)) (p1 : Int) (p2 : Int) (p3 : Int) : Option (List dK) :=
  if ((bG (p2 - p1)) == 1) then
    cz N p0 p1 N p2 p3
  else
    if ((bG (p3 - p2)) == 1) then
      bZ N p0 p2 N p1 p2
    else
      (uO (bG (p1 + p3))).bind fun b =>
      (uO (b / 2)).bind fun a =>
      if (decide (a < p2)) then
        dz N p0 p1 p2 p3 rec a (bG ((bG (a + p2)) - p3)) a
      else
        dz N p0 p1 p2 p3 rec a p1 p2
def bI : Nat → (List dK) → Int → Int → Int → Option (List dK)
  | 0 => fun _ _ _ _ => none
  | N + 1 => gP N (bI N)

def dH (a : Int) (c : (List dK) → Int → Option (List dK)) (b : List dK) : Option (List dK) :=
  c b (bG (a * 2))
def dF (N : Nat) (p1 : Int) (a : Int) (e : (List dK) → Int → Option (List dK)) : Nat → List dK → Int → Int → Option (List dK)
  | 0, _, _, _ => none
  | h + 1, d, b, c =>
    if (decide (c ≤ p1)) then
      (bI N d b (bG (b + a)) c).bind fun f =>
      (dF N p1 a e h) f c (bG (c + (bG (2 * a))))
    else
      if (decide ((bG (b + a)) < p1)) then
        (bI N d b (bG (b + a)) p1).bind fun g =>
        dH a e g
      else
        dH a e d
def bA (N : Nat) (p1 : Int) : Nat → List dK → Int → Option (List dK)
  | 0, _, _ => none
  | c + 1, b, a =>
    if (decide (a < p1)) then
      dF N p1 a (bA N p1 c) N b 0 (bG (2 * a))
    else
      some b
def dG (N : Nat) (p1 : Int) : Nat → List dK → Int → Int → Option (List dK)
  | 0, _, _, _ => none
  | f + 1, b, c, a =>
    if (decide (a ≤ p1)) then
      (dN N b c a).bind fun d =>
      (dG N p1 f) d a (bG (a + 20))
    else
      (dN N b c p1).bind fun e =>
      bA N p1 N e 20
def ik (N : Nat) (p0 : (List dK)) (p1 : Int) : Option (List dK) :=
  dG N p1 N p0 0 20


def eY (N : Nat) (p0 : (List dK)) : Option (List dK) :=
  (ik N p0 (p0.length : Int)).bind fun a =>
  some a

def qD (d : (List av) → Int → Option (gu × Int)) (e : dK) (a : List av) (b : Int) : Option (gu × Int) :=
  (yX a ([(av.mk 7 (⟨#[]⟩) (au.mk 0 0) e.points 0 0 [])])).bind fun c =>
  d c b
def nS (b : List av) (c : Int) (d : (List av) → Int → Option (gu × Int)) (e : dK) (a : Int) : Option (gu × Int) :=
  if (a != c) then
    (yX b ([(av.mk a (⟨#[]⟩) (au.mk 0 0) [] 0 0 [])])).bind fun f =>
    qD d e f a
  else
    qD d e b c
def iM : List dK → Nat → List av → Int → Option (gu × Int)
  | [], d, a, c =>
    some ((gu.mk 1 [] a), 0)
  | e :: b, d, a, c =>
    if (decide (e.area < 0)) then
      nS a c (iM b (d + 1)) e 2
    else
      nS a c (iM b (d + 1)) e 1
def lv (e : List dK) (h : (List dK) → Option (gu × Int)) (c : (List au)) : List au → Nat → Int → Option (gu × Int)
  | [], a, b =>
    (yX e [(dK.mk c b)]).bind fun i =>
    h i
  | f :: d, a, b =>
    (md (bG ((a : Int) + 1)) (c.length : Int)).bind fun j =>
    (idx c j).bind fun g =>
    (lv e h c d (a + 1)) (bG (b + (bG ((bG (f.X * g.Y)) - (bG (g.X * f.Y))))))
def kz (N : Nat) : List (List au) → Nat → List dK → Option (gu × Int)
  | [], c, a =>
    (eY N a).bind fun e =>
    iM e 0 ([] : List av) 1
  | d :: b, c, a =>
    lv a (kz N b (c + 1)) d d 0 0
noncomputable def sV (N : Nat) (p0 : (List aQ)) : Option (gu × Int) :=
  (mF N p0).bind fun a =>
  if (a.2 != 0) then
    some ((gu.mk 0 [] []), a.2)
  else
    kz N a.1 0 ([] : List dK)


def mE (p0 : Int) (p1 : Int) (p2 : Int) : Option Bool :=
  some ((decide (p1 ≤ p0)) && (decide (p0 ≤ p2)))


def rG (p0 : Int) (p1 : Int) : Option Bool :=
  (dv (-1000000) p1).bind fun a =>
  (dv 1000000 p1).bind fun b =>
  (mE p0 a b).bind fun c =>
  some c

def pz (a : Int) (b : Int → Option Int) : Option Int :=
  if (decide (3000 < (bG (a + 1)))) then
    none
  else
    b (bG (a + 1))
def jB : List av → Nat → Int → Option Int
  | [], c, a =>
    some a
  | d :: b, c, a =>
    if (decide (0 < (d.Steps.length : Int))) then
      none
    else
      pz a (jB b (c + 1))
def vF (N : Nat) (rec : (List av) → Option Int) (p0 : (List av)) : Option Int :=
  jB p0 0 0
def si : Nat → (List av) → Option Int
  | 0 => fun _ => none
  | N + 1 => vF N (si N)

def lh (p0 : Int) (a : Bool) : Option zI :=
  if a then
    none
  else
    if (p0 == 7) then
      some (zI.mk false false true false)
    else
      if (p0 == 8) then
        none
      else
        some (zI.mk false false false false)
def pu (p0 : Int) : Option zI :=
  if (p0 == 3) then
    none
  else
    if (p0 == 4) then
      lh p0 (p0 == 4)
    else
      if (p0 == 5) then
        lh p0 (p0 == 5)
      else
        lh p0 (p0 == 6)


def wG (p0 : gu) (p1 : ByteArray) : Option Int :=
  none


def lI (p0 : au) (p1 : Int) : Option Bool :=
  (rG p0.X p1).bind fun a =>
  (if a then 
    (rG p0.Y p1).bind fun b =>
    some b
   else some false).bind fun c =>
  some c


def iI (p0 : au) (q0 : gu) : Option Bool :=
  (lI p0 q0.Unit).bind fun a =>
  some (!a)

def dY (p1 : au → Option Bool) : List au → Nat → Option Int
  | [], a =>
    some (-1)
  | d :: b, a =>
    (p1 d).bind fun c =>
    if c then
      some (a : Int)
    else
      (dY p1 b (a + 1))
def ko (p0 : (List au)) (p1 : au → Option Bool) : Option Int :=
  dY p1 p0 0


def dC (p0 : (List au)) (p1 : au → Option Bool) : Option Bool :=
  (ko p0 p1).bind fun a =>
  some (decide (0 ≤ a))

def kJ (p0 : (List au)) : List au → Nat → Option Bool
  | [], a =>
    some true
  | d :: b, a =>
    (md (bG ((a : Int) + 1)) (p0.length : Int)).bind fun e =>
    (idx p0 e).bind fun c =>
    if ((d.X == c.X) == (d.Y == c.Y)) then
      some false
    else
      (kJ p0 b (a + 1))
def nQ (p0 : (List au)) : Option Bool :=
  if (decide ((p0.length : Int) < 4)) then
    some false
  else
    kJ p0 p0 0

def iL (p0 : gu) (p1 : av) (a : zI) (b : Bool) : Option Int :=
  if b then
    some 3
  else
    (if a.name then 
      (wG p0 p1.Name).bind fun c =>
      some (decide (c < 0))
     else some false).bind fun d =>
    if d then
      some 5
    else
      (lI p1.At p0.Unit).bind fun e =>
      (if (!e) then some true else 
        (dC p1.Points (fun z0 => iI z0 p0)).bind fun f =>
        some f
      ).bind fun g =>
      if g then
        some 1
      else
        if (decide (2000 < (p1.Points.length : Int))) then
          some 2
        else
          (if a.points then 
            (nQ p1.Points).bind fun h =>
            some (!h)
           else some false).bind fun i =>
          if i then
            some 3
          else
            if (!a.repeat_) then
              some 0
            else
              none
def kQ (p0 : gu) (p1 : av) (p2 : Int) : Option Int :=
  (mE p1.Kind 1 8).bind fun b =>
  if (!b) then
    some 4
  else
    (pu p1.Kind).bind fun a =>
    if ((!a.name) && (!AC p1.Name ByteArray.empty)) then
      iL p0 p1 a ((!a.name) && (!AC p1.Name ByteArray.empty))
    else
      if ((!a.at_) && (!(gz p1.At (au.mk 0 0)))) then
        iL p0 p1 a ((!a.at_) && (!(gz p1.At (au.mk 0 0))))
      else
        if ((!a.points) && (decide (0 < (p1.Points.length : Int)))) then
          iL p0 p1 a ((!a.points) && (decide (0 < (p1.Points.length : Int))))
        else
          iL p0 p1 a ((!a.repeat_) && (((p1.NX != 0) || (p1.NY != 0)) || (decide (0 < (p1.Steps.length : Int)))))

def iU (p0 : gu) (p2 : Int) (rec : gu → (List av) → Int → Option Int) : List av → Nat → Option Int
  | [], d =>
    some 0
  | e :: a, d =>
    (kQ p0 e p2).bind fun b =>
    if (b != 0) then
      some b
    else
      (rec p0 e.Steps (bG (p2 + 1))).bind fun c =>
      if (c != 0) then
        some c
      else
        (iU p0 p2 rec a (d + 1))
def qM (N : Nat) (rec : gu → (List av) → Int → Option Int) (p0 : gu) (p1 : (List av)) (p2 : Int) : Option Int :=
  iU p0 p2 rec p1 0
def kY : Nat → gu → (List av) → Int → Option Int
  | 0 => fun _ _ _ => none
  | N + 1 => qM N (kY N)

def jR (N : Nat) (p0 : gu) : List ic → Nat → Option Int
  | [], c =>
    (si N p0.Steps).bind fun a =>
    if (decide (3000 < a)) then
      some 2
    else
      (kY N p0 p0.Steps 0).bind fun b =>
      some b
  | e :: d, c =>
    none
def jK (N : Nat) (p0 : gu) : Option Int :=
  (mE p0.Unit 1 1000).bind fun a =>
  if (!a) then
    some 1
  else
    if (decide (200 < (p0.Tools.length : Int))) then
      some 2
    else
      jR N p0 p0.Tools 0



def lF (p0 : ByteArray) : List av → Nat → Option ByteArray
  | [], a =>
    some p0
  | c :: b, a =>
    none
def qL (N : Nat) (rec : ByteArray → (List av) → Option ByteArray) (p0 : ByteArray) (p1 : (List av)) : Option ByteArray :=
  lF p0 p1 0
def pX : Nat → ByteArray → (List av) → Option ByteArray
  | 0 => fun _ _ => none
  | N + 1 => qL N (pX N)



def qy (N : Nat) (p0 : gu) (b : ByteArray) : List ic → Nat → Option (ByteArray × Int)
  | [], e =>
    (pX N b p0.Steps).bind fun c =>
    (Vf c).bind fun a =>
    if (decide (200000 < a.1)) then
      some (ByteArray.empty, 2)
    else
      (UR a.2).bind fun d =>
      some (d.1, 0)
  | g :: f, e =>
    none
def ul (N : Nat) (p0 : gu) : Option (ByteArray × Int) :=
  (jK N p0).bind fun a =>
  if (a != 0) then
    some (ByteArray.empty, a)
  else
    (Es p0.Unit).bind fun b =>
    (Pm (⟨#[117, 110, 105, 116, 32]⟩) b).bind fun c =>
    (Pm c (⟨#[10]⟩)).bind fun d =>
    (UQ ByteArray.empty d).bind fun e =>
    qy N p0 e p0.Tools 0


def jg (N : Nat)  : Option Bool :=
  (ul N (gu.mk 7 [] [])).bind fun a =>
  some ((a.2 == 0) && (AC a.1 (⟨#[117, 110, 105, 116, 32, 55, 10]⟩)))

def lG (p0 : gu) : List ic → Nat → Option eT
  | [], a =>
    some (eT.mk p0 [] [] false (-1) (au.mk 0 0) false 0 0)
  | c :: b, a =>
    none
def pY (p0 : gu) : Option eT :=
  lG p0 p0.Tools 0


def jY (p0 : eT) (p1 : au) (p2 : au) : Option au :=
  some (au.mk (bG ((bG (p1.X * p0.p.Unit)) + p2.X)) (bG ((bG (p1.Y * p0.p.Unit)) + p2.Y)))


def pq (p0 : au) : Option Bool :=
  (lu p0.X).bind fun a =>
  (if a then 
    (lu p0.Y).bind fun b =>
    some b
   else some false).bind fun c =>
  some c

def iq (c : aV) (d : aV) : List aV → Nat → Int → Int → Option aQ
  | [], g, a, b =>
    some (aQ.mk a c.Y0 b d.Y1)
  | e :: f, g, a, b =>
    (idx e.Xs 0).bind fun h =>
    (idx e.Xs (bG ((e.Xs.length : Int) - 1))).bind fun i =>
    (iq c d f (g + 1)) (min a h) (max b i)
def mf (p0 : (List aV)) : Option aQ :=
  (idx p0 0).bind fun a =>
  (idx a.Xs 0).bind fun b =>
  (idx p0 0).bind fun c =>
  (idx p0 0).bind fun d =>
  (idx d.Xs 1).bind fun e =>
  (idx p0 (bG ((p0.length : Int) - 1))).bind fun f =>
  iq c f p0 0 b e


def nH (p0 : (List aV)) : Option Bool :=
  (if ((p0.length : Int) == 0) then some true else 
    (mf p0).bind fun a =>
    (oz a).bind fun b =>
    some b
  ).bind fun c =>
  some c


def mX (p0 : (List aV)) (p1 : Int) (p2 : Int) : Option ((List Int) × Int) :=
  if ((p0.length : Int) == 0) then
    some (([] : List Int), p2)
  else
    (idx p0 0).bind fun a =>
    if (decide (p1 < a.Y0)) then
      (idx p0 0).bind fun b =>
      some ([], (min p2 b.Y0))
    else
      (idx p0 0).bind fun c =>
      (idx p0 0).bind fun d =>
      some (c.Xs, (min p2 d.Y1))

def kI (b : List (List aV)) (c : Int) (h : Int → Int → (List (List aV)) → Int → Option (List aV)) (a : (List aV)) (d : Int) (e : Int) : Option (List aV) :=
  (idx a 0).bind fun f =>
  (idx a (bG ((a.length : Int) - 1))).bind fun g =>
  h (min d f.Y0) (max e g.Y1) b (bG (c + 1))
def jS (N : Nat) (p2 : Bool → Bool → Option Bool) (c : Int) (g : List aV) (b : Int) (h : (List aV) → (List aV) → (List aV) → Int → Option (List aV)) (d : List aV) : Nat → List aV → Option (List aV)
  | 0, _ => none
  | i + 1, a =>
    (if (decide (0 < (a.length : Int))) then 
      (idx a 0).bind fun j =>
      some (decide (j.Y1 ≤ b))
     else some false).bind fun l =>
    if l then
      (cut a 1 (a.length : Int)).bind fun n =>
      (jS N p2 c g b h d i) n
    else
      (mX d b c).bind fun e =>
      (mX a b c).bind fun f =>
      (kV N e.1 f.1 p2).bind fun o =>
      (gW g (aV.mk b (min e.2 f.2) o)).bind fun q =>
      h d a q (min e.2 f.2)
def jT (N : Nat) (p2 : Bool → Bool → Option Bool) (c : Int) (d : List aV) (e : List aV) (b : Int) (f : (List aV) → (List aV) → (List aV) → Int → Option (List aV)) : Nat → List aV → Option (List aV)
  | 0, _ => none
  | g + 1, a =>
    (if (decide (0 < (a.length : Int))) then 
      (idx a 0).bind fun h =>
      some (decide (h.Y1 ≤ b))
     else some false).bind fun i =>
    if i then
      (cut a 1 (a.length : Int)).bind fun j =>
      (jT N p2 c d e b f g) j
    else
      jS N p2 c e b f a N d
def gU (N : Nat) (p2 : Bool → Bool → Option Bool) (a : Int) : Nat → List aV → List aV → List aV → Int → Option (List aV)
  | 0, _, _, _, _ => none
  | f + 1, d, e, b, c =>
    if (decide (c < a)) then
      jT N p2 a e b c (gU N p2 a f) N d
    else
      some b
def eH (N : Nat) (p0 : (List aV)) (p1 : (List aV)) (p2 : Bool → Bool → Option Bool) : Nat → Int → Int → List (List aV) → Int → Option (List aV)
  | 0, _, _, _, _ => none
  | f + 1, d, e, c, a =>
    if (decide (a < 2)) then
      (idx c a).bind fun b =>
      if (decide (0 < (b.length : Int))) then
        if ((a == 0) || ((p0.length : Int) == 0)) then
          (idx b 0).bind fun g =>
          (idx b (bG ((b.length : Int) - 1))).bind fun h =>
          kI c a (eH N p0 p1 p2 f) b g.Y0 h.Y1
        else
          kI c a (eH N p0 p1 p2 f) b d e
      else
        (eH N p0 p1 p2 f) d e c (bG (a + 1))
    else
      gU N p2 e N p0 p1 ([] : List aV) d
def pM (N : Nat) (p0 : (List aV)) (p1 : (List aV)) (p2 : Bool → Bool → Option Bool) : Option (List aV) :=
  if ((bG ((p0.length : Int) + (p1.length : Int))) == 0) then
    some ([] : List aV)
  else
    eH N p0 p1 p2 N 0 0 [p0, p1] 0


def lY (p0 : Bool) (p1 : Bool) : Option Bool :=
  some (p0 && (!p1))


def lQ (N : Nat) (p0 : (List aV)) (p1 : (List aV)) : Option (List aV) :=
  (pM N p0 p1 (fun z0 z1 => lY z0 z1)).bind fun a =>
  some a


def nE (p0 : Bool) (p1 : Bool) : Option Bool :=
  some (p0 || p1)


def mY (N : Nat) (p0 : (List aV)) (p1 : (List aV)) : Option (List aV) :=
  (pM N p0 p1 (fun z0 z1 => nE z0 z1)).bind fun a =>
  some a

def il : List aV → Nat → Int → Option Int
  | [], c, a =>
    some a
  | d :: b, c, a =>
    (il b (c + 1)) (bG (a + (bG (Int.tdiv (d.Xs.length : Int) 2))))
def nG (p0 : (List aV)) : Option Int :=
  il p0 0 0

def iO (a : List aV) : Option (Int × (List aV)) :=
  (nG a).bind fun b =>
  if (decide (2000 < b)) then
    some (2, a)
  else
    some (0, a)
def lH (N : Nat) (p0 : eT) (p1 : (List aV)) : Option (Int × (List aV)) :=
  (nH p1).bind fun a =>
  if (!a) then
    some (1, p0.image)
  else
    if p0.clear then
      (lQ N p0.image p1).bind fun b =>
      iO b
    else
      (mY N p0.image p1).bind fun c =>
      iO c


def mG (p0 : aQ) (p1 : aQ) : Option Int :=
  some (bG (p0.X0 - p1.X0))

def iw (c : (List Int)) (e : List aV) (b : Int) (f : (List aV) → Int → Option (List aV)) : List aQ → Nat → List Int → Option (List aV)
  | [], g, a =>
    (idx c b).bind fun i =>
    (idx c (bG (b + 1))).bind fun j =>
    (gW e (aV.mk i j a)).bind fun l =>
    f l (bG (b + 1))
  | h :: d, g, a =>
    (idx c b).bind fun n =>
    (if (decide (n < h.Y0)) then some true else 
      (idx c b).bind fun o =>
      some (decide (h.Y1 ≤ o))
    ).bind fun q =>
    if q then
      (iw c e b f d (g + 1)) a
    else
      (if (decide (0 < (a.length : Int))) then 
        (idx a (bG ((a.length : Int) - 1))).bind fun s =>
        some (s == h.X0)
       else some false).bind fun t =>
      if t then
        (pre a (bG ((a.length : Int) - 1))).bind fun u =>
        (iw c e b f d (g + 1)) u
      else
        (yX a [h.X0]).bind fun v =>
        (iw c e b f d (g + 1)) v
def iy (a : (List Int)) (b : (List aQ)) : Nat → List aV → Int → Option (List aV)
  | 0, _, _ => none
  | e + 1, c, d =>
    if (decide ((bG (d + 1)) < (a.length : Int))) then
      iw a c d (iy a b e) b 0 ([] : List Int)
    else
      some c
def iP (h : (List Int) → (List aQ) → Option (List aV)) (f : (List au)) : List au → Nat → List Int → List aQ → Option (List aV)
  | [], g, d, a =>
    h d a
  | b :: c, g, d, a =>
    (md (bG ((g : Int) + 1)) (f.length : Int)).bind fun j =>
    (idx f j).bind fun e =>
    (yX d [b.Y]).bind fun i =>
    if (b.X == e.X) then
      (yX a [(aQ.mk b.X (min b.Y e.Y) 0 (max b.Y e.Y))]).bind fun l =>
      (iP h f c (g + 1)) i l
    else
      (iP h f c (g + 1)) i a
noncomputable def iA (N : Nat) : List (List au) → Nat → List Int → List aQ → Option (List aV)
  | [], d, a, b =>
    (Iz a).bind fun f =>
    (TD f).bind fun g =>
    (CK b (fun z0 z1 => mG z0 z1)).bind fun h =>
    iy g h N ([] : List aV) 0
  | e :: c, d, a, b =>
    iP (iA N c (d + 1)) e e 0 a b
noncomputable def qw (N : Nat) (p0 : (List (List au))) : Option (List aV) :=
  iA N p0 0 ([] : List Int) ([] : List aQ)


def iC (p0 : au) : Option Bool :=
  (pq p0).bind fun a =>
  some (!a)

noncomputable def fM (N : Nat) (p0 : eT) (p2 : au) : List au → Nat → List au → Option (Int × (List aV))
  | [], e, a =>
    (qw N [a]).bind fun b =>
    (nG b).bind fun f =>
    if (decide (2000 < f)) then
      some (2, p0.image)
    else
      (dC a (fun z0 => iC z0)).bind fun g =>
      if g then
        some (1, p0.image)
      else
        (lH N p0 b).bind fun c =>
        some (c.1, c.2)
  | j :: d, e, a =>
    (jY p0 j p2).bind fun h =>
    (yX a [h]).bind fun i =>
    (fM N p0 p2 d (e + 1)) i
noncomputable def kM (N : Nat) (p0 : eT) (p1 : (List au)) (p2 : au) : Option (Int × (List aV)) :=
  fM N p0 p2 p1 0 ([] : List au)

def kL (p0 : eT) (a : Bool) : Option (Int × Bool × (List aV)) :=
  some (0, a, p0.image)
noncomputable def jl (N : Nat) (p0 : eT) (p1 : av) (p2 : au) (b : Bool) : Option (Int × Bool × (List aV)) :=
  if b then
    kL p0 (p1.Kind == 2)
  else
    if (p1.Kind == 3) then
      none
    else
      if (p1.Kind == 4) then
        none
      else
        if (p1.Kind == 5) then
          none
        else
          if (p1.Kind == 6) then
            none
          else
            if (p1.Kind == 7) then
              (kM N p0 p1.Points p2).bind fun a =>
              some (a.1, p0.clear, a.2)
            else
              if (p1.Kind == 8) then
                none
              else
                kL p0 p0.clear
noncomputable def jw (rec : eT → (List av) → au → Option (Int × Bool × (List aV))) (N : Nat) (p0 : eT) (p1 : av) (p2 : au) : Option (Int × Bool × (List aV)) :=
  (jY p0 p1.At p2).bind fun a =>
  if (p1.Kind == 1) then
    jl N p0 p1 p2 (p1.Kind == 1)
  else
    jl N p0 p1 p2 (p1.Kind == 2)

noncomputable def gm (N : Nat) (p0 : eT) (p2 : au) (rec : eT → (List av) → au → Option (Int × Bool × (List aV))) : List av → Nat → List aV → Bool → Option (Int × Bool × (List aV))
  | [], e, b, c =>
    some (0, c, b)
  | f :: d, e, b, c =>
    (jw rec N (eT.mk p0.p p0.tools b c p0.tool p0.place p0.placed p0.off p0.on) f p2).bind fun a =>
    if (a.1 != 0) then
      some (a.1, a.2.1, a.2.2)
    else
      (gm N p0 p2 rec d (e + 1)) a.2.2 a.2.1
noncomputable def pQ (N : Nat) (rec : eT → (List av) → au → Option (Int × Bool × (List aV))) (p0 : eT) (p1 : (List av)) (p2 : au) : Option (Int × Bool × (List aV)) :=
  gm N p0 p2 rec p1 0 p0.image p0.clear
noncomputable def lc : Nat → eT → (List av) → au → Option (Int × Bool × (List aV))
  | 0 => fun _ _ _ => none
  | N + 1 => pQ N (lc N)


noncomputable def uL (N : Nat) (p0 : gu) : Option (eT × Int) :=
  (pY p0).bind fun a =>
  (lc N a p0.Steps (au.mk 0 0)).bind fun b =>
  some ((eT.mk a.p a.tools b.2.2 b.2.1 a.tool a.place a.placed a.off a.on), b.1)


noncomputable def sw (N : Nat) (p0 : gu) : Option ((List aV) × Int) :=
  (jK N p0).bind fun b =>
  if (b != 0) then
    some (([] : List aV), b)
  else
    (uL N p0).bind fun a =>
    if (a.2 != 0) then
      some (([] : List aV), a.2)
    else
      some (a.1.image, 0)


noncomputable def qE (N : Nat) (p0 : gu) : Option ((List aQ) × Int) :=
  (sw N p0).bind fun a =>
  (kC N a.1).bind fun b =>
  some (b, a.2)


def sj (p0 : Int) : Option Int :=
  some p0


def ou (p0 : (List ic)) : Option (List ic) :=
  (yX ([] : List ic) p0).bind fun a =>
  some a


def kH (p0 : (List av)) : Option (List av) :=
  (yX ([] : List av) p0).bind fun a =>
  some a


def lC (p0 : (List au)) : Option (List au) :=
  (yX ([] : List au) p0).bind fun a =>
  some a

def jW (p1 : Int) : List Int → Nat → Option Int
  | [], a =>
    some (-1)
  | c :: b, a =>
    if (p1 == c) then
      some (a : Int)
    else
      (jW p1 b (a + 1))
def rC (p0 : (List Int)) (p1 : Int) : Option Int :=
  jW p1 p0 0


def pO (p0 : (List Int)) (p1 : Int) : Option Bool :=
  (rC p0 p1).bind fun a =>
  some (decide (0 ≤ a))

def oC (p1 : (List Int)) : List av → Nat → Option Int
  | [], b =>
    some 0
  | c :: a, b =>
    (pO p1 c.Kind).bind fun d =>
    if d then
      some c.Kind
    else
      (oC p1 a (b + 1))
def wo (p0 : (List av)) (p1 : (List Int)) : Option Int :=
  oC p1 p0 0


def uK (p0 : Int) : Option Bool :=
  some ((((p0 == 5) || (p0 == 6)) || (p0 == 7)) || (p0 == 8))

def kD (p0 : av) (p1 : lw) (p2 : (List av)) (a : Bool) : Option Bool :=
  if a then
    (wo p2 [1, 2, 5, 6, 7, 8]).bind fun b =>
    (if (p0.Kind == p1.dark) then some true else 
      (uK b).bind fun c =>
      some (!c)
    ).bind fun d =>
    some d
  else
    if (p0.Kind == 3) then
      none
    else
      if (p0.Kind == 4) then
        none
      else
        if (p0.Kind == 6) then
          none
        else
          some false
def lW (p0 : av) (p1 : lw) (p2 : (List av)) : Option Bool :=
  if (p0.Kind == 1) then
    kD p0 p1 p2 (p0.Kind == 1)
  else
    kD p0 p1 p2 (p0.Kind == 2)

def jm (p0 : lw) (a : Int) (b : Int) (c : ByteArray) (d : Int) (e : Int) (f : List au) (g : Int) (h : Int) (i : List av) : Option lw :=
  some (lw.mk a p0.tool p0.place p0.placed (av.mk b c (au.mk d e) f g h i))
def kP (p0 : lw) (p1 : av) (a : Bool) : Option lw :=
  if a then
    none
  else
    if (p1.Kind == 7) then
      jm p0 p0.dark 0 (⟨#[]⟩) 0 0 [] 0 0 []
    else
      if (p1.Kind == 8) then
        none
      else
        jm p0 p0.dark p0.last.Kind p0.last.Name p0.last.At.X p0.last.At.Y p0.last.Points p0.last.NX p0.last.NY p0.last.Steps
def kN (p0 : lw) (p1 : av) (a : Bool) : Option lw :=
  if a then
    jm p0 p1.Kind p0.last.Kind p0.last.Name p0.last.At.X p0.last.At.Y p0.last.Points p0.last.NX p0.last.NY p0.last.Steps
  else
    if (p1.Kind == 3) then
      none
    else
      if (p1.Kind == 4) then
        none
      else
        if (p1.Kind == 5) then
          kP p0 p1 (p1.Kind == 5)
        else
          kP p0 p1 (p1.Kind == 6)
def jy (p0 : lw) (p1 : av) : Option lw :=
  if (p1.Kind == 1) then
    kN p0 p1 (p1.Kind == 1)
  else
    kN p0 p1 (p1.Kind == 2)

def jU (p0 : (List av)) : List av → Nat → Int → ByteArray → Int → Int → Bool → Int → ByteArray → Int → Int → List au → Int → Int → List av → Option Int
  | [], s, b, c, d, e, f, g, h, i, j, l, n, o, q =>
    some (-1)
  | u :: t, s, b, c, d, e, f, g, h, i, j, l, n, o, q =>
    (cut p0 (bG ((s : Int) + 1)) (p0.length : Int)).bind fun v =>
    (lW u (lw.mk b c (au.mk d e) f (av.mk g h (au.mk i j) l n o q)) v).bind fun w =>
    if w then
      some (s : Int)
    else
      (jy (lw.mk b c (au.mk d e) f (av.mk g h (au.mk i j) l n o q)) u).bind fun a =>
      (jU p0 t (s + 1)) a.dark a.tool a.place.X a.place.Y a.placed a.last.Kind a.last.Name a.last.At.X a.last.At.Y a.last.Points a.last.NX a.last.NY a.last.Steps
def rY (p0 : (List av)) : Option Int :=
  jU p0 p0 0 1 (⟨#[]⟩) 0 0 false 0 (⟨#[]⟩) 0 0 [] 0 0 []

def iB (a : (List ic)) : Nat → Option (List ic)
  | 0 => none
  | b + 1 =>
    if (decide (0 < (a.length : Int))) then
      none
    else
      some a
def iQ (N : Nat) (p0 : (List ic)) : Option (List ic) :=
  (ou p0).bind fun a =>
  iB a N


def jO (p0 : au) : Option au :=
  (sj p0.X).bind fun a =>
  (sj p0.Y).bind fun b =>
  some (au.mk a b)

def bX (c : au) : List au → Nat → List au → Option (Int × Int × (List au))
  | [], b, a =>
    some (c.X, c.Y, a)
  | i :: d, b, a =>
    (idx a (b : Int)).bind fun e =>
    (jO e).bind fun f =>
    (idx a (b : Int)).bind fun h =>
    (sets a (b : Int) f).bind fun g =>
    (bX c d (b + 1)) g
def gJ (p0 : av) : Option (Int × Int × (List au)) :=
  (jO p0.At).bind fun a =>
  bX a p0.Points 0 p0.Points

def bR (rec : (List av) → Option (List av)) (e : (List av)) : Nat → List av → Int → Option (List av)
  | 0, _, _ => none
  | i + 1, c, b =>
    if (decide (b < (e.length : Int))) then
      (idx c b).bind fun g =>
      (lC g.Points).bind fun h =>
      (idx c b).bind fun a =>
      (idx c b).bind fun j =>
      (rec a.Steps).bind fun f =>
      (idx c b).bind fun l =>
      (idx c b).bind fun n =>
      (gJ (av.mk a.Kind a.Name a.At h a.NX a.NY f)).bind fun d =>
      (bR rec e i) ((c).set (b).toNat (av.mk a.Kind a.Name (au.mk d.1 d.2.1) d.2.2 a.NX a.NY f)) (bG (b + 1))
    else
      some c
def fF (N : Nat) (rec : (List av) → Option (List av)) (p0 : (List av)) : Option (List av) :=
  (kH p0).bind fun a =>
  bR rec a N a 0
def eD : Nat → (List av) → Option (List av)
  | 0 => fun _ => none
  | N + 1 => fF N (eD N)


def lS (N : Nat) (p0 : gu) : Option gu :=
  (iQ N p0.Tools).bind fun a =>
  (eD N p0.Steps).bind fun b =>
  some (gu.mk p0.Unit a b)

def nk (a : gu) : Nat → Option (gu × Int)
  | 0 => none
  | c + 1 =>
    (rY a.Steps).bind fun b =>
    if (decide (b < 0)) then
      some (a, 0)
    else
      none
def su (N : Nat) (p0 : gu) : Option (gu × Int) :=
  (jK N p0).bind fun a =>
  if (a != 0) then
    some ((gu.mk 0 [] []), a)
  else
    (lS N p0).bind fun b =>
    nk b N

def fH (p0 : (List au)) (p1 : (List au)) : Nat → Int → Option Bool
  | 0, _ => none
  | d + 1, a =>
    if (decide (a < (p0.length : Int))) then
      (idx p0 a).bind fun b =>
      (idx p1 a).bind fun c =>
      if (!(gz b c)) then
        some false
      else
        (fH p0 p1 d) (bG (a + 1))
    else
      some true
def jA (N : Nat) (p0 : (List au)) (p1 : (List au)) : Option Bool :=
  if ((p0.length : Int) != (p1.length : Int)) then
    some false
  else
    fH p0 p1 N 0

def fK (N : Nat) (p0 : (List av)) (p1 : (List av)) (rec : (List av) → (List av) → Option Bool) : Nat → Int → Option Bool
  | 0, _ => none
  | h + 1, c =>
    if (decide (c < (p0.length : Int))) then
      (idx p0 c).bind fun a =>
      (idx p1 c).bind fun b =>
      (if (((((a.Kind != b.Kind) || (!AC a.Name b.Name)) || (!(gz a.At b.At))) || (a.NX != b.NX)) || (a.NY != b.NY)) then some true else 
        (jA N a.Points b.Points).bind fun d =>
        some (!d)
      ).bind fun e =>
      (if e then some true else 
        (rec a.Steps b.Steps).bind fun f =>
        some (!f)
      ).bind fun g =>
      if g then
        some false
      else
        (fK N p0 p1 rec h) (bG (c + 1))
    else
      some true
def ji (N : Nat) (rec : (List av) → (List av) → Option Bool) (p0 : (List av)) (p1 : (List av)) : Option Bool :=
  if ((p0.length : Int) != (p1.length : Int)) then
    some false
  else
    fK N p0 p1 rec N 0
def jP : Nat → (List av) → (List av) → Option Bool
  | 0 => fun _ _ => none
  | N + 1 => ji N (jP N)

def jk (p0 : gu) : Nat → Option Bool
  | 0 => none
  | a + 1 =>
    if (decide (0 < (p0.Tools.length : Int))) then
      none
    else
      some true
def ku (N : Nat) (p0 : gu) (p1 : gu) : Option Bool :=
  (if ((p0.Unit != p1.Unit) || ((p0.Tools.length : Int) != (p1.Tools.length : Int))) then some true else 
    (jP N p0.Steps p1.Steps).bind fun a =>
    some (!a)
  ).bind fun b =>
  if b then
    some false
  else
    jk p0 N


noncomputable def iV (N : Nat) (p0 : (List aQ)) : Option Bool :=
  (sV N p0).bind fun a =>
  if (a.2 != 0) then
    (if ((a.1.Steps.length : Int) == 0) then 
      (jg N).bind fun d =>
      some d
     else some false).bind fun e =>
    some e
  else
    (qE N a.1).bind fun b =>
    if (b.2 != 0) then
      (if (b.2 == 2) then 
        (jg N).bind fun f =>
        some f
       else some false).bind fun g =>
      some g
    else
      (su N a.1).bind fun c =>
      (jd b.1 p0).bind fun h =>
      (if (h && (c.2 == 0)) then 
        (ku N c.1 a.1).bind fun i =>
        some i
       else some false).bind fun j =>
      (if j then 
        (jg N).bind fun l =>
        some l
       else some false).bind fun n =>
      some n

end Go.Proofs.YtcjeebkoafonpaaGreatDoor
