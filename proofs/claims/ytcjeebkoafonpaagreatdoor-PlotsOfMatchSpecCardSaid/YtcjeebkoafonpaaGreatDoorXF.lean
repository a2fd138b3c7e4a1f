/- The plain functions: what each function of the program computes; none where it would panic. -/
import Derived.Test.YtcjeebkoafonpaaGreatDoorXT
namespace Go.Proofs.YtcjeebkoafonpaaGreatDoor
open Go.RowKit

def sU (p0 : Int) (p1 : Int) (p2 : Int) : Option Bool :=
  some ((decide (p1 ≤ p0)) && (decide (p0 ≤ p2)))


def qh (p0 : Int) : Option Bool :=
  (sU p0 (-1000000) 1000000).bind fun a =>
  some a


def qY (p0 : aI) : Option Bool :=
  (qh p0.X0).bind fun a =>
  (if a then 
    (qh p0.Y0).bind fun b =>
    some b
   else some false).bind fun c =>
  (if c then 
    (qh p0.X1).bind fun d =>
    some d
   else some false).bind fun e =>
  (if e then 
    (qh p0.Y1).bind fun f =>
    some f
   else some false).bind fun g =>
  some g

def iH : List aI → Nat → Option Int
  | [], c =>
    some 0
  | a :: b, c =>
    (qY a).bind fun d =>
    if (!d) then
      some 1
    else
      if ((decide (a.X1 ≤ a.X0)) || (decide (a.Y1 ≤ a.Y0))) then
        some 13
      else
        (iH b (c + 1))
def om (p0 : (List aI)) : Option Int :=
  if (decide (2000 < (p0.length : Int))) then
    some 2
  else
    iH p0 0


def pJ (p0 : (List aI)) : Option (List aI) :=
  (sj ([] : List aI) p0).bind fun a =>
  some a



def oJ (p0 : aI) (p1 : aI) : Option Int :=
  some (bn (p0.Y0 - p1.Y0))




def oH (p0 : aI) (q0 : (List Int)) (q1 : Int) : Option Bool :=
  (idx q0 q1).bind fun a =>
  some (decide (p0.Y1 ≤ a))

def gQ (p1 : aI → Option Bool) : List aI → Nat → Option Int
  | [], a =>
    some (-1)
  | d :: b, a =>
    (p1 d).bind fun c =>
    if c then
      some (a : Int)
    else
      (gQ p1 b (a + 1))
def nu (p0 : (List aI)) (p1 : aI → Option Bool) : Option Int :=
  gQ p1 p0 0

def fH (p1 : aI → Option Bool) : Nat → List aI → Int → Int → Option (List aI)
  | 0, _, _, _ => none
  | e + 1, a, b, c =>
    if (decide (c < (a.length : Int))) then
      (idx a c).bind fun d =>
      (p1 d).bind fun f =>
      if (!f) then
        (idx a b).bind fun j =>
        (sets a b d).bind fun g =>
        (fH p1 e) g (bn (b + 1)) (bn (c + 1))
      else
        (fH p1 e) a b (bn (c + 1))
    else
      (cut a b (a.length : Int)).bind fun h =>
      (pre (Oi a b (h).length (aI.mk 0 0 0 0)) b).bind fun i =>
      some i
def lm (N : Nat) (p0 : (List aI)) (p1 : aI → Option Bool) : Option (List aI) :=
  (nu p0 p1).bind fun a =>
  if (a == (-1)) then
    some p0
  else
    fH p1 N p0 a (bn (a + 1))


def mF (p0 : aI) (p1 : aI) : Option Int :=
  some (bn (p0.X0 - p1.X0))

def iD (c : (List aI)) : List aI → Nat → List Int → Option ((List Int) × (List aI))
  | [], e, a =>
    some (a, c)
  | d :: b, e, a =>
    (if (decide (0 ≤ (bn ((a.length : Int) - 1)))) then 
      (idx a (bn ((a.length : Int) - 1))).bind fun f =>
      some (decide (d.X0 ≤ f))
     else some false).bind fun g =>
    if g then
      (idx a (bn ((a.length : Int) - 1))).bind fun h =>
      (idx a (bn ((a.length : Int) - 1))).bind fun l =>
      (sets a (bn ((a.length : Int) - 1)) (max h d.X1)).bind fun i =>
      (iD c b (e + 1)) i
    else
      (sj a [d.X0, d.X1]).bind fun j =>
      (iD c b (e + 1)) j
noncomputable def oU (p0 : (List aI)) : Option ((List Int) × (List aI)) :=
  (DW p0 (fun z0 z1 => mF z0 z1)).bind fun a =>
  iD a a 0 ([] : List Int)

def iF (p1 : (List Int)) : List Int → Nat → Option Bool
  | [], a =>
    some true
  | d :: b, a =>
    (idx p1 (a : Int)).bind fun c =>
    if (d != c) then
      some false
    else
      (iF p1 b (a + 1))
def oh (p0 : (List Int)) (p1 : (List Int)) : Option Bool :=
  if ((p0.length : Int) != (p1.length : Int)) then
    some false
  else
    iF p1 p0 0


def mf (p0 : (List jL)) (p1 : jL) : Option (List jL) :=
  if (((p1.Xs.length : Int) == 0) || (decide (p1.Y1 ≤ p1.Y0))) then
    some p0
  else
    (if (decide (0 ≤ (bn ((p0.length : Int) - 1)))) then 
      (idx p0 (bn ((p0.length : Int) - 1))).bind fun b =>
      some (b.Y1 == p1.Y0)
     else some false).bind fun c =>
    (if c then 
      (idx p0 (bn ((p0.length : Int) - 1))).bind fun d =>
      (oh d.Xs p1.Xs).bind fun e =>
      some e
     else some false).bind fun f =>
    if f then
      (idx p0 (bn ((p0.length : Int) - 1))).bind fun a =>
      (sets p0 (bn ((p0.length : Int) - 1)) (jL.mk a.Y0 p1.Y1 a.Xs)).bind fun g =>
      some g
    else
      (sj p0 [p1]).bind fun h =>
      some h

noncomputable def kL (c : (List aI)) (d : (List Int)) (a : Int) (e : List jL) (h : Int → (List jL) → (List aI) → Int → Option (List jL)) : Nat → List aI → Int → Option (List jL)
  | 0, _, _ => none
  | u + 1, f, b =>
    (if (decide (b < (c.length : Int))) then 
      (idx c b).bind fun i =>
      (idx d a).bind fun j =>
      some (decide (i.Y0 ≤ j))
     else some false).bind fun l =>
    if l then
      (idx c b).bind fun n =>
      (sj f [n]).bind fun o =>
      (kL c d a e h u) o (bn (b + 1))
    else
      (idx d a).bind fun q =>
      (idx d (bn (a + 1))).bind fun s =>
      (oU f).bind fun g =>
      (mf e (jL.mk q s g.1)).bind fun t =>
      h (bn (a + 1)) t g.2 b
noncomputable def gX (N : Nat) (c : (List aI)) (a : (List Int)) : Nat → Int → List jL → List aI → Int → Option (List jL)
  | 0, _, _, _, _ => none
  | h + 1, b, d, e, f =>
    if (decide ((bn (b + 1)) < (a.length : Int))) then
      (lm N e (fun z0 => oH z0 a b)).bind fun g =>
      kL c a b d (gX N c a h) N g f
    else
      some d
noncomputable def kM (N : Nat) (b : (List aI)) : List aI → Nat → List Int → Option (List jL)
  | [], d, a =>
    (JO a).bind fun f =>
    (Sj f).bind fun g =>
    gX N b g N 0 ([] : List jL) ([] : List aI) 0
  | e :: c, d, a =>
    (sj a [e.Y0, e.Y1]).bind fun h =>
    (kM N b c (d + 1)) h
noncomputable def nT (N : Nat) (p0 : (List aI)) : Option (List jL) :=
  (pJ p0).bind fun b =>
  (DW b (fun z0 z1 => oJ z0 z1)).bind fun a =>
  kM N a a 0 ([] : List Int)

def iG (d : (List aI) → Option (List aI)) (a : jL) : Nat → List aI → Int → Option (List aI)
  | 0, _, _ => none
  | h + 1, c, b =>
    if (decide (b < (a.Xs.length : Int))) then
      (idx a.Xs b).bind fun e =>
      (idx a.Xs (bn (b + 1))).bind fun f =>
      (sj c [(aI.mk e a.Y0 f a.Y1)]).bind fun g =>
      (iG d a h) g (bn (b + 2))
    else
      d c
def fJ (N : Nat) : List jL → Nat → List aI → Option (List aI)
  | [], c, a =>
    some a
  | d :: b, c, a =>
    iG (fJ N b (c + 1)) d N a 0
def ol (N : Nat) (p0 : (List jL)) : Option (List aI) :=
  fJ N p0 0 ([] : List aI)

def iA (p1 : (List aI)) : List aI → Nat → Option Bool
  | [], a =>
    some true
  | d :: b, a =>
    (idx p1 (a : Int)).bind fun c =>
    if (!(vo d c)) then
      some false
    else
      (iA p1 b (a + 1))
def mE (p0 : (List aI)) (p1 : (List aI)) : Option Bool :=
  if ((p0.length : Int) != (p1.length : Int)) then
    some false
  else
    iA p1 p0 0

noncomputable def fw (N : Nat) (p0 : (List aI)) : Nat → Int → Option Int
  | 0, _ => none
  | g + 1, a =>
    if (decide (a < (p0.length : Int))) then
      (idx p0 (bn (a - 1))).bind fun b =>
      (idx p0 a).bind fun c =>
      if ((decide (c.Y0 < b.Y0)) || ((c.Y0 == b.Y0) && (decide (c.X0 ≤ b.X0)))) then
        some 8
      else
        (fw N p0 g) (bn (a + 1))
    else
      (nT N p0).bind fun d =>
      (ol N d).bind fun e =>
      (mE e p0).bind fun f =>
      if (!f) then
        some 3
      else
        some 0
noncomputable def nK (N : Nat) (p0 : (List aI)) : Option Int :=
  (om p0).bind fun a =>
  if (a != 0) then
    some a
  else
    fw N p0 N 1


def jC (p0 : Int) (p1 : Int) (p2 : Int) (p3 : Int) (q0 : (List fE)) : Option (List fE) :=
  (sj q0 [(fE.mk (aA.mk p0 p1) (aA.mk p2 p3))]).bind fun a =>
  some a

def nC (p2 : Bool → Bool → Option Bool) (c : List Int) (d : Bool) (h : (List Int) → (List Int) → (List Int) → Bool → Bool → Bool → Option (List Int)) (i : Int) (e : List Int) (a : Bool) (f : List Int) (b : Bool) : Option (List Int) :=
  (p2 a b).bind fun g =>
  if (g != d) then
    (sj c [i]).bind fun j =>
    h e f j a b g
  else
    h e f c a b d
def lG (p2 : Bool → Bool → Option Bool) (a : List Int) (c : List Int) (d : Bool) (e : Bool) (h : (List Int) → (List Int) → (List Int) → Bool → Bool → Bool → Option (List Int)) (b : Int) (f : List Int) (g : Bool) : Option (List Int) :=
  (if (decide (0 < (a.length : Int))) then 
    (idx a 0).bind fun i =>
    some (i == b)
   else some false).bind fun j =>
  if j then
    (cut a 1 (a.length : Int)).bind fun l =>
    nC p2 c e h b f g l (!d)
  else
    nC p2 c e h b f g a d
def kK (p2 : Bool → Bool → Option Bool) (a : List Int) (c : List Int) (d : List Int) (e : Bool) (f : Bool) (g : Bool) (h : (List Int) → (List Int) → (List Int) → Bool → Bool → Bool → Option (List Int)) (b : Int) : Option (List Int) :=
  (if (decide (0 < (a.length : Int))) then 
    (idx a 0).bind fun i =>
    some (i == b)
   else some false).bind fun j =>
  if j then
    (cut a 1 (a.length : Int)).bind fun l =>
    lG p2 c d f g h b l (!e)
  else
    lG p2 c d f g h b a e
def fq (p2 : Bool → Bool → Option Bool) : Nat → List Int → List Int → List Int → Bool → Bool → Bool → Option (List Int)
  | 0, _, _, _, _, _, _ => none
  | g + 1, a, b, c, d, e, f =>
    if ((decide (0 < (a.length : Int))) || (decide (0 < (b.length : Int)))) then
      (if ((b.length : Int) == 0) then some true else 
        (if (decide (0 < (a.length : Int))) then 
          (idx a 0).bind fun h =>
          (idx b 0).bind fun i =>
          some (decide (h ≤ i))
         else some false).bind fun j =>
        some j
      ).bind fun l =>
      if l then
        (idx a 0).bind fun n =>
        kK p2 a b c d e f (fq p2 g) n
      else
        (idx b 0).bind fun o =>
        kK p2 a b c d e f (fq p2 g) o
    else
      some c
def nP (N : Nat) (p0 : (List Int)) (p1 : (List Int)) (p2 : Bool → Bool → Option Bool) : Option (List Int) :=
  fq p2 N p0 p1 ([] : List Int) false false false


def jJ (p0 : Bool) (p1 : Bool) : Option Bool :=
  some (p0 && (!p1))


def jI (p0 : Bool) (p1 : Bool) : Option Bool :=
  some (p1 && (!p0))

def dX (p0 : Int) (a : (List Int)) : Nat → List fE → Int → Option (List fE)
  | 0, _, _ => none
  | g + 1, c, b =>
    if (decide (b < (a.length : Int))) then
      (idx a b).bind fun d =>
      (idx a (bn (b + 1))).bind fun e =>
      (jC d p0 e p0 c).bind fun f =>
      (dX p0 a g) f (bn (b + 2))
    else
      some c
def eX (N : Nat) (p0 : Int) (p1 : (List Int)) (p2 : (List Int)) (a : (List Int)) : Nat → List fE → Int → Option (List fE)
  | 0, _, _ => none
  | h + 1, c, b =>
    if (decide (b < (a.length : Int))) then
      (idx a (bn (b + 1))).bind fun d =>
      (idx a b).bind fun e =>
      (jC d p0 e p0 c).bind fun f =>
      (eX N p0 p1 p2 a h) f (bn (b + 2))
    else
      (nP N p1 p2 (fun z0 z1 => jI z0 z1)).bind fun g =>
      dX p0 g N c 0
def fM (N : Nat) (p0 : Int) (p1 : (List Int)) (p2 : (List Int)) (q1 : (List fE)) : Option (List fE) :=
  (nP N p1 p2 (fun z0 z1 => jJ z0 z1)).bind fun a =>
  eX N p0 p1 p2 a N q1 0

def jR (N : Nat) (p0 : (List jL)) (c : (List fE) → Option (List fE)) (a : jL) (d : Nat) (b : List fE) : Option (List fE) :=
  (if ((bn ((d : Int) + 1)) == (p0.length : Int)) then some true else 
    (idx p0 (bn ((d : Int) + 1))).bind fun e =>
    some (decide (a.Y1 < e.Y0))
  ).bind fun f =>
  if f then
    (fM N a.Y1 a.Xs [] b).bind fun g =>
    c g
  else
    c b
def gD (N : Nat) (p0 : (List jL)) (e : (List fE) → Option (List fE)) (a : jL) (c : Nat) : Nat → List fE → Int → Option (List fE)
  | 0, _, _ => none
  | u + 1, d, b =>
    if (decide (b < (a.Xs.length : Int))) then
      (idx a.Xs b).bind fun f =>
      (idx a.Xs b).bind fun g =>
      (jC f a.Y1 g a.Y0 d).bind fun h =>
      (idx a.Xs (bn (b + 1))).bind fun i =>
      (idx a.Xs (bn (b + 1))).bind fun j =>
      (jC i a.Y0 j a.Y1 h).bind fun l =>
      (gD N p0 e a c u) l (bn (b + 2))
    else
      (if ((c : Int) == 0) then some true else 
        (idx p0 (bn ((c : Int) - 1))).bind fun n =>
        some (decide (n.Y1 < a.Y0))
      ).bind fun o =>
      if o then
        (fM N a.Y0 [] a.Xs d).bind fun q =>
        jR N p0 e a c q
      else
        (idx p0 (bn ((c : Int) - 1))).bind fun s =>
        (fM N a.Y0 s.Xs a.Xs d).bind fun t =>
        jR N p0 e a c t
def dB (N : Nat) (p0 : (List jL)) : List jL → Nat → List fE → Option (List fE)
  | [], b, a =>
    some a
  | d :: c, b, a =>
    gD N p0 (dB N p0 c (b + 1)) d b N a 0
def qg (N : Nat) (p0 : (List jL)) : Option (List fE) :=
  dB N p0 p0 0 ([] : List fE)


def kT (p0 : Int) : Option Int :=
  some (min 1 (max (-1) p0))


def gW (p0 : fE) : Option aA :=
  (kT (bn (p0.to_.X - p0.from_.X))).bind fun a =>
  (kT (bn (p0.to_.Y - p0.from_.Y))).bind fun b =>
  some (aA.mk a b)


def mh (p0 : fE) : Option aA :=
  (gW p0).bind fun a =>
  some (aA.mk (bn (0 - a.Y)) a.X)


def qf (p0 : aA) (p1 : aA) : Option Bool :=
  some ((decide (p0.Y < p1.Y)) || ((p0.Y == p1.Y) && (decide (p0.X < p1.X))))


def gL : List (List aA) → Nat → List aA → Option (List aA)
  | [], c, a =>
    some a
  | e :: b, c, a =>
    (sj a e).bind fun d =>
    (gL b (c + 1)) d
def gM (p0 : (List (List aA))) : List (List aA) → Nat → Int → Option (List aA)
  | [], c, a =>
    (Si a).bind fun e =>
    gL p0 0 e
  | d :: b, c, a =>
    if (decide ((bn (a + (d.length : Int))) < 0)) then
      none
    else
      (gM p0 b (c + 1)) (bn (a + (d.length : Int)))
def lg (p0 : (List (List aA))) : Option (List aA) :=
  gM p0 p0 0 0

def gJ (a : List aA) : List aA → Nat → Int → Option (List aA)
  | [], d, b =>
    (cut a b (a.length : Int)).bind fun e =>
    (pre a b).bind fun f =>
    (lg [e, f]).bind fun g =>
    some g
  | j :: c, d, b =>
    (idx a b).bind fun h =>
    (qf j h).bind fun i =>
    if i then
      (gJ a c (d + 1)) (d : Int)
    else
      (gJ a c (d + 1)) b
def gY (p0 : (List fE)) : List fE → Nat → List aA → Option (List aA)
  | [], c, a =>
    gJ a a 0 0
  | d :: b, c, a =>
    (gW d).bind fun e =>
    (md (bn ((bn ((c : Int) + (p0.length : Int))) - 1)) (p0.length : Int)).bind fun f =>
    (idx p0 f).bind fun g =>
    (gW g).bind fun h =>
    if (!(fB e h)) then
      (sj a [d.from_]).bind fun i =>
      (gY p0 b (c + 1)) i
    else
      (gY p0 b (c + 1)) a
def qA (p0 : (List fE)) : Option (List aA) :=
  gY p0 p0 0 ([] : List aA)


def ib (a : Bool) : Option Int :=
  if a then
    some (-1)
  else
    some 1
def dY (p0 : (List aA)) (p1 : (List aA)) : Option Int :=
  (idx p0 0).bind fun b =>
  (idx p1 0).bind fun c =>
  (qf b c).bind fun a =>
  if a then
    ib a
  else
    (idx p0 0).bind fun d =>
    (idx p1 0).bind fun e =>
    (if (fB d e) then 
      (idx p1 1).bind fun f =>
      (idx p0 1).bind fun g =>
      (qf f g).bind fun h =>
      some h
     else some false).bind fun i =>
    ib i


def fI (p0 : fE) (p1 : fE) (q0 : (List ((Int × Int) × List Int))) : Option Bool :=
  (tL HZ q0 (p0.to_.X, p0.to_.Y)).bind fun a =>
  (if ((a.length : Int) == 1) then some true else 
    (gW p1).bind fun b =>
    (mh p0).bind fun c =>
    some (fB b c)
  ).bind fun d =>
  some d

def bX (p0 : fE) (q1 : (List Bool)) (q3 : (List fE)) (q4 : (List ((Int × Int) × List Int))) : List Int → Nat → Option Int
  | [], c =>
    some (-1)
  | a :: b, c =>
    (idx q1 a).bind fun d =>
    (if (!d) then 
      (idx q3 a).bind fun e =>
      (fI p0 e q4).bind fun f =>
      some f
     else some false).bind fun g =>
    if g then
      some a
    else
      (bX p0 q1 q3 q4 b (c + 1))
def fF (p0 : fE) (q0 : (List ((Int × Int) × List Int))) (q1 : (List Bool)) (q3 : (List fE)) (q4 : (List ((Int × Int) × List Int))) : Option Int :=
  (tL HZ q0 (p0.to_.X, p0.to_.Y)).bind fun a =>
  bX p0 q1 q3 q4 a 0

def jg (a : List (List aA)) (f : (List Bool) → (List (List aA)) → Option (List (List aA))) (b : List Bool) (c : List fE) : Option (List (List aA)) :=
  (qA c).bind fun d =>
  (sj a [d]).bind fun e =>
  f b e
def jf (b : (List fE)) (c : List ((Int × Int) × List Int)) (d : List (List aA)) (g : (List Bool) → (List (List aA)) → Option (List (List aA))) (h : fE) : Nat → List Bool → List fE → Int → Option (List (List aA))
  | 0, _, _, _ => none
  | l + 1, e, i, a =>
    if (decide (0 ≤ a)) then
      (idx e a).bind fun w =>
      (sets e a true).bind fun f =>
      (idx b a).bind fun n =>
      (sj i [n]).bind fun j =>
      (idx b a).bind fun o =>
      (if (fB o.to_ h.from_) then 
        (idx b a).bind fun q =>
        (fI q h c).bind fun s =>
        some s
       else some false).bind fun t =>
      if t then
        jg d g f j
      else
        (idx b a).bind fun u =>
        (fF u c f b c).bind fun v =>
        (jf b c d g h l) f j v
    else
      jg d g e i
noncomputable def bZ (N : Nat) (e : (List fE)) (f : List ((Int × Int) × List Int)) : List fE → Nat → List Bool → List (List aA) → Option (List (List aA))
  | [], c, a, b =>
    (DU b (fun z0 z1 => dY z0 z1)).bind fun g =>
    some g
  | i :: d, c, a, b =>
    (idx a (c : Int)).bind fun h =>
    if h then
      (bZ N e f d (c + 1)) a b
    else
      jf e f b (bZ N e f d (c + 1)) i N a ([] : List fE) (c : Int)
noncomputable def eT (N : Nat) (a : (List fE)) : List fE → Nat → List ((Int × Int) × List Int) → Option (List (List aA))
  | [], d, b =>
    (MI false (a.length : Int)).bind fun f =>
    bZ N a b a 0 f ([] : List (List aA))
  | c :: e, d, b =>
    (tL HZ b (c.from_.X, c.from_.Y)).bind fun g =>
    (sj g [(d : Int)]).bind fun h =>
    (eT N a e (d + 1)) (wQ b (c.from_.X, c.from_.Y) h)
noncomputable def mY (N : Nat) (p0 : (List jL)) : Option (List (List aA)) :=
  (qg N p0).bind fun a =>
  eT N a a 0 ([] : List ((Int × Int) × List Int))

def jm (b : (List (List aA))) : List (List aA) → Nat → Int → Option ((List (List aA)) × Int)
  | [], d, a =>
    if (decide (2000 < a)) then
      some (([] : List (List aA)), 2)
    else
      some (b, 0)
  | e :: c, d, a =>
    (jm b c (d + 1)) (bn (a + (e.length : Int)))
noncomputable def mR (N : Nat) (p0 : (List aI)) : Option ((List (List aA)) × Int) :=
  (nK N p0).bind fun a =>
  if (a != 0) then
    some (([] : List (List aA)), a)
  else
    (nT N p0).bind fun c =>
    (mY N c).bind fun b =>
    jm b b 0 0


def uD (p0 : dQ) : Option Int :=
  some (max p0.area (bn (0 - p0.area)))


def qF (p0 : Int) : Option Bool :=
  some (p0 != p0)


def qM (p0 : Int) (p1 : Int) : Option Int :=
  (qF p0).bind fun b =>
  (qF p1).bind fun a =>
  if b then
    if a then
      some 0
    else
      some (-1)
  else
    if a then
      some 1
    else
      if (decide (p0 < p1)) then
        some (-1)
      else
        if (decide (p1 < p0)) then
          some 1
        else
          some 0


def kZ (p0 : dQ) (p1 : dQ) : Option Int :=
  (uD p1).bind fun a =>
  (uD p0).bind fun b =>
  (qM a b).bind fun c =>
  some c

def dh (p1 : Int) (c : Int) (e : (List dQ) → Int → Option (List dQ)) : Nat → List dQ → Int → Option (List dQ)
  | 0, _, _ => none
  | o + 1, b, a =>
    (if (decide (p1 < a)) then 
      (idx b a).bind fun f =>
      (idx b (bn (a - 1))).bind fun g =>
      (kZ f g).bind fun h =>
      some (decide (h < 0))
     else some false).bind fun i =>
    if i then
      (idx b (bn (a - 1))).bind fun j =>
      (idx b a).bind fun l =>
      (idx b a).bind fun q =>
      (sets b a j).bind fun d =>
      (idx d (bn (a - 1))).bind fun s =>
      (sets d (bn (a - 1)) l).bind fun n =>
      (dh p1 c e o) n (bn (a - 1))
    else
      e b (bn (c + 1))
def bI (N : Nat) (p1 : Int) (p2 : Int) : Nat → List dQ → Int → Option (List dQ)
  | 0, _, _ => none
  | c + 1, b, a =>
    if (decide (a < p2)) then
      dh p1 a (bI N p1 p2 c) N b a
    else
      some b
def dV (N : Nat) (p0 : (List dQ)) (p1 : Int) (p2 : Int) : Option (List dQ) :=
  bI N p1 p2 N p0 (bn (p1 + 1))

def dE (p1 : Int) (p2 : Int) (p3 : Int) : Nat → List dQ → Int → Option (List dQ)
  | 0, _, _ => none
  | g + 1, b, a =>
    if (decide (a < p3)) then
      (idx b (bn (p2 + a))).bind fun d =>
      (idx b (bn (p1 + a))).bind fun e =>
      (idx b (bn (p1 + a))).bind fun h =>
      (sets b (bn (p1 + a)) d).bind fun c =>
      (idx c (bn (p2 + a))).bind fun i =>
      (sets c (bn (p2 + a)) e).bind fun f =>
      (dE p1 p2 p3 g) f (bn (a + 1))
    else
      some b
def eQ (N : Nat) (p0 : (List dQ)) (p1 : Int) (p2 : Int) (p3 : Int) : Option (List dQ) :=
  dE p1 p2 p3 N p0 0

def dA (N : Nat) (p2 : Int) : Nat → List dQ → Int → Int → Option (List dQ)
  | 0, _, _, _ => none
  | d + 1, c, a, b =>
    if (a != b) then
      if (decide (b < a)) then
        (eQ N c (bn (p2 - a)) p2 b).bind fun e =>
        (dA N p2 d) e (bn (a - b)) b
      else
        (eQ N c (bn (p2 - a)) (bn ((bn (p2 + b)) - a)) a).bind fun f =>
        (dA N p2 d) f a (bn (b - a))
    else
      (eQ N c (bn (p2 - a)) p2 a).bind fun g =>
      some g
def gP (N : Nat) (p0 : (List dQ)) (p1 : Int) (p2 : Int) (p3 : Int) : Option (List dQ) :=
  dA N p2 N p0 (bn (p2 - p1)) (bn (p3 - p2))

def cZ (c : Int) : Nat → List dQ → Int → Option (List dQ)
  | 0, _, _ => none
  | h + 1, b, a =>
    if (decide (a < (bn (c - 1)))) then
      (idx b (bn (a + 1))).bind fun e =>
      (idx b a).bind fun f =>
      (idx b a).bind fun i =>
      (sets b a e).bind fun d =>
      (idx d (bn (a + 1))).bind fun j =>
      (sets d (bn (a + 1)) f).bind fun g =>
      (cZ c h) g (bn (a + 1))
    else
      some b
def df (N : Nat) (p0 : (List dQ)) (p1 : Int) : Nat → Int → Int → Option (List dQ)
  | 0, _, _ => none
  | d + 1, a, b =>
    if (decide (a < b)) then
      (uO (bn (a + b))).bind fun e =>
      (uO (e / 2)).bind fun c =>
      (idx p0 c).bind fun f =>
      (idx p0 p1).bind fun g =>
      (kZ f g).bind fun h =>
      if (decide (h < 0)) then
        (df N p0 p1 d) (bn (c + 1)) b
      else
        (df N p0 p1 d) a c
    else
      cZ a N p0 p1
def cK (c : Int) : Nat → List dQ → Int → Option (List dQ)
  | 0, _, _ => none
  | h + 1, b, a =>
    if (decide (c < a)) then
      (idx b (bn (a - 1))).bind fun e =>
      (idx b a).bind fun f =>
      (idx b a).bind fun i =>
      (sets b a e).bind fun d =>
      (idx d (bn (a - 1))).bind fun j =>
      (sets d (bn (a - 1)) f).bind fun g =>
      (cK c h) g (bn (a - 1))
    else
      some b
def cO (N : Nat) (p0 : (List dQ)) (p2 : Int) : Nat → Int → Int → Option (List dQ)
  | 0, _, _ => none
  | d + 1, a, b =>
    if (decide (a < b)) then
      (uO (bn (a + b))).bind fun e =>
      (uO (e / 2)).bind fun c =>
      (idx p0 p2).bind fun f =>
      (idx p0 c).bind fun g =>
      (kZ f g).bind fun h =>
      if (!(decide (h < 0))) then
        (cO N p0 p2 d) (bn (c + 1)) b
      else
        (cO N p0 p2 d) a c
    else
      cK a N p0 p2
def dK (p2 : Int) (p3 : Int) (rec : (List dQ) → Int → Int → Int → Option (List dQ)) (a : Int) (b : Int) (c : List dQ) : Option (List dQ) :=
  if ((decide (a < (bn ((bn (a + p2)) - b)))) && (decide ((bn ((bn (a + p2)) - b)) < p3))) then
    (rec c a (bn ((bn (a + p2)) - b)) p3).bind fun d =>
    some d
  else
    some c
def dJ (p1 : Int) (p2 : Int) (p3 : Int) (rec : (List dQ) → Int → Int → Int → Option (List dQ)) (b : Int) (a : Int) (c : List dQ) : Option (List dQ) :=
  if ((decide (p1 < a)) && (decide (a < b))) then
    (rec c p1 a b).bind fun d =>
    dK p2 p3 rec b a d
  else
    dK p2 p3 rec b a c
def bJ (N : Nat) (p0 : (List dQ)) (p1 : Int) (p2 : Int) (p3 : Int) (rec : (List dQ) → Int → Int → Int → Option (List dQ)) (b : Int) : Nat → Int → Int → Option (List dQ)
  | 0, _, _ => none
  | e + 1, a, d =>
    if (decide (a < d)) then
      (uO (bn (a + d))).bind fun f =>
      (uO (f / 2)).bind fun c =>
      (idx p0 (bn ((bn ((bn (b + p2)) - 1)) - c))).bind fun g =>
      (idx p0 c).bind fun h =>
      (kZ g h).bind fun i =>
      if (!(decide (i < 0))) then
        (bJ N p0 p1 p2 p3 rec b e) (bn (c + 1)) d
      else
        (bJ N p0 p1 p2 p3 rec b e) a c
    else
      if ((decide (a < p2)) && (decide (p2 < (bn ((bn (b + p2)) - a))))) then
        (gP N p0 a p2 (bn ((bn (b + p2)) - a))).bind fun j =>
        dJ p1 p2 p3 rec b a j
      else
        dJ p1 p2 p3 rec b a p0
def dI (N : Nat) (p0 : (List dQ)) (p1 : Int) (p2 : Int) (p3 : Int) (rec : (List dQ) → Int → Int → Int → Option (List dQ)) (a : Int) (b : Int) (c : Int) : Option (List dQ) :=
  bJ N p0 p1 p2 p3 rec a N b c
def iy (N : Nat) (rec : (List dQ) → Int → Int → Int → Option (List dQ)) (p0 : (List dQ)) (p1 : Int) (p2 : Int) (p3 : Int) : Option (List dQ) :=
  if ((bn (p2 - p1)) == 1) then
    df N p0 p1 N p2 p3
  else
    if ((bn (p3 - p2)) == 1) then
      cO N p0 p2 N p1 p2
    else
      (uO (bn (p1 + p3))).bind fun b =>
      (uO (b / 2)).bind fun a =>
      if (decide (a < p2)) then
        dI N p0 p1 p2 p3 rec a (bn ((bn (a + p2)) - p3)) a
      else
        dI N p0 p1 p2 p3 rec a p1 p2
def bN : Nat → (List dQ) → Int → Int → Int → Option (List dQ)
  | 0 => fun _ _ _ _ => none
  | N + 1 => iy N (bN N)

def dP (a : Int) (c : (List dQ) → Int → Option (List dQ)) (b : List dQ) : Option (List dQ) :=
  c b (bn (a * 2))
def dN (N : Nat) (p1 : Int) (a : Int) (e : (List dQ) → Int → Option (List dQ)) : Nat → List dQ → Int → Int → Option (List dQ)
  | 0, _, _, _ => none
  | h + 1, d, b, c =>
    if (decide (c ≤ p1)) then
      (bN N d b (bn (b + a)) c).bind fun f =>
      (dN N p1 a e h) f c (bn (c + (bn (2 * a))))
    else
      if (decide ((bn (b + a)) < p1)) then
        (bN N d b (bn (b + a)) p1).bind fun g =>
        dP a e g
      else
        dP a e d
def bH (N : Nat) (p1 : Int) : Nat → List dQ → Int → Option (List dQ)
  | 0, _, _ => none
  | c + 1, b, a =>
    if (decide (a < p1)) then
      dN N p1 a (bH N p1 c) N b 0 (bn (2 * a))
    else
      some b
def dO (N : Nat) (p1 : Int) : Nat → List dQ → Int → Int → Option (List dQ)
  | 0, _, _, _ => none
  | f + 1, b, c, a =>
    if (decide (a ≤ p1)) then
      (dV N b c a).bind fun d =>
      (dO N p1 f) d a (bn (a + 20))
    else
      (dV N b c p1).bind fun e =>
      bH N p1 N e 20
def jb (N : Nat) (p0 : (List dQ)) (p1 : Int) : Option (List dQ) :=
  dO N p1 N p0 0 20


def fA (N : Nat) (p0 : (List dQ)) : Option (List dQ) :=
  (jb N p0 (p0.length : Int)).bind fun a =>
  some a

def ry (d : (List aJ) → Int → Option (gK × Int)) (e : dQ) (a : List aJ) (b : Int) : Option (gK × Int) :=
  (sj a ([(aJ.mk 7 (⟨#[]⟩) (aA.mk 0 0) e.points 0 0 [])])).bind fun c =>
  d c b
def pz (b : List aJ) (c : Int) (d : (List aJ) → Int → Option (gK × Int)) (e : dQ) (a : Int) : Option (gK × Int) :=
  if (a != c) then
    (sj b ([(aJ.mk a (⟨#[]⟩) (aA.mk 0 0) [] 0 0 [])])).bind fun f =>
    ry d e f a
  else
    ry d e b c
def jo : List dQ → Nat → List aJ → Int → Option (gK × Int)
  | [], d, a, c =>
    some ((gK.mk 1 [] a), 0)
  | e :: b, d, a, c =>
    if (decide (e.area < 0)) then
      pz a c (jo b (d + 1)) e 2
    else
      pz a c (jo b (d + 1)) e 1
def mW (e : List dQ) (h : (List dQ) → Option (gK × Int)) (c : (List aA)) : List aA → Nat → Int → Option (gK × Int)
  | [], a, b =>
    (sj e [(dQ.mk c b)]).bind fun i =>
    h i
  | f :: d, a, b =>
    (md (bn ((a : Int) + 1)) (c.length : Int)).bind fun j =>
    (idx c j).bind fun g =>
    (mW e h c d (a + 1)) (bn (b + (bn ((bn (f.X * g.Y)) - (bn (g.X * f.Y))))))
def lH (N : Nat) : List (List aA) → Nat → List dQ → Option (gK × Int)
  | [], c, a =>
    (fA N a).bind fun e =>
    jo e 0 ([] : List aJ) 1
  | d :: b, c, a =>
    mW a (lH N b (c + 1)) d d 0 0
noncomputable def tV (N : Nat) (p0 : (List aI)) : Option (gK × Int) :=
  (mR N p0).bind fun a =>
  if (a.2 != 0) then
    some ((gK.mk 0 [] []), a.2)
  else
    lH N a.1 0 ([] : List dQ)


def qi (p0 : Int) (p1 : Int) (p2 : Int) : Option Bool :=
  some ((decide (p1 ≤ p0)) && (decide (p0 ≤ p2)))


def jh (p0 : Int) : Option Bool :=
  (qi p0 (-1000000) 1000000).bind fun a =>
  some a

def fT (p0 : (List aI)) : Nat → Int → Option Int
  | 0, _ => none
  | j + 1, b =>
    if (decide (b < (p0.length : Int))) then
      (idx p0 b).bind fun a =>
      (jh a.X0).bind fun c =>
      (if (!c) then some true else 
        (jh a.Y0).bind fun d =>
        some (!d)
      ).bind fun e =>
      (if e then some true else 
        (jh a.X1).bind fun f =>
        some (!f)
      ).bind fun g =>
      (if g then some true else 
        (jh a.Y1).bind fun h =>
        some (!h)
      ).bind fun i =>
      if i then
        some 1
      else
        if ((decide (a.X1 ≤ a.X0)) || (decide (a.Y1 ≤ a.Y0))) then
          some 13
        else
          (fT p0 j) (bn (b + 1))
    else
      some 0
def kG (N : Nat) (p0 : (List aI)) : Option Int :=
  if (decide (2000 < (p0.length : Int))) then
    some 2
  else
    fT p0 N 0


def mD (p0 : aI) (p1 : aI) : Option Bool :=
  some ((decide (p0.Y0 < p1.Y0)) || ((p0.Y0 == p1.Y0) && (decide (p0.X0 < p1.X0))))

def iC (p0 : (List Int)) (p1 : Int) : Nat → Int → Int → Option (List Int)
  | 0, _, _ => none
  | c + 1, a, b =>
    if (decide (a < b)) then
      (idx p0 (bn (Int.tdiv (bn (a + b)) 2))).bind fun d =>
      if (decide (d < p1)) then
        (iC p0 p1 c) (bn ((bn (Int.tdiv (bn (a + b)) 2)) + 1)) b
      else
        (iC p0 p1 c) a (bn (Int.tdiv (bn (a + b)) 2))
    else
      (if (decide (a < (p0.length : Int))) then 
        (idx p0 a).bind fun e =>
        some (e == p1)
       else some false).bind fun f =>
      if f then
        some p0
      else
        (pre p0 a).bind fun g =>
        (sj ([] : List Int) g).bind fun h =>
        (sj h [p1]).bind fun i =>
        (cut p0 a (p0.length : Int)).bind fun j =>
        (sj i j).bind fun l =>
        some l
def jr (N : Nat) (p0 : (List Int)) (p1 : Int) : Option (List Int) :=
  iC p0 p1 N 0 (p0.length : Int)

def gT (N : Nat) (p0 : (List aI)) : Nat → List Int → Int → Option (List Int)
  | 0, _, _ => none
  | g + 1, b, a =>
    if (decide (a < (p0.length : Int))) then
      (idx p0 a).bind fun c =>
      (idx p0 a).bind fun d =>
      (jr N b c.Y0).bind fun e =>
      (jr N e d.Y1).bind fun f =>
      (gT N p0 g) f (bn (a + 1))
    else
      some b
def nA (N : Nat) (p0 : (List aI)) : Option (List Int) :=
  gT N p0 N ([] : List Int) 0

def ik (p0 : (List jY)) (c : List jY) : Nat → Int → Int → Int → Option (List jY)
  | 0, _, _, _ => none
  | n + 1, d, b, a =>
    (if (decide (a < (p0.length : Int))) then 
      (idx p0 a).bind fun e =>
      some (decide (e.from_ ≤ b))
     else some false).bind fun f =>
    if f then
      (idx p0 a).bind fun g =>
      (idx p0 a).bind fun h =>
      (ik p0 c n) (min d g.from_) (max b h.to_) (bn (a + 1))
    else
      (sj c [(jY.mk d b)]).bind fun i =>
      (cut p0 a (p0.length : Int)).bind fun j =>
      (sj i j).bind fun l =>
      some l
def il (N : Nat) (p0 : (List jY)) (p1 : jY) : Nat → List jY → Int → Option (List jY)
  | 0, _, _ => none
  | g + 1, b, a =>
    (if (decide (a < (p0.length : Int))) then 
      (idx p0 a).bind fun c =>
      some (decide (c.to_ < p1.from_))
     else some false).bind fun d =>
    if d then
      (idx p0 a).bind fun e =>
      (sj b [e]).bind fun f =>
      (il N p0 p1 g) f (bn (a + 1))
    else
      ik p0 b N p1.from_ p1.to_ a
def mr (N : Nat) (p0 : (List jY)) (p1 : jY) : Option (List jY) :=
  il N p0 p1 N ([] : List jY) 0

def iB (N : Nat) (p0 : (List aI)) (p1 : Int) : Nat → List jY → Int → Option (List jY)
  | 0, _, _ => none
  | c + 1, b, a =>
    if (decide (a < (p0.length : Int))) then
      (idx p0 a).bind fun d =>
      (if (decide (d.Y0 ≤ p1)) then 
        (idx p0 a).bind fun e =>
        some (decide (p1 < e.Y1))
       else some false).bind fun f =>
      if f then
        (idx p0 a).bind fun g =>
        (idx p0 a).bind fun h =>
        (mr N b (jY.mk g.X0 h.X1)).bind fun i =>
        (iB N p0 p1 c) i (bn (a + 1))
      else
        (iB N p0 p1 c) b (bn (a + 1))
    else
      some b
def nM (N : Nat) (p0 : (List aI)) (p1 : Int) : Option (List jY) :=
  iB N p0 p1 N ([] : List jY) 0

def gy (p0 : (List jY)) (p1 : (List jY)) : Nat → Int → Option Bool
  | 0, _ => none
  | d + 1, a =>
    if (decide (a < (p0.length : Int))) then
      (idx p0 a).bind fun b =>
      (idx p1 a).bind fun c =>
      if (!(yg b c)) then
        some false
      else
        (gy p0 p1 d) (bn (a + 1))
    else
      some true
def jF (N : Nat) (p0 : (List jY)) (p1 : (List jY)) : Option Bool :=
  if ((p0.length : Int) != (p1.length : Int)) then
    some false
  else
    gy p0 p1 N 0


def ky (N : Nat) (p0 : (List bY)) (p1 : bY) : Option (List bY) :=
  if ((p1.spans.length : Int) == 0) then
    some p0
  else
    (if (decide (0 < (p0.length : Int))) then 
      (idx p0 (bn ((p0.length : Int) - 1))).bind fun b =>
      some (b.to_ == p1.from_)
     else some false).bind fun c =>
    (if c then 
      (idx p0 (bn ((p0.length : Int) - 1))).bind fun d =>
      (jF N d.spans p1.spans).bind fun e =>
      some e
     else some false).bind fun f =>
    if f then
      (idx p0 (bn ((p0.length : Int) - 1))).bind fun a =>
      (sets p0 (bn ((p0.length : Int) - 1)) (bY.mk a.from_ p1.to_ a.spans)).bind fun g =>
      some g
    else
      (sj p0 [p1]).bind fun h =>
      some h

def iI (p0 : (List bY)) (a : Int) (d : (List aI) → Int → Option (List aI)) : Nat → List aI → Int → Option (List aI)
  | 0, _, _ => none
  | o + 1, c, b =>
    (idx p0 a).bind fun e =>
    if (decide (b < (e.spans.length : Int))) then
      (idx p0 a).bind fun f =>
      (idx f.spans b).bind fun g =>
      (idx p0 a).bind fun h =>
      (idx p0 a).bind fun i =>
      (idx i.spans b).bind fun j =>
      (idx p0 a).bind fun l =>
      (sj c [(aI.mk g.from_ h.from_ j.to_ l.to_)]).bind fun n =>
      (iI p0 a d o) n (bn (b + 1))
    else
      d c (bn (a + 1))
def fG (N : Nat) (p0 : (List bY)) : Nat → List aI → Int → Option (List aI)
  | 0, _, _ => none
  | c + 1, a, b =>
    if (decide (b < (p0.length : Int))) then
      iI p0 b (fG N p0 c) N a 0
    else
      some a
def oZ (N : Nat) (p0 : (List bY)) : Option (List aI) :=
  fG N p0 N ([] : List aI) 0

def dD (N : Nat) (p0 : (List aI)) (a : (List Int)) : Nat → List bY → Int → Option (List aI)
  | 0, _, _ => none
  | j + 1, c, b =>
    if (decide (b < (a.length : Int))) then
      (idx a (bn (b - 1))).bind fun d =>
      (idx a b).bind fun e =>
      (idx a (bn (b - 1))).bind fun f =>
      (nM N p0 f).bind fun g =>
      (ky N c (bY.mk d e g)).bind fun h =>
      (dD N p0 a j) h (bn (b + 1))
    else
      (oZ N c).bind fun i =>
      some i
def jH (N : Nat) (p0 : (List aI)) : Option (List aI) :=
  (nA N p0).bind fun a =>
  dD N p0 a N ([] : List bY) 1

def gz (p0 : (List aI)) (p1 : (List aI)) : Nat → Int → Option Bool
  | 0, _ => none
  | d + 1, a =>
    if (decide (a < (p0.length : Int))) then
      (idx p0 a).bind fun b =>
      (idx p1 a).bind fun c =>
      if (!(vo b c)) then
        some false
      else
        (gz p0 p1 d) (bn (a + 1))
    else
      some true
def jG (N : Nat) (p0 : (List aI)) (p1 : (List aI)) : Option Bool :=
  if ((p0.length : Int) != (p1.length : Int)) then
    some false
  else
    gz p0 p1 N 0

def di (N : Nat) (p0 : (List aI)) : Nat → Int → Option Int
  | 0, _ => none
  | g + 1, a =>
    if (decide (a < (p0.length : Int))) then
      (idx p0 (bn (a - 1))).bind fun b =>
      (idx p0 a).bind fun c =>
      (mD b c).bind fun d =>
      if (!d) then
        some 8
      else
        (di N p0 g) (bn (a + 1))
    else
      (jH N p0).bind fun e =>
      (jG N p0 e).bind fun f =>
      if (!f) then
        some 3
      else
        some 0
def kr (N : Nat) (p0 : (List aI)) : Option Int :=
  (kG N p0).bind fun a =>
  if (a != 0) then
    some a
  else
    di N p0 N 1

def iq (p0 : (List jY)) (p1 : Int) : Nat → Int → Option Bool
  | 0, _ => none
  | e + 1, a =>
    if (decide (a < (p0.length : Int))) then
      (idx p0 a).bind fun b =>
      (if (decide (b.from_ ≤ p1)) then 
        (idx p0 a).bind fun c =>
        some (decide (p1 < c.to_))
       else some false).bind fun d =>
      if d then
        some true
      else
        (iq p0 p1 e) (bn (a + 1))
    else
      some false
def nR (N : Nat) (p0 : (List jY)) (p1 : Int) : Option Bool :=
  iq p0 p1 N 0

def gm (N : Nat) (b : List Int) (d : List (List Bool)) (e : Int) (g : (List (List Bool)) → Int → Option rD) (f : (List jY)) : Nat → List Bool → Int → Option rD
  | 0, _, _ => none
  | n + 1, c, a =>
    if (decide (a < (b.length : Int))) then
      (idx b (bn (a - 1))).bind fun h =>
      (nR N f h).bind fun i =>
      (idx c (bn (a - 1))).bind fun o =>
      (sets c (bn (a - 1)) i).bind fun j =>
      (gm N b d e g f n) j (bn (a + 1))
    else
      (sj d [c]).bind fun l =>
      g l (bn (e + 1))
def dw (N : Nat) (p0 : (List aI)) (a : List Int) (b : List Int) : Nat → List (List Bool) → Int → Option rD
  | 0, _, _ => none
  | h + 1, d, c =>
    if (decide (c < (b.length : Int))) then
      (idx b (bn (c - 1))).bind fun e =>
      (nM N p0 e).bind fun f =>
      (MI false (a.length : Int)).bind fun g =>
      gm N a d c (dw N p0 a b h) f N g 1
    else
      some (rD.mk a b d)
def gV (N : Nat) (p0 : (List aI)) : Nat → List Int → List Int → Int → Option rD
  | 0, _, _, _ => none
  | n + 1, b, c, a =>
    if (decide (a < (p0.length : Int))) then
      (idx p0 a).bind fun d =>
      (idx p0 a).bind fun e =>
      (jr N b d.X0).bind fun f =>
      (jr N f e.X1).bind fun g =>
      (idx p0 a).bind fun h =>
      (idx p0 a).bind fun i =>
      (jr N c h.Y0).bind fun j =>
      (jr N j i.Y1).bind fun l =>
      (gV N p0 n) g l (bn (a + 1))
    else
      dw N p0 b c N ([] : List (List Bool)) 1
def lT (N : Nat) (p0 : (List aI)) : Option rD :=
  gV N p0 N [] [] 0


def gU (p0 : rD) (p1 : Int) (p2 : Int) : Option Bool :=
  (if ((((decide (0 ≤ p2)) && (decide (p2 < (p0.in_.length : Int)))) && (decide (0 ≤ p1))) && (decide (p1 < (bn ((p0.xs.length : Int) - 1))))) then 
    (idx p0.in_ p2).bind fun a =>
    (idx a p1).bind fun b =>
    some b
   else some false).bind fun c =>
  some c

def iU (e : rD) (f : Int) (a : Int) (b : (List aG) → Int → Option (List aG)) (c : Int) (g : Int) (h : Int) (d : List aG) : Option (List aG) :=
  (gU e (bn (a - 1)) f).bind fun i =>
  if (!i) then
    (sj d [(aG.mk (aA.mk c h) (aA.mk c g))]).bind fun j =>
    b j (bn (a + 1))
  else
    b d (bn (a + 1))
def iT (b : rD) (c : Int) (d : Int) (f : (List aG) → Int → Option (List aG)) (e : Int) (i : Int) (g : Int) (a : Int) (h : List aG) : Option (List aG) :=
  (gU b d (bn (c + 1))).bind fun j =>
  if (!j) then
    (sj h [(aG.mk (aA.mk i a) (aA.mk e a))]).bind fun l =>
    iU b c d f e g a l
  else
    iU b c d f e g a h
def iR (b : rD) (c : Int) (d : Int) (g : (List aG) → Int → Option (List aG)) (h : Int) (a : Int) (e : Int) (f : Int) (i : List aG) : Option (List aG) :=
  (gU b (bn (d + 1)) c).bind fun j =>
  if (!j) then
    (sj i [(aG.mk (aA.mk a e) (aA.mk a f))]).bind fun l =>
    iT b c d g h a e f l
  else
    iT b c d g h a e f i
def bF (a : rD) (b : Int) (d : (List aG) → Int → Option (List aG)) : Nat → List aG → Int → Option (List aG)
  | 0, _, _ => none
  | g + 1, e, c =>
    if (decide (c < (bn ((a.xs.length : Int) - 1)))) then
      (idx a.in_ b).bind fun l =>
      (idx l c).bind fun n =>
      if (!n) then
        (bF a b d g) e (bn (c + 1))
      else
        (idx a.xs c).bind fun h =>
        (idx a.xs (bn (c + 1))).bind fun i =>
        (idx a.ys b).bind fun f =>
        (idx a.ys (bn (b + 1))).bind fun j =>
        (gU a c (bn (b - 1))).bind fun o =>
        if (!o) then
          (sj e [(aG.mk (aA.mk h f) (aA.mk i f))]).bind fun q =>
          iR a b c (bF a b d g) h i f j q
        else
          iR a b c (bF a b d g) h i f j e
    else
      d e (bn (b + 1))
def bW (N : Nat) (a : rD) : Nat → List aG → Int → Option (List aG)
  | 0, _, _ => none
  | d + 1, b, c =>
    if (decide (c < (a.in_.length : Int))) then
      bF a c (bW N a d) N b 0
    else
      some b
def mJ (N : Nat) (p0 : (List aI)) : Option (List aG) :=
  (lT N p0).bind fun a =>
  bW N a N ([] : List aG) 0


def jd (p0 : Int) : Option Int :=
  if (decide (p0 < 0)) then
    some (-1)
  else
    if (decide (0 < p0)) then
      some 1
    else
      some 0


def jq (p0 : aG) : Option aA :=
  (jd (bn (p0.to_.X - p0.from_.X))).bind fun a =>
  (jd (bn (p0.to_.Y - p0.from_.Y))).bind fun b =>
  some (aA.mk a b)

def dz (p0 : (List aG)) (p1 : (List Bool)) (p2 : aG) (b : aA) : Nat → Int → Int → Option Int
  | 0, _, _ => none
  | d + 1, c, a =>
    if (decide (a < (p0.length : Int))) then
      (idx p1 a).bind fun f =>
      (if f then some true else 
        (idx p0 a).bind fun g =>
        some (!(fB g.from_ p2.to_))
      ).bind fun h =>
      if h then
        (dz p0 p1 p2 b d) c (bn (a + 1))
      else
        (idx p0 a).bind fun i =>
        (jq i).bind fun e =>
        if ((decide (c < 0)) || (decide (0 < (bn ((bn (b.X * e.Y)) - (bn (b.Y * e.X))))))) then
          (dz p0 p1 p2 b d) a (bn (a + 1))
        else
          (dz p0 p1 p2 b d) c (bn (a + 1))
    else
      some c
def pg (N : Nat) (p0 : (List aG)) (p1 : (List Bool)) (p2 : aG) : Option Int :=
  (jq p2).bind fun a =>
  dz p0 p1 p2 a N (-1) 0


def kE (p0 : aA) (p1 : aA) : Option Bool :=
  some ((decide (p0.Y < p1.Y)) || ((p0.Y == p1.Y) && (decide (p0.X < p1.X))))

def fe (a : List aA) : Nat → Int → Int → Option (List aA)
  | 0, _, _ => none
  | d + 1, c, b =>
    if (decide (b < (a.length : Int))) then
      (idx a b).bind fun e =>
      (idx a c).bind fun f =>
      (kE e f).bind fun g =>
      if g then
        (fe a d) b (bn (b + 1))
      else
        (fe a d) c (bn (b + 1))
    else
      (cut a c (a.length : Int)).bind fun h =>
      (sj ([] : List aA) h).bind fun i =>
      (pre a c).bind fun j =>
      (sj i j).bind fun l =>
      some l
def fZ (N : Nat) (p0 : (List aG)) : Nat → List aA → Int → Option (List aA)
  | 0, _, _ => none
  | c + 1, b, a =>
    if (decide (a < (p0.length : Int))) then
      (md (bn ((bn (a + (p0.length : Int))) - 1)) (p0.length : Int)).bind fun d =>
      (idx p0 d).bind fun e =>
      (jq e).bind fun f =>
      (idx p0 a).bind fun g =>
      (jq g).bind fun h =>
      if (!(fB f h)) then
        (idx p0 a).bind fun i =>
        (sj b [i.from_]).bind fun j =>
        (fZ N p0 c) j (bn (a + 1))
      else
        (fZ N p0 c) b (bn (a + 1))
    else
      fe b N 0 0
def kz (N : Nat) (p0 : (List aG)) : Option (List aA) :=
  fZ N p0 N ([] : List aA) 0

def eY (a : List (List aA)) (d : Int) (f : (List Bool) → (List (List aA)) → Int → Option (List (List aA))) (e : List Bool) (c : (List aA)) : Nat → Int → Option (List (List aA))
  | 0, _ => none
  | E + 1, b =>
    (if (decide (0 < b)) then 
      (idx c 0).bind fun g =>
      (idx a (bn (b - 1))).bind fun h =>
      (idx h 0).bind fun i =>
      (kE g i).bind fun j =>
      (if j then some true else 
        (idx c 0).bind fun l =>
        (idx a (bn (b - 1))).bind fun n =>
        (idx n 0).bind fun o =>
        (if (fB l o) then 
          (idx a (bn (b - 1))).bind fun q =>
          (idx q 1).bind fun s =>
          (idx c 1).bind fun t =>
          (kE s t).bind fun u =>
          some u
         else some false).bind fun v =>
        some v
      ).bind fun w =>
      some w
     else some false).bind fun y =>
    if y then
      (eY a d f e c E) (bn (b - 1))
    else
      (pre a b).bind fun z =>
      (sj ([] : List (List aA)) z).bind fun A =>
      (sj A [c]).bind fun B =>
      (cut a b (a.length : Int)).bind fun C =>
      (sj B C).bind fun D =>
      f e D (bn (d + 1))
def fQ (N : Nat) (b : (List aG)) (c : List (List aA)) (e : Int) (h : (List Bool) → (List (List aA)) → Int → Option (List (List aA))) : Nat → List Bool → List aG → Int → Option (List (List aA))
  | 0, _, _, _ => none
  | q + 1, d, f, a =>
    if (decide (0 ≤ a)) then
      (idx d a).bind fun s =>
      (sets d a true).bind fun g =>
      (idx b a).bind fun i =>
      (sj f [i]).bind fun j =>
      (idx b a).bind fun l =>
      (pg N b g l).bind fun n =>
      (fQ N b c e h q) g j n
    else
      (kz N f).bind fun o =>
      eY c e h d o N (c.length : Int)
def bM (N : Nat) (b : (List aG)) : Nat → List Bool → List (List aA) → Int → Option (List (List aA))
  | 0, _, _, _ => none
  | e + 1, c, d, a =>
    if (decide (a < (b.length : Int))) then
      (idx c a).bind fun f =>
      if f then
        (bM N b e) c d (bn (a + 1))
      else
        fQ N b d a (bM N b e) N c ([] : List aG) a
    else
      some d
def kF (N : Nat) (p0 : (List aI)) : Option (List (List aA)) :=
  (mJ N p0).bind fun a =>
  (MI false (a.length : Int)).bind fun b =>
  bM N a N b ([] : List (List aA)) 0

def gI (a : (List (List aA))) : Nat → Int → Int → Option ((List (List aA)) × Int)
  | 0, _, _ => none
  | e + 1, c, b =>
    if (decide (b < (a.length : Int))) then
      (idx a b).bind fun d =>
      (gI a e) (bn (c + (d.length : Int))) (bn (b + 1))
    else
      if (decide (2000 < c)) then
        some (([] : List (List aA)), 2)
      else
        some (a, 0)
def lC (N : Nat) (p0 : (List aI)) : Option ((List (List aA)) × Int) :=
  (kr N p0).bind fun a =>
  if (a != 0) then
    some (([] : List (List aA)), a)
  else
    (kF N p0).bind fun b =>
    gI b N 0 0

def ig (p0 : (List aA)) : Nat → Int → Int → Option Int
  | 0, _, _ => none
  | f + 1, b, a =>
    if (decide (a < (p0.length : Int))) then
      (idx p0 a).bind fun c =>
      (md (bn (a + 1)) (p0.length : Int)).bind fun e =>
      (idx p0 e).bind fun d =>
      (ig p0 f) (bn (b + (bn ((bn (c.X * d.Y)) - (bn (d.X * c.Y)))))) (bn (a + 1))
    else
      some b
def kN (N : Nat) (p0 : (List aA)) : Option Int :=
  ig p0 N 0 0


def ni (p0 : Int) : Option Int :=
  some (max p0 (bn (0 - p0)))


def fV (p0 : Int) (p1 : Int) (p2 : Int) : Option Bool :=
  some ((decide (p1 ≤ p0)) && (decide (p0 ≤ p2)))


def lS (p0 : Int) (p1 : Int) : Option Bool :=
  (jh p0).bind fun a =>
  (if a then 
    (jh (bn (p0 * p1))).bind fun b =>
    some b
   else some false).bind fun c =>
  some c

def lv (p0 : (List aJ)) (rec : (List aJ) → Option Int) (b : Int) (a : Int) (e : Int → Int → Option Int) : Option Int :=
  (idx p0 a).bind fun c =>
  (rec c.Steps).bind fun d =>
  e (bn ((bn (b + 1)) + (bn ((bn (1 * 1)) * d)))) (bn (a + 1))
def lu (p0 : (List aJ)) (rec : (List aJ) → Option Int) (b : Int) (a : Int) (e : Int → Int → Option Int) : Option Int :=
  (idx p0 a).bind fun c =>
  (fV c.NY 1 100).bind fun d =>
  if d then
    none
  else
    lv p0 rec b a e
def eF (p0 : (List aJ)) (rec : (List aJ) → Option Int) : Nat → Int → Int → Option Int
  | 0, _, _ => none
  | e + 1, a, b =>
    if ((decide (b < (p0.length : Int))) && (decide (a ≤ 3000))) then
      (idx p0 b).bind fun c =>
      (fV c.NX 1 100).bind fun d =>
      if d then
        none
      else
        lu p0 rec a b (eF p0 rec e)
    else
      some (min a 3001)
def pM (N : Nat) (rec : (List aJ) → Option Int) (p0 : (List aJ)) : Option Int :=
  eF p0 rec N 0 0
def jS : Nat → (List aJ) → Option Int
  | 0 => fun _ => none
  | N + 1 => pM N (jS N)

def iQ (p0 : aJ) (a : Bool) (b : Bool) : Option Bool :=
  some ((((a || (yL p0.Name ByteArray.empty)) && (fB p0.At (aA.mk 0 0))) && (b || ((p0.Points.length : Int) == 0))) && (((p0.NX == 0) && (p0.NY == 0)) && ((p0.Steps.length : Int) == 0)))
def iP (p0 : aJ) (a : Bool) : Option Bool :=
  if a then
    none
  else
    if (p0.Kind == 7) then
      iQ p0 false true
    else
      if (p0.Kind == 8) then
        none
      else
        iQ p0 false false
def jc (p0 : aJ) : Option Bool :=
  if (p0.Kind == 3) then
    iQ p0 true false
  else
    if (p0.Kind == 4) then
      iP p0 (p0.Kind == 4)
    else
      if (p0.Kind == 5) then
        iP p0 (p0.Kind == 5)
      else
        iP p0 (p0.Kind == 6)


def rf (p0 : gK) (p1 : ByteArray) : Option Int :=
  none


def ic (p0 : aA) (p1 : Int) : Option Bool :=
  (lS p0.X p1).bind fun a =>
  (if a then 
    (lS p0.Y p1).bind fun b =>
    some b
   else some false).bind fun c =>
  some c

def gq (p0 : (List aA)) : Nat → Int → Option Int
  | 0, _ => none
  | e + 1, a =>
    if (decide (a < (p0.length : Int))) then
      (idx p0 a).bind fun b =>
      (md (bn (a + 1)) (p0.length : Int)).bind fun d =>
      (idx p0 d).bind fun c =>
      if ((b.X == c.X) == (b.Y == c.Y)) then
        some 3
      else
        (gq p0 e) (bn (a + 1))
    else
      some 0
def gu (N : Nat) (p0 : (List aA)) (p1 : Int) : Nat → Int → Option Int
  | 0, _ => none
  | d + 1, a =>
    if (decide (a < (p0.length : Int))) then
      (idx p0 a).bind fun b =>
      (ic b p1).bind fun c =>
      if (!c) then
        some 1
      else
        (gu N p0 p1 d) (bn (a + 1))
    else
      if (decide (2000 < (p0.length : Int))) then
        some 2
      else
        if (decide ((p0.length : Int) < 4)) then
          some 3
        else
          gq p0 N 0
def jE (N : Nat) (p0 : (List aA)) (p1 : Int) : Option Int :=
  gu N p0 p1 N 0

def lI : Option Int :=
  some 0
def gB (N : Nat) (p0 : gK) (p1 : aJ) (p2 : Int) : Option Int :=
  (fV p1.Kind 1 8).bind fun a =>
  if (!a) then
    some 4
  else
    (jc p1).bind fun b =>
    if (!b) then
      some 3
    else
      (if (p1.Kind == 3) then 
        (rf p0 p1.Name).bind fun c =>
        some (decide (c < 0))
       else some false).bind fun d =>
      if d then
        some 5
      else
        (ic p1.At p0.Unit).bind fun e =>
        if (!e) then
          some 1
        else
          if (p1.Kind == 7) then
            (jE N p1.Points p0.Unit).bind fun f =>
            some f
          else
            if (p1.Kind == 8) then
              none
            else
              lI

def fP (N : Nat) (p0 : gK) (p1 : (List aJ)) (p2 : Int) (rec : gK → (List aJ) → Int → Option Int) : Nat → Int → Option Int
  | 0, _ => none
  | f + 1, a =>
    if (decide (a < (p1.length : Int))) then
      (idx p1 a).bind fun d =>
      (gB N p0 d p2).bind fun b =>
      if (b != 0) then
        some b
      else
        (idx p1 a).bind fun e =>
        (rec p0 e.Steps (bn (p2 + 1))).bind fun c =>
        if (c != 0) then
          some c
        else
          (fP N p0 p1 p2 rec f) (bn (a + 1))
    else
      some 0
def nD (N : Nat) (rec : gK → (List aJ) → Int → Option Int) (p0 : gK) (p1 : (List aJ)) (p2 : Int) : Option Int :=
  fP N p0 p1 p2 rec N 0
def iE : Nat → gK → (List aJ) → Int → Option Int
  | 0 => fun _ _ _ => none
  | N + 1 => nD N (iE N)

def jO (N : Nat) (p0 : gK) : Nat → Option Int
  | 0 => none
  | c + 1 =>
    if (decide (0 < (p0.Tools.length : Int))) then
      none
    else
      (jS N p0.Steps).bind fun a =>
      if (decide (3000 < a)) then
        some 2
      else
        (iE N p0 p0.Steps 0).bind fun b =>
        some b
def kV (N : Nat) (p0 : gK) : Option Int :=
  (fV p0.Unit 1 1000).bind fun a =>
  if (!a) then
    some 1
  else
    if (decide (200 < (p0.Tools.length : Int))) then
      some 2
    else
      jO N p0 N


def gF (N : Nat) (p0 : gK) : Option (gK × Int) :=
  (kV N p0).bind fun a =>
  if (a != 0) then
    some ((gK.mk 0 [] []), a)
  else
    some (p0, 0)

def jT (N : Nat) (d : ((List (List aA)) × Int)) (a : List (List aA)) (c : Int) (e : (List (List aA)) → Int → Option (gK × Int)) : Nat → Int → Option (gK × Int)
  | 0, _ => none
  | w + 1, b =>
    (if (decide (0 < b)) then 
      (idx a (bn (b - 1))).bind fun f =>
      (kN N f).bind fun g =>
      (ni g).bind fun h =>
      (idx d.1 c).bind fun i =>
      (kN N i).bind fun j =>
      (ni j).bind fun l =>
      some (decide (h < l))
     else some false).bind fun n =>
    if n then
      (jT N d a c e w) (bn (b - 1))
    else
      (pre a b).bind fun o =>
      (sj ([] : List (List aA)) o).bind fun q =>
      (idx d.1 c).bind fun s =>
      (sj q [s]).bind fun t =>
      (cut a b (a.length : Int)).bind fun u =>
      (sj t u).bind fun v =>
      e v (bn (c + 1))
def kP (b : List (List aA)) (a : Int) (g : (List aJ) → Int → Int → Option (gK × Int)) (c : List aJ) (d : Int) : Option (gK × Int) :=
  (idx b a).bind fun e =>
  (sj c ([(aJ.mk 7 (⟨#[]⟩) (aA.mk 0 0) e 0 0 [])])).bind fun f =>
  g f d (bn (a + 1))
def jK (b : List (List aA)) (c : List aJ) (d : Int) (e : Int) (f : (List aJ) → Int → Int → Option (gK × Int)) (a : Int) : Option (gK × Int) :=
  if (a != d) then
    (sj c ([(aJ.mk a (⟨#[]⟩) (aA.mk 0 0) [] 0 0 [])])).bind fun g =>
    kP b e f g a
  else
    kP b e f c d
def dU (N : Nat) (a : List (List aA)) : Nat → List aJ → Int → Int → Option (gK × Int)
  | 0, _, _, _ => none
  | f + 1, c, d, b =>
    if (decide (b < (a.length : Int))) then
      (idx a b).bind fun g =>
      (kN N g).bind fun h =>
      if (decide (h < 0)) then
        jK a c d b (dU N a f) 2
      else
        jK a c d b (dU N a f) 1
    else
      (gF N (gK.mk 1 [] c)).bind fun e =>
      some (e.1, e.2)
def fK (N : Nat) (a : ((List (List aA)) × Int)) : Nat → List (List aA) → Int → Option (gK × Int)
  | 0, _, _ => none
  | d + 1, b, c =>
    if (decide (c < (a.1.length : Int))) then
      jT N a b c (fK N a d) N (b.length : Int)
    else
      dU N b N ([] : List aJ) 1 0
def lM (N : Nat) (p0 : (List aI)) : Option (gK × Int) :=
  (lC N p0).bind fun a =>
  if (a.2 != 0) then
    some ((gK.mk 0 [] []), a.2)
  else
    fK N a N ([] : List (List aA)) 0

def fO (p0 : (List aA)) (p1 : (List aA)) : Nat → Int → Option Bool
  | 0, _ => none
  | d + 1, a =>
    if (decide (a < (p0.length : Int))) then
      (idx p0 a).bind fun b =>
      (idx p1 a).bind fun c =>
      if (!(fB b c)) then
        some false
      else
        (fO p0 p1 d) (bn (a + 1))
    else
      some true
def kD (N : Nat) (p0 : (List aA)) (p1 : (List aA)) : Option Bool :=
  if ((p0.length : Int) != (p1.length : Int)) then
    some false
  else
    fO p0 p1 N 0

def gp (N : Nat) (p0 : (List aJ)) (p1 : (List aJ)) (rec : (List aJ) → (List aJ) → Option Bool) : Nat → Int → Option Bool
  | 0, _ => none
  | h + 1, c =>
    if (decide (c < (p0.length : Int))) then
      (idx p0 c).bind fun a =>
      (idx p1 c).bind fun b =>
      (if (((((a.Kind != b.Kind) || (!yL a.Name b.Name)) || (!(fB a.At b.At))) || (a.NX != b.NX)) || (a.NY != b.NY)) then some true else 
        (kD N a.Points b.Points).bind fun d =>
        some (!d)
      ).bind fun e =>
      (if e then some true else 
        (rec a.Steps b.Steps).bind fun f =>
        some (!f)
      ).bind fun g =>
      if g then
        some false
      else
        (gp N p0 p1 rec h) (bn (c + 1))
    else
      some true
def kg (N : Nat) (rec : (List aJ) → (List aJ) → Option Bool) (p0 : (List aJ)) (p1 : (List aJ)) : Option Bool :=
  if ((p0.length : Int) != (p1.length : Int)) then
    some false
  else
    gp N p0 p1 rec N 0
def kU : Nat → (List aJ) → (List aJ) → Option Bool
  | 0 => fun _ _ => none
  | N + 1 => kg N (kU N)

def ko (p0 : gK) : Nat → Option Bool
  | 0 => none
  | a + 1 =>
    if (decide (0 < (p0.Tools.length : Int))) then
      none
    else
      some true
def lw (N : Nat) (p0 : gK) (p1 : gK) : Option Bool :=
  (if ((p0.Unit != p1.Unit) || ((p0.Tools.length : Int) != (p1.Tools.length : Int))) then some true else 
    (kU N p0.Steps p1.Steps).bind fun a =>
    some (!a)
  ).bind fun b =>
  if b then
    some false
  else
    ko p0 N


def xc (p0 : Int) (p1 : Int) (p2 : Int) : Option Bool :=
  some ((decide (p1 ≤ p0)) && (decide (p0 ≤ p2)))

def qC : List aJ → Nat → Option Int
  | [], a =>
    some 0
  | c :: b, a =>
    none
def vZ (N : Nat) (rec : (List aJ) → Option Int) (p0 : (List aJ)) : Option Int :=
  qC p0 0
def vB : Nat → (List aJ) → Option Int
  | 0 => fun _ => none
  | N + 1 => vZ N (vB N)

def ng : List aJ → Nat → Option Int
  | [], a =>
    some 0
  | c :: b, a =>
    none
def rF (N : Nat) (rec : gK → (List aJ) → Int → Option Int) (p0 : gK) (p1 : (List aJ)) (p2 : Int) : Option Int :=
  ng p1 0
def qL : Nat → gK → (List aJ) → Int → Option Int
  | 0 => fun _ _ _ => none
  | N + 1 => rF N (qL N)

def nL (N : Nat) (p0 : gK) : List vJ → Nat → Option Int
  | [], c =>
    (vB N p0.Steps).bind fun a =>
    if (decide (3000 < a)) then
      some 2
    else
      (qL N p0 p0.Steps 0).bind fun b =>
      some b
  | e :: d, c =>
    none
def rz (N : Nat) (p0 : gK) : Option Int :=
  (xc p0.Unit 1 1000).bind fun a =>
  if (!a) then
    some 1
  else
    if (decide (200 < (p0.Tools.length : Int))) then
      some 2
    else
      nL N p0 p0.Tools 0



def mZ (p0 : ByteArray) : List aJ → Nat → Option ByteArray
  | [], a =>
    some p0
  | c :: b, a =>
    none
def rE (N : Nat) (rec : ByteArray → (List aJ) → Option ByteArray) (p0 : ByteArray) (p1 : (List aJ)) : Option ByteArray :=
  mZ p0 p1 0
def qK : Nat → ByteArray → (List aJ) → Option ByteArray
  | 0 => fun _ _ => none
  | N + 1 => rE N (qK N)



def qZ (N : Nat) (p0 : gK) (b : ByteArray) : List vJ → Nat → Option (ByteArray × Int)
  | [], e =>
    (qK N b p0.Steps).bind fun c =>
    (Tx c).bind fun a =>
    if (decide (200000 < a.1)) then
      some (ByteArray.empty, 2)
    else
      (SH a.2).bind fun d =>
      some (d.1, 0)
  | g :: f, e =>
    none
def uC (N : Nat) (p0 : gK) : Option (ByteArray × Int) :=
  (rz N p0).bind fun a =>
  if (a != 0) then
    some (ByteArray.empty, a)
  else
    (Eu p0.Unit).bind fun b =>
    (Oo (⟨#[117, 110, 105, 116, 32]⟩) b).bind fun c =>
    (Oo c (⟨#[10]⟩)).bind fun d =>
    (SG ByteArray.empty d).bind fun e =>
    qZ N p0 e p0.Tools 0


def mK (N : Nat)  : Option Bool :=
  (uC N (gK.mk 7 [] [])).bind fun a =>
  some ((a.2 == 0) && (yL a.1 (⟨#[117, 110, 105, 116, 32, 55, 10]⟩)))


noncomputable def je (N : Nat) (p0 : (List aI)) : Option Bool :=
  (tV N p0).bind fun a =>
  (lM N p0).bind fun b =>
  (lw N a.1 b.1).bind fun c =>
  (if (c && (a.2 == b.2)) then 
    (mK N).bind fun d =>
    some d
   else some false).bind fun e =>
  some e

end Go.Proofs.YtcjeebkoafonpaaGreatDoor
