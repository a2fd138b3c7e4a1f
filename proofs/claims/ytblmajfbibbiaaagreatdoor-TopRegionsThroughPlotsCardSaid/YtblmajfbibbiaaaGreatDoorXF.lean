/- The plain functions: what each function of the program computes; none where it would panic. -/
import Derived.Test.YtblmajfbibbiaaaGreatDoorXT
namespace Go.Proofs.YtblmajfbibbiaaaGreatDoor
open Go.RowKit

def mh(p0:Int)(p1:Int)(p2:Int):Option Bool:=
  some ((decide (p1≤p0))&&(decide (p0≤p2)))


def lF(p0:Int):Option Bool:=
  (mh p0 (-1000000) 1000000).bind fun a=>
  some a


def pF(p0:aK):Option Bool:=
  (lF p0.X0).bind fun a=>
  (if a then 
    (lF p0.Y0).bind fun b=>
    some b
   else some false).bind fun c=>
  (if c then 
    (lF p0.X1).bind fun d=>
    some d
   else some false).bind fun e=>
  (if e then 
    (lF p0.Y1).bind fun f=>
    some f
   else some false).bind fun g=>
  some g

def iw:List aK→Nat→Option Int
  | [],c=>
    some 0
  | a ::b,c=>
    (pF a).bind fun d=>
    if(!d) then
      some 1
    else
      if((decide (a.X1≤a.X0))||(decide (a.Y1≤a.Y0))) then
        some 13
      else
        (iw b (c+1))
def lS(p0:(List aK)):Option Int:=
  if(decide (2000<(p0.length:Int))) then
    some 2
  else
    iw p0 0


def nD(p0:(List aK)):Option (List aK):=
  (wO ([]:List aK) p0).bind fun a=>
  some a



def nu(p0:aK)(p1:aK):Option Int:=
  some (bF (p0.Y0-p1.Y0))




def nk(p0:aK)(q0:(List Int))(q1:Int):Option Bool:=
  (idx q0 q1).bind fun a=>
  some (decide (p0.Y1≤a))

def gG(p1:aK→Option Bool):List aK→Nat→Option Int
  | [],a=>
    some (-1)
  | d ::b,a=>
    (p1 d).bind fun c=>
    if c then
      some (a:Int)
    else
      (gG p1 b (a+1))
def mQ(p0:(List aK))(p1:aK→Option Bool):Option Int:=
  gG p1 p0 0

def fF(p1:aK→Option Bool):Nat→List aK→Int→Int→Option (List aK)
  |0,_,_,_=>none
  | e + 1,a,b,c=>
    if (decide (c<(a.length:Int))) then
      (idx a c).bind fun d=>
      (p1 d).bind fun f=>
      if(!f) then
        (idx a b).bind fun j=>
        (sets a b d).bind fun g=>
        (fF p1 e) g (bF (b+1)) (bF (c+1))
      else
        (fF p1 e) a b (bF (c+1))
    else
      (cut a b (a.length:Int)).bind fun h=>
      (pre (Sy a b (h).length (aK.mk 0 0 0 0)) b).bind fun i=>
      some i
def jA(N:Nat)(p0:(List aK))(p1:aK→Option Bool):Option (List aK):=
  (mQ p0 p1).bind fun a=>
  if(a==(-1)) then
    some p0
  else
    fF p1 N p0 a (bF (a+1))


def kg(p0:aK)(p1:aK):Option Int:=
  some (bF (p0.X0-p1.X0))

def gY(c:(List aK)):List aK→Nat→List Int→Option ((List Int)×(List aK))
  | [],e,a=>
    some (a,c)
  | d ::b,e,a=>
    (if(decide (0≤(bF ((a.length:Int)-1)))) then 
      (idx a (bF ((a.length:Int)-1))).bind fun f=>
      some (decide (d.X0≤f))
     else some false).bind fun g=>
    if g then
      (idx a (bF ((a.length:Int)-1))).bind fun h=>
      (idx a (bF ((a.length:Int)-1))).bind fun l=>
      (sets a (bF ((a.length:Int)-1)) (max h d.X1)).bind fun i=>
      (gY c b (e+1)) i
    else
      (wO a [d.X0,d.X1]).bind fun j=>
      (gY c b (e+1)) j
noncomputable def ku(p0:(List aK)):Option ((List Int)×(List aK)):=
  (Bo p0 (fun z0 z1=>kg z0 z1)).bind fun a=>
  gY a a 0 ([]:List Int)

def il(p1:(List Int)):List Int→Nat→Option Bool
  | [],a=>
    some true
  | d ::b,a=>
    (idx p1 (a:Int)).bind fun c=>
    if(d !=c) then
      some false
    else
      (il p1 b (a+1))
def nV(p0:(List Int))(p1:(List Int)):Option Bool:=
  if((p0.length:Int) !=(p1.length:Int)) then
    some false
  else
    il p1 p0 0


def gJ(p0:(List bf))(p1:bf):Option (List bf):=
  if(((p1.Xs.length:Int)==0)||(decide (p1.Y1≤p1.Y0))) then
    some p0
  else
    (if(decide (0≤(bF ((p0.length:Int)-1)))) then 
      (idx p0 (bF ((p0.length:Int)-1))).bind fun b=>
      some (b.Y1==p1.Y0)
     else some false).bind fun c=>
    (if c then 
      (idx p0 (bF ((p0.length:Int)-1))).bind fun d=>
      (nV d.Xs p1.Xs).bind fun e=>
      some e
     else some false).bind fun f=>
    if f then
      (idx p0 (bF ((p0.length:Int)-1))).bind fun a=>
      (sets p0 (bF ((p0.length:Int)-1)) (bf.mk a.Y0 p1.Y1 a.Xs)).bind fun g=>
      some g
    else
      (wO p0 [p1]).bind fun h=>
      some h

noncomputable def iB(c:(List aK))(d:(List Int))(a:Int)(e:List bf)(h:Int→(List bf)→(List aK)→Int→Option (List bf)):Nat→List aK→Int→Option (List bf)
  |0,_,_=>none
  | u +1,f,b=>
    (if(decide (b<(c.length:Int))) then 
      (idx c b).bind fun i=>
      (idx d a).bind fun j=>
      some (decide (i.Y0≤j))
     else some false).bind fun l=>
    if l then
      (idx c b).bind fun n=>
      (wO f [n]).bind fun o=>
      (iB c d a e h u) o (bF (b+1))
    else
      (idx d a).bind fun q=>
      (idx d (bF (a+1))).bind fun s=>
      (ku f).bind fun g=>
      (gJ e (bf.mk q s g.1)).bind fun t=>
      h (bF (a+1)) t g.2 b
noncomputable def eF(N:Nat)(c:(List aK))(a:(List Int)):Nat→Int→List bf→List aK→Int→Option (List bf)
  |0,_,_,_,_=>none
  | h +1,b,d,e,f=>
    if(decide ((bF (b+1))<(a.length:Int))) then
      (jA N e (fun z0=>nk z0 a b)).bind fun g=>
      iB c a b d (eF N c a h) N g f
    else
      some d
noncomputable def iZ(N:Nat)(b:(List aK)):List aK→Nat→List Int→Option (List bf)
  | [],d,a=>
    (G8 a).bind fun f=>
    (WU f).bind fun g=>
    eF N b g N 0 ([]:List bf) ([]:List aK) 0
  | e::c,d,a=>
    (wO a [e.Y0,e.Y1]).bind fun h=>
    (iZ N b c (d+1)) h
noncomputable def jP(N:Nat)(p0:(List aK)):Option (List bf):=
  (nD p0).bind fun b=>
  (Bo b (fun z0 z1=>nu z0 z1)).bind fun a=>
  iZ N a a 0 ([]:List Int)

def iq(d:(List aK)→Option (List aK))(a:bf):Nat→List aK→Int→Option (List aK)
  |0,_,_=>none
  | h +1,c,b=>
    if(decide (b<(a.Xs.length:Int))) then
      (idx a.Xs b).bind fun e=>
      (idx a.Xs (bF (b+1))).bind fun f=>
      (wO c [(aK.mk e a.Y0 f a.Y1)]).bind fun g=>
      (iq d a h) g (bF (b+2))
    else
      d c
def fH(N:Nat):List bf→Nat→List aK→Option (List aK)
  | [],c,a=>
    some a
  | d::b,c,a=>
    iq (fH N b (c+1)) d N a 0
def jr(N:Nat)(p0:(List bf)):Option (List aK):=
  fH N p0 0 ([]:List aK)

def gX(p1:(List aK)):List aK→Nat→Option Bool
  | [],a=>
    some true
  | d ::b,a=>
    (idx p1 (a:Int)).bind fun c=>
    if(!(yS d c)) then
      some false
    else
      (gX p1 b (a+1))
def jB(p0:(List aK))(p1:(List aK)):Option Bool:=
  if((p0.length:Int) !=(p1.length:Int)) then
    some false
  else
    gX p1 p0 0

noncomputable def eG(N:Nat)(p0:(List aK)):Nat→Int→Option Int
  |0,_=>none
  | g + 1,a=>
    if (decide (a<(p0.length:Int))) then
      (idx p0 (bF (a-1))).bind fun b=>
      (idx p0 a).bind fun c=>
      if((decide (c.Y0<b.Y0))||((c.Y0==b.Y0)&&(decide (c.X0≤b.X0)))) then
        some 8
      else
        (eG N p0 g) (bF (a+1))
    else
      (jP N p0).bind fun d=>
      (jr N d).bind fun e=>
      (jB e p0).bind fun f=>
      if(!f) then
        some 3
      else
        some 0
noncomputable def jC(N:Nat)(p0:(List aK)):Option Int:=
  (lS p0).bind fun a=>
  if(a !=0) then
    some a
  else
    eG N p0 N 1


def jh(p0:Int)(p1:Int)(p2:Int)(p3:Int)(q0:(List fJ)):Option (List fJ):=
  (wO q0 [(fJ.mk (ak.mk p0 p1) (ak.mk p2 p3))]).bind fun a=>
  some a

def ni(p2:Bool→Bool→Option Bool)(c:List Int)(d:Bool)(h:(List Int)→(List Int)→(List Int)→Bool→Bool→Bool→Option (List Int))(i:Int)(e:List Int)(a:Bool)(f:List Int)(b:Bool):Option (List Int):=
  (p2 a b).bind fun g=>
  if(g !=d) then
    (wO c [i]).bind fun j=>
    h e f j a b g
  else
    h e f c a b d
def kJ(p2:Bool→Bool→Option Bool)(a:List Int)(c:List Int)(d:Bool)(e:Bool)(h:(List Int)→(List Int)→(List Int)→Bool→Bool→Bool→Option (List Int))(b:Int)(f:List Int)(g:Bool):Option (List Int):=
  (if(decide (0<(a.length:Int))) then 
    (idx a 0).bind fun i=>
    some (i==b)
   else some false).bind fun j=>
  if j then
    (cut a 1 (a.length:Int)).bind fun l=>
    ni p2 c e h b f g l (!d)
  else
    ni p2 c e h b f g a d
def jS(p2:Bool→Bool→Option Bool)(a:List Int)(c:List Int)(d:List Int)(e:Bool)(f:Bool)(g:Bool)(h:(List Int)→(List Int)→(List Int)→Bool→Bool→Bool→Option (List Int))(b:Int):Option (List Int):=
  (if(decide (0<(a.length:Int))) then 
    (idx a 0).bind fun i=>
    some (i==b)
   else some false).bind fun j=>
  if j then
    (cut a 1 (a.length:Int)).bind fun l=>
    kJ p2 c d f g h b l (!e)
  else
    kJ p2 c d f g h b a e
def fB(p2:Bool→Bool→Option Bool):Nat→List Int→List Int→List Int→Bool→Bool→Bool→Option (List Int)
  |0,_,_,_,_,_,_=>none
  | g + 1,a,b,c,d,e,f=>
    if ((decide (0<(a.length:Int)))||(decide (0<(b.length:Int)))) then
      (if ((b.length:Int)==0) then some true else 
        (if(decide (0<(a.length:Int))) then 
          (idx a 0).bind fun h=>
          (idx b 0).bind fun i=>
          some (decide (h≤i))
         else some false).bind fun j=>
        some j
      ).bind fun l=>
      if l then
        (idx a 0).bind fun n=>
        jS p2 a b c d e f (fB p2 g) n
      else
        (idx b 0).bind fun o=>
        jS p2 a b c d e f (fB p2 g) o
    else
      some c
def lw(N:Nat)(p0:(List Int))(p1:(List Int))(p2:Bool→Bool→Option Bool):Option (List Int):=
  fB p2 N p0 p1 ([]:List Int) false false false


def jq(p0:Bool)(p1:Bool):Option Bool:=
  some (p0&&(!p1))


def jo(p0:Bool)(p1:Bool):Option Bool:=
  some (p1&&(!p0))

def dQ(p0:Int)(a:(List Int)):Nat→List fJ→Int→Option (List fJ)
  |0,_,_=>none
  | g +1,c,b=>
    if(decide (b<(a.length:Int))) then
      (idx a b).bind fun d=>
      (idx a (bF (b+1))).bind fun e=>
      (jh d p0 e p0 c).bind fun f=>
      (dQ p0 a g) f (bF (b+2))
    else
      some c
def eY(N:Nat)(p0:Int)(p1:(List Int))(p2:(List Int))(a:(List Int)):Nat→List fJ→Int→Option (List fJ)
  |0,_,_=>none
  | h +1,c,b=>
    if(decide (b<(a.length:Int))) then
      (idx a (bF (b+1))).bind fun d=>
      (idx a b).bind fun e=>
      (jh d p0 e p0 c).bind fun f=>
      (eY N p0 p1 p2 a h) f (bF (b+2))
    else
      (lw N p1 p2 (fun z0 z1=>jo z0 z1)).bind fun g=>
      dQ p0 g N c 0
def fM(N:Nat)(p0:Int)(p1:(List Int))(p2:(List Int))(q1:(List fJ)):Option (List fJ):=
  (lw N p1 p2 (fun z0 z1=>jq z0 z1)).bind fun a=>
  eY N p0 p1 p2 a N q1 0

def jD(N:Nat)(p0:(List bf))(c:(List fJ)→Option (List fJ))(a:bf)(d:Nat)(b:List fJ):Option (List fJ):=
  (if((bF ((d:Int)+1))==(p0.length:Int)) then some true else 
    (idx p0 (bF ((d:Int)+1))).bind fun e=>
    some (decide (a.Y1<e.Y0))
  ).bind fun f=>
  if f then
    (fM N a.Y1 a.Xs [] b).bind fun g=>
    c g
  else
    c b
def fU(N:Nat)(p0:(List bf))(e:(List fJ)→Option (List fJ))(a:bf)(c:Nat):Nat→List fJ→Int→Option (List fJ)
  |0,_,_=>none
  | u + 1,d,b=>
    if(decide (b<(a.Xs.length:Int))) then
      (idx a.Xs b).bind fun f=>
      (idx a.Xs b).bind fun g=>
      (jh f a.Y1 g a.Y0 d).bind fun h=>
      (idx a.Xs (bF (b+1))).bind fun i=>
      (idx a.Xs (bF (b+1))).bind fun j=>
      (jh i a.Y0 j a.Y1 h).bind fun l=>
      (fU N p0 e a c u) l (bF (b+2))
    else
      (if((c:Int)==0) then some true else 
        (idx p0 (bF ((c:Int)-1))).bind fun n=>
        some (decide (n.Y1<a.Y0))
      ).bind fun o=>
      if o then
        (fM N a.Y0 [] a.Xs d).bind fun q=>
        jD N p0 e a c q
      else
        (idx p0 (bF ((c:Int)-1))).bind fun s=>
        (fM N a.Y0 s.Xs a.Xs d).bind fun t=>
        jD N p0 e a c t
def dw(N:Nat)(p0:(List bf)):List bf→Nat→List fJ→Option (List fJ)
  | [],b,a=>
    some a
  | d::c,b,a=>
    fU N p0 (dw N p0 c (b+1)) d b N a 0
def qb(N:Nat)(p0:(List bf)):Option (List fJ):=
  dw N p0 p0 0 ([]:List fJ)


def jY(p0:Int):Option Int:=
  some (min 1 (max (-1) p0))


def gI(p0:fJ):Option ak:=
  (jY (bF (p0.to_.X-p0.from_.X))).bind fun a=>
  (jY (bF (p0.to_.Y-p0.from_.Y))).bind fun b=>
  some (ak.mk a b)


def lD(p0:fJ):Option ak:=
  (gI p0).bind fun a=>
  some (ak.mk (bF (0-a.Y)) a.X)


def qa(p0:ak)(p1:ak):Option Bool:=
  some ((decide (p0.Y<p1.Y))||((p0.Y==p1.Y)&&(decide (p0.X<p1.X))))


def gy:List (List ak)→Nat→List ak→Option (List ak)
  | [],c,a=>
    some a
  | e::b,c,a=>
    (wO a e).bind fun d=>
    (gy b (c+1)) d
def gz(p0:(List (List ak))):List (List ak)→Nat→Int→Option (List ak)
  | [],c,a=>
    (Ya a).bind fun e=>
    gy p0 0 e
  | d ::b,c,a=>
    if(decide ((bF (a+(d.length:Int)))<0)) then
      none
    else
      (gz p0 b (c+1)) (bF (a+(d.length:Int)))
def kD(p0:(List (List ak))):Option (List ak):=
  gz p0 p0 0 0

def gp(a:List ak):List ak→Nat→Int→Option (List ak)
  | [],d,b=>
    (cut a b (a.length:Int)).bind fun e=>
    (pre a b).bind fun f=>
    (kD [e,f]).bind fun g=>
    some g
  | j ::c,d,b=>
    (idx a b).bind fun h=>
    (qa j h).bind fun i=>
    if i then
      (gp a c (d+1)) (d:Int)
    else
      (gp a c (d+1)) b
def gM(p0:(List fJ)):List fJ→Nat→List ak→Option (List ak)
  | [],c,a=>
    gp a a 0 0
  | d ::b,c,a=>
    (gI d).bind fun e=>
    (md (bF ((bF ((c:Int)+(p0.length:Int)))-1)) (p0.length:Int)).bind fun f=>
    (idx p0 f).bind fun g=>
    (gI g).bind fun h=>
    if(!(jV e h)) then
      (wO a [d.from_]).bind fun i=>
      (gM p0 b (c+1)) i
    else
      (gM p0 b (c+1)) a
def qx(p0:(List fJ)):Option (List ak):=
  gM p0 p0 0 ([]:List ak)


def gN(a:Bool):Option Int:=
  if a then
    some (-1)
  else
    some 1
def dR(p0:(List ak))(p1:(List ak)):Option Int:=
  (idx p0 0).bind fun b=>
  (idx p1 0).bind fun c=>
  (qa b c).bind fun a=>
  if a then
    gN a
  else
    (idx p0 0).bind fun d=>
    (idx p1 0).bind fun e=>
    (if(jV d e) then 
      (idx p1 1).bind fun f=>
      (idx p0 1).bind fun g=>
      (qa f g).bind fun h=>
      some h
     else some false).bind fun i=>
    gN i


def fG(p0:fJ)(p1:fJ)(q0:(List ((Int×Int)×List Int))):Option Bool:=
  (ul Kc q0 (p0.to_.X,p0.to_.Y)).bind fun a=>
  (if((a.length:Int)==1) then some true else 
    (gI p1).bind fun b=>
    (lD p0).bind fun c=>
    some (jV b c)
  ).bind fun d=>
  some d

def bU(p0:fJ)(q1:(List Bool))(q3:(List fJ))(q4:(List ((Int×Int)×List Int))):List Int→Nat→Option Int
  | [],c=>
    some (-1)
  | a ::b,c=>
    (idx q1 a).bind fun d=>
    (if(!d) then 
      (idx q3 a).bind fun e=>
      (fG p0 e q4).bind fun f=>
      some f
     else some false).bind fun g=>
    if g then
      some a
    else
      (bU p0 q1 q3 q4 b (c+1))
def fE(p0:fJ)(q0:(List ((Int×Int)×List Int)))(q1:(List Bool))(q3:(List fJ))(q4:(List ((Int×Int)×List Int))):Option Int:=
  (ul Kc q0 (p0.to_.X,p0.to_.Y)).bind fun a=>
  bU p0 q1 q3 q4 a 0

def iN(a:List (List ak))(f:(List Bool)→(List (List ak))→Option (List (List ak)))(b:List Bool)(c:List fJ):Option (List (List ak)):=
  (qx c).bind fun d=>
  (wO a [d]).bind fun e=>
  f b e
def iM(b:(List fJ))(c:List ((Int×Int)×List Int))(d:List (List ak))(g:(List Bool)→(List (List ak))→Option (List (List ak)))(h:fJ):Nat→List Bool→List fJ→Int→Option (List (List ak))
  |0,_,_,_=>none
  | l + 1,e,i,a=>
    if (decide (0≤a)) then
      (idx e a).bind fun w=>
      (sets e a true).bind fun f=>
      (idx b a).bind fun n=>
      (wO i [n]).bind fun j=>
      (idx b a).bind fun o=>
      (if(jV o.to_ h.from_) then 
        (idx b a).bind fun q=>
        (fG q h c).bind fun s=>
        some s
       else some false).bind fun t=>
      if t then
        iN d g f j
      else
        (idx b a).bind fun u=>
        (fE u c f b c).bind fun v=>
        (iM b c d g h l) f j v
    else
      iN d g e i
noncomputable def bW(N:Nat)(e:(List fJ))(f:List ((Int×Int)×List Int)):List fJ→Nat→List Bool→List (List ak)→Option (List (List ak))
  | [],c,a,b=>
    (Fz b (fun z0 z1=>dR z0 z1)).bind fun g=>
    some g
  | i ::d,c,a,b=>
    (idx a (c:Int)).bind fun h=>
    if h then
      (bW N e f d (c+1)) a b
    else
      iM e f b (bW N e f d (c+1)) i N a ([]:List fJ) (c:Int)
noncomputable def eT(N:Nat)(a:(List fJ)):List fJ→Nat→List ((Int×Int)×List Int)→Option (List (List ak))
  | [],d,b=>
    (Xq false (a.length:Int)).bind fun f=>
    bW N a b a 0 f ([]:List (List ak))
  | c::e,d,b=>
    (ul Kc b (c.from_.X,c.from_.Y)).bind fun g=>
    (wO g [(d:Int)]).bind fun h=>
    (eT N a e (d+1)) (xe b (c.from_.X,c.from_.Y) h)
noncomputable def mD(N:Nat)(p0:(List bf)):Option (List (List ak)):=
  (qb N p0).bind fun a=>
  eT N a a 0 ([]:List ((Int×Int)×List Int))

def iU(b:(List (List ak))):List (List ak)→Nat→Int→Option ((List (List ak))×Int)
  | [],d,a=>
    if(decide (2000<a)) then
      some (([]:List (List ak)),2)
    else
      some (b,0)
  | e::c,d,a=>
    (iU b c (d+1)) (bF (a+(e.length:Int)))
noncomputable def nN(N:Nat)(p0:(List aK)):Option ((List (List ak))×Int):=
  (jC N p0).bind fun a=>
  if(a !=0) then
    some (([]:List (List ak)),a)
  else
    (jP N p0).bind fun c=>
    (mD N c).bind fun b=>
    iU b b 0 0


def uX(p0:dO):Option Int:=
  some (max p0.area (bF (0-p0.area)))


def qA(p0:Int):Option Bool:=
  some (p0 !=p0)


def qL(p0:Int)(p1:Int):Option Int:=
  (qA p0).bind fun b=>
  (qA p1).bind fun a=>
  if b then
    if a then
      some 0
    else
      some (-1)
  else
    if a then
      some 1
    else
      if(decide (p0<p1)) then
        some (-1)
      else
        if(decide (p1<p0)) then
          some 1
        else
          some 0


def kC(p0:dO)(p1:dO):Option Int:=
  (uX p1).bind fun a=>
  (uX p0).bind fun b=>
  (qL a b).bind fun c=>
  some c

def dh(p1:Int)(c:Int)(e:(List dO)→Int→Option (List dO)):Nat→List dO→Int→Option (List dO)
  |0,_,_=>none
  | o +1,b,a=>
    (if(decide (p1<a)) then 
      (idx b a).bind fun f=>
      (idx b (bF (a-1))).bind fun g=>
      (kC f g).bind fun h=>
      some (decide (h<0))
     else some false).bind fun i=>
    if i then
      (idx b (bF (a-1))).bind fun j=>
      (idx b a).bind fun l=>
      (idx b a).bind fun q=>
      (sets b a j).bind fun d=>
      (idx d (bF (a-1))).bind fun s=>
      (sets d (bF (a-1)) l).bind fun n=>
      (dh p1 c e o) n (bF (a-1))
    else
      e b (bF (c+1))
def bJ(N:Nat)(p1:Int)(p2:Int):Nat→List dO→Int→Option (List dO)
  |0,_,_=>none
  | c +1,b,a=>
    if(decide (a<p2)) then
      dh p1 a (bJ N p1 p2 c) N b a
    else
      some b
def dP(N:Nat)(p0:(List dO))(p1:Int)(p2:Int):Option (List dO):=
  bJ N p1 p2 N p0 (bF (p1+1))

def dA(p1:Int)(p2:Int)(p3:Int):Nat→List dO→Int→Option (List dO)
  |0,_,_=>none
  | g +1,b,a=>
    if(decide (a<p3)) then
      (idx b (bF (p2+a))).bind fun d=>
      (idx b (bF (p1+a))).bind fun e=>
      (idx b (bF (p1+a))).bind fun h=>
      (sets b (bF (p1+a)) d).bind fun c=>
      (idx c (bF (p2+a))).bind fun i=>
      (sets c (bF (p2+a)) e).bind fun f=>
      (dA p1 p2 p3 g) f (bF (a+1))
    else
      some b
def eQ(N:Nat)(p0:(List dO))(p1:Int)(p2:Int)(p3:Int):Option (List dO):=
  dA p1 p2 p3 N p0 0

def dm(N:Nat)(p2:Int):Nat→List dO→Int→Int→Option (List dO)
  |0,_,_,_=>none
  | d + 1,c,a,b=>
    if (a !=b) then
      if(decide (b<a)) then
        (eQ N c (bF (p2-a)) p2 b).bind fun e=>
        (dm N p2 d) e (bF (a-b)) b
      else
        (eQ N c (bF (p2-a)) (bF ((bF (p2+b))-a)) a).bind fun f=>
        (dm N p2 d) f a (bF (b-a))
    else
      (eQ N c (bF (p2-a)) p2 a).bind fun g=>
      some g
def gF(N:Nat)(p0:(List dO))(p1:Int)(p2:Int)(p3:Int):Option (List dO):=
  dm N p2 N p0 (bF (p2-p1)) (bF (p3-p2))

def cZ(c:Int):Nat→List dO→Int→Option (List dO)
  |0,_,_=>none
  | h +1,b,a=>
    if(decide (a<(bF (c-1)))) then
      (idx b (bF (a+1))).bind fun e=>
      (idx b a).bind fun f=>
      (idx b a).bind fun i=>
      (sets b a e).bind fun d=>
      (idx d (bF (a+1))).bind fun j=>
      (sets d (bF (a+1)) f).bind fun g=>
      (cZ c h) g (bF (a+1))
    else
      some b
def df(N:Nat)(p0:(List dO))(p1:Int):Nat→Int→Int→Option (List dO)
  |0,_,_=>none
  | d + 1,a,b=>
    if (decide (a<b)) then
      (uO (bF (a+b))).bind fun e=>
      (uO (e / 2)).bind fun c=>
      (idx p0 c).bind fun f=>
      (idx p0 p1).bind fun g=>
      (kC f g).bind fun h=>
      if(decide (h<0)) then
        (df N p0 p1 d) (bF (c+1)) b
      else
        (df N p0 p1 d) a c
    else
      cZ a N p0 p1
def cK(c:Int):Nat→List dO→Int→Option (List dO)
  |0,_,_=>none
  | h +1,b,a=>
    if(decide (c<a)) then
      (idx b (bF (a-1))).bind fun e=>
      (idx b a).bind fun f=>
      (idx b a).bind fun i=>
      (sets b a e).bind fun d=>
      (idx d (bF (a-1))).bind fun j=>
      (sets d (bF (a-1)) f).bind fun g=>
      (cK c h) g (bF (a-1))
    else
      some b
def cO(N:Nat)(p0:(List dO))(p2:Int):Nat→Int→Int→Option (List dO)
  |0,_,_=>none
  | d + 1,a,b=>
    if (decide (a<b)) then
      (uO (bF (a+b))).bind fun e=>
      (uO (e / 2)).bind fun c=>
      (idx p0 p2).bind fun f=>
      (idx p0 c).bind fun g=>
      (kC f g).bind fun h=>
      if(!(decide (h<0))) then
        (cO N p0 p2 d) (bF (c+1)) b
      else
        (cO N p0 p2 d) a c
    else
      cK a N p0 p2
def dE(p2:Int)(p3:Int)(rec:(List dO)→Int→Int→Int→Option (List dO))(a:Int)(b:Int)(c:List dO):Option (List dO):=
  if((decide (a<(bF ((bF (a+p2))-b))))&&(decide ((bF ((bF (a+p2))-b))<p3))) then
    (rec c a (bF ((bF (a+p2))-b)) p3).bind fun d=>
    some d
  else
    some c
def dD(p1:Int)(p2:Int)(p3:Int)(rec:(List dO)→Int→Int→Int→Option (List dO))(b:Int)(a:Int)(c:List dO):Option (List dO):=
  if((decide (p1<a))&&(decide (a<b))) then
    (rec c p1 a b).bind fun d=>
    dE p2 p3 rec b a d
  else
    dE p2 p3 rec b a c
def bK(N:Nat)(p0:(List dO))(p1:Int)(p2:Int)(p3:Int)(rec:(List dO)→Int→Int→Int→Option (List dO))(b:Int):Nat→Int→Int→Option (List dO)
  |0,_,_=>none
  | e + 1,a,d=>
    if (decide (a<d)) then
      (uO (bF (a+d))).bind fun f=>
      (uO (f / 2)).bind fun c=>
      (idx p0 (bF ((bF ((bF (b+p2))-1))-c))).bind fun g=>
      (idx p0 c).bind fun h=>
      (kC g h).bind fun i=>
      if(!(decide (i<0))) then
        (bK N p0 p1 p2 p3 rec b e) (bF (c+1)) d
      else
        (bK N p0 p1 p2 p3 rec b e) a c
    else
      if((decide (a<p2))&&(decide (p2<(bF ((bF (b+p2))-a))))) then
        (gF N p0 a p2 (bF ((bF (b+p2))-a))).bind fun j=>
        dD p1 p2 p3 rec b a j
      else
        dD p1 p2 p3 rec b a p0
def dC(N:Nat)(p0:(List dO))(p1:Int)(p2:Int)(p3:Int)(rec:(List dO)→Int→Int→Int→Option (List dO))(a:Int)(b:Int)(c:Int):Option (List dO):=
  bK N p0 p1 p2 p3 rec a N b c
def gW(N:Nat)(rec:(List dO)→Int→Int→Int→Option (List dO))(p0:(List dO))(p1:Int)(p2:Int)(p3:Int):Option (List dO):=
  if((bF (p2-p1))==1) then
    df N p0 p1 N p2 p3
  else
    if((bF (p3-p2))==1) then
      cO N p0 p2 N p1 p2
    else
      (uO (bF (p1+p3))).bind fun b=>
      (uO (b / 2)).bind fun a=>
      if(decide (a<p2)) then
        dC N p0 p1 p2 p3 rec a (bF ((bF (a+p2))-p3)) a
      else
        dC N p0 p1 p2 p3 rec a p1 p2
def bQ:Nat→(List dO)→Int→Int→Int→Option (List dO)
  |0=>fun _ _ _ _=>none
  |N+1=>gW N (bQ N)

def dL(a:Int)(c:(List dO)→Int→Option (List dO))(b:List dO):Option (List dO):=
  c b (bF (a*2))
def dJ(N:Nat)(p1:Int)(a:Int)(e:(List dO)→Int→Option (List dO)):Nat→List dO→Int→Int→Option (List dO)
  |0,_,_,_=>none
  | h + 1,d,b,c=>
    if(decide (c≤p1)) then
      (bQ N d b (bF (b+a)) c).bind fun f=>
      (dJ N p1 a e h) f c (bF (c+(bF (2*a))))
    else
      if(decide ((bF (b+a))<p1)) then
        (bQ N d b (bF (b+a)) p1).bind fun g=>
        dL a e g
      else
        dL a e d
def bI(N:Nat)(p1:Int):Nat→List dO→Int→Option (List dO)
  |0,_,_=>none
  | c +1,b,a=>
    if(decide (a<p1)) then
      dJ N p1 a (bI N p1 c) N b 0 (bF (2*a))
    else
      some b
def dK(N:Nat)(p1:Int):Nat→List dO→Int→Int→Option (List dO)
  |0,_,_,_=>none
  | f +1,b,c,a=>
    if(decide (a≤p1)) then
      (dP N b c a).bind fun d=>
      (dK N p1 f) d a (bF (a+20))
    else
      (dP N b c p1).bind fun e=>
      bI N p1 N e 20
def iD(N:Nat)(p0:(List dO))(p1:Int):Option (List dO):=
  dK N p1 N p0 0 20


def fC(N:Nat)(p0:(List dO)):Option (List dO):=
  (iD N p0 (p0.length:Int)).bind fun a=>
  some a

def ry(d:(List aB)→Int→Option (ed×Int))(e:dO)(a:List aB)(b:Int):Option (ed×Int):=
  (wO a ([(aB.mk 7 (⟨#[]⟩) (ak.mk 0 0) e.points 0 0 [])])).bind fun c=>
  d c b
def oP(b:List aB)(c:Int)(d:(List aB)→Int→Option (ed×Int))(e:dO)(a:Int):Option (ed×Int):=
  if(a !=c) then
    (wO b ([(aB.mk a (⟨#[]⟩) (ak.mk 0 0) [] 0 0 [])])).bind fun f=>
    ry d e f a
  else
    ry d e b c
def iW:List dO→Nat→List aB→Int→Option (ed×Int)
  | [],d,a,c=>
    some ((ed.mk 1 [] a),0)
  | e ::b,d,a,c=>
    if(decide (e.area<0)) then
      oP a c (iW b (d+1)) e 2
    else
      oP a c (iW b (d+1)) e 1
def lV(e:List dO)(h:(List dO)→Option (ed×Int))(c:(List ak)):List ak→Nat→Int→Option (ed×Int)
  | [],a,b=>
    (wO e [(dO.mk c b)]).bind fun i=>
    h i
  | f::d,a,b=>
    (md (bF ((a:Int)+1)) (c.length:Int)).bind fun j=>
    (idx c j).bind fun g=>
    (lV e h c d (a+1)) (bF (b+(bF ((bF (f.X*g.Y))-(bF (g.X*f.Y))))))
def kK(N:Nat):List (List ak)→Nat→List dO→Option (ed×Int)
  | [],c,a=>
    (fC N a).bind fun e=>
    iW e 0 ([]:List aB) 1
  | d::b,c,a=>
    lV a (kK N b (c+1)) d d 0 0
noncomputable def uy(N:Nat)(p0:(List aK)):Option (ed×Int):=
  (nN N p0).bind fun a=>
  if(a.2 !=0) then
    some ((ed.mk 0 [] []),a.2)
  else
    kK N a.1 0 ([]:List dO)

def mY:List aK→Nat→Int→Option Int
  | [],d,a=>
    some a
  | b::c,d,a=>
    (mY c (d+1)) (bF (a+(bF ((bF (b.X1-b.X0))*(bF (b.Y1-b.Y0))))))
def wJ(p0:(List aK)):Option Int:=
  mY p0 0 0


noncomputable def vP(N:Nat)(p0:(List aK)):Option (Int×Int):=
  (jC N p0).bind fun a=>
  if(a !=0) then
    some (0,a)
  else
    (wJ p0).bind fun b=>
    some (b,0)


noncomputable def jk(N:Nat):Option Bool:=
  (vP N [(aK.mk 0 0 2 3)]).bind fun a=>
  some ((a.2==0)&&(a.1==6))


def nL(p0:Int)(p1:Int)(p2:Int):Option Bool:=
  some ((decide (p1≤p0))&&(decide (p0≤p2)))


def sV(p0:Int)(p1:Int):Option Bool:=
  (dv (-1000000) p1).bind fun a=>
  (dv 1000000 p1).bind fun b=>
  (nL p0 a b).bind fun c=>
  some c

def qz(a:Int)(b:Int→Option Int):Option Int:=
  if(decide (3000<(bF (a+1)))) then
    none
  else
    b (bF (a+1))
def jQ:List aB→Nat→Int→Option Int
  | [],c,a=>
    some a
  | d ::b,c,a=>
    if(decide (0<(d.Steps.length:Int))) then
      none
    else
      qz a (jQ b (c+1))
def wM(N:Nat)(rec:(List aB)→Option Int)(p0:(List aB)):Option Int:=
  jQ p0 0 0
def tT:Nat→(List aB)→Option Int
  |0=>fun _=>none
  |N+1=>wM N (tT N)

def lT(p0:Int)(a:Bool):Option AV:=
  if a then
    none
  else
    if(p0==7) then
      some (AV.mk false false true false)
    else
      if(p0==8) then
        none
      else
        some (AV.mk false false false false)
def lM(p0:Int):Option AV:=
  if(p0==3) then
    none
  else
    if(p0==4) then
      lT p0 (p0==4)
    else
      if(p0==5) then
        lT p0 (p0==5)
      else
        lT p0 (p0==6)


def xK(p0:ed)(p1:ByteArray):Option Int:=
  none


def mG(p0:ak)(p1:Int):Option Bool:=
  (sV p0.X p1).bind fun a=>
  (if a then 
    (sV p0.Y p1).bind fun b=>
    some b
   else some false).bind fun c=>
  some c


def iO(p0:ak)(q0:ed):Option Bool:=
  (mG p0 q0.Unit).bind fun a=>
  some (!a)

def eP(p1:ak→Option Bool):List ak→Nat→Option Int
  | [],a=>
    some (-1)
  | d ::b,a=>
    (p1 d).bind fun c=>
    if c then
      some (a:Int)
    else
      (eP p1 b (a+1))
def kI(p0:(List ak))(p1:ak→Option Bool):Option Int:=
  eP p1 p0 0


def dF(p0:(List ak))(p1:ak→Option Bool):Option Bool:=
  (kI p0 p1).bind fun a=>
  some (decide (0≤a))

def kU(p0:(List ak)):List ak→Nat→Option Bool
  | [],a=>
    some true
  | d ::b,a=>
    (md (bF ((a:Int)+1)) (p0.length:Int)).bind fun e=>
    (idx p0 e).bind fun c=>
    if((d.X==c.X)==(d.Y==c.Y)) then
      some false
    else
      (kU p0 b (a+1))
def oO(p0:(List ak)):Option Bool:=
  if(decide ((p0.length:Int)<4)) then
    some false
  else
    kU p0 p0 0

def iV(p0 :ed)(p1:aB)(a:AV)(b:Bool):Option Int:=
  if b then
    none
  else
    (if a.name then 
      (xK p0 p1.Name).bind fun c=>
      some (decide (c<0))
     else some false).bind fun d=>
    if d then
      none
    else
      (mG p1.At p0.Unit).bind fun e=>
      (if(!e) then some true else 
        (dF p1.Points (fun z0=>iO z0 p0)).bind fun f=>
        some f
      ).bind fun g=>
      if g then
        none
      else
        if(decide (2000<(p1.Points.length:Int))) then
          none
        else
          (if a.points then 
            (oO p1.Points).bind fun h=>
            some (!h)
           else some false).bind fun i=>
          if i then
            none
          else
            if(!a.repeat_) then
              some 0
            else
              none
def kY(p0:ed)(p1:aB)(p2:Int):Option Int:=
  (nL p1.Kind 1 8).bind fun b=>
  if(!b) then
    none
  else
    (lM p1.Kind).bind fun a=>
    if((!a.name)&&(!sw p1.Name (⟨#[]⟩))) then
      iV p0 p1 a ((!a.name)&&(!sw p1.Name (⟨#[]⟩)))
    else
      if((!a.at_)&&(!(jV p1.At (ak.mk 0 0)))) then
        iV p0 p1 a ((!a.at_)&&(!(jV p1.At (ak.mk 0 0))))
      else
        if((!a.points)&&(decide (0<(p1.Points.length:Int)))) then
          iV p0 p1 a ((!a.points)&&(decide (0<(p1.Points.length:Int))))
        else
          iV p0 p1 a ((!a.repeat_)&&(((p1.NX !=0)||(p1.NY !=0))||(decide (0<(p1.Steps.length:Int)))))

def ji(p0:ed)(p2:Int)(rec:ed→(List aB)→Int→Option Int):List aB→Nat→Option Int
  | [],b=>
    some 0
  | c ::a,b=>
    (kY p0 c p2).bind fun d=>
    if(d !=0) then
      none
    else
      (rec p0 c.Steps (bF (p2+1))).bind fun e=>
      if(e !=0) then
        none
      else
        (ji p0 p2 rec a (b+1))
def rH(N:Nat)(rec:ed→(List aB)→Int→Option Int)(p0:ed)(p1:(List aB))(p2:Int):Option Int:=
  ji p0 p2 rec p1 0
def lG:Nat→ed→(List aB)→Int→Option Int
  |0=>fun _ _ _=>none
  |N+1=>rH N (lG N)

def kr(N:Nat)(p0:ed):List gU→Nat→Option Int
  | [],c=>
    (tT N p0.Steps).bind fun a=>
    if(decide (3000<a)) then
      none
    else
      (lG N p0 p0.Steps 0).bind fun b=>
      some b
  | e::d,c=>
    none
def ib(N:Nat)(p0:ed):Option Int:=
  (nL p0.Unit 1 1000).bind fun a=>
  if(!a) then
    none
  else
    if(decide (200<(p0.Tools.length:Int))) then
      none
    else
      kr N p0 p0.Tools 0



def jT:List ak→Nat→ByteArray→Option ByteArray
  | [],c,a=>
    some a
  | d::b,c,a=>
    (Ej d.X).bind fun e=>
    (x8 (⟨#[32]⟩) e).bind fun f=>
    (x8 f (⟨#[32]⟩)).bind fun g=>
    (Ej d.Y).bind fun h=>
    (x8 g h).bind fun i=>
    (x8 a i).bind fun j=>
    (jT b (c+1)) j
def rZ(p0:(List ak)):Option ByteArray:=
  jT p0 0 (⟨#[]⟩)

def fO : List aB→Nat→ByteArray→Option ByteArray
  | [],d,b=>
    some b
  | a :: c, d, b =>
    if(a.Kind==1) then
      (Re b (⟨#[100,97,114,107,10]⟩)).bind fun e=>
      (fO c (d+1)) e
    else
      if(a.Kind==2) then
        (Re b (⟨#[99,108,101,97,114,10]⟩)).bind fun f=>
        (fO c (d+1)) f
      else
        if(a.Kind==3) then
          none
        else
          if(a.Kind==4) then
            none
          else
            if(a.Kind==5) then
              none
            else
              if(a.Kind==6) then
                none
              else
                if(a.Kind==7) then
                  (rZ a.Points).bind fun g=>
                  (x8 (⟨#[97,114,101,97]⟩) g).bind fun h=>
                  (x8 h (⟨#[10]⟩)).bind fun i=>
                  (Re b i).bind fun j=>
                  (fO c (d+1)) j
                else
                  none
def rG(N:Nat)(rec:ByteArray→(List aB)→Option ByteArray)(p0:ByteArray)(p1:(List aB)):Option ByteArray:=
  fO p1 0 p0
def oG:Nat→ByteArray→(List aB)→Option ByteArray
  |0=>fun _ _=>none
  |N+1=>rG N (oG N)



def nW(N:Nat)(p0:ed)(b:ByteArray):List gU→Nat→Option (ByteArray×Int)
  | [],e=>
    (oG N b p0.Steps).bind fun c=>
    (Yu c).bind fun a=>
    if(decide (200000<a.1)) then
      some (⟨#[]⟩,2)
    else
      (XT a.2).bind fun d=>
      some (d.1,0)
  | g::f,e=>
    none
def qZ(N:Nat)(p0:ed):Option (ByteArray×Int):=
  (ib N p0).bind fun a=>
  if(a !=0) then
    none
  else
    (Ej p0.Unit).bind fun b=>
    (x8 (⟨#[117,110,105,116,32]⟩) b).bind fun c=>
    (x8 c (⟨#[10]⟩)).bind fun d=>
    (Re ByteArray.empty d).bind fun e=>
    nW N p0 e p0.Tools 0




def kQ(p0:ByteArray)(p1:ByteArray):Option Bool:=
  (if(decide ((p1.size:Int)≤(p0.size:Int))) then 
    (xD p0 0 (p1.size:Int)).bind fun a=>
    some (sw a p1)
   else some false).bind fun b=>
  some b


def lU(p0:ByteArray)(p1:ByteArray):Option ByteArray:=
  (kQ p0 p1).bind fun a=>
  if a then
    (xD p0 (p1.size:Int) (p0.size:Int)).bind fun b=>
    some b
  else
    some p0


def lZ(p0:ByteArray)(p1:ByteArray):Option ByteArray:=
  (lU p0 p1).bind fun a=>
  some a




def su(p0:ByteArray):Option (Int×Bool):=
  (lZ p0 (⟨#[45]⟩)).bind fun a=>
  (if((decide ((a.size:Int)<1))||(decide (9<(a.size:Int)))) then some true else 
    (trimF a (⟨#[48,49,50,51,52,53,54,55,56,57]⟩)).bind fun b=>
    some (!sw b (⟨#[]⟩))
  ).bind fun c=>
  (if c then some true else 
    (H6 a 0).bind fun d=>
    some ((d==48)&&(!sw p0 (⟨#[48]⟩)))
  ).bind fun e=>
  if e then
    none
  else
    (IZ p0).bind fun f=>
    some (f,true)

def jH:List ByteArray→Nat→List Int→Option ((List Int)×Bool)
  | [],d,a=>
    some (a,true)
  | f ::b,d,a=>
    (su f).bind fun c=>
    if(!c.2) then
      none
    else
      (wO a [c.1]).bind fun e=>
      (jH b (d+1)) e
def nX(p0:(List ByteArray)):Option ((List Int)×Bool):=
  jH p0 0 ([]:List Int)


def oZ(p0:mO)(p1:(List ByteArray)):Option (Bool×Int×Bool×(List aB)):=
  (idx p1 0).bind fun b=>
  if (sw b (⟨#[117,110,105,116]⟩)) then
    (cut p1 1 (p1.length:Int)).bind fun c=>
    (nX c).bind fun a=>
    if((p0.unit||(!a.2))||((a.1.length:Int) !=1)) then
      none
    else
      (idx a.1 0).bind fun d=>
      some (true,d,true,p0.open_)
  else
    none


def kM(p0:mO)(p1:aB):Option ((List aB)×(List aB)):=
  if(decide (0≤(bF ((p0.open_.length:Int)-1)))) then
    none
  else
    (wO p0.p.Steps ([(aB.mk 0 (⟨#[]⟩) (ak.mk 0 0) [] 0 0 [])])).bind fun a=>
    (idx a (p0.p.Steps.length:Int)).bind fun c=>
    (sets a (p0.p.Steps.length:Int) p1).bind fun b=>
    some (b,p0.open_)

def ja(p0:mO)(b:List ak):Option (Bool×(List aB)×(List aB)):=
  (kM p0 (aB.mk 7 (⟨#[]⟩) (ak.mk 0 0) b 0 0 [])).bind fun a=>
  some (true,a.1,a.2)
def gH(p0:mO)(p2:(List Int)):Nat→List ak→Int→Option (Bool×(List aB)×(List aB))
  |0,_,_=>none
  | f +1,b,a=>
    if(decide (a<(p2.length:Int))) then
      (idx p2 a).bind fun c=>
      (idx p2 (bF (a+1))).bind fun d=>
      (wO b [(ak.mk c d)]).bind fun e=>
      (gH p0 p2 f) e (bF (a+2))
    else
      ja p0 b
def ik(N:Nat)(p0:mO)(p1:ByteArray)(p2:(List Int))(a:Bool):Option (Bool×(List aB)×(List aB)):=
  if a then
    none
  else
    if (sw p1 (⟨#[97,114,101,97]⟩)) then
      if((Int.tmod (p2.length:Int) 2) !=0) then
        none
      else
        gH p0 p2 N ([]:List ak) 0
    else
      none
def kV(N:Nat)(p0:mO)(p1:ByteArray)(p2:(List Int)):Option (Bool×(List aB)×(List aB)):=
  if(sw p1 (⟨#[109,111,118,101]⟩)) then
    ik N p0 p1 p2 (sw p1 (⟨#[109,111,118,101]⟩))
  else
    if(sw p1 (⟨#[102,108,97,115,104]⟩)) then
      ik N p0 p1 p2 (sw p1 (⟨#[102,108,97,115,104]⟩))
    else
      ik N p0 p1 p2 (sw p1 (⟨#[108,105,110,101]⟩))


def ko(N : Nat)(p0:mO)(p1:ByteArray):Option (Bool×Int×Bool×Bool×(List aB)×(List aB)):=
  (yD p1 (⟨#[32]⟩)).bind fun a=>
  (idx a 0).bind fun g=>
  (if(sw g (⟨#[117,110,105,116]⟩)) then some true else 
    (idx a 0).bind fun h=>
    some (sw h (⟨#[116,111,111,108]⟩))
  ).bind fun i=>
  if i then
    (oZ p0 a).bind fun b=>
    some (b.1,b.2.1,b.2.2.1,p0.step,p0.p.Steps,b.2.2.2)
  else
    if(!p0.unit) then
      none
    else
      if(sw p1 (⟨#[100,97,114,107]⟩)) then
        (kM (mO.mk p0.p p0.unit p0.open_ true) (aB.mk 1 (⟨#[]⟩) (ak.mk 0 0) [] 0 0 [])).bind fun d=>
        some (true,p0.p.Unit,p0.unit,true,d.1,d.2)
      else
        if(sw p1 (⟨#[99,108,101,97,114]⟩)) then
          (kM (mO.mk p0.p p0.unit p0.open_ true) (aB.mk 2 (⟨#[]⟩) (ak.mk 0 0) [] 0 0 [])).bind fun e=>
          some (true,p0.p.Unit,p0.unit,true,e.1,e.2)
        else
          if(sw p1 (⟨#[100,111,110,101]⟩)) then
            none
          else
            (idx a 0).bind fun j=>
            if(sw j (⟨#[117,115,101]⟩)) then
              none
            else
              (cut a 1 (a.length:Int)).bind fun l=>
              (nX l).bind fun f=>
              if f.2 then
                (idx a 0).bind fun n=>
                (kV N (mO.mk p0.p p0.unit p0.open_ true) n f.1).bind fun c=>
                some (c.1,p0.p.Unit,p0.unit,true,c.2.1,c.2.2)
              else
                some (false,p0.p.Unit,p0.unit,true,p0.p.Steps,p0.open_)

def lH(N :Nat):Nat→List aB→Int→List aB→Bool→Bool→ByteArray→Int→Option (ed×Int×Int)
  |0,_,_,_,_,_,_,_=>none
  | l + 1,e,b,c,f,h,g,i=>
    if (!sw g (⟨#[]⟩)) then
      (Qo g (⟨#[10]⟩)).bind fun d=>
      if(!d.2.2) then
        none
      else
        (ko N (mO.mk (ed.mk b [] c) f e h) d.1).bind fun a=>
        if(!a.1) then
          none
        else
          (lH N l) a.2.2.2.2.2 a.2.1 a.2.2.2.2.1 a.2.2.1 a.2.2.2.1 d.2.1 (bF (i+1))
    else
      if((!f)||(decide (0<(e.length:Int)))) then
        none
      else
        (ib N (ed.mk b [] c)).bind fun j=>
        if(j !=0) then
          none
        else
          some ((ed.mk b [] c),0,0)
def uW(N:Nat)(p0:ByteArray):Option (ed×Int×Int):=
  if(decide (200000<(p0.size:Int))) then
    none
  else
    lH N N ([]:List aB) 0 ([]:List aB) false false p0 1


def lL(p0:ak):Option Bool:=
  (lF p0.X).bind fun a=>
  (if a then 
    (lF p0.Y).bind fun b=>
    some b
   else some false).bind fun c=>
  some c


def mX(p0:iT):Option Int:=
  (mh p0.Quarters 0 3).bind fun a=>
  (if(!a) then some true else 
    (lL p0.At).bind fun b=>
    some (!b)
  ).bind fun c=>
  if c then
    some 1
  else
    some 0

def kR(p1:iT):Nat→Int→Int→Int→Option ak
  |0,_,_,_=>none
  | d +1,a,b,c=>
    if(decide (c<p1.Quarters)) then
      (kR p1 d) (bF (0-b)) a (bF (c+1))
    else
      some (ak.mk (bF (a+p1.At.X)) (bF (b+p1.At.Y)))
def kS(N:Nat)(p0:ak)(p1:iT)(a:Int):Option ak:=
  kR p1 N a p0.Y 0
def kw(N:Nat)(p0:ak)(p1:iT):Option ak:=
  if p1.Flip then
    kS N p0 p1 (bF (0-p0.X))
  else
    kS N p0 p1 p0.X


def nM(N:Nat)(p0:aK)(p1:iT):Option aK:=
  (kw N (ak.mk p0.X0 p0.Y0) p1).bind fun a=>
  (kw N (ak.mk p0.X1 p0.Y1) p1).bind fun b=>
  some (aK.mk (min a.X b.X) (min a.Y b.Y) (max a.X b.X) (max a.Y b.Y))

noncomputable def iy(N:Nat)(p1:iT)(c:(List aK)):Nat→List aK→Int→Option (List bf)
  |0,_,_=>none
  | h +1,b,a=>
    if(decide (a<(c.length:Int))) then
      (idx b a).bind fun d=>
      (nM N d p1).bind fun e=>
      (idx b a).bind fun i=>
      (sets b a e).bind fun f=>
      (iy N p1 c h) f (bF (a+1))
    else
      (jP N b).bind fun g=>
      some g
noncomputable def mr(N:Nat)(p0:(List bf))(p1:iT):Option (List bf):=
  (jr N p0).bind fun a=>
  iy N p1 a N a 0

def iF(c:bf)(d:bf):List bf→Nat→Int→Int→Option aK
  | [],g,a,b=>
    some (aK.mk a c.Y0 b d.Y1)
  | e::f,g,a,b=>
    (idx e.Xs 0).bind fun h=>
    (idx e.Xs (bF ((e.Xs.length:Int)-1))).bind fun i=>
    (iF c d f (g+1)) (min a h) (max b i)
def nH(p0:(List bf)):Option aK:=
  (idx p0 0).bind fun a=>
  (idx a.Xs 0).bind fun b=>
  (idx p0 0).bind fun c=>
  (idx p0 0).bind fun d=>
  (idx d.Xs 1).bind fun e=>
  (idx p0 (bF ((p0.length:Int)-1))).bind fun f=>
  iF c f p0 0 b e


def mW(p0:(List bf)):Option Bool:=
  (if((p0.length:Int)==0) then some true else 
    (nH p0).bind fun a=>
    (pF a).bind fun b=>
    some b
  ).bind fun c=>
  some c

def iE:List bf→Nat→Int→Option Int
  | [],c,a=>
    some a
  | d::b,c,a=>
    (iE b (c+1)) (bF (a+(bF (Int.tdiv (d.Xs.length:Int) 2))))
def mU(p0:(List bf)):Option Int:=
  iE p0 0 0


def oC(N:Nat)(p0:(List bf)):Option ((List aK)×Int):=
  (mU p0).bind fun a=>
  if(decide (2000<a)) then
    some (([]:List aK),2)
  else
    (jr N p0).bind fun b=>
    some (b,0)


noncomputable def mi(N:Nat)(p0:(List aK))(p1:iT):Option ((List aK)×Int):=
  (jC N p0).bind fun a=>
  if(a !=0) then
    some (([]:List aK),a)
  else
    (mX p1).bind fun b=>
    if(b !=0) then
      some (([]:List aK),b)
    else
      (jP N p0).bind fun e=>
      (mr N e p1).bind fun c=>
      (mW c).bind fun f=>
      if(!f) then
        some (([]:List aK),1)
      else
        (oC N c).bind fun d=>
        some (d.1,d.2)


def pE(p0:(List gU)):Option (List gU):=
  (wO ([]:List gU) p0).bind fun a=>
  some a

def qd(a:(List gU)):Nat→Option (List gU)
  |0=>none
  | b +1=>
    if(decide (0<(a.length:Int))) then
      none
    else
      some a
def oo(N:Nat)(p0:(List gU))(p1:aK→Option aK):Option (List gU):=
  (pE p0).bind fun a=>
  qd a N


def sj(p0:aK):Option aK:=
  some p0


def mf(p0:(List ak)):Option (List ak):=
  (wO ([]:List ak) p0).bind fun a=>
  some a

def mH(p1:ak)(e:List aB)(g:(List aB)→Option (List aB))(b:aB)(f:(List ak)):Nat→List ak→Int→Option (List aB)
  |0,_,_=>none
  | q +1,c,a=>
    if(decide (a<(f.length:Int))) then
      (idx c a).bind fun h=>
      (idx c a).bind fun i=>
      (sets c a (ak.mk (bF (h.X+p1.X)) i.Y)).bind fun d=>
      (idx d a).bind fun j=>
      (idx d a).bind fun l=>
      (sets d a (ak.mk l.X (bF (j.Y+p1.Y)))).bind fun n=>
      (mH p1 e g b f q) n (bF (a+1))
    else
      (wO e [(aB.mk b.Kind b.Name b.At c b.NX b.NY b.Steps)]).bind fun o=>
      g o
def qY(N:Nat)(p1:ak)(c:List aB)(d:(List aB)→Option (List aB))(b:aB):Option (List aB):=
  (mf b.Points).bind fun a=>
  mH p1 c d b a N a 0
def iK(N:Nat)(p1:ak):List aB→Nat→List aB→Option (List aB)
  | [],d,a=>
    some a
  | b ::c,d,a=>
    if(b.Kind==8) then
      none
    else
      (lM b.Kind).bind fun e=>
      if e.at_ then
        none
      else
        qY N p1 a (iK N p1 c (d+1)) b
def xM(N:Nat)(rec:(List aB)→ak→Option (List aB))(p0:(List aB))(p1:ak):Option (List aB):=
  iK N p1 p0 0 ([]:List aB)
def uU:Nat→(List aB)→ak→Option (List aB)
  |0=>fun _ _=>none
  |N+1=>xM N (uU N)


def qy(N:Nat)(p0:ed):Option ed:=
  (oo N p0.Tools (fun z0=>sj z0)).bind fun a=>
  (uU N p0.Steps (ak.mk 0 0)).bind fun b=>
  some (ed.mk p0.Unit a b)


def nI(N:Nat)(p0:aK)(q0:iT):Option aK:=
  (nM N p0 q0).bind fun a=>
  some a


def xz(N:Nat)(p0:ed):Option (ed×Int):=
  (ib N p0).bind fun a=>
  if(a !=0) then
    none
  else
    some (p0,0)

def iL(N:Nat)(p1:iT)(d:Int)(e:Int)(f:List aB)(h:(List aB)→Option (ed×Int))(i:Nat)(a:aB):List ak→Nat→List ak→Option (ed×Int)
  | [],c,b=>
    h (List.set f ((i:Int)).toNat (aB.mk a.Kind a.Name a.At b a.NX a.NY a.Steps))
  | q::g,c,b=>
    (idx b (c:Int)).bind fun j=>
    (kw N j (iT.mk p1.Flip p1.Quarters (ak.mk d e))).bind fun l=>
    (idx b (c:Int)).bind fun o=>
    (sets b (c:Int) l).bind fun n=>
    (iL N p1 d e f h i a g (c+1)) n
def mI(N:Nat)(p1:iT)(b:Int)(c:Int)(d:List aB)(e:(List aB)→Option (ed×Int))(f:Nat)(a:aB):Option (ed×Int):=
  iL N p1 b c d e f a a.Points 0 a.Points
def dX(N:Nat)(p1:iT)(c:ed)(d:(List gU))(e:Int)(f:Int):List aB→Nat→List aB→Option (ed×Int)
  | [],b,a=>
    (xz N (ed.mk c.Unit d a)).bind fun g=>
    some (g.1,g.2)
  | l ::h,b,a=>
    (idx a (b:Int)).bind fun i=>
    (lM i.Kind).bind fun j=>
    if j.at_ then
      none
    else
      mI N p1 e f a (dX N p1 c d e f h (b+1)) b i
def oH(N:Nat)(p0:ed)(p1:iT):Option (ed×Int):=
  (ib N p0).bind fun b=>
  if(b !=0) then
    none
  else
    (mX p1).bind fun c=>
    if(c !=0) then
      none
    else
      (md p1.At.X p0.Unit).bind fun d=>
      (if(d !=0) then some true else 
        (md p1.At.Y p0.Unit).bind fun e=>
        some (e !=0)
      ).bind fun f=>
      if f then
        none
      else
        (qy N p0).bind fun a=>
        (oo N a.Tools (fun z0=>nI N z0 (iT.mk p1.Flip p1.Quarters (ak.mk 0 0)))).bind fun g=>
        (dv p1.At.X p0.Unit).bind fun h=>
        (dv p1.At.Y p0.Unit).bind fun i=>
        dX N p1 a g h i a.Steps 0 a.Steps

def mE(p0:ed):List gU→Nat→Option fq
  | [],a=>
    some (fq.mk p0 [] [] false (-1) (ak.mk 0 0) false 0 0)
  | c::b,a=>
    none
def qK(p0:ed):Option fq:=
  mE p0 p0.Tools 0


def kE(p0:fq)(p1:ak)(p2:ak):Option ak:=
  some (ak.mk (bF ((bF (p1.X*p0.p.Unit))+p2.X)) (bF ((bF (p1.Y*p0.p.Unit))+p2.Y)))


def oh(p0:(List bf))(p1:Int)(p2:Int):Option ((List Int)×Int):=
  if((p0.length:Int)==0) then
    some (([]:List Int),p2)
  else
    (idx p0 0).bind fun a=>
    if(decide (p1<a.Y0)) then
      (idx p0 0).bind fun b=>
      some ([],(min p2 b.Y0))
    else
      (idx p0 0).bind fun c=>
      (idx p0 0).bind fun d=>
      some (c.Xs,(min p2 d.Y1))

def kT(b:List (List bf))(c:Int)(h:Int→Int→(List (List bf))→Int→Option (List bf))(a:(List bf))(d:Int)(e:Int):Option (List bf):=
  (idx a 0).bind fun f=>
  (idx a (bF ((a.length:Int)-1))).bind fun g=>
  h (min d f.Y0) (max e g.Y1) b (bF (c+1))
def ky(N:Nat)(p2:Bool→Bool→Option Bool)(c:Int)(g:List bf)(b:Int)(h:(List bf)→(List bf)→(List bf)→Int→Option (List bf))(d:List bf):Nat→List bf→Option (List bf)
  |0,_=>none
  | i +1,a=>
    (if(decide (0<(a.length:Int))) then 
      (idx a 0).bind fun j=>
      some (decide (j.Y1≤b))
     else some false).bind fun l=>
    if l then
      (cut a 1 (a.length:Int)).bind fun n=>
      (ky N p2 c g b h d i) n
    else
      (oh d b c).bind fun e=>
      (oh a b c).bind fun f=>
      (lw N e.1 f.1 p2).bind fun o=>
      (gJ g (bf.mk b (min e.2 f.2) o)).bind fun q=>
      h d a q (min e.2 f.2)
def kz(N:Nat)(p2:Bool→Bool→Option Bool)(c:Int)(d:List bf)(e:List bf)(b:Int)(f:(List bf)→(List bf)→(List bf)→Int→Option (List bf)):Nat→List bf→Option (List bf)
  |0,_=>none
  | g +1,a=>
    (if(decide (0<(a.length:Int))) then 
      (idx a 0).bind fun h=>
      some (decide (h.Y1≤b))
     else some false).bind fun i=>
    if i then
      (cut a 1 (a.length:Int)).bind fun j=>
      (kz N p2 c d e b f g) j
    else
      ky N p2 c e b f a N d
def gZ(N:Nat)(p2:Bool→Bool→Option Bool)(a:Int):Nat→List bf→List bf→List bf→Int→Option (List bf)
  |0,_,_,_,_=>none
  | f +1,d,e,b,c=>
    if(decide (c<a)) then
      kz N p2 a e b c (gZ N p2 a f) N d
    else
      some b
def eZ(N :Nat)(p0:(List bf))(p1:(List bf))(p2:Bool→Bool→Option Bool):Nat→Int→Int→List (List bf)→Int→Option (List bf)
  |0,_,_,_,_=>none
  | f + 1,d,e,c,a=>
    if (decide (a<2)) then
      (idx c a).bind fun b=>
      if (decide (0<(b.length:Int))) then
        if((a==0)||((p0.length:Int)==0)) then
          (idx b 0).bind fun g=>
          (idx b (bF ((b.length:Int)-1))).bind fun h=>
          kT c a (eZ N p0 p1 p2 f) b g.Y0 h.Y1
        else
          kT c a (eZ N p0 p1 p2 f) b d e
      else
        (eZ N p0 p1 p2 f) d e c (bF (a+1))
    else
      gZ N p2 e N p0 p1 ([]:List bf) d
def qE(N:Nat)(p0:(List bf))(p1:(List bf))(p2:Bool→Bool→Option Bool):Option (List bf):=
  if((bF ((p0.length:Int)+(p1.length:Int)))==0) then
    some ([]:List bf)
  else
    eZ N p0 p1 p2 N 0 0 [p0,p1] 0


def nE(p0:Bool)(p1:Bool):Option Bool:=
  some (p0&&(!p1))


def mV(N:Nat)(p0:(List bf))(p1:(List bf)):Option (List bf):=
  (qE N p0 p1 (fun z0 z1=>nE z0 z1)).bind fun a=>
  some a


def oD(p0:Bool)(p1:Bool):Option Bool:=
  some (p0||p1)


def ol(N:Nat)(p0:(List bf))(p1:(List bf)):Option (List bf):=
  (qE N p0 p1 (fun z0 z1=>oD z0 z1)).bind fun a=>
  some a

def jb(a:List bf):Option (Int×(List bf)):=
  (mU a).bind fun b=>
  if(decide (2000<b)) then
    some (2,a)
  else
    some (0,a)
def mF(N:Nat)(p0:fq)(p1:(List bf)):Option (Int×(List bf)):=
  (mW p1).bind fun a=>
  if(!a) then
    none
  else
    if p0.clear then
      (mV N p0.image p1).bind fun b=>
      jb b
    else
      (ol N p0.image p1).bind fun c=>
      jb c


def nO(p0:aK)(p1:aK):Option Int:=
  some (bF (p0.X0-p1.X0))

def iG(c:(List Int))(e:List bf)(b:Int)(f:(List bf)→Int→Option (List bf)):List aK→Nat→List Int→Option (List bf)
  | [],g,a=>
    (idx c b).bind fun i=>
    (idx c (bF (b+1))).bind fun j=>
    (gJ e (bf.mk i j a)).bind fun l=>
    f l (bF (b+1))
  | h ::d,g,a=>
    (idx c b).bind fun n=>
    (if(decide (n<h.Y0)) then some true else 
      (idx c b).bind fun o=>
      some (decide (h.Y1≤o))
    ).bind fun q=>
    if q then
      (iG c e b f d (g+1)) a
    else
      (if(decide (0<(a.length:Int))) then 
        (idx a (bF ((a.length:Int)-1))).bind fun s=>
        some (s==h.X0)
       else some false).bind fun t=>
      if t then
        (pre a (bF ((a.length:Int)-1))).bind fun u=>
        (iG c e b f d (g+1)) u
      else
        (wO a [h.X0]).bind fun v=>
        (iG c e b f d (g+1)) v
def iH(a:(List Int))(b:(List aK)):Nat→List bf→Int→Option (List bf)
  |0,_,_=>none
  | e +1,c,d=>
    if(decide ((bF (d+1))<(a.length:Int))) then
      iG a c d (iH a b e) b 0 ([]:List Int)
    else
      some c
def jf(h:(List Int)→(List aK)→Option (List bf))(f:(List ak)):List ak→Nat→List Int→List aK→Option (List bf)
  | [],g,d,a=>
    h d a
  | b ::c,g,d,a=>
    (md (bF ((g:Int)+1)) (f.length:Int)).bind fun j=>
    (idx f j).bind fun e=>
    (wO d [b.Y]).bind fun i=>
    if(b.X==e.X) then
      (wO a [(aK.mk b.X (min b.Y e.Y) 0 (max b.Y e.Y))]).bind fun l=>
      (jf h f c (g+1)) i l
    else
      (jf h f c (g+1)) i a
noncomputable def iI(N:Nat):List (List ak)→Nat→List Int→List aK→Option (List bf)
  | [],d,a,b=>
    (G8 a).bind fun f=>
    (WU f).bind fun g=>
    (Bo b (fun z0 z1=>nO z0 z1)).bind fun h=>
    iH g h N ([]:List bf) 0
  | e::c,d,a,b=>
    jf (iI N c (d+1)) e e 0 a b
noncomputable def qX(N:Nat)(p0:(List (List ak))):Option (List bf):=
  iI N p0 0 ([]:List Int) ([]:List aK)


def iJ(p0:ak):Option Bool:=
  (lL p0).bind fun a=>
  some (!a)

noncomputable def fP(N:Nat)(p0:fq)(p2:ak):List ak→Nat→List ak→Option (Int×(List bf))
  | [], e,a=>
    (qX N [a]).bind fun b=>
    (mU b).bind fun f=>
    if(decide (2000<f)) then
      some (2,p0.image)
    else
      (dF a (fun z0=>iJ z0)).bind fun g=>
      if g then
        none
      else
        (mF N p0 b).bind fun c=>
        some (c.1,c.2)
  | j::d,e,a=>
    (kE p0 j p2).bind fun h=>
    (wO a [h]).bind fun i=>
    (fP N p0 p2 d (e+1)) i
noncomputable def kX(N:Nat)(p0:fq)(p1:(List ak))(p2:ak):Option (Int×(List bf)):=
  fP N p0 p2 p1 0 ([]:List ak)

def kW(p0:fq)(a:Bool):Option (Int×Bool×(List bf)):=
  some (0,a,p0.image)
noncomputable def jJ(N:Nat)(p0:fq)(p1:aB)(p2:ak)(b:Bool):Option (Int×Bool×(List bf)):=
  if b then
    kW p0 (p1.Kind==2)
  else
    if(p1.Kind==3) then
      none
    else
      if(p1.Kind==4) then
        none
      else
        if(p1.Kind==5) then
          none
        else
          if(p1.Kind==6) then
            none
          else
            if(p1.Kind==7) then
              (kX N p0 p1.Points p2).bind fun a=>
              some (a.1,p0.clear,a.2)
            else
              if(p1.Kind==8) then
                none
              else
                kW p0 p0.clear
noncomputable def jO(rec:fq→(List aB)→ak→Option (Int×Bool×(List bf)))(N:Nat)(p0:fq)(p1:aB)(p2:ak):Option (Int×Bool×(List bf)):=
  (kE p0 p1.At p2).bind fun a=>
  if(p1.Kind==1) then
    jJ N p0 p1 p2 (p1.Kind==1)
  else
    jJ N p0 p1 p2 (p1.Kind==2)

noncomputable def gB(N:Nat)(p0:fq)(p2:ak)(rec:fq→(List aB)→ak→Option (Int×Bool×(List bf))):List aB→Nat→List bf→Bool→Option (Int×Bool×(List bf))
  | [],e,b,c=>
    some (0,c,b)
  | f ::d,e,b,c=>
    (jO rec N (fq.mk p0.p p0.tools b c p0.tool p0.place p0.placed p0.off p0.on) f p2).bind fun a=>
    if(a.1 !=0) then
      some (a.1,a.2.1,a.2.2)
    else
      (gB N p0 p2 rec d (e+1)) a.2.2 a.2.1
noncomputable def qG(N:Nat)(rec:fq→(List aB)→ak→Option (Int×Bool×(List bf)))(p0:fq)(p1:(List aB))(p2:ak):Option (Int×Bool×(List bf)):=
  gB N p0 p2 rec p1 0 p0.image p0.clear
noncomputable def lJ:Nat→fq→(List aB)→ak→Option (Int×Bool×(List bf))
  |0=>fun _ _ _=>none
  |N+1=>qG N (lJ N)


noncomputable def vQ(N:Nat)(p0:ed):Option (fq×Int):=
  (qK p0).bind fun a=>
  (lJ N a p0.Steps (ak.mk 0 0)).bind fun b=>
  some ((fq.mk a.p a.tools b.2.2 b.2.1 a.tool a.place a.placed a.off a.on),b.1)


noncomputable def tV(N:Nat)(p0:ed):Option ((List bf)×Int):=
  (ib N p0).bind fun b=>
  if(b !=0) then
    none
  else
    (vQ N p0).bind fun a=>
    if(a.2 !=0) then
      some (([]:List bf),a.2)
    else
      some (a.1.image,0)


noncomputable def rz(N:Nat)(p0:ed):Option ((List aK)×Int):=
  (tV N p0).bind fun a=>
  (jr N a.1).bind fun b=>
  some (b,a.2)


noncomputable def gK(N:Nat)(p0:(List aK))(p1:iT):Option Bool:=
  (uy N p0).bind fun a=>
  if (a.2 !=0) then
    (if((a.1.Steps.length:Int)==0) then 
      (jk N).bind fun g=>
      some g
     else some false).bind fun h=>
    some h
  else
    (qZ N a.1).bind fun b=>
    if (b.2 !=0) then
      (if(b.2==2) then 
        (jk N).bind fun i=>
        some i
       else some false).bind fun j=>
      some j
    else
      (uW N b.1).bind fun c=>
      if((c.2.2 !=0)||(c.2.1 !=0)) then
        none
      else
        (mi N p0 p1).bind fun d=>
        if (d.2 !=0) then
          (if((d.1.length:Int)==0) then 
            (jk N).bind fun l=>
            some l
           else some false).bind fun n=>
          some n
        else
          (oH N c.1 p1).bind fun f=>
          if(f.2 !=0) then
            none
          else
            (rz N f.1).bind fun e=>
            (if (e.2==2) then some true else 
              (if(e.2==0) then 
                (jB e.1 d.1).bind fun o=>
                some o
               else some false).bind fun q=>
              some q
            ).bind fun s=>
            (if s then 
              (jk N).bind fun t=>
              some t
             else some false).bind fun u=>
            some u

end Go.Proofs.YtblmajfbibbiaaaGreatDoor
