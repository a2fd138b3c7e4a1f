/- The plain functions: what each function of the program computes; none where it would panic. -/
import Derived.Test.YtkccbhbhdnobhaaGreatDoorXT
namespace Go.Proofs.YtkccbhbhdnobhaaGreatDoor
open Go.RowKit
def df(p1:Int→Option Bool):List Int→Nat→Option Int
  | [],_=>
    some (-1)
  | d ::b,a=>
    (p1 d).bind fun c=>
    if c then
      some (a:Int)
    else
      (df p1 b (a+1))
def lM(p0:(List Int))(p1:Int→Option Bool):Option Int:=
  df p1 p0 0


def kE(p0:(List Int))(p1:Int→Option Bool):Option Bool:=
  (lM p0 p1).bind fun a=>
  some (decide (0≤a))


def qQ(p0:Int)(p1:Int)(p2:Int):Option Bool:=
  some ((decide (p1≤p0))&&(decide (p0≤p2)))


def qR(p0:Int):Option Bool:=
  (qQ p0 0 100000).bind fun a=>
  some a


def ed(p0:Int):Option Bool:=
  (qR p0).bind fun a=>
  some (!a)


def iV(p0:ByteArray):Nat→Int→Option Bool
  |0,_=>none
  | e + 1,b=>
    if (decide (b<(p0.size:Int))) then
      (Fj p0 b).bind fun a=>
      (if((((decide (a<65))||(decide (90<a)))&&((decide (a<97))||(decide (122<a))))&&((decide (a<48))||(decide (57<a)))) then 
        (NQ (⟨#[95,43,45,35]⟩) a).bind fun c=>
        some (decide (c<0))
       else some false).bind fun d=>
      if d then
        some false
      else
        (iV p0 e) (bJ (b+1))
    else
      some ((decide (1≤(p0.size:Int)))&&(decide ((p0.size:Int)≤40)))
def nJ(N:Nat)(p0:ByteArray):Option Bool:=
  iV p0 N 0


def gz(p1:ByteArray→Option Bool):List ByteArray→Nat→Option Int
  | [],_=>
    some (-1)
  | d ::b,a=>
    (p1 d).bind fun c=>
    if c then
      some (a:Int)
    else
      (gz p1 b (a+1))
def jC(p0:(List ByteArray))(p1:ByteArray→Option Bool):Option Int:=
  gz p1 p0 0


def fA(p0:(List ByteArray))(p1:ByteArray→Option Bool):Option Bool:=
  (jC p0 p1).bind fun a=>
  some (decide (0≤a))


def jO(N:Nat)(p0:ByteArray):Option Bool:=
  (nJ N p0).bind fun a=>
  some (!a)


def lQ(N:Nat)(p0:ByteArray):Option Bool:=
  if(decide ((p0.size:Int)≤200)) then
    (Ac p0 (⟨#[47]⟩)).bind fun a=>
    (fA a (fun z0=>jO N z0)).bind fun b=>
    some (!b)
  else
    some false

def jQ:List kw→Nat→Option Int
  | [],_=>
    some 0
  | _::_,_=>
    none
def oO(p0:(List kw)):Option Int:=
  if(decide (50<(p0.length:Int))) then
    some 2
  else
    jQ p0 0


def lX(p0:Int)(p1:Int)(p2:Int):Option Bool:=
  some ((decide (p1≤p0))&&(decide (p0≤p2)))


def kT(p0:Int):Option Bool:=
  (lX p0 (-1000000) 1000000).bind fun a=>
  some a


def nE(p0:au):Option Bool:=
  (kT p0.X0).bind fun a=>
  (if a then 
    (kT p0.Y0).bind fun b=>
    some b
   else some false).bind fun c=>
  (if c then 
    (kT p0.X1).bind fun d=>
    some d
   else some false).bind fun e=>
  (if e then 
    (kT p0.Y1).bind fun f=>
    some f
   else some false).bind fun g=>
  some g

def fT:List au→Nat→Option Int
  | [],_=>
    some 0
  | a ::b,c=>
    (nE a).bind fun d=>
    if(!d) then
      some 1
    else
      if((decide (a.X1≤a.X0))||(decide (a.Y1≤a.Y0))) then
        some 13
      else
        (fT b (c+1))
def lZ(p0:(List au)):Option Int:=
  if(decide (2000<(p0.length:Int))) then
    some 2
  else
    fT p0 0


def ny(p0:(List au)):Option (List au):=
  (vD ([]:List au) p0).bind fun a=>
  some a



def mI(p0:au)(p1:au):Option Int:=
  some (bJ (p0.Y0-p1.Y0))




def mH(p0:au)(q0:(List Int))(q1:Int):Option Bool:=
  (idx q0 q1).bind fun a=>
  some (decide (p0.Y1≤a))

def eX(p1:au→Option Bool):List au→Nat→Option Int
  | [],_=>
    some (-1)
  | d ::b,a=>
    (p1 d).bind fun c=>
    if c then
      some (a:Int)
    else
      (eX p1 b (a+1))
def il(p0:(List au))(p1:au→Option Bool):Option Int:=
  eX p1 p0 0

def dQ(p1:au→Option Bool):Nat→List au→Int→Int→Option (List au)
  |0,_,_,_=>none
  | e + 1,a,b,c=>
    if (decide (c<(a.length:Int))) then
      (idx a c).bind fun d=>
      (p1 d).bind fun f=>
      if(!f) then
        (idx a b).bind fun _=>
        (sets a b d).bind fun g=>
        (dQ p1 e) g (bJ (b+1)) (bJ (c+1))
      else
        (dQ p1 e) a b (bJ (c+1))
    else
      (cut a b (a.length:Int)).bind fun h=>
      (pre (MC a b (h).length (au.mk 0 0 0 0)) b).bind fun i=>
      some i
def jL(N:Nat)(p0:(List au))(p1:au→Option Bool):Option (List au):=
  (il p0 p1).bind fun a=>
  if(a==(-1)) then
    some p0
  else
    dQ p1 N p0 a (bJ (a+1))


def kz(p0:au)(p1:au):Option Int:=
  some (bJ (p0.X0-p1.X0))

def fI(c:(List au)):List au→Nat→List Int→Option ((List Int)×(List au))
  | [],_,a=>
    some (a,c)
  | d ::b,e,a=>
    (if(decide (0≤(bJ ((a.length:Int)-1)))) then 
      (idx a (bJ ((a.length:Int)-1))).bind fun f=>
      some (decide (d.X0≤f))
     else some false).bind fun g=>
    if g then
      (idx a (bJ ((a.length:Int)-1))).bind fun h=>
      (idx a (bJ ((a.length:Int)-1))).bind fun _=>
      (sets a (bJ ((a.length:Int)-1)) (max h d.X1)).bind fun i=>
      (fI c b (e+1)) i
    else
      (vD a [d.X0,d.X1]).bind fun j=>
      (fI c b (e+1)) j
noncomputable def mQ(p0:(List au)):Option ((List Int)×(List au)):=
  (Dn p0 (fun z0 z1=>kz z0 z1)).bind fun a=>
  fI a a 0 ([]:List Int)

def fP(p1:(List Int)):List Int→Nat→Option Bool
  | [],_=>
    some true
  | d ::b,a=>
    (idx p1 (a:Int)).bind fun c=>
    if(d !=c) then
      some false
    else
      (fP p1 b (a+1))
def lW(p0:(List Int))(p1:(List Int)):Option Bool:=
  if((p0.length:Int) !=(p1.length:Int)) then
    some false
  else
    fP p1 p0 0


def iB(p0:(List aQ))(p1:aQ):Option (List aQ):=
  if(((p1.Xs.length:Int)==0)||(decide (p1.Y1≤p1.Y0))) then
    some p0
  else
    (if(decide (0≤(bJ ((p0.length:Int)-1)))) then 
      (idx p0 (bJ ((p0.length:Int)-1))).bind fun b=>
      some (b.Y1==p1.Y0)
     else some false).bind fun c=>
    (if c then 
      (idx p0 (bJ ((p0.length:Int)-1))).bind fun d=>
      (lW d.Xs p1.Xs).bind fun e=>
      some e
     else some false).bind fun f=>
    if f then
      (idx p0 (bJ ((p0.length:Int)-1))).bind fun a=>
      (sets p0 (bJ ((p0.length:Int)-1)) (aQ.mk a.Y0 p1.Y1 a.Xs)).bind fun g=>
      some g
    else
      (vD p0 [p1]).bind fun h=>
      some h

noncomputable def jo(c:(List au))(d:(List Int))(a:Int)(e:List aQ)(h:Int→(List aQ)→(List au)→Int→Option (List aQ)):Nat→List au→Int→Option (List aQ)
  |0,_,_=>none
  | t +1,f,b=>
    (if(decide (b<(c.length:Int))) then 
      (idx c b).bind fun i=>
      (idx d a).bind fun j=>
      some (decide (i.Y0≤j))
     else some false).bind fun l=>
    if l then
      (idx c b).bind fun n=>
      (vD f [n]).bind fun o=>
      (jo c d a e h t) o (bJ (b+1))
    else
      (idx d a).bind fun p=>
      (idx d (bJ (a+1))).bind fun q=>
      (mQ f).bind fun g=>
      (iB e (aQ.mk p q g.1)).bind fun s=>
      h (bJ (a+1)) s g.2 b
noncomputable def fq(N:Nat)(c:(List au))(a:(List Int)):Nat→Int→List aQ→List au→Int→Option (List aQ)
  |0,_,_,_,_=>none
  | h +1,b,d,e,f=>
    if(decide ((bJ (b+1))<(a.length:Int))) then
      (jL N e (fun z0=>mH z0 a b)).bind fun g=>
      jo c a b d (fq N c a h) N g f
    else
      some d
noncomputable def jq(N:Nat)(b:(List au)):List au→Nat→List Int→Option (List aQ)
  | [],_,a=>
    (G7 a).bind fun f=>
    (Re f).bind fun g=>
    fq N b g N 0 ([]:List aQ) ([]:List au) 0
  | e::c,d,a=>
    (vD a [e.Y0,e.Y1]).bind fun h=>
    (jq N b c (d+1)) h
noncomputable def fV(N:Nat)(p0:(List au)):Option (List aQ):=
  (ny p0).bind fun b=>
  (Dn b (fun z0 z1=>mI z0 z1)).bind fun a=>
  jq N a a 0 ([]:List Int)

def fQ(d:(List au)→Option (List au))(a:aQ):Nat→List au→Int→Option (List au)
  |0,_,_=>none
  | h +1,c,b=>
    if(decide (b<(a.Xs.length:Int))) then
      (idx a.Xs b).bind fun e=>
      (idx a.Xs (bJ (b+1))).bind fun f=>
      (vD c [(au.mk e a.Y0 f a.Y1)]).bind fun g=>
      (fQ d a h) g (bJ (b+2))
    else
      d c
def dR(N:Nat):List aQ→Nat→List au→Option (List au)
  | [],_,a=>
    some a
  | d::b,c,a=>
    fQ (dR N b (c+1)) d N a 0
def gQ(N:Nat)(p0:(List aQ)):Option (List au):=
  dR N p0 0 ([]:List au)

def fF(p1:(List au)):List au→Nat→Option Bool
  | [],_=>
    some true
  | d ::b,a=>
    (idx p1 (a:Int)).bind fun c=>
    if(!(vS d c)) then
      some false
    else
      (fF p1 b (a+1))
def ky(p0:(List au))(p1:(List au)):Option Bool:=
  if((p0.length:Int) !=(p1.length:Int)) then
    some false
  else
    fF p1 p0 0

noncomputable def dO(N:Nat)(p0:(List au)):Nat→Int→Option Int
  |0,_=>none
  | g + 1,a=>
    if (decide (a<(p0.length:Int))) then
      (idx p0 (bJ (a-1))).bind fun b=>
      (idx p0 a).bind fun c=>
      if((decide (c.Y0<b.Y0))||((c.Y0==b.Y0)&&(decide (c.X0≤b.X0)))) then
        some 8
      else
        (dO N p0 g) (bJ (a+1))
    else
      (fV N p0).bind fun d=>
      (gQ N d).bind fun e=>
      (ky e p0).bind fun f=>
      if(!f) then
        some 3
      else
        some 0
noncomputable def fZ(N:Nat)(p0:(List au)):Option Int:=
  (lZ p0).bind fun a=>
  if(a !=0) then
    some a
  else
    dO N p0 N 1

noncomputable def jJ(N:Nat):List mE→Nat→Int→Option Int
  | [],_,a=>
    if(decide (2000<a)) then
      some 2
    else
      some 0
  | b ::c,e,a=>
    (qQ b.Layer (-1) 15).bind fun f=>
    if(!f) then
      some 1
    else
      (fZ N b.Region).bind fun d=>
      if(d !=0) then
        some d
      else
        (qR b.Clearance).bind fun g=>
        if(!g) then
          some 1
        else
          (jJ N c (e+1)) (bJ (a+(b.Region.length:Int)))
noncomputable def kS(N:Nat)(p0:gp):Option Int:=
  (kE [p0.Clearance,p0.Width,p0.Ring,p0.Edge,p0.HoleGap] (fun z0=>ed z0)).bind fun b=>
  if b then
    some 1
  else
    (oO p0.Classes).bind fun a=>
    if(a !=0) then
      some a
    else
      if(decide (50<(p0.Areas.length:Int))) then
        some 2
      else
        jJ N p0.Areas 0 0


def iO(p0:Int)(p1:Int)(p2:Int):Option Bool:=
  some ((decide (p1≤p0))&&(decide (p0≤p2)))


def mJ(p0:fC):Option Bool:=
  (kT p0.X).bind fun a=>
  (if a then 
    (kT p0.Y).bind fun b=>
    some b
   else some false).bind fun c=>
  some c


def iY(p0:gP):Option au:=
  some (au.mk (bJ (p0.At.X-(bJ (Int.tdiv p0.Size 2)))) (bJ (p0.At.Y-(bJ (Int.tdiv p0.Size 2)))) (bJ ((bJ (p0.At.X-(bJ (Int.tdiv p0.Size 2))))+p0.Size)) (bJ ((bJ (p0.At.Y-(bJ (Int.tdiv p0.Size 2))))+p0.Size)))

def gJ(c:aQ)(d:aQ):List aQ→Nat→Int→Int→Option au
  | [],_,a,b=>
    some (au.mk a c.Y0 b d.Y1)
  | e::f,g,a,b=>
    (idx e.Xs 0).bind fun h=>
    (idx e.Xs (bJ ((e.Xs.length:Int)-1))).bind fun i=>
    (gJ c d f (g+1)) (min a h) (max b i)
def lF(p0:(List aQ)):Option au:=
  (idx p0 0).bind fun a=>
  (idx a.Xs 0).bind fun b=>
  (idx p0 0).bind fun c=>
  (idx p0 0).bind fun d=>
  (idx d.Xs 1).bind fun e=>
  (idx p0 (bJ ((p0.length:Int)-1))).bind fun f=>
  gJ c f p0 0 b e


def lm(p0:(List aQ)):Option Bool:=
  (if((p0.length:Int)==0) then some true else 
    (lF p0).bind fun a=>
    (nE a).bind fun b=>
    some b
  ).bind fun c=>
  some c


noncomputable def nW(N:Nat)(p0:gP):Option (au×Int):=
  (iO p0.Size 1 10000).bind fun b=>
  (if(!b) then some true else 
    (mJ p0.At).bind fun c=>
    some (!c)
  ).bind fun d=>
  if d then
    some ((au.mk 0 0 0 0),1)
  else
    (iY p0).bind fun a=>
    (fV N [a]).bind fun e=>
    (lm e).bind fun f=>
    if(!f) then
      some ((au.mk 0 0 0 0),1)
    else
      some (a,0)

noncomputable def gL(N:Nat)(p0:nU):List gP→Nat→Option Int
  | [],_=>
    some 0
  | a ::b,d=>
    (nW N a).bind fun c=>
    if(c.2 !=0) then
      some c.2
    else
      (iO a.From 0 (bJ ((p0.Coppers.length:Int)-1))).bind fun e=>
      (if(!e) then some true else 
        (iO a.To a.From (bJ ((p0.Coppers.length:Int)-1))).bind fun f=>
        some (!f)
      ).bind fun g=>
      if g then
        some 1
      else
        (gL N p0 b (d+1))
noncomputable def lJ(N:Nat)(p0:nU):Option Int:=
  if(decide (500<(p0.Bores.length:Int))) then
    some 2
  else
    gL N p0 p0.Bores 0


def ku(p0:pG):Option wK:=
  some (wK.mk p0.Part p0.Pin)



def kI(p0:wK)(p1:wK):Option Int:=
  (MB p0.Part p1.Part).bind fun a=>
  if(a !=0) then
    some a
  else
    (MB p0.Pin p1.Pin).bind fun b=>
    some b

def gK(N :Nat)(p0:nU):List pG→Nat→Option Int
  | [],_=>
    some 0
  | a :: c,b=>
    (lQ N a.Part).bind fun f=>
    (if(!f) then some true else 
      (nJ N a.Pin).bind fun g=>
      some (!g)
    ).bind fun h=>
    if h then
      some 5
    else
      (iO a.Layer 0 (bJ ((p0.Coppers.length:Int)-1))).bind fun i=>
      (if(!i) then some true else 
        (mJ a.At).bind fun j=>
        some (!j)
      ).bind fun l=>
      if l then
        some 1
      else
        (if(decide (0<(b:Int))) then 
          (ku a).bind fun d=>
          (idx p0.Lands (bJ ((b:Int)-1))).bind fun n=>
          (ku n).bind fun e=>
          (kI (wK.mk d.Part d.Pin) (wK.mk e.Part e.Pin)).bind fun o=>
          some (decide (o≤0))
         else some false).bind fun p=>
        if p then
          some 8
        else
          (gK N p0 c (b+1))
def lI(N:Nat)(p0:nU):Option Int:=
  if(decide (1000<(p0.Lands.length:Int))) then
    some 2
  else
    gK N p0 p0.Lands 0


def mF(p0:Int)(p1:Int)(p2:Int)(p3:Int):Option Int:=
  some (max (max 0 (bJ ((bJ (p2-p1))+1))) (bJ ((bJ (p0-p3))+1)))


def lN(p0:au)(p1:au):Option Int:=
  (mF p0.X0 p0.X1 p1.X0 p1.X1).bind fun a=>
  (mF p0.Y0 p0.Y1 p1.Y0 p1.Y1).bind fun b=>
  some (max a b)


def jS(p0:gP)(p1:Int):Option Bool:=
  some ((decide (p0.From≤p1))&&(decide (p1≤p0.To)))


def mG(p0:(List aQ))(p1:Int)(p2:Int):Option ((List Int)×Int):=
  if((p0.length:Int)==0) then
    some (([]:List Int),p2)
  else
    (idx p0 0).bind fun a=>
    if(decide (p1<a.Y0)) then
      (idx p0 0).bind fun b=>
      some ([],(min p2 b.Y0))
    else
      (idx p0 0).bind fun c=>
      (idx p0 0).bind fun d=>
      some (c.Xs,(min p2 d.Y1))

def lu(p2:Bool→Bool→Option Bool)(c:List Int)(d:Bool)(h:(List Int)→(List Int)→(List Int)→Bool→Bool→Bool→Option (List Int))(i:Int)(e:List Int)(a:Bool)(f:List Int)(b:Bool):Option (List Int):=
  (p2 a b).bind fun g=>
  if(g !=d) then
    (vD c [i]).bind fun j=>
    h e f j a b g
  else
    h e f c a b d
def jM(p2:Bool→Bool→Option Bool)(a:List Int)(c:List Int)(d:Bool)(e:Bool)(h:(List Int)→(List Int)→(List Int)→Bool→Bool→Bool→Option (List Int))(b:Int)(f:List Int)(g:Bool):Option (List Int):=
  (if(decide (0<(a.length:Int))) then 
    (idx a 0).bind fun i=>
    some (i==b)
   else some false).bind fun j=>
  if j then
    (cut a 1 (a.length:Int)).bind fun l=>
    lu p2 c e h b f g l (!d)
  else
    lu p2 c e h b f g a d
def jl(p2:Bool→Bool→Option Bool)(a:List Int)(c:List Int)(d:List Int)(e:Bool)(f:Bool)(g:Bool)(h:(List Int)→(List Int)→(List Int)→Bool→Bool→Bool→Option (List Int))(b:Int):Option (List Int):=
  (if(decide (0<(a.length:Int))) then 
    (idx a 0).bind fun i=>
    some (i==b)
   else some false).bind fun j=>
  if j then
    (cut a 1 (a.length:Int)).bind fun l=>
    jM p2 c d f g h b l (!e)
  else
    jM p2 c d f g h b a e
def dM(p2:Bool→Bool→Option Bool):Nat→List Int→List Int→List Int→Bool→Bool→Bool→Option (List Int)
  |0,_,_,_,_,_,_=>none
  | g + 1,a,b,c,d,e,f=>
    if ((decide (0<(a.length:Int)))||(decide (0<(b.length:Int)))) then
      (if ((b.length:Int)==0) then some true else 
        (if(decide (0<(a.length:Int))) then 
          (idx a 0).bind fun h=>
          (idx b 0).bind fun i=>
          some (decide (h≤i))
         else some false).bind fun j=>
        some j
      ).bind fun l=>
      if l then
        (idx a 0).bind fun n=>
        jl p2 a b c d e f (dM p2 g) n
      else
        (idx b 0).bind fun o=>
        jl p2 a b c d e f (dM p2 g) o
    else
      some c
def qN(N:Nat)(p0:(List Int))(p1:(List Int))(p2:Bool→Bool→Option Bool):Option (List Int):=
  dM p2 N p0 p1 ([]:List Int) false false false

def jP(b:List (List aQ))(c:Int)(h:Int→Int→(List (List aQ))→Int→Option (List aQ))(a:(List aQ))(d:Int)(e:Int):Option (List aQ):=
  (idx a 0).bind fun f=>
  (idx a (bJ ((a.length:Int)-1))).bind fun g=>
  h (min d f.Y0) (max e g.Y1) b (bJ (c+1))
def jE(N:Nat)(p2:Bool→Bool→Option Bool)(c:Int)(g:List aQ)(b:Int)(h:(List aQ)→(List aQ)→(List aQ)→Int→Option (List aQ))(d:List aQ):Nat→List aQ→Option (List aQ)
  |0,_=>none
  | i +1,a=>
    (if(decide (0<(a.length:Int))) then 
      (idx a 0).bind fun j=>
      some (decide (j.Y1≤b))
     else some false).bind fun l=>
    if l then
      (cut a 1 (a.length:Int)).bind fun n=>
      (jE N p2 c g b h d i) n
    else
      (mG d b c).bind fun e=>
      (mG a b c).bind fun f=>
      (qN N e.1 f.1 p2).bind fun o=>
      (iB g (aQ.mk b (min e.2 f.2) o)).bind fun p=>
      h d a p (min e.2 f.2)
def jF(N:Nat)(p2:Bool→Bool→Option Bool)(c:Int)(d:List aQ)(e:List aQ)(b:Int)(f:(List aQ)→(List aQ)→(List aQ)→Int→Option (List aQ)):Nat→List aQ→Option (List aQ)
  |0,_=>none
  | g +1,a=>
    (if(decide (0<(a.length:Int))) then 
      (idx a 0).bind fun h=>
      some (decide (h.Y1≤b))
     else some false).bind fun i=>
    if i then
      (cut a 1 (a.length:Int)).bind fun j=>
      (jF N p2 c d e b f g) j
    else
      jE N p2 c e b f a N d
def fK(N:Nat)(p2:Bool→Bool→Option Bool)(a:Int):Nat→List aQ→List aQ→List aQ→Int→Option (List aQ)
  |0,_,_,_,_=>none
  | f +1,d,e,b,c=>
    if(decide (c<a)) then
      jF N p2 a e b c (fK N p2 a f) N d
    else
      some b
def dH(N :Nat)(p0:(List aQ))(p1:(List aQ))(p2:Bool→Bool→Option Bool):Nat→Int→Int→List (List aQ)→Int→Option (List aQ)
  |0,_,_,_,_=>none
  | f + 1,d,e,c,a=>
    if (decide (a<2)) then
      (idx c a).bind fun b=>
      if (decide (0<(b.length:Int))) then
        if((a==0)||((p0.length:Int)==0)) then
          (idx b 0).bind fun g=>
          (idx b (bJ ((b.length:Int)-1))).bind fun h=>
          jP c a (dH N p0 p1 p2 f) b g.Y0 h.Y1
        else
          jP c a (dH N p0 p1 p2 f) b d e
      else
        (dH N p0 p1 p2 f) d e c (bJ (a+1))
    else
      fK N p2 e N p0 p1 ([]:List aQ) d
def mZ(N:Nat)(p0:(List aQ))(p1:(List aQ))(p2:Bool→Bool→Option Bool):Option (List aQ):=
  if((bJ ((p0.length:Int)+(p1.length:Int)))==0) then
    some ([]:List aQ)
  else
    dH N p0 p1 p2 N 0 0 [p0,p1] 0


def lD(p0:Bool)(p1:Bool):Option Bool:=
  some (p0&&(!p1))


def oq(N:Nat)(p0:(List aQ))(p1:(List aQ)):Option (List aQ):=
  (mZ N p0 p1 (fun z0 z1=>lD z0 z1)).bind fun a=>
  some a

def gI:List aQ→Nat→Int→Option Int
  | [],_,a=>
    some a
  | d::b,c,a=>
    (gI b (c+1)) (bJ (a+(bJ (Int.tdiv (d.Xs.length:Int) 2))))
def lh(p0:(List aQ)):Option Int:=
  gI p0 0 0

def fe:Nat→List Int→Int→Option (Int×(List Int))
  |0,_,_=>none
  | h +1,b,a=>
    (idx b a).bind fun d=>
    if(d !=a) then
      (idx b a).bind fun e=>
      (idx b e).bind fun f=>
      (idx b a).bind fun _=>
      (sets b a f).bind fun c=>
      (idx c a).bind fun g=>
      (fe h) c g
    else
      some (a,b)
def iC(N:Nat)(p0:Int)(q0:(List Int)):Option (Int×(List Int)):=
  fe N q0 p0

noncomputable def dN(N:Nat):List (List au)→Nat→List (List aQ)→Option (List (List aQ))
  | [],_,a=>
    some a
  | d::b,c,a=>
    (fV N d).bind fun e=>
    (vD a [e]).bind fun f=>
    (dN N b (c+1)) f
def iJ(c:(List (Int×Int))→(List (List au))→(List Int)→Option (List (List aQ)))(d:au)(e:(Int×(List Int)))(f:List (Int×Int))(a:List (List au))(b:Int):Option (List (List aQ)):=
  (idx a b).bind fun g=>
  (vD g [d]).bind fun h=>
  (sets a b h).bind fun i=>
  c f i e.2
noncomputable def bQ(N:Nat):List au→Nat→List (Int×Int)→List (List au)→List Int→Option (List (List aQ))
  | [],_,_,a,_=>
    dN N a 0 ([]:List (List aQ))
  | g ::b,c,d,a,f=>
    (iC N (c:Int) f).bind fun e=>
    (Cw d e.1).bind fun h=>
    if(!h.2) then
      (Cu d e.1 (a.length:Int)).bind fun i=>
      (vD a [[]]).bind fun j=>
      iJ (bQ N b (c+1)) g e i j (a.length:Int)
    else
      iJ (bQ N b (c+1)) g e d a h.1
def fG(a:Int)(b:(List Int)→Int→Int→Option (List (List aQ)))(c:aQ)(d:List Int):Option (List (List aQ)):=
  b d (bJ (a+(bJ (Int.tdiv (c.Xs.length:Int) 2)))) a
def iI(c:(List au))(a:Int)(b:Int)(d:(List Int)→Int→Int→Option (List (List aQ)))(e:List Int):Option (List (List aQ)):=
  (idx c a).bind fun f=>
  (idx c b).bind fun g=>
  if(decide (f.X1<g.X1)) then
    d e (bJ (a+1)) b
  else
    d e a (bJ (b+1))
def dZ(N:Nat)(a:(List au))(d:Int)(h:(List Int)→Int→Int→Option (List (List aQ)))(f:aQ):Nat→List Int→Int→Int→Option (List (List aQ))
  |0,_,_,_=>none
  | j + 1,i,b,c=>
    if ((decide (b<d))&&(decide (c<(bJ (d+(bJ (Int.tdiv (f.Xs.length:Int) 2))))))) then
      (idx a b).bind fun l=>
      (idx a c).bind fun n=>
      (if(decide (l.X0<n.X1)) then 
        (idx a c).bind fun o=>
        (idx a b).bind fun p=>
        some (decide (o.X0<p.X1))
       else some false).bind fun q=>
      if q then
        (iC N b i).bind fun g=>
        (iC N c g.2).bind fun e=>
        (idx e.2 (max g.1 e.1)).bind fun _=>
        (sets e.2 (max g.1 e.1) (min g.1 e.1)).bind fun s=>
        iI a b c (dZ N a d h f j) s
      else
        iI a b c (dZ N a d h f j) i
    else
      fG d h f i
noncomputable def bI(N:Nat)(p0:(List aQ))(c:(List au)):List aQ→Nat→List Int→Int→Int→Option (List (List aQ))
  | [],_,d,_,_=>
    bQ N c 0 ([]:List (Int×Int)) ([]:List (List au)) d
  | f ::b,a,d,e,g=>
    (if(decide (0<(a:Int))) then 
      (idx p0 (bJ ((a:Int)-1))).bind fun h=>
      some (h.Y1==f.Y0)
     else some false).bind fun i=>
    if i then
      dZ N c e (bI N p0 c b (a+1)) f N d g e
    else
      fG e (bI N p0 c b (a+1)) f d
noncomputable def gX(N:Nat)(p0:(List aQ))(c:(List au))(d:List Int):Nat→List Int→Int→Option (List (List aQ))
  |0,_,_=>none
  | f +1,b,a=>
    if(decide (a<(d.length:Int))) then
      (idx b a).bind fun _=>
      (sets b a a).bind fun e=>
      (gX N p0 c d f) e (bJ (a+1))
    else
      bI N p0 c p0 0 b 0 0
noncomputable def kQ(N:Nat)(p0:(List aQ)):Option (List (List aQ)):=
  (gQ N p0).bind fun a=>
  (I1 0 (a.length:Int)).bind fun b=>
  gX N p0 a b N b 0

def eU(N:Nat)(e:(List (List aQ))→(List eQ)→Bool→Option (Bool×(List (List aQ))×(List eQ)))(f:Nat)(b:Bool)(c:List (List aQ)):List (List aQ)→Nat→List eQ→Option (Bool×(List (List aQ))×(List eQ))
  | [],_,a=>
    e c a b
  | h::d,g,a=>
    (gQ N h).bind fun i=>
    (vD a [(eQ.mk (f:Int) h i)]).bind fun j=>
    (eU N e f b c d (g+1)) j
noncomputable def dK(N:Nat)(c:List (List aQ))(d:List eQ)(e:Bool)(h:(List (List aQ))→(List eQ)→Bool→Option (Bool×(List (List aQ))×(List eQ)))(i:(List au))(g:Nat):List gP→Nat→List au→Option (Bool×(List (List aQ))×(List eQ))
  | [],_,a=>
    (fV N i).bind fun n=>
    (fV N a).bind fun o=>
    (oq N n o).bind fun f=>
    (if e then 
      (lh f).bind fun p=>
      some (decide (p≤2000))
     else some false).bind fun q=>
    (vD c [f]).bind fun s=>
    (kQ N f).bind fun t=>
    eU N h g q s t 0 d
  | l ::b,j,a=>
    (jS l (g:Int)).bind fun u=>
    if u then
      (iY l).bind fun v=>
      (vD a [v]).bind fun w=>
      (dK N c d e h i g b (j+1)) w
    else
      (dK N c d e h i g b (j+1)) a
noncomputable def dx(N:Nat)(p0:dD):List (List au)→Nat→List (List aQ)→List eQ→Bool→Option (Bool×(List (List aQ))×(List eQ))
  | [],_,b,a,c=>
    some ((c&&(decide ((a.length:Int)≤2000))),b,a)
  | f::e,d,b,a,c=>
    dK N b a c (dx N p0 e (d+1)) f d p0.Art.Bores 0 ([]:List au)
noncomputable def kK(N:Nat)(p0:dD):Option (Bool×(List (List aQ))×(List eQ)):=
  dx N p0 p0.Art.Coppers 0 p0.Drilled p0.Pieces true


def sF(p0:au)(p1:au):Option Bool:=
  some ((((decide (p0.X0<p1.X1))&&(decide (p1.X0<p0.X1)))&&((p0.Y1==p1.Y0)||(p1.Y1==p0.Y0)))||(((decide (p0.Y0<p1.Y1))&&(decide (p1.Y0<p0.Y1)))&&((p0.X1==p1.X0)||(p1.X1==p0.X0))))


def ja(p0:au)(q0:gP):Option Bool:=
  (iY q0).bind fun a=>
  (sF p0 a).bind fun b=>
  some b


def fO(p0:(List au))(p1:au→Option Bool):Option Bool:=
  (il p0 p1).bind fun a=>
  some (decide (0≤a))

def dV(d:List (List Int))(f:(List (List Int))→Option (List (List Int)))(a:gP):List eQ→Nat→List Int→Option (List (List Int))
  | [],_,b=>
    (vD d [b]).bind fun h=>
    f h
  | g ::c,e,b=>
    (if a.Plated then 
      (jS (gP.mk a.At a.Size a.From a.To true) g.Layer).bind fun i=>
      some i
     else some false).bind fun j=>
    (if j then 
      (fO g.Rects (fun z0=>ja z0 a)).bind fun l=>
      some l
     else some false).bind fun n=>
    if n then
      (vD b [(e:Int)]).bind fun o=>
      (dV d f a c (e+1)) o
    else
      (dV d f a c (e+1)) b
def dW(p0:dD):List gP→Nat→List (List Int)→Option (List (List Int))
  | [],_,a=>
    some a
  | d::b,c,a=>
    dV a (dW p0 b (c+1)) d p0.Pieces 0 ([]:List Int)
def kJ(p0:dD):Option (List (List Int)):=
  dW p0 p0.Art.Bores 0 p0.Touched

def gY:List Int→Nat→List Int→Option og
  | [],_,a=>
    some (og.mk a)
  | _::c,b,a=>
    (idx a (b:Int)).bind fun _=>
    (sets a (b:Int) (b:Int)).bind fun d=>
    (gY c (b+1)) d
def ma(p0:Int):Option og:=
  (I1 0 p0).bind fun a=>
  gY a 0 a

def fU:Nat→List Int→Int→Option (Int×(List Int))
  |0,_,_=>none
  | h +1,b,a=>
    (idx b a).bind fun d=>
    if(d !=a) then
      (idx b a).bind fun e=>
      (idx b e).bind fun f=>
      (idx b a).bind fun _=>
      (sets b a f).bind fun c=>
      (idx c a).bind fun g=>
      (fU h) c g
    else
      some (a,b)
def jR(N:Nat)(p0:og)(p1:Int):Option (Int×(List Int)):=
  fU N p0.up p1


def kH(N:Nat)(p0:og)(p1:Int)(p2:Int):Option (List Int):=
  (jR N p0 p1).bind fun b=>
  (jR N (og.mk b.2) p2).bind fun a=>
  (idx a.2 (max b.1 a.1)).bind fun _=>
  (sets a.2 (max b.1 a.1) (min b.1 a.1)).bind fun c=>
  some c

def gT(h:(List (List Int))→(List (Int×Int))→(List Int)→Option ((List (List Int))×(List Int)))(i:Nat)(a:(Int×(List Int)))(b:List (List Int))(c:List (Int×Int)):Option ((List (List Int))×(List Int)):=
  (F6 c a.1).bind fun d=>
  (idx b d).bind fun e=>
  (vD e [(i:Int)]).bind fun f=>
  (sets b d f).bind fun g=>
  h g c a.2
def dJ(N:Nat):List Int→Nat→List (List Int)→List (Int×Int)→List Int→Option ((List (List Int))×(List Int))
  | [],_,b,_,e=>
    some (b,e)
  | _ ::c,a,b,d,e=>
    (jR N (og.mk e) (a:Int)).bind fun f=>
    if(f.1==(a:Int)) then
      (Cu d (a:Int) (b.length:Int)).bind fun g=>
      (vD b [[]]).bind fun h=>
      gT (dJ N c (a+1)) a f h g
    else
      gT (dJ N c (a+1)) a f b d
def mq(N:Nat)(p0:og):Option ((List (List Int))×(List Int)):=
  dJ N p0.up 0 ([]:List (List Int)) ([]:List (Int×Int)) p0.up


def lG(p0:au)(q0:fC):Option Bool:=
  some ((((decide (p0.X0≤q0.X))&&(decide (q0.X<p0.X1)))&&(decide (p0.Y0≤q0.Y)))&&(decide (q0.Y<p0.Y1)))


def kr(p0:(List au))(p1:fC):Option Bool:=
  (fO p0 (fun z0=>lG z0 p1)).bind fun a=>
  some a

def fJ(p1:pG):List eQ→Nat→Option (oC×Bool)
  | [],_=>
    some ((oC.mk false 0),false)
  | c ::b,a=>
    (if(c.Layer==p1.Layer) then 
      (kr c.Rects p1.At).bind fun d=>
      some d
     else some false).bind fun e=>
    if e then
      some ((oC.mk false (a:Int)),true)
    else
      (fJ p1 b (a+1))
def eT(p0:dD)(p1:pG):List gP→Nat→Option (oC×Bool)
  | [],_=>
    fJ p1 p0.Pieces 0
  | a ::b,c=>
    (if a.Plated then 
      (jS (gP.mk a.At a.Size a.From a.To true) p1.Layer).bind fun d=>
      some d
     else some false).bind fun e=>
    if e then
      (iY a).bind fun f=>
      (kr [f] p1.At).bind fun g=>
      if g then
        some ((oC.mk true (c:Int)),true)
      else
        (eT p0 p1 b (c+1))
    else
      (eT p0 p1 b (c+1))
def mr(p0:dD)(p1:pG):Option (oC×Bool):=
  eT p0 p1 p0.Art.Bores 0


def je(p0:dD)(p1:oC):Option Int:=
  if p1.Bore then
    (idx p0.OfBore p1.Number).bind fun a=>
    some a
  else
    (idx p0.OfPiece p1.Number).bind fun b=>
    some b

def fH(a:List Int)(b:List oC)(h:(List dz)→(List Int)→(List oC)→Option ((List dz)×(List Int)×(List Int)×(List Int)×(List oC)))(c:(oC×Bool))(d:List dz)(e:Int):Option ((List dz)×(List Int)×(List Int)×(List Int)×(List oC)):=
  (vD a [e]).bind fun f=>
  (vD b [c.1]).bind fun g=>
  h d f g
def cK(p0:dD)(d:List Int)(e:List Int):List pG→Nat→List dz→List Int→List oC→Option ((List dz)×(List Int)×(List Int)×(List Int)×(List oC))
  | [],_,a,b,c=>
    some (a,d,e,b,c)
  | n ::g,j,a,b,c=>
    (mr (dD.mk p0.Art p0.Drilled p0.Pieces p0.Touched a d e b c) n).bind fun f=>
    if f.2 then
      (je (dD.mk p0.Art p0.Drilled p0.Pieces p0.Touched a d e b c) f.1).bind fun h=>
      (idx a h).bind fun i=>
      (ku n).bind fun l=>
      (vD i.Pins [(wK.mk l.Part l.Pin)]).bind fun o=>
      fH b c (cK p0 d e g (j+1)) f (List.set a (h).toNat (dz.mk i.Pieces i.Bores o)) h
    else
      fH b c (cK p0 d e g (j+1)) f a (-1)
def cZ(p0:dD)(c:List dz)(i:(List dz)→(List Int)→(List Int)→Option ((List dz)×(List Int)×(List Int)×(List Int)×(List oC))):List Int→Nat→List Int→List Int→List Int→List Int→Option ((List dz)×(List Int)×(List Int)×(List Int)×(List oC))
  | [],_,d,b,e,f=>
    if(decide (0<(bJ ((e.length:Int)+(f.length:Int))))) then
      (vD c [(dz.mk e f [])]).bind fun j=>
      i j d b
    else
      i c d b
  | a ::g,h,d,b,e,f=>
    if(decide (a<(p0.Pieces.length:Int))) then
      (idx d a).bind fun _=>
      (sets d a (c.length:Int)).bind fun l=>
      (vD e [a]).bind fun n=>
      (cZ p0 c i g (h+1)) l b n f
    else
      (idx p0.Art.Bores (bJ (a-(p0.Pieces.length:Int)))).bind fun o=>
      if o.Plated then
        (idx b (bJ (a-(p0.Pieces.length:Int)))).bind fun _=>
        (sets b (bJ (a-(p0.Pieces.length:Int))) (c.length:Int)).bind fun p=>
        (vD f [(bJ (a-(p0.Pieces.length:Int)))]).bind fun q=>
        (cZ p0 c i g (h+1)) d p e q
      else
        (idx b (bJ (a-(p0.Pieces.length:Int)))).bind fun _=>
        (sets b (bJ (a-(p0.Pieces.length:Int))) (-1)).bind fun s=>
        (cZ p0 c i g (h+1)) d s e f
def dm(p0:dD):List (List Int)→Nat→List dz→List Int→List Int→Option ((List dz)×(List Int)×(List Int)×(List Int)×(List oC))
  | [],_,a,b,c=>
    cK p0 b c p0.Art.Lands 0 a p0.OfLand p0.AtLand
  | f::d,e,a,b,c=>
    cZ p0 a (dm p0 d (e+1)) f 0 b c ([]:List Int) ([]:List Int)
def eO(N:Nat)(p0:dD)(d:(List Int)→Option ((List dz)×(List Int)×(List Int)×(List Int)×(List oC)))(e:Nat):List Int→Nat→List Int→Option ((List dz)×(List Int)×(List Int)×(List Int)×(List oC))
  | [],_,a=>
    d a
  | f::b,c,a=>
    (kH N (og.mk a) f (bJ ((p0.Pieces.length:Int)+(e:Int)))).bind fun g=>
    (eO N p0 d e b (c+1)) g
def dn(N:Nat)(p0:dD):List (List Int)→Nat→List Int→Option ((List dz)×(List Int)×(List Int)×(List Int)×(List oC))
  | [],_,a=>
    (I1 0 (p0.Pieces.length:Int)).bind fun d=>
    (I1 0 (p0.Art.Bores.length:Int)).bind fun e=>
    (mq N (og.mk a)).bind fun f=>
    dm p0 f.1 0 p0.Groups d e
  | g::c,b,a=>
    eO N p0 (dn N p0 c (b+1)) b g 0 a
def jW(N:Nat)(p0:dD):Option ((List dz)×(List Int)×(List Int)×(List Int)×(List oC)):=
  (ma (bJ ((p0.Pieces.length:Int)+(p0.Art.Bores.length:Int)))).bind fun a=>
  dn N p0 p0.Touched 0 a.up

def jV(f:Option ((Option dD)×Int))(c:gP):List gP→Nat→List gP→Option ((Option dD)×Int)
  | [],_,_=>
    f
  | _ ::e,d,a=>
    (idx a (d:Int)).bind fun b=>
    (if((decide (c.From≤b.To))&&(decide (b.From≤c.To))) then 
      (iY c).bind fun g=>
      (iY b).bind fun h=>
      (lN g h).bind fun i=>
      some (i==0)
     else some false).bind fun j=>
    if j then
      some (none,12)
    else
      (jV f c e (d+1)) a
noncomputable def gF(N:Nat)(p0:nU):List gP→Nat→Option ((Option dD)×Int)
  | [],_=>
    (kK N (dD.mk p0 ([]:List (List aQ)) ([]:List eQ) [] [] [] [] [] [])).bind fun a=>
    if(!a.1) then
      some (none,2)
    else
      (kJ (dD.mk p0 a.2.1 a.2.2 ([]:List (List Int)) [] [] [] [] [])).bind fun d=>
      (jW N (dD.mk p0 a.2.1 a.2.2 d ([]:List dz) ([]:List Int) ([]:List Int) ([]:List Int) ([]:List oC))).bind fun b=>
      some ((some (dD.mk p0 a.2.1 a.2.2 d b.1 b.2.1 b.2.2.1 b.2.2.2.1 b.2.2.2.2)),0)
  | g::e,c=>
    (pre p0.Bores (c:Int)).bind fun f=>
    jV (gF N p0 e (c+1)) g f 0 f
noncomputable def jy(N:Nat)(p0:nU):List (List au)→Nat→Int→Option ((Option dD)×Int)
  | [], _,a=>
    (fZ N p0.Outline).bind fun b=>
    if(b !=0) then
      some (none,b)
    else
      if(decide (2000<a)) then
        some (none,2)
      else
        (lJ N p0).bind fun c=>
        if(c !=0) then
          some (none,c)
        else
          (lI N p0).bind fun d=>
          if(d !=0) then
            some (none,d)
          else
            gF N p0 p0.Bores 0
  | h ::e,g,a=>
    (fZ N h).bind fun f=>
    if(f !=0) then
      some (none,f)
    else
      (jy N p0 e (g+1)) (bJ (a+(h.length:Int)))
noncomputable def jf(N:Nat)(p0:nU):Option ((Option dD)×Int):=
  if((p0.Coppers.length:Int)==0) then
    some (none,9)
  else
    if(decide (16<(p0.Coppers.length:Int))) then
      some (none,2)
    else
      jy N p0 p0.Coppers 0 (p0.Outline.length:Int)


def qh(N:Nat)(p0:ByteArray):Option Bool:=
  (if(DN p0 (⟨#[]⟩)) then some true else 
    (lQ N p0).bind fun a=>
    some a
  ).bind fun b=>
  some b


def kW(N:Nat)(p0:ByteArray):Option Bool:=
  (qh N p0).bind fun a=>
  some (!a)


noncomputable def kU(N:Nat)(p0:gp)(p1:nU)(p2:(List ByteArray)):Option ((Option dD)×Int):=
  (kS N p0).bind fun b=>
  if(b !=0) then
    some (none,b)
  else
    (jf N p1).bind fun a=>
    ui a.1 (
      if(a.2 !=0) then
        some (none,a.2)
      else
        none) fun c=>
    if(a.2 !=0) then
      some (none,a.2)
    else
      if((p2.length:Int) !=(c.Groups.length:Int)) then
        some (none,3)
      else
        (fA p2 (fun z0=>kW N z0)).bind fun d=>
        if d then
          some (none,5)
        else
          some ((some c),0)


def nP(p0:au)(p1:au)(p2:Int):Option fC:=
  some (fC.mk (max p0.X0 (bJ (p1.X0-p2))) (max p0.Y0 (bJ (p1.Y0-p2))))


def pq(p0:fC)(p1:fC):Option Bool:=
  some ((decide (p0.Y<p1.Y))||((p0.Y==p1.Y)&&(decide (p0.X<p1.X))))

def gD(c:Int)(a:Int)(b:Int):List au→Nat→Int→Int→Bool→Option AB
  | [],_,d,e,_=>
    some (AB.mk 0 0 (bJ (c-1)) (fC.mk a b) (fC.mk d e))
  | j ::f,i,d,e,g=>
    (nP j (au.mk a b (bJ (a+1)) (bJ (b+1))) c).bind fun h=>
    (lN j (au.mk a b (bJ (a+1)) (bJ (b+1)))).bind fun l=>
    (if (l==c) then 
      (if(!g) then some true else 
        (pq h (fC.mk d e)).bind fun n=>
        some n
      ).bind fun o=>
      some o
     else some false).bind fun p=>
    if p then
      (gD c a b f (i+1)) h.X h.Y true
    else
      (gD c a b f (i+1)) d e g
def iR(a:Int)(h:Int→Int→Bool→Option AB)(g:au):List au→Nat→Int→Int→Bool→Option AB
  | [],_,b,c,d=>
    h b c d
  | j ::e,i,b,c,d=>
    (nP g j a).bind fun f=>
    (lN g j).bind fun l=>
    (if (l==a) then 
      (if(!d) then some true else 
        (pq f (fC.mk b c)).bind fun n=>
        some n
      ).bind fun o=>
      some o
     else some false).bind fun p=>
    if p then
      (iR a h g e (i+1)) f.X f.Y true
    else
      (iR a h g e (i+1)) b c d
def iq(p1:(List au))(a:Int):List au→Nat→Int→Int→Bool→Option AB
  | [],_,b,c,_=>
    gD a b c p1 0 0 0 false
  | g::e,f,b,c,d=>
    iR a (iq p1 a e (f+1)) g p1 0 b c d
def jr(c:Int→Option AB)(d:au):List au→Nat→Int→Option AB
  | [],_,a=>
    c a
  | g ::b,e,a=>
    (lN d g).bind fun f=>
    if((decide (a<0))||(decide (f<a))) then
      (jr c d b (e+1)) f
    else
      (jr c d b (e+1)) a
def iT(p0:(List au))(p1:(List au)):List au→Nat→Int→Option AB
  | [],_,a=>
    iq p1 a p0 0 0 0 false
  | d::b,c,a=>
    jr (iT p0 p1 b (c+1)) d p1 0 a
def qf(p0:(List au))(p1:(List au)):Option AB:=
  iT p0 p1 p0 0 (-1)


def wy(p0:mE)(p1:Int):Option Bool:=
  some ((decide (p0.Layer<0))||(p0.Layer==p1))


def nS(p0:ByteArray):Option Bool:=
  some (!DN p0 p0)


def qV(p0:ByteArray)(p1:ByteArray):Option Bool:=
  (nS p0).bind fun a=>
  (if a then 
    (nS p1).bind fun b=>
    some (!b)
   else some false).bind fun c=>
  some (c||(QU p0 p1))


def mh(p0:ByteArray):Option Bool:=
  some (!DN p0 p0)

def fD(p0 :(List ByteArray))(p1:ByteArray):Nat→Int→Int→Option (Int×Bool)
  |0,_,_=>none
  | d + 1, a,b=>
    if (decide (a<b)) then
      (uO (bJ (a+b))).bind fun e=>
      (uO (e / 2)).bind fun c=>
      (idx p0 c).bind fun f=>
      (qV f p1).bind fun g=>
      if g then
        (fD p0 p1 d) (bJ (c+1)) b
      else
        (fD p0 p1 d) a c
    else
      (if (decide (a<(p0.length:Int))) then 
        (idx p0 a).bind fun h=>
        (if (DN h p1) then some true else 
          (idx p0 a).bind fun i=>
          (mh i).bind fun j=>
          (if j then 
            (mh p1).bind fun l=>
            some l
           else some false).bind fun n=>
          some n
        ).bind fun o=>
        some o
       else some false).bind fun p=>
      some (a,p)
def lq(N:Nat)(p0:(List ByteArray))(p1:ByteArray):Option (Int×Bool):=
  fD p0 p1 N 0 (p0.length:Int)

def kR(N:Nat)(p1:ByteArray):List kw→Nat→Option kw
  | [],_=>
    some (kw.mk (⟨#[]⟩) [] 0 0)
  | c ::a,b=>
    (lq N c.Nets p1).bind fun d=>
    if(d.2&&(!DN p1 (⟨#[]⟩))) then
      some c
    else
      (kR N p1 a (b+1))
def sw(N:Nat)(p0:gp)(p1:ByteArray):Option kw:=
  kR N p1 p0.Classes 0


def mR(N:Nat)(p0:gp)(p1:ByteArray):Option Int:=
  (sw N p0 p1).bind fun a=>
  if(decide (0<a.Clearance)) then
    some a.Clearance
  else
    some p0.Clearance

def jw(N:Nat)(p0:gp)(p1:ByteArray)(p2:ByteArray)(p3:Int)(p4:fC):List mE→Nat→Int→Option Int
  | [],_,a=>
    if(decide (0≤a)) then
      some a
    else
      (mR N p0 p1).bind fun e=>
      (mR N p0 p2).bind fun f=>
      some (max e f)
  | d ::b,c,a=>
    (wy d p3).bind fun g=>
    (if g then 
      (kr d.Region p4).bind fun h=>
      some h
     else some false).bind fun i=>
    if i then
      (jw N p0 p1 p2 p3 p4 b (c+1)) (max a d.Clearance)
    else
      (jw N p0 p1 p2 p3 p4 b (c+1)) a
def qg(N:Nat)(p0:gp)(p1:ByteArray)(p2:ByteArray)(p3:Int)(p4:fC):Option Int:=
  jw N p0 p1 p2 p3 p4 p0.Areas 0 (-1)

def iw(N :Nat)(p0:gp)(p1:dD)(p2:(List ByteArray))(f:(List ik)→Option (List ik))(b:eQ)(e:Nat):Nat→List ik→Int→Option (List ik)
  |0,_,_=>none
  | g + 1,c,a=>
    (if(decide (a<(p1.Pieces.length:Int))) then 
      (idx p1.Pieces a).bind fun l=>
      some (l.Layer==b.Layer)
     else some false).bind fun n=>
    if n then
      (idx p1.OfPiece (e:Int)).bind fun h=>
      (idx p1.OfPiece a).bind fun i=>
      if(h==i) then
        (iw N p0 p1 p2 f b e g) c (bJ (a+1))
      else
        (idx p1.Pieces a).bind fun o=>
        (qf b.Rects o.Rects).bind fun d=>
        (idx p2 h).bind fun p=>
        (idx p2 i).bind fun q=>
        (qg N p0 p q b.Layer d.From).bind fun j=>
        if(decide (d.Distance<j)) then
          (vD c [(ik.mk 1 (e:Int) a d.Distance j d.From)]).bind fun s=>
          (iw N p0 p1 p2 f b e g) s (bJ (a+1))
        else
          (iw N p0 p1 p2 f b e g) c (bJ (a+1))
    else
      f c
def iy(N:Nat)(p0:gp)(p1:dD)(p2:(List ByteArray)):List eQ→Nat→List ik→Option (List ik)
  | [],_,a=>
    some a
  | d::c,b,a=>
    iw N p0 p1 p2 (iy N p0 p1 p2 c (b+1)) d b N a (bJ ((b:Int)+1))
def rG(N:Nat)(p0:gp)(p1:dD)(p2:(List ByteArray)):Option (List ik):=
  iy N p0 p1 p2 p1.Pieces 0 ([]:List ik)


def sP(p0:(List ik)):Option ((List ik)×Int):=
  if(decide (5000<(p0.length:Int))) then
    some (([]:List ik),2)
  else
    some (p0,0)


noncomputable def ng(N:Nat)(p0:gp)(p1:nU)(p2:(List ByteArray)):Option ((List ik)×Int):=
  (kU N p0 p1 p2).bind fun a=>
  ui a.1 (
    if(a.2 !=0) then
      some (([]:List ik),a.2)
    else
      none) fun c=>
  if(a.2 !=0) then
    some (([]:List ik),a.2)
  else
    (rG N p0 c p2).bind fun d=>
    (sP d).bind fun b=>
    some (b.1,b.2)


def uG(p0:Int)(p1:Int)(p2:Int):Option Bool:=
  some ((decide (p1≤p0))&&(decide (p0≤p2)))

def nV:List eF→Nat→Option Int
  | [],_=>
    some 0
  | _::_,_=>
    none
def tZ(_:Nat)(_:(List eF)→Option Int)(p0:(List eF)):Option Int:=
  nV p0 0
def sQ:Nat→(List eF)→Option Int
  |0=>fun _=>none
  |N+1=>tZ N (sQ N)

def kY:List eF→Nat→Option Int
  | [],_=>
    some 0
  | _::_,_=>
    none
def pK(_:Nat)(_:tT→(List eF)→Int→Option Int)(_:tT)(p1:(List eF))(_:Int):Option Int:=
  kY p1 0
def oz:Nat→tT→(List eF)→Int→Option Int
  |0=>fun _ _ _=>none
  |N+1=>pK N (oz N)

def lH(N:Nat)(p0:tT):List sZ→Nat→Option Int
  | [],_=>
    (sQ N p0.Steps).bind fun a=>
    if(decide (3000<a)) then
      some 2
    else
      (oz N p0 p0.Steps 0).bind fun b=>
      some b
  | _::_,_=>
    none
def pE(N:Nat)(p0:tT):Option Int:=
  (uG p0.Unit 1 1000).bind fun a=>
  if(!a) then
    some 1
  else
    if(decide (200<(p0.Tools.length:Int))) then
      some 2
    else
      lH N p0 p0.Tools 0



def kX(p0:ByteArray):List eF→Nat→Option ByteArray
  | [],_=>
    some p0
  | _::_,_=>
    none
def pJ(_:Nat)(_:ByteArray→(List eF)→Option ByteArray)(p0:ByteArray)(p1:(List eF)):Option ByteArray:=
  kX p0 p1 0
def ou:Nat→ByteArray→(List eF)→Option ByteArray
  |0=>fun _ _=>none
  |N+1=>pJ N (ou N)



def nH(N:Nat)(p0:tT)(b:ByteArray):List sZ→Nat→Option (ByteArray×Int)
  | [],_=>
    (ou N b p0.Steps).bind fun c=>
    (Sg c).bind fun a=>
    if(decide (200000<a.1)) then
      some (⟨#[]⟩,2)
    else
      (RL a.2).bind fun d=>
      some (d.1,0)
  | _::_,_=>
    none
def uB(N:Nat)(p0:tT):Option (ByteArray×Int):=
  (pE N p0).bind fun a=>
  if(a !=0) then
    some (⟨#[]⟩,a)
  else
    (D6 p0.Unit).bind fun b=>
    (Ih (⟨#[117,110,105,116,32]⟩) b).bind fun c=>
    (Ih c (⟨#[10]⟩)).bind fun d=>
    (QT ByteArray.empty d).bind fun e=>
    nH N p0 e p0.Tools 0


def iD(N:Nat):Option Bool:=
  (uB N (tT.mk 3 [] [])).bind fun a=>
  some ((a.2==0)&&(DN a.1 (⟨#[117,110,105,116,32,51,10]⟩)))


def nQ(p0:(List aQ)):Option fC:=
  (idx p0 0).bind fun a=>
  (idx a.Xs 0).bind fun b=>
  (idx p0 0).bind fun c=>
  some (fC.mk b c.Y0)

def jG:List au→Nat→Int→Option Int
  | [],_,a=>
    some a
  | b::c,d,a=>
    (jG c (d+1)) (bJ (a+(bJ ((bJ (b.X1-b.X0))*(bJ (b.Y1-b.Y0))))))
def qP(p0:(List au)):Option Int:=
  jG p0 0 0

def iK:List eQ→Nat→List ig→Option ((List ig)×Int)
  | [],_,a=>
    some (a,0)
  | b::c,d,a=>
    (nQ b.Set).bind fun e=>
    (qP b.Rects).bind fun f=>
    (vD a [(ig.mk b.Layer e f)]).bind fun g=>
    (iK c (d+1)) g
noncomputable def nX(N:Nat)(p0:nU):Option ((List ig)×Int):=
  (jf N p0).bind fun a=>
  ui a.1 (
    if(a.2 !=0) then
      some (([]:List ig),a.2)
    else
      none) fun b=>
  if(a.2 !=0) then
    some (([]:List ig),a.2)
  else
    iK b.Pieces 0 ([]:List ig)


noncomputable def nY(N:Nat)(p0:nU):Option ((List dz)×Int):=
  (jf N p0).bind fun a=>
  ui a.1 (
    if(a.2 !=0) then
      some (([]:List dz),a.2)
    else
      none) fun b=>
  if(a.2 !=0) then
    some (([]:List dz),a.2)
  else
    some (b.Groups,0)


noncomputable def jU(N:Nat)(p0:nU)(p1:Int):Option ((List au)×Int):=
  (jf N p0).bind fun a=>
  ui a.1 (
    if(a.2 !=0) then
      some (([]:List au),a.2)
    else
      none) fun b=>
  if(a.2 !=0) then
    some (([]:List au),a.2)
  else
    (iO p1 0 (bJ ((b.Pieces.length:Int)-1))).bind fun c=>
    if(!c) then
      some (([]:List au),9)
    else
      (idx b.Pieces p1).bind fun d=>
      some (d.Rects,0)

noncomputable def gH(N:Nat)(p1:Int)(p2:Int)(p3:Int)(p4:Int)(d:(List au)):Nat→List au→Int→Option (List aQ)
  |0,_,_=>none
  | g +1,b,a=>
    if(decide (a<(d.length:Int))) then
      (idx b a).bind fun c=>
      (idx b a).bind fun _=>
      (sets b a (au.mk (bJ (c.X0-p1)) (bJ (c.Y0-p3)) (bJ (c.X1+p2)) (bJ (c.Y1+p4)))).bind fun e=>
      (gH N p1 p2 p3 p4 d g) e (bJ (a+1))
    else
      (fV N b).bind fun f=>
      some f
noncomputable def lC(N:Nat)(p0:(List aQ))(p1:Int)(p2:Int)(p3:Int)(p4:Int):Option (List aQ):=
  (gQ N p0).bind fun a=>
  gH N p1 p2 p3 p4 a N a 0


noncomputable def oo(N:Nat)(p0:(List aQ))(p1:Int):Option (List aQ):=
  (lC N p0 p1 p1 p1 p1).bind fun a=>
  some a


noncomputable def nZ(N:Nat)(p0:(List aQ))(p1:Int):Option ((List aQ)×Int):=
  (oo N p0 p1).bind fun a=>
  (lm a).bind fun b=>
  if(!b) then
    some (([]:List aQ),1)
  else
    (lh a).bind fun c=>
    if(decide (2000<c)) then
      some (([]:List aQ),2)
    else
      some (a,0)

noncomputable def tq(N:Nat)(x:Nat)(p0:(List aQ))(p1:Int):Option ((List aQ)×Int):=
  if x=21 then nZ N p0 p1 else
  none

noncomputable def gB(N:Nat)(p1:Int):List Nat→Nat→List aQ→Option ((List au)×Int)
  | [],_,a=>
    (gQ N a).bind fun e=>
    some (e,0)
  | f ::c,d,a=>
    (tq N f a p1).bind fun b=>
    if(b.2 !=0) then
      some (([]:List au),b.2)
    else
      (gB N p1 c (d+1)) b.1
noncomputable def qd(N:Nat)(p0:(List au))(p1:Int)(p2:(List Nat)):Option ((List au)×Int):=
  (fZ N p0).bind fun a=>
  if(a !=0) then
    some (([]:List au),a)
  else
    (lX p1 0 100000).bind fun b=>
    if(!b) then
      some (([]:List au),1)
    else
      (fV N p0).bind fun c=>
      gB N p1 p2 0 c


noncomputable def nR(N:Nat)(p0:(List au))(p1:Int):Option ((List au)×Int):=
  (qd N p0 p1 [21]).bind fun a=>
  some (a.1,a.2)

def gW(p1:Int):List Int→Nat→Option Int
  | [],_=>
    some (-1)
  | c ::b,a=>
    if(p1==c) then
      some (a:Int)
    else
      (gW p1 b (a+1))
def nO(p0:(List Int))(p1:Int):Option Int:=
  gW p1 p0 0


def jH(p0:(List Int))(p1:Int):Option Bool:=
  (nO p0 p1).bind fun a=>
  some (decide (0≤a))

def fB(p0:(List dz))(p1:Int)(p2:Int):Nat→Int→Option Bool
  |0,_=>none
  | f + 1,a=>
    if (decide (a<(p0.length:Int))) then
      (idx p0 a).bind fun b=>
      (jH b.Pieces p1).bind fun c=>
      if c then
        (idx p0 a).bind fun d=>
        (jH d.Pieces p2).bind fun e=>
        some e
      else
        (fB p0 p1 p2 f) (bJ (a+1))
    else
      some false
def kG(N:Nat)(p0:(List dz))(p1:Int)(p2:Int):Option Bool:=
  fB p0 p1 p2 N 0


def lg(N:Nat)(p0:(List aQ)):Option ((List au)×Int):=
  (lh p0).bind fun a=>
  if(decide (2000<a)) then
    some (([]:List au),2)
  else
    (gQ N p0).bind fun b=>
    some (b,0)


def lY(p0:Bool)(p1:Bool):Option Bool:=
  some (p0&&p1)


def pu(N:Nat)(p0:(List aQ))(p1:(List aQ)):Option (List aQ):=
  (mZ N p0 p1 (fun z0 z1=>lY z0 z1)).bind fun a=>
  some a


noncomputable def oZ(N:Nat)(p0:(List au))(p1:(List au)):Option ((List au)×Int):=
  (fZ N p0).bind fun a=>
  if(a !=0) then
    some (([]:List au),a)
  else
    (fZ N p1).bind fun b=>
    if(b !=0) then
      some (([]:List au),b)
    else
      (fV N p0).bind fun d=>
      (fV N p1).bind fun e=>
      (pu N d e).bind fun f=>
      (lg N f).bind fun c=>
      some (c.1,c.2)


noncomputable def pz(N:Nat)(p0:(List au))(p1:(List au)):Option ((List au)×Int):=
  (oZ N p0 p1).bind fun a=>
  some (a.1,a.2)

noncomputable def dL(N:Nat)(p1:nU)(b:((List ig)×Int))(d:((List dz)×Int))(c:Int)(f:Int→Option Bool)(e:((List au)×Int)):Nat→Int→Option Bool
  |0,_=>none
  | i + 1,a=>
    if (decide (a<(b.1.length:Int))) then
      (idx b.1 a).bind fun j=>
      (idx b.1 c).bind fun l=>
      (if(j.Layer !=l.Layer) then some true else 
        (kG N d.1 c a).bind fun n=>
        some n
      ).bind fun o=>
      if o then
        (dL N p1 b d c f e i) (bJ (a+1))
      else
        (jU N p1 a).bind fun g=>
        (pz N e.1 g.1).bind fun h=>
        if((g.2 !=0)||((h.2==0)&&(decide (0<(h.1.length:Int))))) then
          some false
        else
          (dL N p1 b d c f e i) (bJ (a+1))
    else
      f (bJ (c+1))
noncomputable def bZ(N:Nat)(p0:gp)(p1:nU)(a:((List ig)×Int))(c:((List dz)×Int)):Nat→Int→Option Bool
  |0,_=>none
  | f + 1,b=>
    if (decide (b<(a.1.length:Int))) then
      (jU N p1 b).bind fun d=>
      if(d.2 !=0) then
        some false
      else
        (nR N d.1 p0.Clearance).bind fun e=>
        if(e.2 !=0) then
          (bZ N p0 p1 a c f) (bJ (b+1))
        else
          dL N p1 a c b (bZ N p0 p1 a c f) e N 0
    else
      (iD N).bind fun g=>
      some g
noncomputable def iN(N:Nat)(p0:gp)(p1:nU)(p2:(List ByteArray)):Option Bool:=
  (ng N (gp.mk p0.Clearance 0 0 0 0 [] []) p1 p2).bind fun a=>
  if ((a.2 !=0)||(decide (0<(a.1.length:Int)))) then
    (if((a.2==0)||((a.1.length:Int)==0)) then 
      (iD N).bind fun d=>
      some d
     else some false).bind fun e=>
    some e
  else
    (nX N p1).bind fun b=>
    (nY N p1).bind fun c=>
    if((b.2 !=0)||(c.2 !=0)) then
      some false
    else
      bZ N p0 p1 b c N 0

end Go.Proofs.YtkccbhbhdnobhaaGreatDoor
