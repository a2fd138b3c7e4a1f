/- The plain functions: what each function of the program computes; none where it would panic. -/
import Derived.Test.YtgijeiamflmkeaaGreatDoorXT
namespace Go.Proofs.YtgijeiamflmkeaaGreatDoor
open Go.RowKit

def jK(p0:ByteArray):Nat→Int→Option Bool
  |0,_=>none
  | e + 1,b=>
    if (decide (b<(p0.size:Int))) then
      (FC p0 b).bind fun a=>
      (if((((decide (a<65))||(decide (90<a)))&&((decide (a<97))||(decide (122<a))))&&((decide (a<48))||(decide (57<a)))) then 
        (Ul (⟨#[95,43,45,35]⟩) a).bind fun c=>
        some (decide (c<0))
       else some false).bind fun d=>
      if d then
        some false
      else
        (jK p0 e) (bP (b+1))
    else
      some ((decide (1≤(p0.size:Int)))&&(decide ((p0.size:Int)≤40)))
def jh(N:Nat)(p0:ByteArray):Option Bool:=
  jK p0 N 0


def mg(p0:dO)(q0:dO):Option Bool:=
  some (((decide (0<q0.Group))&&(p0.Group==q0.Group))&&(p0.Kind !=q0.Kind))

def ig(p1:dO→Option Bool):List dO→Nat→Option Int
  | [],a=>
    some (-1)
  | d ::b,a=>
    (p1 d).bind fun c=>
    if c then
      some (a:Int)
    else
      (ig p1 b (a+1))
def lI(p0:(List dO))(p1:dO→Option Bool):Option Int:=
  ig p1 p0 0


def kH(p0:(List dO))(p1:dO→Option Bool):Option Bool:=
  (lI p0 p1).bind fun a=>
  some (decide (0≤a))

def iM(p0:(List dO)):List dO→Nat→Option Int
  | [],a=>
    some 0
  | e ::b,a=>
    (pre p0 (a:Int)).bind fun c=>
    (kH c (fun z0=>mg z0 e)).bind fun d=>
    if d then
      some 12
    else
      (iM p0 b (a+1))
def iN(N : Nat)(p0:(List dO)):List dO→Nat→Option Int
  | [],b=>
    iM p0 p0 0
  | a :: c, b=>
    (jh N a.Name).bind fun e=>
    if(!e) then
      some 5
    else
      if((decide (a.Kind<1))||(decide (7<a.Kind))) then
        some 4
      else
        if((decide (a.Group<0))||(decide (200<a.Group))) then
          some 1
        else
          (if(decide (0<(b:Int))) then 
            (idx p0 (bP ((b:Int)-1))).bind fun d=>
            some (Cm a.Name d.Name||rW a.Name d.Name)
           else some false).bind fun f=>
          if f then
            some 8
          else
            (iN N p0 c (b+1))
def nK(N:Nat)(p0:(List dO)):Option Int:=
  if((p0.length:Int)==0) then
    some 9
  else
    if(decide (200<(p0.length:Int))) then
      some 2
    else
      iN N p0 p0 0

def iw(N :Nat)(p0:(List dG)):List dG→Nat→Option Int
  | [],a=>
    some 0
  | b :: c,a=>
    (jh N b.Name).bind fun f=>
    if(!f) then
      some 5
    else
      (nK N b.Pins).bind fun d=>
      if(d !=0) then
        some d
      else
        (if(decide (0<(a:Int))) then 
          (idx p0 (bP ((a:Int)-1))).bind fun e=>
          some (Cm b.Name e.Name||rW b.Name e.Name)
         else some false).bind fun g=>
        if g then
          some 8
        else
          (iw N p0 c (a+1))
def mU(N:Nat)(p0:(List dG)):Option Int:=
  if(decide (200<(p0.length:Int))) then
    some 2
  else
    iw N p0 p0 0



def ol(p0:dG)(p1:ByteArray):Option Int:=
  (Ja p0.Name p1).bind fun a=>
  some a

def dx(p0:(List dG))(p1:ByteArray):Nat→Int→Int→Option (Int×Bool)
  |0,_,_=>none
  | d + 1,a,b=>
    if (decide (a<b)) then
      (uO (bP (a+b))).bind fun e=>
      (uO (e / 2)).bind fun c=>
      (idx p0 c).bind fun f=>
      (ol f p1).bind fun g=>
      if(decide (g<0)) then
        (dx p0 p1 d) (bP (c+1)) b
      else
        (dx p0 p1 d) a c
    else
      (if(decide (a<(p0.length:Int))) then 
        (idx p0 a).bind fun h=>
        (ol h p1).bind fun i=>
        some (i==0)
       else some false).bind fun j=>
      some (a,j)
def gQ(N:Nat)(p0:(List dG))(p1:ByteArray):Option (Int×Bool):=
  dx p0 p1 N 0 (p0.length:Int)


def jF(N:Nat)(p0:(List dG))(p1:ByteArray):Option Int:=
  (gQ N p0 p1).bind fun a=>
  if(!a.2) then
    some (-1)
  else
    some a.1

def iq(N :Nat)(p0:(List dG))(p1:(List oo))(p2:ByteArray→Option Bool):List oo→Nat→Option Int
  | [],a=>
    some 0
  | b :: c,a=>
    (p2 b.Name).bind fun e=>
    if(!e) then
      some 5
    else
      (jF N p0 b.Type_).bind fun f=>
      if(decide (f<0)) then
        some 9
      else
        (if(decide (0<(a:Int))) then 
          (idx p1 (bP ((a:Int)-1))).bind fun d=>
          some (Cm b.Name d.Name||rW b.Name d.Name)
         else some false).bind fun g=>
        if g then
          some 8
        else
          (iq N p0 p1 p2 c (a+1))
def mR(N:Nat)(p0:(List dG))(p1:(List oo))(p2:ByteArray→Option Bool):Option Int:=
  if(decide (1000<(p1.length:Int))) then
    some 2
  else
    iq N p0 p1 p2 p1 0


def iy(p1:ByteArray→Option Bool):List ByteArray→Nat→Option Int
  | [],a=>
    some (-1)
  | d ::b,a=>
    (p1 d).bind fun c=>
    if c then
      some (a:Int)
    else
      (iy p1 b (a+1))
def lX(p0:(List ByteArray))(p1:ByteArray→Option Bool):Option Int:=
  iy p1 p0 0


def kX(p0:(List ByteArray))(p1:ByteArray→Option Bool):Option Bool:=
  (lX p0 p1).bind fun a=>
  some (decide (0≤a))


def lm(N:Nat)(p0:ByteArray):Option Bool:=
  (jh N p0).bind fun a=>
  some (!a)


def ji(N:Nat)(p0:ByteArray):Option Bool:=
  if(decide ((p0.size:Int)≤200)) then
    (EK p0 (⟨#[47]⟩)).bind fun a=>
    (kX a (fun z0=>lm N z0)).bind fun b=>
    some (!b)
  else
    some false

def dZ(p0:(List oo))(p1:ByteArray)(p2:oo→ByteArray→Option Int):Nat→Int→Int→Option (Int×Bool)
  |0,_,_=>none
  | d + 1,a,b=>
    if (decide (a<b)) then
      (uO (bP (a+b))).bind fun e=>
      (uO (e / 2)).bind fun c=>
      (idx p0 c).bind fun f=>
      (p2 f p1).bind fun g=>
      if(decide (g<0)) then
        (dZ p0 p1 p2 d) (bP (c+1)) b
      else
        (dZ p0 p1 p2 d) a c
    else
      (if(decide (a<(p0.length:Int))) then 
        (idx p0 a).bind fun h=>
        (p2 h p1).bind fun i=>
        some (i==0)
       else some false).bind fun j=>
      some (a,j)
def jZ(N:Nat)(p0:(List oo))(p1:ByteArray)(p2:oo→ByteArray→Option Int):Option (Int×Bool):=
  dZ p0 p1 p2 N 0 (p0.length:Int)


def oh(p0:oo)(p1:ByteArray):Option Int:=
  (Ja p0.Name p1).bind fun a=>
  some a


def rU(N:Nat)(p0:(List oo))(p1:ByteArray):Option Int:=
  (jZ N p0 p1 (fun z0 z1=>oh z0 z1)).bind fun a=>
  if(!a.2) then
    some (-1)
  else
    some a.1

def dQ(p0:(List dO))(p1:ByteArray)(p2:dO→ByteArray→Option Int):Nat→Int→Int→Option (Int×Bool)
  |0,_,_=>none
  | d + 1,a,b=>
    if (decide (a<b)) then
      (uO (bP (a+b))).bind fun e=>
      (uO (e / 2)).bind fun c=>
      (idx p0 c).bind fun f=>
      (p2 f p1).bind fun g=>
      if(decide (g<0)) then
        (dQ p0 p1 p2 d) (bP (c+1)) b
      else
        (dQ p0 p1 p2 d) a c
    else
      (if(decide (a<(p0.length:Int))) then 
        (idx p0 a).bind fun h=>
        (p2 h p1).bind fun i=>
        some (i==0)
       else some false).bind fun j=>
      some (a,j)
def jL(N:Nat)(p0:(List dO))(p1:ByteArray)(p2:dO→ByteArray→Option Int):Option (Int×Bool):=
  dQ p0 p1 p2 N 0 (p0.length:Int)


def oZ(p0:dO)(p1:ByteArray):Option Int:=
  (Ja p0.Name p1).bind fun a=>
  some a


def qJ(N:Nat)(p0:dG)(p1:ByteArray):Option Int:=
  (jL N p0.Pins p1 (fun z0 z1=>oZ z0 z1)).bind fun a=>
  if(!a.2) then
    some (-1)
  else
    some a.1


def qi(N:Nat)(p0:(List dG))(p1:(List oo))(p2:tL):Option Bool:=
  (rU N p1 p2.Part).bind fun a=>
  (if(decide (0≤a)) then 
    (idx p1 a).bind fun b=>
    (jF N p0 b.Type_).bind fun c=>
    (idx p0 c).bind fun d=>
    (qJ N d p2.Pin).bind fun e=>
    some (decide (0≤e))
   else some false).bind fun f=>
  some f


def kP(N:Nat)(p0:tL)(q0:(List dG))(q1:pO):Option Bool:=
  (qi N q0 q1.Parts p0).bind fun a=>
  some a


def mh(p0:tL)(p1:tL):Option Int:=
  (Ja p0.Part p1.Part).bind fun a=>
  if(a !=0) then
    some a
  else
    (Ja p0.Pin p1.Pin).bind fun b=>
    some b

def gD:List tL→Nat→List (ByteArray×ByteArray)→Option (Int×(List (ByteArray×ByteArray)))
  | [],c,a=>
    some (0,a)
  | d::b,c,a=>
    (FT La a (d.Part,d.Pin)).bind fun e=>
    (gD b (c+1)) e
def fF(p0:(List tL))(p1:tL→Option Bool)(p2:(List (ByteArray×ByteArray))):List tL→Nat→Option (Int×(List (ByteArray×ByteArray)))
  | [],a=>
    gD p0 0 p2
  | b ::c,a=>
    (p1 b).bind fun d=>
    if(!d) then
      some (9,p2)
    else
      (if(decide (0<(a:Int))) then 
        (idx p0 (bP ((a:Int)-1))).bind fun e=>
        (mh b e).bind fun f=>
        some (decide (f≤0))
       else some false).bind fun g=>
      if g then
        some (8,p2)
      else
        (FU La p2 (b.Part,b.Pin)).bind fun h=>
        if h then
          some (7,p2)
        else
          (fF p0 p1 p2 c (a+1))
def lK(p0:(List tL))(p1:tL→Option Bool)(p2:(List (ByteArray×ByteArray))):Option (Int×(List (ByteArray×ByteArray))):=
  if(decide (500<(p0.length:Int))) then
    some (2,p2)
  else
    fF p0 p1 p2 p0 0

def iO(N : Nat)(p0:(List dG))(p1:pO):List K4→Nat→List (ByteArray×ByteArray)→Option Int
  | [],c,d=>
    some 0
  | a :: e, c,d=>
    (ji N a.Name).bind fun g=>
    if(!g) then
      some 5
    else
      if((a.Pins.length:Int)==0) then
        some 9
      else
        (lK a.Pins (fun z0=>kP N z0 p0 p1) d).bind fun b=>
        if(b.1 !=0) then
          some b.1
        else
          if(decide (0<(a.Ports.length:Int))) then
            some 3
          else
            (if(decide (0<(c:Int))) then 
              (idx p1.Nets (bP ((c:Int)-1))).bind fun f=>
              some (Cm a.Name f.Name||rW a.Name f.Name)
             else some false).bind fun h=>
            if h then
              some 8
            else
              (iO N p0 p1 e (c+1)) b.2
def nL(N:Nat)(p0:(List dG))(p1:pO):Option Int:=
  (mU N p0).bind fun a=>
  if(a !=0) then
    some a
  else
    (mR N p0 p1.Parts (fun z0=>ji N z0)).bind fun b=>
    if(b !=0) then
      some b
    else
      if(decide (1000<(p1.Nets.length:Int))) then
        some 2
      else
        iO N p0 p1 p1.Nets 0 ([]:List (ByteArray×ByteArray))


def lM(p0:ByteArray)(p1:Int):Option zg:=
  if(p1==0) then
    some (zg.mk 0 (⟨#[]⟩))
  else
    some (zg.mk p1 p0)


def pQ(p0:Int)(p1:Int)(p2:Int):Option Bool:=
  some ((decide (p1≤p0))&&(decide (p0≤p2)))

def fE(N : Nat)(p0:(List dK)):List dK→Nat→Option Int
  | [],b=>
    some 0
  | a :: c, b=>
    (jh N a.Name).bind fun e=>
    if(!e) then
      some 5
    else
      (pQ a.Kind 1 3).bind fun f=>
      if(!f) then
        some 4
      else
        (pQ a.Thick 1 2000).bind fun g=>
        (if(!g) then some true else 
          (pQ a.Grow 0 1000).bind fun h=>
          some (!h)
        ).bind fun i=>
        if i then
          some 1
        else
          (if(decide (0<(b:Int))) then 
            (idx p0 (bP ((b:Int)-1))).bind fun d=>
            some (Cm a.Name d.Name||rW a.Name d.Name)
           else some false).bind fun j=>
          if j then
            some 8
          else
            (fE N p0 c (b+1))
def nN(N:Nat)(p0:(List dK)):Option Int:=
  if(decide (50<(p0.length:Int))) then
    some 2
  else
    fE N p0 p0 0

def dN(p0:(List dK))(p1:ByteArray)(p2:dK→ByteArray→Option Int):Nat→Int→Int→Option (Int×Bool)
  |0,_,_=>none
  | d + 1,a,b=>
    if (decide (a<b)) then
      (uO (bP (a+b))).bind fun e=>
      (uO (e / 2)).bind fun c=>
      (idx p0 c).bind fun f=>
      (p2 f p1).bind fun g=>
      if(decide (g<0)) then
        (dN p0 p1 p2 d) (bP (c+1)) b
      else
        (dN p0 p1 p2 d) a c
    else
      (if(decide (a<(p0.length:Int))) then 
        (idx p0 a).bind fun h=>
        (p2 h p1).bind fun i=>
        some (i==0)
       else some false).bind fun j=>
      some (a,j)
def jC(N:Nat)(p0:(List dK))(p1:ByteArray)(p2:dK→ByteArray→Option Int):Option (Int×Bool):=
  dN p0 p1 p2 N 0 (p0.length:Int)


def mI(p0:dK)(p1:ByteArray):Option Int:=
  (Ja p0.Name p1).bind fun a=>
  some a


def nT(N:Nat)(p0:(List dK))(p1:ByteArray):Option (dK×Bool):=
  (jC N p0 p1 (fun z0 z1=>mI z0 z1)).bind fun a=>
  if(!a.2) then
    some ((dK.mk (⟨#[]⟩) 0 0 0),false)
  else
    (idx p0 a.1).bind fun b=>
    some (b,true)


def nU(N:Nat)(p0:(List dK))(p1:lV):Option Int:=
  (nT N p0 p1.Material).bind fun a=>
  some a.1.Kind

def jr(N:Nat)(p0:(List dK)):List lV→Nat→List Int→Option (List Int)
  | [],c,a=>
    some a
  | f ::b,c,a=>
    (nU N p0 f).bind fun d=>
    if(d==1) then
      (EC a [(c:Int)]).bind fun e=>
      (jr N p0 b (c+1)) e
    else
      (jr N p0 b (c+1)) a
def sO(N:Nat)(p0:(List dK))(p1:(List lV)):Option (List Int):=
  jr N p0 p1 0 ([]:List Int)

def iY(a:List (ByteArray))(e:(List (ByteArray))→Int→Option Int)(f:lV)(b:(dK×Bool))(c:Bool):Option Int:=
  if c then
    some 8
  else
    (FT wD a f.Name).bind fun d=>
    e d b.1.Kind
def dS(N : Nat)(p0:(List dK))(p1:(List lV)):List lV→Nat→List (ByteArray)→Int→Option Int
  | [],f,c,b=>
    (sO N p0 p1).bind fun g=>
    (if(decide ((g.length:Int)<2)) then some true else 
      (idx p1 0).bind fun h=>
      (nU N p0 h).bind fun i=>
      some (i !=1)
    ).bind fun j=>
    (if j then some true else 
      (idx p1 (bP ((p1.length:Int)-1))).bind fun l=>
      (nU N p0 l).bind fun n=>
      some (n !=1)
    ).bind fun o=>
    if o then
      some 3
    else
      some 0
  | d :: e, f,c,b=>
    (nT N p0 d.Material).bind fun a=>
    if(!a.2) then
      some 9
    else
      (if(a.1.Kind==1) then 
        (jh N d.Name).bind fun p=>
        some (!p)
       else some false).bind fun q=>
      if(q||((!(a.1.Kind==1))&&(!rW d.Name (⟨#[]⟩)))) then
        some 5
      else
        (if(a.1.Kind==1) then 
          (FU wD c d.Name).bind fun s=>
          some s
         else some false).bind fun t=>
        if t then
          some 7
        else
          if((a.1.Kind==1)&&(b==1)) then
            iY c (dS N p0 p1 e (f+1)) d a ((a.1.Kind==1)&&(b==1))
          else
            if(((a.1.Kind==2)&&(b !=0))&&(b !=1)) then
              iY c (dS N p0 p1 e (f+1)) d a (((a.1.Kind==2)&&(b !=0))&&(b !=1))
            else
              iY c (dS N p0 p1 e (f+1)) d a ((b==2)&&(!(a.1.Kind==1)))
def nV(N:Nat)(p0:(List dK))(p1:(List lV)):Option Int:=
  (nN N p0).bind fun a=>
  if(a !=0) then
    some a
  else
    if(decide (60<(p1.length:Int))) then
      some 2
    else
      dS N p0 p1 p1 0 ([]:List (ByteArray)) 0

def jv:List lV→Nat→Int→Option Int
  | [],c,a=>
    some a
  | d ::b,c,a=>
    if(!rW d.Name (⟨#[]⟩)) then
      (jv b (c+1)) (bP (a+1))
    else
      (jv b (c+1)) a
def sQ(p0:lU):Option Int:=
  jv p0.Stack 0 0


def kS(p0:Int)(p1:Int)(p2:Int):Option Bool:=
  some ((decide (p1≤p0))&&(decide (p0≤p2)))

def gu(p0:ByteArray):Nat→Int→Option Bool
  |0,_=>none
  | c + 1,b=>
    if (decide (b<(p0.size:Int))) then
      (FC p0 b).bind fun a=>
      if((!(((decide (97≤a))&&(decide (a≤122)))||((decide (65≤a))&&(decide (a≤90)))))&&((b==0)||((((decide (a<48))||(decide (57<a)))&&(a !=95))&&(a !=45)))) then
        some false
      else
        (gu p0 c) (bP (b+1))
    else
      some ((decide (1≤(p0.size:Int)))&&(decide ((p0.size:Int)≤40)))
def jW(N:Nat)(p0:ByteArray):Option Bool:=
  gu p0 N 0


def nQ(p0:Int)(p1:Int):Option Bool:=
  (dv (-1000000) p1).bind fun a=>
  (dv 1000000 p1).bind fun b=>
  (kS p0 a b).bind fun c=>
  some c

def jI(p1:Int):List aO→Nat→Option Int
  | [],c=>
    some 0
  | a ::b,c=>
    (nQ a.X0 p1).bind fun d=>
    (if(!d) then some true else 
      (nQ a.Y0 p1).bind fun e=>
      some (!e)
    ).bind fun f=>
    (if f then some true else 
      (nQ a.X1 p1).bind fun g=>
      some (!g)
    ).bind fun h=>
    (if h then some true else 
      (nQ a.Y1 p1).bind fun i=>
      some (!i)
    ).bind fun j=>
    if j then
      some 1
    else
      if((decide (a.X1≤a.X0))||(decide (a.Y1≤a.Y0))) then
        some 13
      else
        (jI p1 b (c+1))
def qb(N:Nat)(p0:eH)(p1:Int):Option Int:=
  (jW N p0.Name).bind fun a=>
  if(!a) then
    some 5
  else
    if((p0.Rects.length:Int)==0) then
      some 9
    else
      if(decide (2000<(p0.Rects.length:Int))) then
        some 2
      else
        jI p1 p0.Rects 0


def pY(p0:Int):Option Int:=
  (kS p0 1 100).bind fun a=>
  if a then
    some p0
  else
    some 1


def uy(p0:aZ):Option Int:=
  (pY p0.NX).bind fun a=>
  (pY p0.NY).bind fun b=>
  some (bP (a*b))

def nD(b:Int→Option Int)(a:Int):Option Int:=
  if(decide (3000<a)) then
    some 3001
  else
    b a
def gU(rec:(List aZ)→Option Int):List aZ→Nat→Int→Option Int
  | [],c,a=>
    some a
  | d ::b,c,a=>
    if(decide (0<(d.Steps.length:Int))) then
      (uy d).bind fun e=>
      (rec d.Steps).bind fun f=>
      nD (gU rec b (c+1)) (bP ((bP (a+1))+(bP (e*f))))
    else
      nD (gU rec b (c+1)) (bP (a+1))
def wQ(N:Nat)(rec:(List aZ)→Option Int)(p0:(List aZ)):Option Int:=
  gU rec p0 0 0
def rR:Nat→(List aZ)→Option Int
  |0=>fun _=>none
  |N+1=>wQ N (rR N)

def lh(p0:Int)(a:Bool):Option u6:=
  if a then
    some (u6.mk false true false false)
  else
    if(p0==7) then
      some (u6.mk false false true false)
    else
      if(p0==8) then
        some (u6.mk false true false true)
      else
        some (u6.mk false false false false)
def qG(p0:Int):Option u6:=
  if(p0==3) then
    some (u6.mk true false false false)
  else
    if(p0==4) then
      lh p0 (p0==4)
    else
      if(p0==5) then
        lh p0 (p0==5)
      else
        lh p0 (p0==6)


def sP(p0:eH)(q0:ByteArray):Option Bool:=
  some (rW p0.Name q0)

def dC(q0:ByteArray):List eH→Nat→Option Int
  | [],a=>
    some (-1)
  | d ::b,a=>
    (sP d q0).bind fun c=>
    if c then
      some (a:Int)
    else
      (dC q0 b (a+1))
def iW(p0:(List eH))(q0:ByteArray):Option Int:=
  dC q0 p0 0


def qM(p0:eX)(p1:ByteArray):Option Int:=
  (iW p0.Tools p1).bind fun a=>
  some a


def p9(p0:aK)(p1:Int):Option Bool:=
  (nQ p0.X p1).bind fun a=>
  (if a then 
    (nQ p0.Y p1).bind fun b=>
    some b
   else some false).bind fun c=>
  some c


def jS(p0:aK)(q0:eX):Option Bool:=
  (p9 p0 q0.Unit).bind fun a=>
  some (!a)

def dX(p1:aK→Option Bool):List aK→Nat→Option Int
  | [],a=>
    some (-1)
  | d ::b,a=>
    (p1 d).bind fun c=>
    if c then
      some (a:Int)
    else
      (dX p1 b (a+1))
def kR(p0:(List aK))(p1:aK→Option Bool):Option Int:=
  dX p1 p0 0


def fG(p0:(List aK))(p1:aK→Option Bool):Option Bool:=
  (kR p0 p1).bind fun a=>
  some (decide (0≤a))

def lw(p0:(List aK)):List aK→Nat→Option Bool
  | [],a=>
    some true
  | d ::b,a=>
    (md (bP ((a:Int)+1)) (p0.length:Int)).bind fun e=>
    (idx p0 e).bind fun c=>
    if((d.X==c.X)==(d.Y==c.Y)) then
      some false
    else
      (lw p0 b (a+1))
def sI(p0:(List aK)):Option Bool:=
  if(decide ((p0.length:Int)<4)) then
    some false
  else
    lw p0 p0 0

def fw(p0 : eX)(p1:aZ)(p2:Int)(a:u6)(b:Bool):Option Int:=
  if b then
    some 3
  else
    (if a.name then 
      (qM p0 p1.Name).bind fun c=>
      some (decide (c<0))
     else some false).bind fun d=>
    if d then
      some 5
    else
      (p9 p1.At p0.Unit).bind fun e=>
      (if(!e) then some true else 
        (fG p1.Points (fun z0=>jS z0 p0)).bind fun f=>
        some f
      ).bind fun g=>
      if g then
        some 1
      else
        if(decide (2000<(p1.Points.length:Int))) then
          some 2
        else
          (if a.points then 
            (sI p1.Points).bind fun h=>
            some (!h)
           else some false).bind fun i=>
          if i then
            some 3
          else
            if(!a.repeat_) then
              some 0
            else
              (kS p1.NX 1 100).bind fun j=>
              (if(!j) then some true else 
                (kS p1.NY 1 100).bind fun l=>
                some (!l)
              ).bind fun n=>
              if n then
                some 1
              else
                if((p1.Steps.length:Int)==0) then
                  some 9
                else
                  if(decide (5≤p2)) then
                    some 2
                  else
                    some 0
def qc(p0:eX)(p1:aZ)(p2:Int):Option Int:=
  (kS p1.Kind 1 8).bind fun b=>
  if(!b) then
    some 4
  else
    (qG p1.Kind).bind fun a=>
    if((!a.name)&&(!rW p1.Name (⟨#[]⟩))) then
      fw p0 p1 p2 a ((!a.name)&&(!rW p1.Name (⟨#[]⟩)))
    else
      if((!a.at_)&&(!(kw p1.At (aK.mk 0 0)))) then
        fw p0 p1 p2 a ((!a.at_)&&(!(kw p1.At (aK.mk 0 0))))
      else
        if((!a.points)&&(decide (0<(p1.Points.length:Int)))) then
          fw p0 p1 p2 a ((!a.points)&&(decide (0<(p1.Points.length:Int))))
        else
          fw p0 p1 p2 a ((!a.repeat_)&&(((p1.NX !=0)||(p1.NY !=0))||(decide (0<(p1.Steps.length:Int)))))

def jo(p0:eX)(p2:Int)(rec:eX→(List aZ)→Int→Option Int):List aZ→Nat→Option Int
  | [],d=>
    some 0
  | e ::a,d=>
    (qc p0 e p2).bind fun b=>
    if(b !=0) then
      some b
    else
      (rec p0 e.Steps (bP (p2+1))).bind fun c=>
      if(c !=0) then
        some c
      else
        (jo p0 p2 rec a (d+1))
def si(N:Nat)(rec:eX→(List aZ)→Int→Option Int)(p0:eX)(p1:(List aZ))(p2:Int):Option Int:=
  jo p0 p2 rec p1 0
def oW:Nat→eX→(List aZ)→Int→Option Int
  |0=>fun _ _ _=>none
  |N+1=>si N (oW N)

def ja(N:Nat)(p0:eX):List eH→Nat→Option Int
  | [],a=>
    (rR N p0.Steps).bind fun f=>
    if(decide (3000<f)) then
      some 2
    else
      (oW N p0 p0.Steps 0).bind fun g=>
      some g
  | b ::c,a=>
    (qb N b p0.Unit).bind fun d=>
    if(d !=0) then
      some d
    else
      (if(decide (0<(a:Int))) then 
        (idx p0.Tools (bP ((a:Int)-1))).bind fun e=>
        some (Cm b.Name e.Name||rW b.Name e.Name)
       else some false).bind fun h=>
      if h then
        some 8
      else
        (ja N p0 c (a+1))
def mD(N:Nat)(p0:eX):Option Int:=
  (kS p0.Unit 1 1000).bind fun a=>
  if(!a) then
    some 1
  else
    if(decide (200<(p0.Tools.length:Int))) then
      some 2
    else
      ja N p0 p0.Tools 0



def mV(p0:Int)(p1:Int)(p2:Int):Option Bool:=
  some ((decide (p1≤p0))&&(decide (p0≤p2)))

def gK(N : Nat)(p0:(List mW)):List mW→Nat→Option Int
  | [],b=>
    some 0
  | a :: c, b=>
    (jh N a.Type_).bind fun e=>
    if(!e) then
      some 5
    else
      (mV a.W 1 100000).bind fun f=>
      (if(!f) then some true else 
        (mV a.H 1 100000).bind fun g=>
        some (!g)
      ).bind fun h=>
      (if h then some true else 
        (mV a.Tall 1 100000).bind fun i=>
        some (!i)
      ).bind fun j=>
      if j then
        some 1
      else
        (jh N a.Nozzle).bind fun l=>
        if(!l) then
          some 5
        else
          (if(decide (0<(b:Int))) then 
            (idx p0 (bP ((b:Int)-1))).bind fun d=>
            some (Cm a.Type_ d.Type_||rW a.Type_ d.Type_)
           else some false).bind fun n=>
          if n then
            some 8
          else
            (gK N p0 c (b+1))
def pF(N:Nat)(p0:(List mW)):Option Int:=
  if(decide (200<(p0.length:Int))) then
    some 2
  else
    gK N p0 p0 0

def ed(p0:(List mW))(p1:ByteArray)(p2:mW→ByteArray→Option Int):Nat→Int→Int→Option (Int×Bool)
  |0,_,_=>none
  | d + 1,a,b=>
    if (decide (a<b)) then
      (uO (bP (a+b))).bind fun e=>
      (uO (e / 2)).bind fun c=>
      (idx p0 c).bind fun f=>
      (p2 f p1).bind fun g=>
      if(decide (g<0)) then
        (ed p0 p1 p2 d) (bP (c+1)) b
      else
        (ed p0 p1 p2 d) a c
    else
      (if(decide (a<(p0.length:Int))) then 
        (idx p0 a).bind fun h=>
        (p2 h p1).bind fun i=>
        some (i==0)
       else some false).bind fun j=>
      some (a,j)
def kg(N:Nat)(p0:(List mW))(p1:ByteArray)(p2:mW→ByteArray→Option Int):Option (Int×Bool):=
  ed p0 p1 p2 N 0 (p0.length:Int)


def qj(p0:mW)(p1:ByteArray):Option Int:=
  (Ja p0.Type_ p1).bind fun a=>
  some a


def uD(N:Nat)(p0:(List mW))(p1:ByteArray):Option (mW×Bool):=
  (kg N p0 p1 (fun z0 z1=>qj z0 z1)).bind fun a=>
  if(!a.2) then
    some ((mW.mk (⟨#[]⟩) 0 0 0 (⟨#[]⟩)),false)
  else
    (idx p0 a.1).bind fun b=>
    some (b,true)


def mJ(p0:Int)(p1:Int)(p2:Int):Option Bool:=
  some ((decide (p1≤p0))&&(decide (p0≤p2)))


def kZ(p0:Int):Option Bool:=
  (mJ p0 (-1000000) 1000000).bind fun a=>
  some a


def jb(p0:aK):Option Bool:=
  (kZ p0.X).bind fun a=>
  (if a then 
    (kZ p0.Y).bind fun b=>
    some b
   else some false).bind fun c=>
  some c

def iP(N : Nat)(p0:(List mW))(p1:(List uk)):List uk→Nat→Option Int
  | [],b=>
    some 0
  | a :: c, b=>
    (uD N p0 a.Type_).bind fun e=>
    (ji N a.Part).bind fun f=>
    if(!f) then
      some 5
    else
      if(!e.2) then
        some 9
      else
        (jb a.At).bind fun g=>
        (if(!g) then some true else 
          (mV a.Quarters 0 3).bind fun h=>
          some (!h)
        ).bind fun i=>
        if i then
          some 1
        else
          (if(decide (0<(b:Int))) then 
            (idx p1 (bP ((b:Int)-1))).bind fun d=>
            some (Cm a.Part d.Part||rW a.Part d.Part)
           else some false).bind fun j=>
          if j then
            some 8
          else
            (iP N p0 p1 c (b+1))
def nM(N:Nat)(p0:(List mW))(p1:(List uk)):Option Int:=
  (pF N p0).bind fun a=>
  if(a !=0) then
    some a
  else
    if(decide (1000<(p1.length:Int))) then
      some 2
    else
      iP N p0 p1 p1 0


def lL(p0:Int)(p1:Int)(p2:Int):Option Bool:=
  some ((decide (p1≤p0))&&(decide (p0≤p2)))

def iQ(N :Nat)(p0:lU)(i:Option Int)(b:zD)(d:Nat)(e:Int):List El→Nat→Option Int
  | [],c=>
    (if(decide (0<(d:Int))) then 
      (idx p0.Feet (bP ((d:Int)-1))).bind fun f=>
      some (Cm b.Type_ f.Type_||rW b.Type_ f.Type_)
     else some false).bind fun j=>
    if j then
      some 8
    else
      i
  | a :: g,c=>
    (idx p0.Types e).bind fun l=>
    (qJ N l a.Pin).bind fun n=>
    if(decide (n<0)) then
      some 9
    else
      (lL a.At.X (-100000) 100000).bind fun o=>
      (if(!o) then some true else 
        (lL a.At.Y (-100000) 100000).bind fun p=>
        some (!p)
      ).bind fun q=>
      if q then
        some 1
      else
        (if(decide (0<(c:Int))) then 
          (idx b.Spots (bP ((c:Int)-1))).bind fun h=>
          some (Cm a.Pin h.Pin||rW a.Pin h.Pin)
         else some false).bind fun s=>
        if s then
          some 8
        else
          (iQ N p0 i b d e g (c+1))
def gP(N:Nat)(p0:lU):List zD→Nat→Option Int
  | [],b=>
    some 0
  | a ::c,b=>
    (jF N p0.Types a.Type_).bind fun d=>
    if(decide (d<0)) then
      some 9
    else
      if(decide (200<(a.Spots.length:Int))) then
        some 2
      else
        iQ N p0 (gP N p0 c (b+1)) a b d a.Spots 0
def o5(N:Nat)(p0:lU):Option Int:=
  if(decide (200<(p0.Feet.length:Int))) then
    some 2
  else
    gP N p0 p0.Feet 0

def jq(p1:Int→Option Bool):List Int→Nat→Option Int
  | [],a=>
    some (-1)
  | d ::b,a=>
    (p1 d).bind fun c=>
    if c then
      some (a:Int)
    else
      (jq p1 b (a+1))
def nO(p0:(List Int))(p1:Int→Option Bool):Option Int:=
  jq p1 p0 0


def lY(p0:(List Int))(p1:Int→Option Bool):Option Bool:=
  (nO p0 p1).bind fun a=>
  some (decide (0≤a))


def pX(p0:Int)(p1:Int)(p2:Int):Option Bool:=
  some ((decide (p1≤p0))&&(decide (p0≤p2)))


def mK(p0:Int):Option Bool:=
  (pX p0 0 100000).bind fun a=>
  some a


def mM(p0:Int):Option Bool:=
  (mK p0).bind fun a=>
  some (!a)

def gp(p0:(List iV))(f:(List (ByteArray))→Option Int)(a:iV)(c:Nat):List ByteArray→Nat→List (ByteArray)→Option Int
  | [], g,b=>
    (mK a.Clearance).bind fun h=>
    (if(!h) then some true else 
      (mK a.Width).bind fun i=>
      some (!i)
    ).bind fun j=>
    if j then
      some 1
    else
      (if(decide (0<(c:Int))) then 
        (idx p0 (bP ((c:Int)-1))).bind fun d=>
        some (Cm a.Name d.Name||rW a.Name d.Name)
       else some false).bind fun l=>
      if l then
        some 8
      else
        f b
  | o::e,g,b=>
    (FT wD b o).bind fun n=>
    (gp p0 f a c e (g+1)) n
def gq(N :Nat)(p0:(List iV))(a:List (ByteArray))(g:(List (ByteArray))→Option Int)(b:iV)(h:Nat):List ByteArray→Nat→Option Int
  | [],c=>
    gp p0 g b h b.Nets 0 a
  | d ::e,c=>
    (ji N d).bind fun i=>
    if(!i) then
      some 5
    else
      (if(decide (0<(c:Int))) then 
        (idx b.Nets (bP ((c:Int)-1))).bind fun f=>
        some (Cm d f||rW d f)
       else some false).bind fun j=>
      if j then
        some 8
      else
        (FU wD a d).bind fun l=>
        if l then
          some 7
        else
          (gq N p0 a g b h e (c+1))
def dH(N:Nat)(p0:(List iV)):List iV→Nat→List (ByteArray)→Option Int
  | [],b,c=>
    some 0
  | a ::d,b,c=>
    (jh N a.Name).bind fun e=>
    if(!e) then
      some 5
    else
      if(decide (1000<(a.Nets.length:Int))) then
        some 2
      else
        gq N p0 c (dH N p0 d (b+1)) a b a.Nets 0
def oU(N:Nat)(p0:(List iV)):Option Int:=
  if(decide (50<(p0.length:Int))) then
    some 2
  else
    dH N p0 p0 0 ([]:List (ByteArray))


def pW(p0:aO):Option Bool:=
  (kZ p0.X0).bind fun a=>
  (if a then 
    (kZ p0.Y0).bind fun b=>
    some b
   else some false).bind fun c=>
  (if c then 
    (kZ p0.X1).bind fun d=>
    some d
   else some false).bind fun e=>
  (if e then 
    (kZ p0.Y1).bind fun f=>
    some f
   else some false).bind fun g=>
  some g

def gY:List aO→Nat→Option Int
  | [],c=>
    some 0
  | a ::b,c=>
    (pW a).bind fun d=>
    if(!d) then
      some 1
    else
      if((decide (a.X1≤a.X0))||(decide (a.Y1≤a.Y0))) then
        some 13
      else
        (gY b (c+1))
def mr(p0:(List aO)):Option Int:=
  if(decide (2000<(p0.length:Int))) then
    some 2
  else
    gY p0 0


def nG(p0:(List aO)):Option (List aO):=
  (EC ([]:List aO) p0).bind fun a=>
  some a



def nA(p0:aO)(p1:aO):Option Int:=
  some (bP (p0.Y0-p1.Y0))




def nz(p0:aO)(q0:(List Int))(q1:Int):Option Bool:=
  (idx q0 q1).bind fun a=>
  some (decide (p0.Y1≤a))

def eD(p1:aO→Option Bool):List aO→Nat→Option Int
  | [],a=>
    some (-1)
  | d ::b,a=>
    (p1 d).bind fun c=>
    if c then
      some (a:Int)
    else
      (eD p1 b (a+1))
def jN(p0:(List aO))(p1:aO→Option Bool):Option Int:=
  eD p1 p0 0

def eT(p1:aO→Option Bool):Nat→List aO→Int→Int→Option (List aO)
  |0,_,_,_=>none
  | e + 1,a,b,c=>
    if (decide (c<(a.length:Int))) then
      (idx a c).bind fun d=>
      (p1 d).bind fun f=>
      if(!f) then
        (idx a b).bind fun j=>
        (sets a b d).bind fun g=>
        (eT p1 e) g (bP (b+1)) (bP (c+1))
      else
        (eT p1 e) a b (bP (c+1))
    else
      (cut a b (a.length:Int)).bind fun h=>
      (pre (SK a b (h).length (aO.mk 0 0 0 0)) b).bind fun i=>
      some i
def jE(N:Nat)(p0:(List aO))(p1:aO→Option Bool):Option (List aO):=
  (jN p0 p1).bind fun a=>
  if(a==(-1)) then
    some p0
  else
    eT p1 N p0 a (bP (a+1))


def kE(p0:aO)(p1:aO):Option Int:=
  some (bP (p0.X0-p1.X0))

def gL(c:(List aO)):List aO→Nat→List Int→Option ((List Int)×(List aO))
  | [],e,a=>
    some (a,c)
  | d ::b,e,a=>
    (if(decide (0≤(bP ((a.length:Int)-1)))) then 
      (idx a (bP ((a.length:Int)-1))).bind fun f=>
      some (decide (d.X0≤f))
     else some false).bind fun g=>
    if g then
      (idx a (bP ((a.length:Int)-1))).bind fun h=>
      (idx a (bP ((a.length:Int)-1))).bind fun l=>
      (sets a (bP ((a.length:Int)-1)) (max h d.X1)).bind fun i=>
      (gL c b (e+1)) i
    else
      (EC a [d.X0,d.X1]).bind fun j=>
      (gL c b (e+1)) j
noncomputable def kI(p0:(List aO)):Option ((List Int)×(List aO)):=
  (Dc p0 (fun z0 z1=>kE z0 z1)).bind fun a=>
  gL a a 0 ([]:List Int)

def gW(p1:(List Int)):List Int→Nat→Option Bool
  | [],a=>
    some true
  | d ::b,a=>
    (idx p1 (a:Int)).bind fun c=>
    if(d !=c) then
      some false
    else
      (gW p1 b (a+1))
def nX(p0:(List Int))(p1:(List Int)):Option Bool:=
  if((p0.length:Int) !=(p1.length:Int)) then
    some false
  else
    gW p1 p0 0


def gm(p0:(List bz))(p1:bz):Option (List bz):=
  if(((p1.Xs.length:Int)==0)||(decide (p1.Y1≤p1.Y0))) then
    some p0
  else
    (if(decide (0≤(bP ((p0.length:Int)-1)))) then 
      (idx p0 (bP ((p0.length:Int)-1))).bind fun b=>
      some (b.Y1==p1.Y0)
     else some false).bind fun c=>
    (if c then 
      (idx p0 (bP ((p0.length:Int)-1))).bind fun d=>
      (nX d.Xs p1.Xs).bind fun e=>
      some e
     else some false).bind fun f=>
    if f then
      (idx p0 (bP ((p0.length:Int)-1))).bind fun a=>
      (sets p0 (bP ((p0.length:Int)-1)) (bz.mk a.Y0 p1.Y1 a.Xs)).bind fun g=>
      some g
    else
      (EC p0 [p1]).bind fun h=>
      some h

noncomputable def iA(c:(List aO))(d:(List Int))(a:Int)(e:List bz)(h:Int→(List bz)→(List aO)→Int→Option (List bz)):Nat→List aO→Int→Option (List bz)
  |0,_,_=>none
  | t +1,f,b=>
    (if(decide (b<(c.length:Int))) then 
      (idx c b).bind fun i=>
      (idx d a).bind fun j=>
      some (decide (i.Y0≤j))
     else some false).bind fun l=>
    if l then
      (idx c b).bind fun n=>
      (EC f [n]).bind fun o=>
      (iA c d a e h t) o (bP (b+1))
    else
      (idx d a).bind fun p=>
      (idx d (bP (a+1))).bind fun q=>
      (kI f).bind fun g=>
      (gm e (bz.mk p q g.1)).bind fun s=>
      h (bP (a+1)) s g.2 b
noncomputable def dU(N:Nat)(c:(List aO))(a:(List Int)):Nat→Int→List bz→List aO→Int→Option (List bz)
  |0,_,_,_,_=>none
  | h +1,b,d,e,f=>
    if(decide ((bP (b+1))<(a.length:Int))) then
      (jE N e (fun z0=>nz z0 a b)).bind fun g=>
      iA c a b d (dU N c a h) N g f
    else
      some d
noncomputable def je(N:Nat)(b:(List aO)):List aO→Nat→List Int→Option (List bz)
  | [],d,a=>
    (I1 a).bind fun f=>
    (WF f).bind fun g=>
    dU N b g N 0 ([]:List bz) ([]:List aO) 0
  | e::c,d,a=>
    (EC a [e.Y0,e.Y1]).bind fun h=>
    (je N b c (d+1)) h
noncomputable def jV(N:Nat)(p0:(List aO)):Option (List bz):=
  (nG p0).bind fun b=>
  (Dc b (fun z0 z1=>nA z0 z1)).bind fun a=>
  je N a a 0 ([]:List Int)

def gX(d:(List aO)→Option (List aO))(a:bz):Nat→List aO→Int→Option (List aO)
  |0,_,_=>none
  | h +1,c,b=>
    if(decide (b<(a.Xs.length:Int))) then
      (idx a.Xs b).bind fun e=>
      (idx a.Xs (bP (b+1))).bind fun f=>
      (EC c [(aO.mk e a.Y0 f a.Y1)]).bind fun g=>
      (gX d a h) g (bP (b+2))
    else
      d c
def eY(N:Nat):List bz→Nat→List aO→Option (List aO)
  | [],c,a=>
    some a
  | d::b,c,a=>
    gX (eY N b (c+1)) d N a 0
def mq(N:Nat)(p0:(List bz)):Option (List aO):=
  eY N p0 0 ([]:List aO)

def gI(p1:(List aO)):List aO→Nat→Option Bool
  | [],a=>
    some true
  | d ::b,a=>
    (idx p1 (a:Int)).bind fun c=>
    if(!(za d c)) then
      some false
    else
      (gI p1 b (a+1))
def lN(p0:(List aO))(p1:(List aO)):Option Bool:=
  if((p0.length:Int) !=(p1.length:Int)) then
    some false
  else
    gI p1 p0 0

noncomputable def dV(N:Nat)(p0:(List aO)):Nat→Int→Option Int
  |0,_=>none
  | g + 1,a=>
    if (decide (a<(p0.length:Int))) then
      (idx p0 (bP (a-1))).bind fun b=>
      (idx p0 a).bind fun c=>
      if((decide (c.Y0<b.Y0))||((c.Y0==b.Y0)&&(decide (c.X0≤b.X0)))) then
        some 8
      else
        (dV N p0 g) (bP (a+1))
    else
      (jV N p0).bind fun d=>
      (mq N d).bind fun e=>
      (lN e p0).bind fun f=>
      if(!f) then
        some 3
      else
        some 0
noncomputable def kF(N:Nat)(p0:(List aO)):Option Int:=
  (mr p0).bind fun a=>
  if(a !=0) then
    some a
  else
    dV N p0 N 1

noncomputable def gZ(N:Nat):List rP→Nat→Int→Option Int
  | [],e,a=>
    if(decide (2000<a)) then
      some 2
    else
      some 0
  | b ::c,e,a=>
    (pX b.Layer (-1) 15).bind fun f=>
    if(!f) then
      some 1
    else
      (kF N b.Region).bind fun d=>
      if(d !=0) then
        some d
      else
        (mK b.Clearance).bind fun g=>
        if(!g) then
          some 1
        else
          (gZ N c (e+1)) (bP (a+(b.Region.length:Int)))
noncomputable def nZ(N:Nat)(p0:uj):Option Int:=
  (lY [p0.Clearance,p0.Width,p0.Ring,p0.Edge,p0.HoleGap] (fun z0=>mM z0)).bind fun b=>
  if b then
    some 1
  else
    (oU N p0.Classes).bind fun a=>
    if(a !=0) then
      some a
    else
      if(decide (50<(p0.Areas.length:Int))) then
        some 2
      else
        gZ N p0.Areas 0 0

noncomputable def ku(N:Nat)(p0:lU):List eX→Nat→Option zg
  | [], a =>
    (mD N p0.Outline).bind fun b=>
    if(b !=0) then
      (lM (⟨#[111,117,116,108,105,110,101]⟩) b).bind fun g=>
      some g
    else
      if(decide (500<(p0.Bores.length:Int))) then
        (lM (⟨#[98,111,114,101,115]⟩) 2).bind fun h=>
        some h
      else
        (nM N p0.Bodies p0.Places).bind fun c=>
        if(c !=0) then
          (lM (⟨#[112,108,97,99,101,115]⟩) c).bind fun i=>
          some i
        else
          (o5 N p0).bind fun d=>
          if(d !=0) then
            (lM (⟨#[102,101,101,116]⟩) d).bind fun j=>
            some j
          else
            (nZ N p0.Rules).bind fun l=>
            (lM (⟨#[114,117,108,101,115]⟩) l).bind fun n=>
            some n
  | s ::e,a=>
    (mD N s).bind fun f=>
    if(f !=0) then
      (L9 (a:Int)).bind fun o=>
      (Qh (⟨#[112,108,111,116,32]⟩) o).bind fun p=>
      (lM p f).bind fun q=>
      some q
    else
      (ku N p0 e (a+1))
noncomputable def sM(N:Nat)(p0:lU):Option zg:=
  (nL N p0.Types p0.List_).bind fun a=>
  if(a !=0) then
    (lM (⟨#[108,105,115,116]⟩) a).bind fun c=>
    some c
  else
    (nV N p0.Materials p0.Stack).bind fun b=>
    if(b !=0) then
      (lM (⟨#[115,116,97,99,107]⟩) b).bind fun d=>
      some d
    else
      (sQ p0).bind fun e=>
      if((p0.Plots.length:Int) !=e) then
        (lM (⟨#[112,108,111,116,115]⟩) 3).bind fun f=>
        some f
      else
        ku N p0 p0.Plots 0


def qY(p0:zg):Option Bool:=
  some (p0.fault !=0)


def eQ(p0:Int)(p1:Int)(p2:Int):Option Bool:=
  some ((decide (p1≤p0))&&(decide (p0≤p2)))

def ib(N :Nat)(p0:(List bW)):List bW→Nat→Option Int
  | [],b=>
    some 0
  | a :: c,b=>
    (jW N a.Name).bind fun e=>
    if(!e) then
      some 5
    else
      (eQ a.W 1 1000000).bind fun f=>
      (if(!f) then some true else 
        (eQ a.H 1 1000000).bind fun g=>
        some (!g)
      ).bind fun h=>
      if h then
        some 1
      else
        (if(decide (0<(b:Int))) then 
          (idx p0 (bP ((b:Int)-1))).bind fun d=>
          some (Cm a.Name d.Name||rW a.Name d.Name)
         else some false).bind fun i=>
        if i then
          some 8
        else
          (ib N p0 c (b+1))
def og(N:Nat)(p0:(List bW)):Option Int:=
  if(decide (50<(p0.length:Int))) then
    some 2
  else
    ib N p0 p0 0


def qf(p0:bW)(q0:ByteArray):Option Bool:=
  some (rW p0.Name q0)

def eF(p1:bW→Option Bool):List bW→Nat→Option Int
  | [],a=>
    some (-1)
  | d ::b,a=>
    (p1 d).bind fun c=>
    if c then
      some (a:Int)
    else
      (eF p1 b (a+1))
def kW(p0:(List bW))(p1:bW→Option Bool):Option Int:=
  eF p1 p0 0


def mQ(p0:dw)(p1:ByteArray):Option Int:=
  (kW p0.Kinds (fun z0=>qf z0 p1)).bind fun a=>
  some a


def rE(p0:bW)(p1:Int):Option (Int×Int):=
  if((Int.tmod p1 2)==1) then
    some (p0.H,p0.W)
  else
    some (p0.W,p0.H)


def qg(p0:dw)(p1:jH):Option aO:=
  (mQ p0 p1.Board).bind fun b=>
  (idx p0.Kinds b).bind fun c=>
  (rE c p1.Quarters).bind fun a=>
  some (aO.mk p1.At.X p1.At.Y (bP (p1.At.X+a.1)) (bP (p1.At.Y+a.2)))


def uC(p0:dw)(p1:aO):Option Bool:=
  some ((((((decide (p0.Rail≤p1.X0))&&(decide (p0.Rail≤p1.Y0)))&&(decide (p1.X0≤p0.W)))&&(decide (p1.Y0≤p0.H)))&&(decide (p1.X1≤(bP (p0.W-p0.Rail)))))&&(decide (p1.Y1≤(bP (p0.H-p0.Rail)))))


def qH(p0:aO)(p1:aO)(p2:Int):Option Bool:=
  some ((((decide ((bP (p0.X1+p2))≤p1.X0))||(decide ((bP (p1.X1+p2))≤p0.X0)))||(decide ((bP (p0.Y1+p2))≤p1.Y0)))||(decide ((bP (p1.Y1+p2))≤p0.Y0)))


def oH(p0:aO)(q0:aO)(q1:dw):Option Bool:=
  (qH q0 p0 q1.Gap).bind fun a=>
  some (!a)


def fO(p0:(List aO))(p1:aO→Option Bool):Option Bool:=
  (jN p0 p1).bind fun a=>
  some (decide (0≤a))

def kr(p0:dw):List jH→Nat→List aO→Option ((List aO)×Int)
  | [],e,a=>
    some (a,0)
  | b :: d, e,a=>
    (mQ p0 b.Board).bind fun f=>
    if(decide (f<0)) then
      some (([]:List aO),5)
    else
      (eQ b.Quarters 0 3).bind fun g=>
      (if(!g) then some true else 
        (eQ b.At.X 0 p0.W).bind fun h=>
        some (!h)
      ).bind fun i=>
      (if i then some true else 
        (eQ b.At.Y 0 p0.H).bind fun j=>
        some (!j)
      ).bind fun l=>
      if l then
        some (([]:List aO),1)
      else
        (qg p0 b).bind fun c=>
        (uC p0 c).bind fun n=>
        if(!n) then
          some (([]:List aO),1)
        else
          (fO a (fun z0=>oH z0 c p0)).bind fun o=>
          if o then
            some (([]:List aO),12)
          else
            (EC a [c]).bind fun p=>
            (kr p0 d (e+1)) p
def sK(p0:dw):Option ((List aO)×Int):=
  if(decide (500<(p0.Slots.length:Int))) then
    some (([]:List aO),2)
  else
    kr p0 p0.Slots 0 ([]:List aO)


def ng(p0:dw)(p1:aK):Option Bool:=
  (eQ p1.X 0 p0.W).bind fun a=>
  (if a then 
    (eQ p1.Y 0 p0.H).bind fun b=>
    some b
   else some false).bind fun c=>
  some c


def uY(p0:aO)(p1:aK):Option Bool:=
  some ((((decide (p0.X0<p1.X))&&(decide (p1.X<p0.X1)))&&(decide (p0.Y0<p1.Y)))&&(decide (p1.Y<p0.Y1)))


def rF(p0:aO)(q0:aK):Option Bool:=
  (uY p0 q0).bind fun a=>
  some a

def ic(p1:aK):List aK→Nat→Option Int
  | [],a=>
    some (-1)
  | c ::b,a=>
    if(kw p1 c) then
      some (a:Int)
    else
      (ic p1 b (a+1))
def oN(p0:(List aK))(p1:aK):Option Int:=
  ic p1 p0 0


def lq(p0:(List aK))(p1:aK):Option Bool:=
  (oN p0 p1).bind fun a=>
  some (decide (0≤a))

def lc(p0:dw)(a:((List aO)×Int)):List aK→Nat→Option ((List aO)×Int)
  | [],b=>
    some (a.1,0)
  | c ::d,b=>
    (ng p0 c).bind fun e=>
    if(!e) then
      some (([]:List aO),1)
    else
      (fO a.1 (fun z0=>rF z0 c)).bind fun f=>
      if f then
        some (([]:List aO),12)
      else
        (pre p0.Marks (b:Int)).bind fun g=>
        (lq g c).bind fun h=>
        if h then
          some (([]:List aO),7)
        else
          (lc p0 a d (b+1))
def rT(N :Nat)(p0:dw):Option ((List aO)×Int):=
  (eQ p0.W 1 1000000).bind fun c=>
  (if(!c) then some true else 
    (eQ p0.H 1 1000000).bind fun d=>
    some (!d)
  ).bind fun e=>
  (if e then some true else 
    (eQ p0.Rail 0 1000000).bind fun f=>
    some (!f)
  ).bind fun g=>
  (if g then some true else 
    (eQ p0.Gap 0 1000000).bind fun h=>
    some (!h)
  ).bind fun i=>
  if i then
    some (([]:List aO),1)
  else
    (og N p0.Kinds).bind fun b=>
    if(b !=0) then
      some (([]:List aO),b)
    else
      (sK p0).bind fun a=>
      if(a.2 !=0) then
        some (([]:List aO),a.2)
      else
        if(decide (10<(p0.Marks.length:Int))) then
          some (([]:List aO),2)
        else
          lc p0 a p0.Marks 0


def mE(N:Nat)(p0:dw):Option Int:=
  (rT N p0).bind fun a=>
  some a.2

def kM(p1:ByteArray):List bW→Nat→Option (bW×Bool)
  | [],b=>
    some ((bW.mk (⟨#[]⟩) 0 0),false)
  | c ::a,b=>
    if(rW c.Name p1) then
      some (c,true)
    else
      (kM p1 a (b+1))
def uE(p0:dw)(p1:ByteArray):Option (bW×Bool):=
  kM p1 p0.Kinds 0

noncomputable def iK(N:Nat)(p0:eX)(c:List (List bz))(e:(List (List bz))→Option di):List aO→Nat→List aO→Option di
  | [],f,a=>
    (jV N a).bind fun g=>
    (EC c [g]).bind fun h=>
    e h
  | b::d,f,a=>
    (EC a [(aO.mk (bP (b.X0*p0.Unit)) (bP (b.Y0*p0.Unit)) (bP (b.X1*p0.Unit)) (bP (b.Y1*p0.Unit)))]).bind fun i=>
    (iK N p0 c e d (f+1)) i
noncomputable def fB(N:Nat)(p0:eX):List eH→Nat→List (List bz)→Option di
  | [],c,a=>
    some (di.mk p0 a [] false (-1) (aK.mk 0 0) false 0 0)
  | d::b,c,a=>
    iK N p0 a (fB N p0 b (c+1)) d.Rects 0 ([]:List aO)
noncomputable def oV(N:Nat)(p0:eX):Option di:=
  fB N p0 p0.Tools 0 ([]:List (List bz))


def ma(p0:di)(p1:aK)(p2:aK):Option aK:=
  some (aK.mk (bP ((bP (p1.X*p0.p.Unit))+p2.X)) (bP ((bP (p1.Y*p0.p.Unit))+p2.Y)))


def zq(p0:aK)(p1:aK):Option Int:=
  some (bP ((max (bP (p0.X-p1.X)) (bP (p1.X-p0.X)))+(max (bP (p0.Y-p1.Y)) (bP (p1.Y-p0.Y)))))

noncomputable def iE(N:Nat)(p1:Int)(p2:Int)(p3:Int)(p4:Int)(d:(List aO)):Nat→List aO→Int→Option (List bz)
  |0,_,_=>none
  | g +1,b,a=>
    if(decide (a<(d.length:Int))) then
      (idx b a).bind fun c=>
      (idx b a).bind fun h=>
      (sets b a (aO.mk (bP (c.X0-p1)) (bP (c.Y0-p3)) (bP (c.X1+p2)) (bP (c.Y1+p4)))).bind fun e=>
      (iE N p1 p2 p3 p4 d g) e (bP (a+1))
    else
      (jV N b).bind fun f=>
      some f
noncomputable def nH(N:Nat)(p0:(List bz))(p1:Int)(p2:Int)(p3:Int)(p4:Int):Option (List bz):=
  (mq N p0).bind fun a=>
  iE N p1 p2 p3 p4 a N a 0


noncomputable def qz(N:Nat)(p0:(List bz))(p1:aK)(p2:aK):Option (List bz):=
  (nH N p0 (bP (0-(min p1.X p2.X))) (max p1.X p2.X) (bP (0-(min p1.Y p2.Y))) (max p1.Y p2.Y)).bind fun a=>
  some a

def iG(c:bz)(d:bz):List bz→Nat→Int→Int→Option aO
  | [],g,a,b=>
    some (aO.mk a c.Y0 b d.Y1)
  | e::f,g,a,b=>
    (idx e.Xs 0).bind fun h=>
    (idx e.Xs (bP ((e.Xs.length:Int)-1))).bind fun i=>
    (iG c d f (g+1)) (min a h) (max b i)
def nJ(p0:(List bz)):Option aO:=
  (idx p0 0).bind fun a=>
  (idx a.Xs 0).bind fun b=>
  (idx p0 0).bind fun c=>
  (idx p0 0).bind fun d=>
  (idx d.Xs 1).bind fun e=>
  (idx p0 (bP ((p0.length:Int)-1))).bind fun f=>
  iG c f p0 0 b e


def oQ(p0:(List bz)):Option Bool:=
  (if((p0.length:Int)==0) then some true else 
    (nJ p0).bind fun a=>
    (pW a).bind fun b=>
    some b
  ).bind fun c=>
  some c


def oC(p0:(List bz))(p1:Int)(p2:Int):Option ((List Int)×Int):=
  if((p0.length:Int)==0) then
    some (([]:List Int),p2)
  else
    (idx p0 0).bind fun a=>
    if(decide (p1<a.Y0)) then
      (idx p0 0).bind fun b=>
      some ([],(min p2 b.Y0))
    else
      (idx p0 0).bind fun c=>
      (idx p0 0).bind fun d=>
      some (c.Xs,(min p2 d.Y1))

def nu(p2:Bool→Bool→Option Bool)(c:List Int)(d:Bool)(h:(List Int)→(List Int)→(List Int)→Bool→Bool→Bool→Option (List Int))(i:Int)(e:List Int)(a:Bool)(f:List Int)(b:Bool):Option (List Int):=
  (p2 a b).bind fun g=>
  if(g !=d) then
    (EC c [i]).bind fun j=>
    h e f j a b g
  else
    h e f c a b d
def kY(p2:Bool→Bool→Option Bool)(a:List Int)(c:List Int)(d:Bool)(e:Bool)(h:(List Int)→(List Int)→(List Int)→Bool→Bool→Bool→Option (List Int))(b:Int)(f:List Int)(g:Bool):Option (List Int):=
  (if(decide (0<(a.length:Int))) then 
    (idx a 0).bind fun i=>
    some (i==b)
   else some false).bind fun j=>
  if j then
    (cut a 1 (a.length:Int)).bind fun l=>
    nu p2 c e h b f g l (!d)
  else
    nu p2 c e h b f g a d
def ko(p2:Bool→Bool→Option Bool)(a:List Int)(c:List Int)(d:List Int)(e:Bool)(f:Bool)(g:Bool)(h:(List Int)→(List Int)→(List Int)→Bool→Bool→Bool→Option (List Int))(b:Int):Option (List Int):=
  (if(decide (0<(a.length:Int))) then 
    (idx a 0).bind fun i=>
    some (i==b)
   else some false).bind fun j=>
  if j then
    (cut a 1 (a.length:Int)).bind fun l=>
    kY p2 c d f g h b l (!e)
  else
    kY p2 c d f g h b a e
def eG(p2:Bool→Bool→Option Bool):Nat→List Int→List Int→List Int→Bool→Bool→Bool→Option (List Int)
  |0,_,_,_,_,_,_=>none
  | g + 1,a,b,c,d,e,f=>
    if ((decide (0<(a.length:Int)))||(decide (0<(b.length:Int)))) then
      (if ((b.length:Int)==0) then some true else 
        (if(decide (0<(a.length:Int))) then 
          (idx a 0).bind fun h=>
          (idx b 0).bind fun i=>
          some (decide (h≤i))
         else some false).bind fun j=>
        some j
      ).bind fun l=>
      if l then
        (idx a 0).bind fun n=>
        ko p2 a b c d e f (eG p2 g) n
      else
        (idx b 0).bind fun o=>
        ko p2 a b c d e f (eG p2 g) o
    else
      some c
def ut(N:Nat)(p0:(List Int))(p1:(List Int))(p2:Bool→Bool→Option Bool):Option (List Int):=
  eG p2 N p0 p1 ([]:List Int) false false false

def lv(b:List (List bz))(c:Int)(h:Int→Int→(List (List bz))→Int→Option (List bz))(a:(List bz))(d:Int)(e:Int):Option (List bz):=
  (idx a 0).bind fun f=>
  (idx a (bP ((a.length:Int)-1))).bind fun g=>
  h (min d f.Y0) (max e g.Y1) b (bP (c+1))
def kJ(N:Nat)(p2:Bool→Bool→Option Bool)(c:Int)(g:List bz)(b:Int)(h:(List bz)→(List bz)→(List bz)→Int→Option (List bz))(d:List bz):Nat→List bz→Option (List bz)
  |0,_=>none
  | i +1,a=>
    (if(decide (0<(a.length:Int))) then 
      (idx a 0).bind fun j=>
      some (decide (j.Y1≤b))
     else some false).bind fun l=>
    if l then
      (cut a 1 (a.length:Int)).bind fun n=>
      (kJ N p2 c g b h d i) n
    else
      (oC d b c).bind fun e=>
      (oC a b c).bind fun f=>
      (ut N e.1 f.1 p2).bind fun o=>
      (gm g (bz.mk b (min e.2 f.2) o)).bind fun p=>
      h d a p (min e.2 f.2)
def kK(N:Nat)(p2:Bool→Bool→Option Bool)(c:Int)(d:List bz)(e:List bz)(b:Int)(f:(List bz)→(List bz)→(List bz)→Int→Option (List bz)):Nat→List bz→Option (List bz)
  |0,_=>none
  | g +1,a=>
    (if(decide (0<(a.length:Int))) then 
      (idx a 0).bind fun h=>
      some (decide (h.Y1≤b))
     else some false).bind fun i=>
    if i then
      (cut a 1 (a.length:Int)).bind fun j=>
      (kK N p2 c d e b f g) j
    else
      kJ N p2 c e b f a N d
def gT(N:Nat)(p2:Bool→Bool→Option Bool)(a:Int):Nat→List bz→List bz→List bz→Int→Option (List bz)
  |0,_,_,_,_=>none
  | f +1,d,e,b,c=>
    if(decide (c<a)) then
      kK N p2 a e b c (gT N p2 a f) N d
    else
      some b
def ek(N :Nat)(p0:(List bz))(p1:(List bz))(p2:Bool→Bool→Option Bool):Nat→Int→Int→List (List bz)→Int→Option (List bz)
  |0,_,_,_,_=>none
  | f + 1,d,e,c,a=>
    if (decide (a<2)) then
      (idx c a).bind fun b=>
      if (decide (0<(b.length:Int))) then
        if((a==0)||((p0.length:Int)==0)) then
          (idx b 0).bind fun g=>
          (idx b (bP ((b.length:Int)-1))).bind fun h=>
          lv c a (ek N p0 p1 p2 f) b g.Y0 h.Y1
        else
          lv c a (ek N p0 p1 p2 f) b d e
      else
        (ek N p0 p1 p2 f) d e c (bP (a+1))
    else
      gT N p2 e N p0 p1 ([]:List bz) d
def qL(N:Nat)(p0:(List bz))(p1:(List bz))(p2:Bool→Bool→Option Bool):Option (List bz):=
  if((bP ((p0.length:Int)+(p1.length:Int)))==0) then
    some ([]:List bz)
  else
    ek N p0 p1 p2 N 0 0 [p0,p1] 0


def nI(p0:Bool)(p1:Bool):Option Bool:=
  some (p0&&(!p1))


def lJ(N:Nat)(p0:(List bz))(p1:(List bz)):Option (List bz):=
  (qL N p0 p1 (fun z0 z1=>nI z0 z1)).bind fun a=>
  some a


def oO(p0:Bool)(p1:Bool):Option Bool:=
  some (p0||p1)


def oD(N:Nat)(p0:(List bz))(p1:(List bz)):Option (List bz):=
  (qL N p0 p1 (fun z0 z1=>oO z0 z1)).bind fun a=>
  some a

def iF:List bz→Nat→Int→Option Int
  | [],c,a=>
    some a
  | d::b,c,a=>
    (iF b (c+1)) (bP (a+(bP (Int.tdiv (d.Xs.length:Int) 2))))
def oP(p0:(List bz)):Option Int:=
  iF p0 0 0

def jg(a:List bz):Option (Int×(List bz)):=
  (oP a).bind fun b=>
  if(decide (2000<b)) then
    some (2,a)
  else
    some (0,a)
def jR(N:Nat)(p0:di)(p1:(List bz)):Option (Int×(List bz)):=
  (oQ p1).bind fun a=>
  if(!a) then
    some (1,p0.image)
  else
    if p0.clear then
      (lJ N p0.image p1).bind fun b=>
      jg b
    else
      (oD N p0.image p1).bind fun c=>
      jg c

def il(p1:aK)(a:Int):Option (Int×Int×Int×Bool×Int):=
  some (0,p1.X,p1.Y,true,a)
def jf(p0:di)(p1:aK):Option (Int×Int×Int×Bool×Int):=
  (jb p1).bind fun a=>
  if(!a) then
    some (1,p0.place.X,p0.place.Y,p0.placed,p0.off)
  else
    if p0.placed then
      (zq p0.place p1).bind fun b=>
      il p1 (bP (p0.off+b))
    else
      il p1 p0.off


noncomputable def mf(N:Nat)(p0:di)(p1:aK):Option (Int×Int×Int×Bool×Int×(List bz)):=
  if(decide (p0.tool<0)) then
    some (11,p0.place.X,p0.place.Y,p0.placed,p0.off,p0.image)
  else
    (jf p0 p1).bind fun a=>
    if(a.1 !=0) then
      some (a.1,a.2.1,a.2.2.1,a.2.2.2.1,a.2.2.2.2,p0.image)
    else
      (idx p0.tools p0.tool).bind fun c=>
      (qz N c p1 p1).bind fun d=>
      (jR N (di.mk p0.p p0.tools p0.image p0.clear p0.tool (aK.mk a.2.1 a.2.2.1) a.2.2.2.1 a.2.2.2.2 p0.on) d).bind fun b=>
      some (b.1,a.2.1,a.2.2.1,a.2.2.2.1,a.2.2.2.2,b.2)

def ik(p1:aK)(a:Int):Option (Int×Int×Int×Bool×Int):=
  some (0,p1.X,p1.Y,true,a)
def jQ(p0:di)(p1:aK):Option (Int×Int×Int×Bool×Int):=
  (jb p1).bind fun a=>
  if(!a) then
    some (1,p0.place.X,p0.place.Y,p0.placed,p0.on)
  else
    if p0.placed then
      (zq p0.place p1).bind fun b=>
      ik p1 (bP (p0.on+b))
    else
      ik p1 p0.on


noncomputable def mO(N:Nat)(p0:di)(p1:aK):Option (Int×Int×Int×Bool×Int×(List bz)):=
  if((decide (p0.tool<0))||(!p0.placed)) then
    some (11,p0.place.X,p0.place.Y,p0.placed,p0.on,p0.image)
  else
    if((p1.X !=p0.place.X)&&(p1.Y !=p0.place.Y)) then
      some (3,p0.place.X,p0.place.Y,p0.placed,p0.on,p0.image)
    else
      (jQ p0 p1).bind fun a=>
      if(a.1 !=0) then
        some (a.1,a.2.1,a.2.2.1,a.2.2.2.1,a.2.2.2.2,p0.image)
      else
        (idx p0.tools p0.tool).bind fun c=>
        (qz N c p0.place p1).bind fun d=>
        (jR N (di.mk p0.p p0.tools p0.image p0.clear p0.tool (aK.mk a.2.1 a.2.2.1) a.2.2.2.1 p0.off a.2.2.2.2) d).bind fun b=>
        some (b.1,a.2.1,a.2.2.1,a.2.2.2.1,a.2.2.2.2,b.2)


def nR(p0:aO)(p1:aO):Option Int:=
  some (bP (p0.X0-p1.X0))

def iH(c:(List Int))(e:List bz)(b:Int)(f:(List bz)→Int→Option (List bz)):List aO→Nat→List Int→Option (List bz)
  | [],g,a=>
    (idx c b).bind fun i=>
    (idx c (bP (b+1))).bind fun j=>
    (gm e (bz.mk i j a)).bind fun l=>
    f l (bP (b+1))
  | h ::d,g,a=>
    (idx c b).bind fun n=>
    (if(decide (n<h.Y0)) then some true else 
      (idx c b).bind fun o=>
      some (decide (h.Y1≤o))
    ).bind fun p=>
    if p then
      (iH c e b f d (g+1)) a
    else
      (if(decide (0<(a.length:Int))) then 
        (idx a (bP ((a.length:Int)-1))).bind fun q=>
        some (q==h.X0)
       else some false).bind fun s=>
      if s then
        (pre a (bP ((a.length:Int)-1))).bind fun t=>
        (iH c e b f d (g+1)) t
      else
        (EC a [h.X0]).bind fun u=>
        (iH c e b f d (g+1)) u
def iI(a:(List Int))(b:(List aO)):Nat→List bz→Int→Option (List bz)
  |0,_,_=>none
  | e +1,c,d=>
    if(decide ((bP (d+1))<(a.length:Int))) then
      iH a c d (iI a b e) b 0 ([]:List Int)
    else
      some c
def jl(h:(List Int)→(List aO)→Option (List bz))(f:(List aK)):List aK→Nat→List Int→List aO→Option (List bz)
  | [],g,d,a=>
    h d a
  | b ::c,g,d,a=>
    (md (bP ((g:Int)+1)) (f.length:Int)).bind fun j=>
    (idx f j).bind fun e=>
    (EC d [b.Y]).bind fun i=>
    if(b.X==e.X) then
      (EC a [(aO.mk b.X (min b.Y e.Y) 0 (max b.Y e.Y))]).bind fun l=>
      (jl h f c (g+1)) i l
    else
      (jl h f c (g+1)) i a
noncomputable def iJ(N:Nat):List (List aK)→Nat→List Int→List aO→Option (List bz)
  | [],d,a,b=>
    (I1 a).bind fun f=>
    (WF f).bind fun g=>
    (Dc b (fun z0 z1=>nR z0 z1)).bind fun h=>
    iI g h N ([]:List bz) 0
  | e::c,d,a,b=>
    jl (iJ N c (d+1)) e e 0 a b
noncomputable def rC(N:Nat)(p0:(List (List aK))):Option (List bz):=
  iJ N p0 0 ([]:List Int) ([]:List aO)


def iL(p0:aK):Option Bool:=
  (jb p0).bind fun a=>
  some (!a)

noncomputable def fD(N:Nat)(p0:di)(p2:aK):List aK→Nat→List aK→Option (Int×(List bz))
  | [], e,a=>
    (rC N [a]).bind fun b=>
    (oP b).bind fun f=>
    if(decide (2000<f)) then
      some (2,p0.image)
    else
      (fG a (fun z0=>iL z0)).bind fun g=>
      if g then
        some (1,p0.image)
      else
        (jR N p0 b).bind fun c=>
        some (c.1,c.2)
  | j::d,e,a=>
    (ma p0 j p2).bind fun h=>
    (EC a [h]).bind fun i=>
    (fD N p0 p2 d (e+1)) i
noncomputable def mP(N:Nat)(p0:di)(p1:(List aK))(p2:aK):Option (Int×(List bz)):=
  fD N p0 p2 p1 0 ([]:List aK)

def fC(a:List bz)(b:Bool)(c:Int)(d:Int)(e:Int)(f:Bool)(g:Int)(h:Int):Option (Int×Bool×Int×Int×Int×Bool×Int×Int×(List bz)):=
  some (0,b,c,d,e,f,g,h,a)
def gM(p0:di)(p1:aZ)(p2:aK)(rec:di→(List aZ)→aK→Option (Int×Bool×Int×Int×Int×Bool×Int×Int×(List bz)))(b:Int)(n:(List bz)→Bool→Int→Int→Int→Bool→Int→Int→Int→Option (Int×Bool×Int×Int×Int×Bool×Int×Int×(List bz))):Nat→List bz→Bool→Int→Int→Int→Bool→Int→Int→Int→Option (Int×Bool×Int×Int×Int×Bool×Int×Int×(List bz))
  |0,_,_,_,_,_,_,_,_,_=>none
  | o + 1,d,e,f,g,h,i,j,l,c=>
    if (decide (c<p1.NX)) then
      (rec (di.mk p0.p p0.tools d e f (aK.mk g h) i j l) p1.Steps (aK.mk (bP (p2.X+(bP ((bP (c*p1.At.X))*p0.p.Unit)))) (bP (p2.Y+(bP ((bP (b*p1.At.Y))*p0.p.Unit)))))).bind fun a=>
      if(a.1 !=0) then
        some (a.1,a.2.1,a.2.2.1,a.2.2.2.1,a.2.2.2.2.1,a.2.2.2.2.2.1,a.2.2.2.2.2.2.1,a.2.2.2.2.2.2.2.1,a.2.2.2.2.2.2.2.2)
      else
        (gM p0 p1 p2 rec b n o) a.2.2.2.2.2.2.2.2 a.2.1 a.2.2.1 a.2.2.2.1 a.2.2.2.2.1 a.2.2.2.2.2.1 a.2.2.2.2.2.2.1 a.2.2.2.2.2.2.2.1 (bP (c+1))
    else
      n d e f g h i j l (bP (b+1))
def eP(N:Nat)(p0:di)(p1:aZ)(p2:aK)(rec:di→(List aZ)→aK→Option (Int×Bool×Int×Int×Int×Bool×Int×Int×(List bz))):Nat→List bz→Bool→Int→Int→Int→Bool→Int→Int→Int→Option (Int×Bool×Int×Int×Int×Bool×Int×Int×(List bz))
  |0,_,_,_,_,_,_,_,_,_=>none
  | j +1,a,b,c,d,e,f,g,h,i=>
    if(decide (i<p1.NY)) then
      gM p0 p1 p2 rec i (eP N p0 p1 p2 rec j) N a b c d e f g h 0
    else
      fC a b c d e f g h
noncomputable def gN(N:Nat)(p0:di)(p1:aZ)(p2:aK)(rec:di→(List aZ)→aK→Option (Int×Bool×Int×Int×Int×Bool×Int×Int×(List bz)))(d:aK)(f:Bool):Option (Int×Bool×Int×Int×Int×Bool×Int×Int×(List bz)):=
  if f then
    fC p0.image (p1.Kind==2) p0.tool p0.place.X p0.place.Y p0.placed p0.off p0.on
  else
    if(p1.Kind==3) then
      (qM p0.p p1.Name).bind fun g=>
      fC p0.image p0.clear g p0.place.X p0.place.Y p0.placed p0.off p0.on
    else
      if(p1.Kind==4) then
        (jf p0 d).bind fun c=>
        some (c.1,p0.clear,p0.tool,c.2.1,c.2.2.1,c.2.2.2.1,c.2.2.2.2,p0.on,p0.image)
      else
        if(p1.Kind==5) then
          (mf N p0 d).bind fun a=>
          some (a.1,p0.clear,p0.tool,a.2.1,a.2.2.1,a.2.2.2.1,a.2.2.2.2.1,p0.on,a.2.2.2.2.2)
        else
          if(p1.Kind==6) then
            (mO N p0 d).bind fun b=>
            some (b.1,p0.clear,p0.tool,b.2.1,b.2.2.1,b.2.2.2.1,p0.off,b.2.2.2.2.1,b.2.2.2.2.2)
          else
            if(p1.Kind==7) then
              (mP N p0 p1.Points p2).bind fun e=>
              some (e.1,p0.clear,p0.tool,p0.place.X,p0.place.Y,p0.placed,p0.off,p0.on,e.2)
            else
              if(p1.Kind==8) then
                eP N p0 p1 p2 rec N p0.image p0.clear p0.tool p0.place.X p0.place.Y p0.placed p0.off p0.on 0
              else
                fC p0.image p0.clear p0.tool p0.place.X p0.place.Y p0.placed p0.off p0.on
noncomputable def jm(rec:di→(List aZ)→aK→Option (Int×Bool×Int×Int×Int×Bool×Int×Int×(List bz)))(N:Nat)(p0:di)(p1:aZ)(p2:aK):Option (Int×Bool×Int×Int×Int×Bool×Int×Int×(List bz)):=
  (ma p0 p1.At p2).bind fun a=>
  if(p1.Kind==1) then
    gN N p0 p1 p2 rec a (p1.Kind==1)
  else
    gN N p0 p1 p2 rec a (p1.Kind==2)

noncomputable def gJ(N:Nat)(p0:di)(p2:aK)(rec:di→(List aZ)→aK→Option (Int×Bool×Int×Int×Int×Bool×Int×Int×(List bz))):List aZ→Nat→List bz→Bool→Int→Int→Int→Bool→Int→Int→Option (Int×Bool×Int×Int×Int×Bool×Int×Int×(List bz))
  | [],l,b,c,d,e,f,g,h,i=>
    some (0,c,d,e,f,g,h,i,b)
  | n ::j,l,b,c,d,e,f,g,h,i=>
    (jm rec N (di.mk p0.p p0.tools b c d (aK.mk e f) g h i) n p2).bind fun a=>
    if(a.1 !=0) then
      some (a.1,a.2.1,a.2.2.1,a.2.2.2.1,a.2.2.2.2.1,a.2.2.2.2.2.1,a.2.2.2.2.2.2.1,a.2.2.2.2.2.2.2.1,a.2.2.2.2.2.2.2.2)
    else
      (gJ N p0 p2 rec j (l+1)) a.2.2.2.2.2.2.2.2 a.2.1 a.2.2.1 a.2.2.2.1 a.2.2.2.2.1 a.2.2.2.2.2.1 a.2.2.2.2.2.2.1 a.2.2.2.2.2.2.2.1
noncomputable def qR(N:Nat)(rec:di→(List aZ)→aK→Option (Int×Bool×Int×Int×Int×Bool×Int×Int×(List bz)))(p0:di)(p1:(List aZ))(p2:aK):Option (Int×Bool×Int×Int×Int×Bool×Int×Int×(List bz)):=
  gJ N p0 p2 rec p1 0 p0.image p0.clear p0.tool p0.place.X p0.place.Y p0.placed p0.off p0.on
noncomputable def lQ:Nat→di→(List aZ)→aK→Option (Int×Bool×Int×Int×Int×Bool×Int×Int×(List bz))
  |0=>fun _ _ _=>none
  |N+1=>qR N (lQ N)


noncomputable def uA(N:Nat)(p0:eX):Option (di×Int):=
  (oV N p0).bind fun b=>
  (lQ N b p0.Steps (aK.mk 0 0)).bind fun a=>
  some ((di.mk b.p b.tools a.2.2.2.2.2.2.2.2 a.2.1 a.2.2.1 (aK.mk a.2.2.2.1 a.2.2.2.2.1) a.2.2.2.2.2.1 a.2.2.2.2.2.2.1 a.2.2.2.2.2.2.2.1),a.1)


noncomputable def rD(N:Nat)(p0:eX):Option ((List bz)×Int):=
  (mD N p0).bind fun b=>
  if(b !=0) then
    some (([]:List bz),b)
  else
    (uA N p0).bind fun a=>
    if(a.2 !=0) then
      some (([]:List bz),a.2)
    else
      some (a.1.image,0)


def oF(N:Nat)(p0:(List bz))(p1:(List bz)):Option Bool:=
  (lJ N p0 p1).bind fun a=>
  some ((a.length:Int)==0)


def kN(p0:fq)(q0:bW):Option Bool:=
  (lL p0.At.X 0 q0.W).bind fun a=>
  (if(!a) then some true else 
    (lL p0.At.Y 0 q0.H).bind fun b=>
    some (!b)
  ).bind fun c=>
  some c

def jd(p1:fq→Option Bool):List fq→Nat→Option Int
  | [],a=>
    some (-1)
  | d ::b,a=>
    (p1 d).bind fun c=>
    if c then
      some (a:Int)
    else
      (jd p1 b (a+1))
def mX(p0:(List fq))(p1:fq→Option Bool):Option Int:=
  jd p1 p0 0


def jP(p0:(List fq))(p1:fq→Option Bool):Option Bool:=
  (mX p0 p1).bind fun a=>
  some (decide (0≤a))

def kL(p1:jH)(a:Int)(b:Int):Option oM:=
  some (oM.mk false p1.Quarters (aK.mk a b))
def qd(p0:dw)(p1:jH):Option oM:=
  (mQ p0 p1.Board).bind fun b=>
  (idx p0.Kinds b).bind fun a=>
  if(p1.Quarters==1) then
    kL p1 (bP (p1.At.X+a.H)) p1.At.Y
  else
    if(p1.Quarters==2) then
      kL p1 (bP (p1.At.X+a.W)) (bP (p1.At.Y+a.H))
    else
      if(p1.Quarters==3) then
        kL p1 p1.At.X (bP (p1.At.Y+a.W))
      else
        kL p1 p1.At.X p1.At.Y


def qh(N:Nat)(p0:dw)(p1:Int):Option (oM×Int):=
  (mE N p0).bind fun a=>
  if(a !=0) then
    some ((oM.mk false 0 (aK.mk 0 0)),a)
  else
    (eQ p1 0 (bP ((p0.Slots.length:Int)-1))).bind fun b=>
    if(!b) then
      some ((oM.mk false 0 (aK.mk 0 0)),9)
    else
      (idx p0.Slots p1).bind fun c=>
      (qd p0 c).bind fun d=>
      some (d,0)

def iD(p1:oM):Nat→Int→Int→Int→Option aK
  |0,_,_,_=>none
  | d +1,a,b,c=>
    if(decide (c<p1.Quarters)) then
      (iD p1 d) (bP (0-b)) a (bP (c+1))
    else
      some (aK.mk (bP (a+p1.At.X)) (bP (b+p1.At.Y)))
def lu(N:Nat)(p0:aK)(p1:oM)(a:Int):Option aK:=
  iD p1 N a p0.Y 0
def jM(N:Nat)(p0:aK)(p1:oM):Option aK:=
  if p1.Flip then
    lu N p0 p1 (bP (0-p0.X))
  else
    lu N p0 p1 p0.X

def jw(N:Nat)(e:(List fq)→Option ((List fq)×ByteArray×Int))(c:(oM×Int)):List fq→Nat→List fq→Option ((List fq)×ByteArray×Int)
  | [],f,b=>
    e b
  | a::d,f,b=>
    (jM N a.At c.1).bind fun g=>
    (EC b [(fq.mk g a.Size a.From a.To a.Plated)]).bind fun h=>
    (jw N e c d (f+1)) h
def gB(N:Nat)(p0:lU)(p1:dw)(p2:ByteArray):List jH→Nat→List fq→Option ((List fq)×ByteArray×Int)
  | [],c,a=>
    some (a,⟨#[]⟩,0)
  | e ::b,c,a=>
    if(!rW e.Board p2) then
      (gB N p0 p1 p2 b (c+1)) a
    else
      if(decide (500<(bP ((a.length:Int)+(p0.Bores.length:Int))))) then
        some (([]:List fq),⟨#[112,97,110,101,108]⟩,2)
      else
        (qh N p1 (c:Int)).bind fun d=>
        jw N (gB N p0 p1 p2 b (c+1)) d p0.Bores 0 a
noncomputable def sS(N:Nat)(p0:lU)(p1:dw)(p2:ByteArray):Option ((List fq)×ByteArray×Int):=
  (sM N p0).bind fun b=>
  (qY b).bind fun e=>
  if e then
    some ([],b.where_,b.fault)
  else
    (mE N p1).bind fun d=>
    if(d !=0) then
      some (([]:List fq),⟨#[112,97,110,101,108]⟩,d)
    else
      (uE p1 p2).bind fun a=>
      if(!a.2) then
        some (([]:List fq),⟨#[112,97,110,101,108]⟩,9)
      else
        (rD N p0.Outline).bind fun c=>
        if(c.2 !=0) then
          some (([]:List fq),⟨#[111,117,116,108,105,110,101]⟩,c.2)
        else
          (jV N [(aO.mk 0 0 a.1.W a.1.H)]).bind fun f=>
          (oF N c.1 f).bind fun g=>
          (if(!g) then some true else 
            (jP p0.Bores (fun z0=>kN z0 a.1)).bind fun h=>
            some h
          ).bind fun i=>
          if i then
            some (([]:List fq),⟨#[112,97,110,101,108]⟩,1)
          else
            gB N p0 p1 p2 p1.Slots 0 ([]:List fq)

def mZ:List aO→Nat→Int→Option Int
  | [],d,a=>
    some a
  | b::c,d,a=>
    (mZ c (d+1)) (bP (a+(bP ((bP (b.X1-b.X0))*(bP (b.Y1-b.Y0))))))
def wP(p0:(List aO)):Option Int:=
  mZ p0 0 0


noncomputable def vS(N:Nat)(p0:(List aO)):Option (Int×Int):=
  (kF N p0).bind fun a=>
  if(a !=0) then
    some (0,a)
  else
    (wP p0).bind fun b=>
    some (b,0)


noncomputable def jU(N:Nat):Option Bool:=
  (vS N [(aO.mk 0 0 2 3)]).bind fun a=>
  some ((a.2==0)&&(a.1==6))


def mY(p0:oM):Option Int:=
  (mJ p0.Quarters 0 3).bind fun a=>
  (if(!a) then some true else 
    (jb p0.At).bind fun b=>
    some (!b)
  ).bind fun c=>
  if c then
    some 1
  else
    some 0

def nC(N:Nat)(p0:oM)(a:Int):Option (oM×Int):=
  (jM N p0.At (oM.mk p0.Flip a (aK.mk 0 0))).bind fun b=>
  some ((oM.mk p0.Flip a (aK.mk (bP (0-b.X)) (bP (0-b.Y)))),0)
def uw(N:Nat)(p0:oM):Option (oM×Int):=
  (mY p0).bind fun a=>
  if(a !=0) then
    some ((oM.mk false 0 (aK.mk 0 0)),a)
  else
    if(!p0.Flip) then
      nC N p0 (Int.tmod (bP (4-p0.Quarters)) 4)
    else
      nC N p0 p0.Quarters

def jT(N:Nat)(p0:dw)(p1:aK):List aO→Nat→Option (Int×aK×Bool×Int)
  | [],a=>
    some (0,(aK.mk 0 0),false,0)
  | b ::c,a=>
    (eQ p1.X b.X0 b.X1).bind fun d=>
    (if d then 
      (eQ p1.Y b.Y0 b.Y1).bind fun e=>
      some e
     else some false).bind fun f=>
    if f then
      (idx p0.Slots (a:Int)).bind fun g=>
      (qd p0 g).bind fun h=>
      (uw N h).bind fun i=>
      (jM N p1 i.1).bind fun j=>
      some ((a:Int),j,true,0)
    else
      (jT N p0 p1 c (a+1))
def qI(N:Nat)(p0:dw)(p1:aK):Option (Int×aK×Bool×Int):=
  (rT N p0).bind fun a=>
  if(a.2 !=0) then
    some (0,(aK.mk 0 0),false,a.2)
  else
    (ng p0 p1).bind fun b=>
    if(!b) then
      some (0,(aK.mk 0 0),false,1)
    else
      jT N p0 p1 a.1 0

def dF(N:Nat)(p1:dw)(b:((List fq)×ByteArray×Int))(g:Int→Option Bool)(e:Nat):List fq→Nat→Int→Option Bool
  | [],h,a=>
    g a
  | d ::f,h,a=>
    (if(decide ((b.1.length:Int)≤a)) then some true else 
      (idx b.1 a).bind fun i=>
      some (i.Size !=d.Size)
    ).bind fun j=>
    (if j then some true else 
      (idx b.1 a).bind fun l=>
      some (l.From !=d.From)
    ).bind fun n=>
    (if n then some true else 
      (idx b.1 a).bind fun o=>
      some (o.To !=d.To)
    ).bind fun p=>
    (if p then some true else 
      (idx b.1 a).bind fun q=>
      some (q.Plated !=d.Plated)
    ).bind fun s=>
    if s then
      some false
    else
      (idx b.1 a).bind fun t=>
      (qI N p1 t.At).bind fun c=>
      if((((c.2.2.2 !=0)||(!c.2.2.1))||(decide ((e:Int)<c.1)))||((c.1==(e:Int))&&(!(kw c.2.1 d.At)))) then
        some false
      else
        (dF N p1 b g e f (h+1)) (bP (a+1))
noncomputable def bS(N:Nat)(p0:lU)(p1:dw)(p2:ByteArray)(a:((List fq)×ByteArray×Int)):List jH→Nat→Int→Option Bool
  | [],d,b=>
    (if(b==(a.1.length:Int)) then 
      (jU N).bind fun e=>
      some e
     else some false).bind fun f=>
    some f
  | g ::c,d,b=>
    if(!rW g.Board p2) then
      (bS N p0 p1 p2 a c (d+1)) b
    else
      dF N p1 a (bS N p0 p1 p2 a c (d+1)) d p0.Bores 0 b
noncomputable def iX(N:Nat)(p0:lU)(p1:dw)(p2:ByteArray):Option Bool:=
  (sS N p0 p1 p2).bind fun a=>
  if (a.2.2 !=0) then
    (if((a.1.length:Int)==0) then 
      (jU N).bind fun b=>
      some b
     else some false).bind fun c=>
    some c
  else
    bS N p0 p1 p2 a p1.Slots 0 0

end Go.Proofs.YtgijeiamflmkeaaGreatDoor
