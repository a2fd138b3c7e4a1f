/- Rules of the walks, or plain laws about the plain functions. Conditions: none beyond each theorem's own. -/
import Derived.Test.YtgijeiamflmkeaaGreatDoorJ2
import Derived.Test.YtgijeiamflmkeaaGreatDoorXF
import Derived.Lib.ItoaLen
namespace Go.Proofs.YtgijeiamflmkeaaGreatDoor
theorem dB{x:Int}(h1: -4611686018427387904≤x)(h2:x≤4611686018427387904):bP x=x:=Ci (by omega) (by omega)
theorem lC{α:Type}(pre suf:List α)(x:α):idx (pre++x::suf) (pre.length:Int)=some x:=by
 unfold idx
 rw[if_pos (by omega)]
 simp
theorem O0{α:Type}{l:List α}{i:Nat}(h:i<l.length):idx l (i:Int)=some l[i]:=by
 unfold idx
 rw[if_pos (by omega)]
 simp[h]
theorem Ht{α:Type}{l:List α}{i:Int}(h0:0≤i)(h:i<l.length):∃x,idx l i=some x∧l[i.toNat]?=some x:=by
 unfold idx
 rw[if_pos h0]
 exact⟨l[i.toNat]'(by omega),by simp,by simp⟩
theorem NP{α:Type}(pre suf:List α)(x:α):decide ((pre.length:Int)<((pre++x::suf).length:Int))=true:=decide_eq_true (by simp;omega)
theorem Ke{α:Type}(pre:List α)(x:α)(h:pre.length≤4611686018427387903):bP ((pre.length:Int)+1)=((pre++[x]).length:Int):=by
 rw[dB (by omega) (by omega)];simp
theorem Q0{α:Type}(pre suf:List α)(x:α):pre++x::suf=(pre++[x])++suf:=by simp
theorem qN{α:Type}{l m:List α}(h:l.length+m.length≤4294967296):EC l m=some (l++m):=if_pos h
def within(n lo hi:Int):Bool:=decide (lo≤n)&&decide (n≤hi)
theorem within_iff{n lo hi:Int}:within n lo hi=true↔lo≤n∧n≤hi:=by simp[within]
def qD{α:Type}(g:α→Bool):List α→Int→Int
 |[],_=> -1
 |x::l,i=>if g x then i else qD g l (i+1)
theorem yf{α:Type}(g:α→Bool):∀(l:List α) (i:Int),0≤i→decide (0≤qD g l i)=l.any g
 |[],_,_=>by simp[qD]
 |x::l,i,hi=>by
  unfold qD
  rw[List.any_cons]
  cases g x
  ·simp[yf g l (i+1) (by omega)]
  ·simp[hi]
theorem KC{α:Type}(g:α→Bool):∀(l:List α) (i:Int),0≤i→(qD g l i= -1∧l.any g=false)∨(i≤qD g l i∧qD g l i<i+l.length∧∃x,l[(qD g l i-i).toNat]?=some x∧g x=true)
 |[],_,_=>by simp[qD]
 | x::l,i,hi=>by
  have ih:=KC g l (i+1) (by omega)
  unfold qD
  rw[List.any_cons]
  cases hg:g x
  ·simp only[Bool.false_eq_true,if_false,Bool.false_or,List.length_cons]
   rcases ih with ih|⟨h1,h2,y,h3,h4⟩
   ·exact .inl ih
   ·refine .inr ⟨by omega,by omega,y,?_,h4⟩
    rw[show(qD g l (i+1)-i).toNat=(qD g l (i+1)-(i+1)).toNat+1 by omega]
    simpa using h3
  ·right
   simp only[if_true,List.length_cons]
   exact⟨by omega,by omega,x,by simp,hg⟩
structure Fuel (N:Nat) (p:dw):Prop where
 big:20000000≤N
 kinds:p.Kinds.length<N
 slots:p.Slots.length<N
 marks:p.Marks.length<N
 names:∀k∈p.Kinds,k.Name.size<N
structure Arg (p:dw):Prop where
 kinds:p.Kinds.length≤4611686018427387903
 slots:p.Slots.length≤4611686018427387903
 marks:p.Marks.length≤4611686018427387903
 names:∀k∈p.Kinds,k.Name.size≤9223372036854775807
theorem Lm{s:ByteArray}{i:Int}(h0:0≤i)(h:i<s.size):∃c,FC s i=some c:=by
 unfold FC
 rw[if_pos h0]
 have:i.toNat<s.size:=by omega
 exact⟨_,by rw[getElem?_pos s i.toNat this];rfl⟩
theorem FY(s:ByteArray)(hs:s.size≤9223372036854775807):∀(r m:Nat) (x:Int),0≤x→x≤s.size→(s.size:Int)-x=r→r<m→∃b,gu s m x=some b∧∀m',r<m'→gu s m' x=some b
 |0,m+1,x,h0,h1,h2,_=>by
  have:x=s.size:=by omega
  subst this
  refine⟨_,by rw[gu.eq_2,if_neg (by simp)],fun m' hm'=>?_⟩
  cases m' with
  |zero=>omega
  |succ m'=>rw[gu.eq_2,if_neg (by simp)]
 | r+1,m+1,x,h0,h1,h2,h3=>by
  have hlt:x<s.size:=by omega
  obtain⟨c,hc⟩:=Lm h0 hlt
  obtain⟨b,hb,hb'⟩:=FY s hs r m (x+1) (by omega) (by omega) (by omega) (by omega)
  have hw:bP (x+1)=x+1:=Ci (by omega) (by omega)
  have key:∀m',r+1<m'+1→gu s (m'+1) x=if((!(((decide (97≤c))&&(decide (c≤122)))||((decide (65≤c))&&(decide (c≤90)))))&&((x==0)||((((decide (c<48))||(decide (57<c)))&&(c !=95))&&(c !=45)))) then some false else some b:=fun m' hm'=>by
   rw[gu.eq_2,if_pos (by simpa using hlt),hc,ob,hw,hb' m' (by omega)]
  generalize ((!(((decide (97≤c))&&(decide (c≤122)))||((decide (65≤c))&&(decide (c≤90)))))&&((x==0)||((((decide (c<48))||(decide (57<c)))&&(c !=95))&&(c !=45))))=g at key
  cases g
  ·refine⟨b,by rw[key m (by omega)];rfl,fun m' hm'=>?_⟩
   obtain⟨m2,rfl⟩:∃m2,m'=m2+1:=⟨m'-1,by omega⟩
   rw[key m2 (by omega)];rfl
  ·refine⟨false,by rw[key m (by omega)];rfl,fun m' hm'=>?_⟩
   obtain⟨m2,rfl⟩:∃m2,m'=m2+1:=⟨m'-1,by omega⟩
   rw[key m2 (by omega)];rfl
def Kv(s:ByteArray):Bool:=(gu s (s.size+1) 0).getD false
theorem Oo{s:ByteArray}{N:Nat}(hs:s.size≤9223372036854775807)(hN:s.size<N):jW N s=some (Kv s):=by
 obtain⟨b,hb,hb'⟩:=FY s hs s.size (s.size+1) 0 (by omega) (by omega) (by omega) (by omega)
 unfold jW Kv
 rw[hb,hb' N hN];rfl
theorem uQ(n lo hi:Int):eQ n lo hi=some (within n lo hi):=rfl
def xY:Option ByteArray→List bW→Int
 |_,[]=>0
 | prev,k::rest=>if Kv k.Name=false then 5 else if within k.W 1 1000000=false∨within k.H 1 1000000=false then 1
   else if(prev.any fun q=>Cm k.Name q||rW k.Name q)=true then 8 else xY (some k.Name) rest
def sW(l:List bW):Int:=if 50<l.length then 2 else xY none l
def Co(pre:List bW):Option ByteArray:=pre.getLast?.map (·.Name)
theorem Hl{N:Nat}:∀(suf pre:List bW),(pre++suf).length≤50→(∀k∈suf,k.Name.size≤9223372036854775807∧k.Name.size<N)→ib N (pre++suf) suf pre.length=some (xY (Co pre) suf)
 |[],pre,_,_=>by rw[ib.eq_1];rfl
 | k::suf,pre,hl,hn=>by
  have ih:=Hl (N:=N) suf (pre++[k]) (by simpa using hl) (fun k' hk'=>hn k' (by simp[hk']))
  obtain⟨h1,h2⟩:=hn k (by simp)
  have hpr:Co (pre++[k])=some k.Name:=by simp[Co]
  rw[hpr,←Q0,show(pre++[k]).length=pre.length+1 by simp] at ih
  rw[ib.eq_2,Oo h1 h2,ob]
  unfold xY
  cases Kv k.Name
  ·rfl
  simp only[Bool.not_true,Bool.false_eq_true,if_false,reduceCtorEq,uQ,ob]
  cases hW:within k.W 1 1000000
  ·simp
  cases hH:within k.H 1 1000000
  ·simp
  simp only[Bool.not_true,Bool.false_eq_true,if_false,ob,or_self,reduceCtorEq]
  rcases List.eq_nil_or_concat pre with rfl|⟨pre',q,rfl⟩
  ·simp only[List.length_nil,Co,List.getLast?_nil,Option.map_none,Option.any_none,Bool.false_eq_true,if_false]
   rw[if_neg (by simp),ob]
   simp only[Bool.false_eq_true,if_false]
   simpa using ih
  ·rw[List.concat_eq_append] at hl ih ⊢
   have hq:Co (pre'++[q])=some q.Name:=by simp[Co]
   rw[hq,if_pos (by simp),dB (by simp<;>omega) (by simp at hl ⊢ <;>omega),show(((pre'++[q]).length:Int)-1)=(pre'.length:Int) by simp,List.append_assoc,List.singleton_append,lC,ob,ob]
   rw[List.append_assoc,List.singleton_append] at ih
   simp only[Option.any_some]
   rw[ih]
   split<;>rfl
theorem Jc{N:Nat}{l:List bW}(hn:∀k∈l,k.Name.size≤9223372036854775807∧k.Name.size<N):og N l=some (sW l):=by
 unfold og sW
 by_cases h:50<l.length
 ·rw[if_pos (by simp;omega),if_pos h]
 ·rw[if_neg (by simp;omega),if_neg h]
  have:=Hl (N:=N) l [] (by simp;omega) hn
  simpa[Co] using this
def rZ(l:List bW)(nm:ByteArray):Int:=qD (fun k=>rW k.Name nm) l 0
theorem J7{g:bW→Bool}{f:bW→Option Bool}:∀(l:List bW) (i:Nat),(∀x∈l,f x=some (g x))→eF f l i=some (qD g l i)
 |[],i,_=>rfl
 |x::l,i,h=>by
  rw[eF.eq_2,h x (by simp),ob,J7 l (i+1) (fun y hy=>h y (by simp[hy])),qD,show((i+1:Nat):Int)=(i:Int)+1 by omega]
  cases g x<;>rfl
theorem EY(p:dw)(nm:ByteArray):mQ p nm=some (rZ p.Kinds nm):=by
 unfold mQ kW
 rw[J7 (f:=fun z0=>qf z0 nm) (g:=fun k=>rW k.Name nm) p.Kinds 0 (fun x _=>rfl)]
 rfl
def FH(k:bW)(q:Int):Int:=if Int.tmod q 2=1 then k.H else k.W
def FI(k:bW)(q:Int):Int:=if Int.tmod q 2=1 then k.W else k.H
theorem sizeOf_ok(k:bW)(q:Int):rE k q=some (FH k q,FI k q):=by
 unfold rE FH FI
 by_cases h:Int.tmod q 2=1<;>simp[h]
def KA(l:List bW)(i:Int):bW:=(l[i.toNat]?).getD ⟨ByteArray.empty,0,0⟩
def kindOf(l:List bW)(nm:ByteArray):bW:=KA l (rZ l nm)
theorem xZ(l:List bW)(nm:ByteArray):(rZ l nm= -1)∨(0≤rZ l nm∧idx l (rZ l nm)=some (kindOf l nm)∧kindOf l nm∈l∧(kindOf l nm).Name=nm):=by
 rcases KC (fun k:bW=>rW k.Name nm) l 0 (by omega) with⟨h,_⟩|⟨h1,h2,x,h3,h4⟩
 ·exact .inl h
 ·right
  have h3':l[(rZ l nm).toNat]?=some x:=by
   have:(qD (fun k:bW=>rW k.Name nm) l 0-0).toNat=(rZ l nm).toNat:=by unfold rZ;omega
   rw[←this];exact h3
  have hk:kindOf l nm=x:=by unfold kindOf KA;rw[h3'];rfl
  have h1':0≤rZ l nm:=h1
  refine⟨h1',?_,?_,?_⟩
  ·unfold idx;rw[if_pos h1',h3',hk]
  ·rw[hk];exact List.mem_of_getElem? h3'
  ·rw[hk];exact Bn.1 h4
def cellOf(p:dw)(s:jH):aO:=⟨s.At.X,s.At.Y,s.At.X+FH (kindOf p.Kinds s.Board) s.Quarters,s.At.Y+FI (kindOf p.Kinds s.Board) s.Quarters⟩
structure PB (p:dw):Prop where
 w0:1≤p.W
 w1:p.W≤1000000
 h0:1≤p.H
 h1:p.H≤1000000
 r0:0≤p.Rail
 r1:p.Rail≤1000000
 g0:0≤p.Gap
 g1:p.Gap≤1000000
 kinds:∀k∈p.Kinds,1≤k.W∧k.W≤1000000∧1≤k.H∧k.H≤1000000
 klen:p.Kinds.length≤50
theorem FL:∀{l:List bW} {q:Option ByteArray},xY q l=0→∀k∈l,1≤k.W∧k.W≤1000000∧1≤k.H∧k.H≤1000000
 |[],_,_,k,hk=>by cases hk
 | a ::l,q,h,k,hk=>by
  unfold xY at h
  split at h
  ·omega
  ·split at h
   ·omega
   ·rename_i h2
    split at h
    ·omega
    ·rcases List.mem_cons.1 hk with rfl|hk
     ·have a1:within k.W 1 1000000=true:=by cases hh:within k.W 1 1000000<;>simp_all
      have a2:within k.H 1 1000000=true:=by cases hh:within k.H 1 1000000<;>simp_all
      have:=within_iff.1 a1;have:=within_iff.1 a2
      omega
     ·exact FL h k hk
theorem Nz{p:dw}(hB:PB p){nm:ByteArray}(h:rZ p.Kinds nm≠ -1)(q:Int):1≤FH (kindOf p.Kinds nm) q∧FH (kindOf p.Kinds nm) q≤1000000∧1≤FI (kindOf p.Kinds nm) q∧FI (kindOf p.Kinds nm) q≤1000000:=by
 rcases xZ p.Kinds nm with h'|⟨_,_,hm,_⟩
 ·exact absurd h' h
 ·have:=hB.kinds _ hm
  unfold FH FI
  split<;>omega
theorem Qf{p:dw}{s:jH}(hB:PB p)(hk:rZ p.Kinds s.Board≠ -1)(hx: -1000000000≤s.At.X∧s.At.X≤1000000000)(hy: -1000000000≤s.At.Y∧s.At.Y≤1000000000):qg p s=some (cellOf p s):=by
 have hs:=Nz hB hk s.Quarters
 rcases xZ p.Kinds s.Board with h'|⟨_,hi,_,_⟩
 ·exact absurd h' hk
 ·unfold qg cellOf
  rw[EY,ob,hi,ob,sizeOf_ok,ob]
  simp only[dB (x:=s.At.X+FH (kindOf p.Kinds s.Board) s.Quarters) (by omega) (by omega),dB (x:=s.At.Y+FI (kindOf p.Kinds s.Board) s.Quarters) (by omega) (by omega)]
def apart(a b:aO)(gap:Int):Bool:=((decide (a.X1+gap≤b.X0)||decide (b.X1+gap≤a.X0))||decide (a.Y1+gap≤b.Y0))||decide (b.Y1+gap≤a.Y0)
def RB(r:aO):Prop:=(-1000000000≤r.X0∧r.X0≤1000000000)∧(-1000000000≤r.Y0∧r.Y0≤1000000000)∧(-1000000000≤r.X1∧r.X1≤1000000000)∧(-1000000000≤r.Y1∧r.Y1≤1000000000)
theorem Tf{a b:aO}{gap:Int}(ha:RB a)(hb:RB b)(h0:0≤gap)(h1:gap≤1000000):qH a b gap=some (apart a b gap):=by
 unfold RB at ha hb
 unfold qH apart
 rw[dB (x:=a.X1+gap) (by omega) (by omega),dB (x:=b.X1+gap) (by omega) (by omega),dB (x:=a.Y1+gap) (by omega) (by omega),dB (x:=b.Y1+gap) (by omega) (by omega)]
def I6(p:dw)(s:jH):Bool:=(decide (p.Rail≤s.At.X)&&decide ((cellOf p s).X1≤p.W-p.Rail))&&(decide (p.Rail≤s.At.Y)&&decide ((cellOf p s).Y1≤p.H-p.Rail))
def xc(p:dw)(prev:List aO)(s:jH):Int:=
 if rZ p.Kinds s.Board= -1 then 5 else if within s.Quarters 0 3=false then 1 else if I6 p s=false then 1 else if(prev.any fun d=> !apart (cellOf p s) d p.Gap)=true then 12 else 0
def vo(p:dw):List aO→List jH→Int
 |_,[]=>0
 |prev,s::rest=>if xc p prev s=0 then vo p (prev++[cellOf p s]) rest else xc p prev s
structure ul (p:dw) (s:jH):Prop where
 kind:rZ p.Kinds s.Board≠ -1
 q0:0≤s.Quarters
 q1:s.Quarters≤3
 x0:p.Rail≤s.At.X
 y0:p.Rail≤s.At.Y
 x1:(cellOf p s).X1≤p.W-p.Rail
 y1:(cellOf p s).Y1≤p.H-p.Rail
theorem GI{p:dw}{prev:List aO}{s:jH}(h:xc p prev s=0):ul p s:=by
 unfold xc at h
 split at h
 ·omega
 ·rename_i h1
  split at h
  ·omega
  ·rename_i h2
   split at h
   ·omega
   ·rename_i h3
    have a1:within s.Quarters 0 3=true:=by cases hh:within s.Quarters 0 3<;>simp_all
    have a2:I6 p s=true:=by cases hh:I6 p s<;>simp_all
    have b1:=within_iff.1 a1
    unfold I6 at a2
    simp only[Bool.and_eq_true,decide_eq_true_eq] at a2
    exact⟨h1,b1.1,b1.2,a2.1.1,a2.2.1,a2.1.2,a2.2.2⟩
theorem ul.bd{p:dw}{s:jH}(hB:PB p)(h:ul p s):(-1000000000≤s.At.X∧s.At.X≤1000000000)∧(-1000000000≤s.At.Y∧s.At.Y≤1000000000)∧RB (cellOf p s)∧(cellOf p s).X0<(cellOf p s).X1∧(cellOf p s).Y0<(cellOf p s).Y1∧0≤(cellOf p s).X0∧0≤(cellOf p s).Y0∧(cellOf p s).X1≤1000000∧(cellOf p s).Y1≤1000000:=by
 obtain⟨h1,h2,h3,h4,h5,h6,h7⟩:=h
 have hs:=Nz hB h1 s.Quarters
 have b1:=hB.w1;have b2:=hB.h1;have b3:=hB.r0;have b4:=hB.r1
 unfold RB
 unfold cellOf at*
 dsimp only at*
 omega
theorem EA{g:aO→Bool}{f:aO→Option Bool}{l:List aO}(h:∀x∈l,f x=some (g x)):fO l f=some (l.any g):=by
 have key:∀(l:List aO) (i:Nat),(∀x∈l,f x=some (g x))→eD f l i=some (qD g l i):=by
  intro l
  induction l with
  |nil=>intro i _;rfl
  |cons x l ih=>
   intro i h
   rw[eD.eq_2,h x (by simp),ob,ih (i+1) (fun y hy=>h y (by simp[hy])),qD,show((i+1:Nat):Int)=(i:Int)+1 by omega]
   cases g x<;>rfl
 unfold fO jN
 rw[key l 0 h,ob,show((0:Nat):Int)=0 from rfl,yf g l 0 (by omega)]
theorem PT{p:dw}(hB:PB p){prev:List aO}{s:jH}(hprev:∀r∈prev,RB r){K:List aO→Option (List aO×Int)}:
  ((mQ p s.Board).bind fun y34=>
  if(decide (y34<0)) then
   some (([]:List aO),5)
  else
   (eQ s.Quarters 0 3).bind fun YO=>
   (if(!YO) then some true else(eQ s.At.X 0 p.W).bind fun y38=>some (!y38)).bind fun YV=>
   (if YV then some true else(eQ s.At.Y 0 p.H).bind fun YN=>some (!YN)).bind fun YU=>
   if YU then
    some (([]:List aO),1)
   else
    (qg p s).bind fun Yd=>
    (uC p Yd).bind fun YM=>
    if(!YM) then
     some (([]:List aO),1)
    else
     (fO prev (fun z0=>oH z0 Yd p)).bind fun YL=>
     if YL then
      some (([]:List aO),12)
     else
      (EC prev [Yd]).bind fun YT=>K YT)=
  if xc p prev s=0 then(EC prev [cellOf p s]).bind K else some ([],xc p prev s):=by
 have b1:=hB.w0;have b2:=hB.w1;have b3:=hB.h0;have b4:=hB.h1;have b5:=hB.r0;have b6:=hB.r1
 rw[EY,ob]
 unfold xc
 rcases xZ p.Kinds s.Board with hk|⟨hk,_,_,_⟩
 ·rw[if_pos hk,hk];simp
 have hk1:rZ p.Kinds s.Board≠ -1:=by omega
 rw[if_neg (by simpa using hk),if_neg hk1]
 simp only[uQ,ob]
 cases hQ:within s.Quarters 0 3
 ·simp
 have hsz:=Nz hB hk1 s.Quarters
 simp only[Bool.not_true,Bool.false_eq_true,if_false,ob,reduceCtorEq]
 by_cases hat:within s.At.X 0 p.W=true∧within s.At.Y 0 p.H=true
 ·obtain⟨hX,hY⟩:=hat
  have wx:=within_iff.1 hX;have wy:=within_iff.1 hY
  rw[hX,hY]
  simp only[Bool.not_true,Bool.false_eq_true,if_false,ob]
  rw[Qf hB hk1 (by omega) (by omega),ob]
  unfold uC
  rw[ob,dB (x:=p.W-p.Rail) (by omega) (by omega),dB (x:=p.H-p.Rail) (by omega) (by omega)]
  have hon:((((((decide (p.Rail≤(cellOf p s).X0))&&(decide (p.Rail≤(cellOf p s).Y0)))&&(decide ((cellOf p s).X0≤p.W)))&&(decide ((cellOf p s).Y0≤p.H)))&&(decide ((cellOf p s).X1≤p.W-p.Rail)))&&(decide ((cellOf p s).Y1≤p.H-p.Rail)))=I6 p s:=by
   unfold I6 cellOf
   rw[Bool.eq_iff_iff]
   simp only[Bool.and_eq_true,decide_eq_true_eq]
   omega
  rw[hon]
  cases hO:I6 p s
  ·simp
  have hsl:ul p s:=by
   have a2:=hO
   unfold I6 at a2
   simp only[Bool.and_eq_true,decide_eq_true_eq] at a2
   exact⟨hk1,(within_iff.1 hQ).1,(within_iff.1 hQ).2,a2.1.1,a2.2.1,a2.1.2,a2.2.2⟩
  have hrb:=(hsl.bd hB).2.2.1
  rw[EA (g:=fun d=> !apart (cellOf p s) d p.Gap) (fun d hd=>by
   unfold oH
   rw[Tf hrb (hprev d hd) hB.g0 hB.g1];rfl)]
  simp only[Bool.not_true,Bool.false_eq_true,if_false,ob,reduceCtorEq]
  cases hA:(prev.any fun d=> !apart (cellOf p s) d p.Gap)
  ·simp
  ·simp
 ·have hO:I6 p s=false:=by
   rw[Bool.eq_false_iff]
   intro hO
   unfold I6 cellOf at hO
   simp only[Bool.and_eq_true,decide_eq_true_eq] at hO
   refine hat ⟨within_iff.2 (by omega),within_iff.2 (by omega)⟩
  rw[hO]
  cases hX:within s.At.X 0 p.W
  ·simp
  cases hY:within s.At.Y 0 p.H
  ·simp
  ·exact absurd ⟨hX,hY⟩ hat
theorem Im{p:dw}(hB:PB p):∀(suf:List jH) (i:Nat) (prev:List aO),prev.length+suf.length≤500→(∀r∈prev,RB r)→
  kr p suf i prev=some (if vo p prev suf=0 then(prev++suf.map (cellOf p),0) else([],vo p prev suf))
 |[],i,prev,_,_=>by rw[kr.eq_1];simp[vo]
 | s::suf,i,prev,hl,hr=>by
  rw[kr.eq_2,PT hB hr,vo]
  by_cases he:xc p prev s=0
  ·have hok:=GI he
   rw[if_pos he,if_pos he,qN (by simp at hl ⊢;omega),ob,Im hB suf (i+1) (prev++[cellOf p s]) (by simp at hl ⊢;omega) (fun r hr'=>by
    rcases List.mem_append.1 hr' with h|h
    ·exact hr r h
    ·simp at h;subst h;exact(hok.bd hB).2.2.1)]
   simp
  ·rw[if_neg he,if_neg he,if_neg he]
def wJ(p:dw):Int:=if 500<p.Slots.length then 2 else vo p [] p.Slots
theorem cells_ok{p:dw}(hB:PB p):sK p=some (if wJ p=0 then(p.Slots.map (cellOf p),0) else([],wJ p)):=by
 unfold sK wJ
 by_cases h:500<p.Slots.length
 ·rw[if_pos (by simp;omega),if_pos h];rfl
 ·rw[if_neg (by simp;omega),if_neg h,Im hB p.Slots 0 [] (by simp;omega) (fun r hr=>by cases hr)]
  simp
theorem FD{p:dw}:∀{l:List jH} {prev:List aO},vo p prev l=0→∀s∈l,ul p s
 |[],_,_,s,hs=>by cases hs
 | a::l,prev,h,s,hs=>by
  unfold vo at h
  split at h
  ·rename_i h1
   rcases List.mem_cons.1 hs with rfl|hs
   ·exact GI h1
   ·exact FD h s hs
  ·rename_i h1;exact absurd h h1
instance:DecidableEq aK:=fun _ _=>decidable_of_iff _ vO
def inside(r:aO)(m:aK):Bool:=(((decide (r.X0<m.X))&&(decide (m.X<r.X1)))&&(decide (r.Y0<m.Y)))&&(decide (m.Y<r.Y1))
def Kw(p:dw)(prev:List aK)(m:aK):Int:=
 if within m.X 0 p.W=false∨within m.Y 0 p.H=false then 1 else if((p.Slots.map (cellOf p)).any fun r=>inside r m)=true then 12 else if m∈prev then 7 else 0
def xV(p:dw):List aK→List aK→Int
 |_,[]=>0
 |prev,m::rest=>if Kw p prev m=0 then xV p (prev++[m]) rest else Kw p prev m
theorem K7(l:List aK)(m:aK):lq l m=some (decide (m∈l)):=by
 have key:∀(l:List aK) (i:Nat),ic m l i=some (qD (fun x=>kw m x) l i):=by
  intro l
  induction l with
  |nil=>intro i;rfl
  |cons x l ih=>
   intro i
   rw[ic.eq_2,ih (i+1),qD,show((i+1:Nat):Int)=(i:Int)+1 by omega]
   cases kw m x<;>rfl
 unfold lq oN
 rw[key l 0,ob,show((0:Nat):Int)=0 from rfl,yf _ l 0 (by omega)]
 congr 1
 rw[Bool.eq_iff_iff]
 simp[vO]
theorem Ha{p:dw}{y:List aO×Int}(hy:y.1=p.Slots.map (cellOf p)):∀(suf pre:List aK),p.Marks=pre++suf→ 
  lc p y suf pre.length=some (if xV p pre suf=0 then(p.Slots.map (cellOf p),0) else([],xV p pre suf))
 |[],pre,hp=>by rw[lc.eq_1,hy];simp[xV]
 |m::suf,pre,hp=>by
  have ih:=Ha hy suf (pre++[m]) (by rw[hp];simp)
  rw[show(pre++[m]).length=pre.length+1 by simp] at ih
  rw[lc.eq_2,ih,xV,Kw,hy]
  unfold ng
  simp only[uQ,ob]
  cases hX:within m.X 0 p.W
  ·simp
  cases hY:within m.Y 0 p.H
  ·simp
  have hc:fO (p.Slots.map (cellOf p)) (fun z0=>rF z0 m)=some ((p.Slots.map (cellOf p)).any fun r=>inside r m):=EA (fun r _=>rfl)
  rw[hc,show Proofs.YtgijeiamflmkeaaGreatDoor.pre p.Marks (pre.length:Int)=some pre by rw[hp];unfold Proofs.YtgijeiamflmkeaaGreatDoor.pre;rw[if_pos ⟨by omega,by simp;omega⟩];simp]
  simp only[if_true,Bool.not_true,Bool.false_eq_true,if_false,ob,or_self,reduceCtorEq,K7,decide_eq_true_eq]
  cases((p.Slots.map (cellOf p)).any fun r=>inside r m)
  ·by_cases hm:m∈pre<;>simp[hm]
  ·simp
def oK(p:dw):Int:=
 if within p.W 1 1000000=false∨within p.H 1 1000000=false∨within p.Rail 0 1000000=false∨within p.Gap 0 1000000=false then 1
 else if sW p.Kinds=0 then
  if wJ p=0 then if 10<p.Marks.length then 2 else xV p [] p.Marks
  else wJ p
 else sW p.Kinds
theorem VL{p:dw}(h:¬(within p.W 1 1000000=false∨within p.H 1 1000000=false∨within p.Rail 0 1000000=false∨within p.Gap 0 1000000=false))(hk:sW p.Kinds=0):PB p:=by
 simp only[not_or,Bool.not_eq_false] at h
 obtain⟨h1,h2,h3,h4⟩:=h
 have h1:=within_iff.1 h1;have h2:=within_iff.1 h2;have h3:=within_iff.1 h3;have h4:=within_iff.1 h4
 unfold sW at hk
 split at hk
 ·omega
 ·exact⟨h1.1,h1.2,h2.1,h2.2,h3.1,h3.2,h4.1,h4.2,FL hk,by omega⟩
theorem OO{N:Nat}{p:dw}(hn:∀k∈p.Kinds,k.Name.size≤9223372036854775807∧k.Name.size<N):rT N p=some (if oK p=0 then(p.Slots.map (cellOf p),0) else([],oK p)):=by
 unfold rT oK
 simp only[uQ,ob]
 by_cases h:within p.W 1 1000000=false∨within p.H 1 1000000=false∨within p.Rail 0 1000000=false∨within p.Gap 0 1000000=false
 ·rw[if_pos h]
  generalize within p.W 1 1000000=a at*
  generalize within p.H 1 1000000=b at*
  generalize within p.Rail 0 1000000=c at*
  generalize within p.Gap 0 1000000=d at*
  cases a<;>cases b<;>cases c<;>cases d<;>first|rfl|exact absurd h (by decide)
 ·rw [if_neg h]
  have h':=h
  simp only[not_or,Bool.not_eq_false] at h'
  obtain⟨h1,h2,h3,h4⟩:=h'
  rw[h1,h2,h3,h4,Jc hn]
  simp only[Bool.not_true,Bool.false_eq_true,if_false,ob]
  by_cases hk:sW p.Kinds=0
  ·have hB:=VL h hk
   rw[hk,cells_ok hB]
   simp only[ob,if_true,bne_self_eq_false,Bool.false_eq_true,if_false]
   by_cases hc:wJ p=0
   ·simp only[if_pos hc]
    simp only[bne_self_eq_false,Bool.false_eq_true,if_false]
    by_cases hm:10<p.Marks.length
    ·simp only[if_pos hm];rw[if_pos (by simp;omega)];rfl
    ·simp only[if_neg hm];rw[if_neg (by simp;omega)]
     exact Ha rfl p.Marks [] rfl
   ·simp only[if_neg hc]
    rw[if_pos (by simpa using hc)]
  ·rw[if_pos (by simpa using hk),if_neg hk,if_neg hk]
theorem wC{p:dw}(h:oK p=0):PB p∧p.Slots.length≤500∧p.Marks.length≤10∧(∀s∈p.Slots,ul p s):=by
 unfold oK at h
 split at h
 ·omega
 ·rename_i h0
  split at h
  ·rename_i hk
   have hB:=VL h0 hk
   split at h
   ·rename_i hc
    unfold wJ at hc
    split at hc
    ·omega
    ·split at h
     ·omega
     ·exact⟨hB,by omega,by omega,FD hc⟩
   ·rename_i hc;exact absurd h hc
  ·rename_i hk;exact absurd h hk
structure IQ (N:Nat) (p:dw):Prop where
 big:20000000≤N
 kinds:p.Kinds.length<N
 names:∀k∈p.Kinds,k.Name.size≤9223372036854775807∧k.Name.size<N
theorem AB{N:Nat}{p:dw}(h:IQ N p):mE N p=some (oK p):=by
 unfold mE
 rw[OO h.names,ob]
 by_cases he:oK p=0<;>simp[he]
theorem YW(a b:Bool):(if a=true then some b else some false)=some (a&&b):=by cases a<;>rfl
def yT(q x y:Int):Int:=if q=0 then x else if q=1 then -y else if q=2 then -x else y
def yS(q x y:Int):Int:=if q=0 then y else if q=1 then x else if q=2 then -y else -x
def Nk(x:Int):Prop:= -1000000000≤x∧x≤1000000000
theorem Kj{N:Nat}{p:aK}{t:oM}(hN:5≤N)(hf:t.Flip=false)(hq:0≤t.Quarters∧t.Quarters≤3)(hx:Nk p.X)(hy:Nk p.Y)(hax:Nk t.At.X)(hay:Nk t.At.Y):
  jM N p t=some ⟨yT t.Quarters p.X p.Y+t.At.X,yS t.Quarters p.X p.Y+t.At.Y⟩:=by
 obtain⟨m,rfl⟩:∃m,N=m+5:=⟨N-5,by omega⟩
 obtain⟨fl,q,⟨ax,ay⟩⟩:=t
 obtain⟨px,py⟩:=p
 unfold Nk at*
 simp only at hf hq hx hy hax hay
 subst hf
 unfold jM lu
 have e:q=0∨q=1∨q=2∨q=3:=by omega
 rcases e with rfl|rfl|rfl|rfl
 ·simp(disch:=omega) [iD,dB,yT,yS]
 ·simp(disch:=omega) [iD,dB,yT,yS]
 ·simp(disch:=omega) [iD,dB,yT,yS]
 ·simp(disch:=omega) [iD,dB,yT,yS]
theorem We{q x y c:Int}(hx: -c≤x∧x≤c)(hy: -c≤y∧y≤c):(-c≤yT q x y∧yT q x y≤c)∧(-c≤yS q x y∧yS q x y≤c):=by
 unfold yT yS
 split
 ·omega
 ·split
  ·omega
  ·split<;>omega
def MO(p:dw)(s:jH):Int:=if s.Quarters=1 then s.At.X+(kindOf p.Kinds s.Board).H else if s.Quarters=2 then s.At.X+(kindOf p.Kinds s.Board).W else s.At.X
def MN(p:dw)(s:jH):Int:=if s.Quarters=2 then s.At.Y+(kindOf p.Kinds s.Board).H else if s.Quarters=3 then s.At.Y+(kindOf p.Kinds s.Board).W else s.At.Y
def xP(p:dw)(s:jH):oM:=⟨false,s.Quarters,⟨MO p s,MN p s⟩⟩
theorem RV{p:dw}(hB:PB p){s:jH}(hs:ul p s):1≤(kindOf p.Kinds s.Board).W∧(kindOf p.Kinds s.Board).W≤1000000∧1≤(kindOf p.Kinds s.Board).H∧(kindOf p.Kinds s.Board).H≤1000000:=by
 rcases xZ p.Kinds s.Board with h'|⟨_,_,hm,_⟩
 ·exact absurd h' hs.kind
 ·exact hB.kinds _ hm
theorem Py{p:dw}(hB:PB p){s:jH}(hs:ul p s):(s.Quarters=0∨s.Quarters=1∨s.Quarters=2∨s.Quarters=3)∧
  (s.Quarters=0→MO p s=s.At.X∧MN p s=s.At.Y∧(cellOf p s).X1=s.At.X+(kindOf p.Kinds s.Board).W∧(cellOf p s).Y1=s.At.Y+(kindOf p.Kinds s.Board).H)∧
  (s.Quarters=1→MO p s=s.At.X+(kindOf p.Kinds s.Board).H∧MN p s=s.At.Y∧(cellOf p s).X1=s.At.X+(kindOf p.Kinds s.Board).H∧(cellOf p s).Y1=s.At.Y+(kindOf p.Kinds s.Board).W)∧
  (s.Quarters=2→MO p s=s.At.X+(kindOf p.Kinds s.Board).W∧MN p s=s.At.Y+(kindOf p.Kinds s.Board).H∧(cellOf p s).X1=s.At.X+(kindOf p.Kinds s.Board).W∧(cellOf p s).Y1=s.At.Y+(kindOf p.Kinds s.Board).H)∧
  (s.Quarters=3→MO p s=s.At.X∧MN p s=s.At.Y+(kindOf p.Kinds s.Board).W∧(cellOf p s).X1=s.At.X+(kindOf p.Kinds s.Board).H∧(cellOf p s).Y1=s.At.Y+(kindOf p.Kinds s.Board).W):=by
 have h0:=hs.q0
 have h1:=hs.q1
 refine⟨by omega,fun h=>?_,fun h=>?_,fun h=>?_,fun h=>?_⟩<;>simp[MO,MN,cellOf,FH,FI,h]
theorem Jn{p:dw}(hB:PB p){s:jH}(hs:ul p s):qd p s=some (xP p s):=by
 obtain⟨bx,by_,_⟩:=hs.bd hB
 have hk:=RV hB hs
 rcases xZ p.Kinds s.Board with h'|⟨_,hi,_,_⟩
 ·exact absurd h' hs.kind
 unfold qd kL
 rw[EY,ob,hi,ob]
 rw[dB (x:=s.At.X+(kindOf p.Kinds s.Board).H) (by omega) (by omega),dB (x:=s.At.X+(kindOf p.Kinds s.Board).W) (by omega) (by omega),dB (x:=s.At.Y+(kindOf p.Kinds s.Board).H) (by omega) (by omega),dB (x:=s.At.Y+(kindOf p.Kinds s.Board).W) (by omega) (by omega)]
 unfold xP MO MN
 have e:s.Quarters=0∨s.Quarters=1∨s.Quarters=2∨s.Quarters=3:=by have:=hs.q0;have:=hs.q1;omega
 rcases e with e|e|e|e<;>simp[e]
theorem Li{p:dw}(hB:PB p){s:jH}(hs:ul p s):Nk (MO p s)∧Nk (MN p s)∧(-1000000≤MO p s∧MO p s≤1000000)∧(-1000000≤MN p s∧MN p s≤1000000):=by
 obtain⟨bx,by_,_,d1,d2,d3,d4,d5,d6⟩:=hs.bd hB
 obtain⟨e,e0,e1,e2,e3⟩:=Py hB hs
 have hk:=RV hB hs
 have hc:(cellOf p s).X0=s.At.X∧(cellOf p s).Y0=s.At.Y:=⟨rfl,rfl⟩
 unfold Nk
 rcases e with e|e|e|e
 ·have:=e0 e;omega
 ·have:=e1 e;omega
 ·have:=e2 e;omega
 ·have:=e3 e;omega
def Df(p:dw)(i:Int):oM×Int:=
 if oK p=0 then if within i 0 ((p.Slots.length:Int)-1)=true then(match p.Slots[i.toNat]? with|some s=>(xP p s,0)|none=>(⟨false,0,⟨0,0⟩⟩,9)) else(⟨false,0,⟨0,0⟩⟩,9)
 else(⟨false,0,⟨0,0⟩⟩,oK p)
theorem Ls{N:Nat}{p:dw}(h:IQ N p)(i:Int):qh N p i=some (Df p i):=by
 unfold qh Df
 rw[AB h,ob]
 by_cases he:oK p=0
 ·obtain⟨hB,hsl,_,hso⟩:=wC he
  rw[he]
  simp only[bne_self_eq_false,Bool.false_eq_true,if_false,if_true,uQ,ob]
  rw[dB (by omega) (by omega)]
  cases hw:within i 0 ((p.Slots.length:Int)-1)
  ·rfl
  have w1:=within_iff.1 hw
  obtain⟨s,hi,hmem⟩:=Ht (l:=p.Slots) (i:=i) (by omega) (by omega)
  rw[hi,hmem]
  simp only[Bool.not_true,Bool.false_eq_true,if_false,ob]
  rw[Jn hB (hso s (List.mem_of_getElem? hmem))]
  rfl
 ·simp[he]
def CY(p:dw)(s:jH)(a:aK):aK:=⟨yT s.Quarters a.X a.Y+MO p s,yS s.Quarters a.X a.Y+MN p s⟩
def Wu(r:aO)(a:aK):Bool:=within a.X r.X0 r.X1&&within a.Y r.Y0 r.Y1
def wK(q:Int):Int:=if q=0 then 0 else 4-q
def TS(p:dw)(s:jH)(a:aK):aK:=⟨yT (wK s.Quarters) (a.X-MO p s) (a.Y-MN p s),yS (wK s.Quarters) (a.X-MO p s) (a.Y-MN p s)⟩
def Bu(p:dw)(a:aK):List jH→Int→Int×aK×Bool×Int
 |[],_=>(0,⟨0,0⟩,false,0)
 |s::rest,i=>if Wu (cellOf p s) a=true then(i,TS p s a,true,0) else Bu p a rest (i+1)
theorem Xi{q:Int}(h0:0≤q)(h1:q≤3):Int.tmod (bP (4-q)) 4=wK q:=by
 rw[dB (by omega) (by omega)]
 have e:q=0∨q=1∨q=2∨q=3:=by omega
 rcases e with rfl|rfl|rfl|rfl<;>rfl
theorem TW(q x y a b:Int):yT q x y+ -(yT q a b)=yT q (x-a) (y-b)∧yS q x y+ -(yS q a b)=yS q (x-a) (y-b):=by
 unfold yT yS
 split
 ·omega
 ·split
  ·omega
  ·split<;>omega
theorem KS{t:oM}(hq:0≤t.Quarters∧t.Quarters≤3)(hx: -1000000≤t.At.X∧t.At.X≤1000000)(hy: -1000000≤t.At.Y∧t.At.Y≤1000000):mY t=some 0:=by
 unfold mY jb kZ mJ
 simp[hq,hx,hy]
theorem U0{N:Nat}{p:dw}(h:5≤N)(hB:PB p){s:jH}(hs:ul p s){a:aK}(hx:0≤a.X∧a.X≤1000000)(hy:0≤a.Y∧a.Y≤1000000){K:aK→Option (Int×aK×Bool×Int)}:
  ((uw N (xP p s)).bind fun y21=>(jM N a y21.1).bind K)=K (TS p s a):=by
 obtain⟨t1,t2,t3,t4⟩:=Li hB hs
 have hq0:=hs.q0;have hq1:=hs.q1
 have hb:0≤wK s.Quarters∧wK s.Quarters≤3:=by unfold wK;split<;>omega
 unfold uw
 rw[show mY (xP p s)=some 0 from KS ⟨hq0,hq1⟩ t3 t4,ob,if_neg (by simp),if_pos (by rfl)]
 show((nC N (xP p s) (Int.tmod (bP (4-s.Quarters)) 4)).bind _)=_
 rw[Xi hq0 hq1]
 unfold nC
 rw[show(xP p s).Flip=false from rfl,Kj (p:=(xP p s).At) (t:=⟨false,wK s.Quarters,⟨0,0⟩⟩) h rfl hb t1 t2 (by unfold Nk;simp) (by unfold Nk;simp),ob,ob]
 simp only[xP]
 obtain⟨r1,r2⟩:=We (q:=wK s.Quarters) (x:=MO p s) (y:=MN p s) (c:=1000000) (by omega) (by omega)
 simp only[Int.add_zero]
 rw[dB (x:=0-yT (wK s.Quarters) (MO p s) (MN p s)) (by omega) (by omega),dB (x:=0-yS (wK s.Quarters) (MO p s) (MN p s)) (by omega) (by omega)]
 rw[Kj h rfl hb (by unfold Nk;omega) (by unfold Nk;omega) (by unfold Nk;simp;omega) (by unfold Nk;simp;omega),ob]
 obtain⟨s1,s2⟩:=TW (wK s.Quarters) a.X a.Y (MO p s) (MN p s)
 congr 1
 unfold TS
 simp only[aK.mk.injEq]
 exact⟨by rw[←s1];omega,by rw[←s2];omega⟩
theorem CZ{N:Nat}{p:dw}(h:5≤N)(hB:PB p){a:aK}(hx:0≤a.X∧a.X≤1000000)(hy:0≤a.Y∧a.Y≤1000000):∀(suf pre:List jH),p.Slots=pre++suf→(∀s∈suf,ul p s)→
  jT N p a (suf.map (cellOf p)) pre.length=some (Bu p a suf pre.length)
 |[],pre,_,_=>rfl
 |s::suf,pre,hp,hs=>by
  have ih:=CZ h hB hx hy suf (pre++[s]) (by rw[hp];simp) (fun t ht=>hs t (by simp[ht]))
  rw[show(pre++[s]).length=pre.length+1 by simp] at ih
  rw[List.map_cons,jT.eq_2,ih]
  simp only[uQ,ob]
  rw[YW,ob,show idx p.Slots (pre.length:Int)=some s by rw[hp];exact lC _ _ _,ob,Jn hB (hs s (by simp)),ob,U0 h hB (hs s (by simp)) hx hy,Bu]
  show(if Wu (cellOf p s) a=true then _ else _)=_
  cases Wu (cellOf p s) a<;>simp
def Gb(p:dw)(a:aK):Int×aK×Bool×Int:=
 if oK p=0 then if within a.X 0 p.W=true∧within a.Y 0 p.H=true then Bu p a p.Slots 0 else(0,⟨0,0⟩,false,1)
 else(0,⟨0,0⟩,false,oK p)
theorem Nv{N:Nat}{p:dw}(h:IQ N p)(a:aK):qI N p a=some (Gb p a):=by
 unfold qI Gb
 rw[OO h.names,ob]
 by_cases he:oK p=0
 ·obtain⟨hB,hsl,_,hso⟩:=wC he
  have:=hB.w1;have:=hB.h1
  simp only[if_pos he,bne_self_eq_false,Bool.false_eq_true,if_false]
  unfold ng
  simp only[uQ,ob]
  cases hX:within a.X 0 p.W
  ·simp
  cases hY:within a.Y 0 p.H
  ·simp
  have wx:=within_iff.1 hX
  have wy:=within_iff.1 hY
  simp only[if_true,ob,Bool.not_true,Bool.false_eq_true,if_false,and_self]
  exact CZ (by have:=h.big;omega) hB (by omega) (by omega) p.Slots [] rfl hso
 ·simp[he]
theorem BU{p:dw}{q:aK}:∀(l:List jH) (k:Int) (j:Nat) (s:jH),l[j]?=some s→Wu (cellOf p s) q=true→
  ∃(n:Int) (x:aK),Bu p q l k=(n,x,true,0)∧((n=k+j∧x=TS p s q)∨n<k+j)
 |[],_,j,s,hs,_=>by simp at hs
 | a::l,k,j,s,hs,hc=>by
  unfold Bu
  by_cases ha:Wu (cellOf p a) q=true
  ·rw[if_pos ha]
   refine⟨_,_,rfl,?_⟩
   cases j with
   |zero=>simp at hs;subst hs;exact .inl ⟨by simp,rfl⟩
   |succ j=>exact .inr (by push_cast;omega)
  ·rw[if_neg ha]
   cases j with
   |zero=>simp at hs;subst hs;exact absurd hc ha
   |succ j=>
    simp only[List.getElem?_cons_succ] at hs
    obtain⟨n,x,h1,h2⟩:=BU l (k+1) j s hs hc
    refine⟨n,x,h1,?_⟩
    rcases h2 with⟨h2,h3⟩|h2
    ·exact .inl ⟨by rw[h2];push_cast;omega,h3⟩
    ·exact .inr (by push_cast;omega)
theorem Um{p:dw}(hB:PB p){s:jH}(hs:ul p s){a:aK}(hx:0≤a.X∧a.X≤(kindOf p.Kinds s.Board).W)(hy:0≤a.Y∧a.Y≤(kindOf p.Kinds s.Board).H):
  ((cellOf p s).X0≤(CY p s a).X∧(CY p s a).X≤(cellOf p s).X1)∧((cellOf p s).Y0≤(CY p s a).Y∧(CY p s a).Y≤(cellOf p s).Y1)∧TS p s (CY p s a)=a:=by
 obtain⟨e,e0,e1,e2,e3⟩:=Py hB hs
 have hc:(cellOf p s).X0=s.At.X∧(cellOf p s).Y0=s.At.Y:=⟨rfl,rfl⟩
 obtain⟨ax,ay⟩:=a
 simp only at hx hy
 rcases e with e|e|e|e
 ·have h:=e0 e
  simp only[CY,TS,yT,yS,wK,e,aK.mk.injEq]
  simp only[if_true]
  refine⟨by omega,by omega,by omega,by omega⟩
 ·have h:=e1 e
  simp only[CY,TS,yT,yS,wK,e,aK.mk.injEq]
  simp only[show(1:Int)≠0 by decide,if_false,if_true,show(4-1:Int)=3 from rfl,show(3:Int)≠0 by decide,show(3:Int)≠1 by decide,show(3:Int)≠2 by decide]
  refine⟨by omega,by omega,by omega,by omega⟩
 ·have h:=e2 e
  simp only[CY,TS,yT,yS,wK,e,aK.mk.injEq]
  simp only[show(2:Int)≠0 by decide,show(2:Int)≠1 by decide,if_false,if_true,show(4-2:Int)=2 from rfl]
  refine⟨by omega,by omega,by omega,by omega⟩
 ·have h:=e3 e
  simp only[CY,TS,yT,yS,wK,e,aK.mk.injEq]
  simp only[show(3:Int)≠0 by decide,show(3:Int)≠1 by decide,show(3:Int)≠2 by decide,if_false,if_true,show(4-3:Int)=1 from rfl,show(1:Int)≠0 by decide]
  refine⟨by omega,by omega,by omega,by omega⟩
open Lib (compareBytes)
theorem Xh{a b:UInt8}(h:¬a<b)(h':¬b<a):a=b:=by
 apply UInt8.toNat_inj.1
 have h1:¬a.toNat<b.toNat:=fun x=>h (UInt8.lt_iff_toNat_lt.2 x)
 have h2:¬b.toNat<a.toNat:=fun x=>h' (UInt8.lt_iff_toNat_lt.2 x)
 omega
theorem Pt:∀{a b:List UInt8},compareBytes a b=0→a=b
 |[],[],_=>rfl
 |[],_::_,h=>by simp[compareBytes] at h
 |_::_,[],h=>by simp[compareBytes] at h
 | x::a,y::b,h=>by
  unfold compareBytes at h
  split at h
  ·simp at h
  ·rename_i h1
   split at h
   ·simp at h
   ·rename_i h2
    rw[Xh h1 h2,Pt h]
theorem ba_eq{a b:ByteArray}(h:a.data.toList=b.data.toList):a=b:=by
 cases a;cases b
 simp only[ByteArray.mk.injEq]
 exact Array.toList_inj.1 h
theorem FX(s:ByteArray)(hs:s.size≤9223372036854775807):∀(r m:Nat) (x:Int),0≤x→x≤s.size→(s.size:Int)-x=r→r<m→∃b,jK s m x=some b∧(b=true→s.size≤40)
 |0,m+1,x,h0,h1,h2,_=>by
  have:x=s.size:=by omega
  subst this
  refine⟨_,by rw[jK.eq_2,if_neg (by simp)],fun hb=>?_⟩
  simp at hb;omega
 | r+1,m+1,x,h0,h1,h2,h3=>by
  have hlt:x<s.size:=by omega
  obtain⟨c,hc⟩:=Lm h0 hlt
  obtain⟨b,hb,hb'⟩:=FX s hs r m (x+1) (by omega) (by omega) (by omega) (by omega)
  have hw:bP (x+1)=x+1:=Ci (by omega) (by omega)
  rw[jK.eq_2,if_pos (by simpa using hlt),hc,ob,hw,hb]
  have:∃g,(if((((decide (c<65))||(decide (90<c)))&&((decide (c<97))||(decide (122<c))))&&((decide (c<48))||(decide (57<c)))) then
    (Ul (⟨#[95,43,45,35]⟩) c).bind fun y115=>some (decide (y115<0)) else some false)=some g:=by
   split
   ·exact⟨_,rfl⟩
   ·exact⟨_,rfl⟩
  obtain⟨g,hg⟩:=this
  rw[hg,ob]
  cases g
  ·exact⟨b,rfl,hb'⟩
  ·exact⟨false,rfl,fun h=>by cases h⟩
theorem tF{s:ByteArray}{N:Nat}(hs:s.size≤9223372036854775807)(hN:s.size<N):∃b,jh N s=some b∧(b=true→s.size≤40):=
 FX s hs s.size N 0 (by omega) (by omega) (by omega) hN
theorem Jw(sep:ByteArray)(save:Nat):∀(k:Nat) (s:ByteArray),∀x∈Lib.splitB sep save k s,x.size≤s.size
 |0,s,x,hx=>by
  rw[Lib.splitB_zero] at hx
  simp at hx;subst hx;exact Nat.le_refl _
 | k+1,s,x,hx=>by
  unfold Lib.splitB at hx
  split at hx
  ·simp at hx;subst hx;exact Nat.le_refl _
  ·rcases List.mem_cons.1 hx with h|h
   ·subst h;rw[ByteArray.size_extract];omega
   ·have:=Jw sep save k _ x h
    rw[ByteArray.size_extract] at this;omega
theorem TL{α:Type}{g:Bool}{a b:Option α}{P:α→Prop}(ha:∃x,a=some x∧P x)(hb:∃x,b=some x∧P x):∃x,(if g=true then a else b)=some x∧P x:=by
 cases g
 ·exact hb
 ·exact ha
def Nm(N:Nat)(s:ByteArray):Prop:=s.size≤9223372036854775807∧s.size<N
theorem U1{α:Type}{f:α→Option Bool}{L:List α→Nat→Option Int}(h0:∀i,L [] i=some (-1))(h1:∀x l i,L (x::l) i=(f x).bind fun y=>if y=true then some (i:Int) else L l (i+1)){l:List α}(h:∀x∈l,∃b,f x=some b):
  ((L l 0).bind fun y=>some (decide (0≤y)))=some (l.any fun x=>(f x).getD false):=by
 have key:∀(l:List α) (i:Nat),(∀x∈l,∃b,f x=some b)→L l i=some (qD (fun x=>(f x).getD false) l i):=by
  intro l
  induction l with
  |nil=>intro i _;rw[h0];rfl
  |cons x l ih=>
   intro i h
   obtain⟨b,hb⟩:=h x (by simp)
   rw[h1,ih (i+1) fun y hy=>h y (by simp[hy]),hb,qD,hb,show((i+1:Nat):Int)=(i:Int)+1 by omega]
   cases b<;>rfl
 rw[key l 0 h,ob,show((0:Nat):Int)=0 from rfl,yf _ l 0 (by omega)]
theorem BC{s:ByteArray}{N:Nat}(hN:1000≤N):∃b,ji N s=some b∧(b=true→s.size≤200):=by
 unfold ji
 by_cases hs:(s.size:Int)≤200
 ·rw[if_pos (by simpa using hs)]
  have h1:EK s ⟨#[47]⟩=some (Lib.splitB ⟨#[47]⟩ 0 (Lib.countB s ⟨#[47]⟩) s):=by
   unfold EK
   rw[if_pos ⟨by omega,by decide⟩]
  rw[h1,ob]
  unfold kX lX
  rw[U1 (f:=fun z0=>lm N z0) (fun _=>rfl) (fun _ _ _=>rfl) fun x hx=>by
   have hsz:=Jw _ _ _ _ x hx
   obtain⟨b,hb,_⟩:=tF (s:=x) (N:=N) (by omega) (by omega)
   exact⟨!b,by show lm N x=_;unfold lm;rw[hb];rfl⟩]
  exact⟨_,rfl,fun _=>by omega⟩
 ·rw[if_neg (by simpa using hs)];exact⟨_,rfl,fun h=>by cases h⟩
theorem WK{α:Type}{l:List α}{c:α→Option Int}{B:Nat→Int→Int→Option (Int×Bool)}
  (hB:∀m i j,B (m+1) i j=if decide (i<j)=true then(uO (bP (i+j))).bind fun q=>(uO (q / 2)).bind fun r=>(idx l r).bind fun x=>(c x).bind fun y=>if decide (y<0)=true then B m (bP (r+1)) j else B m i r
   else(if decide (i<(l.length:Int))=true then(idx l i).bind fun x=>(c x).bind fun y=>some (y==0) else some false).bind fun g=>some (i,g))
  (hc:∀x∈l,∃k,c x=some k) (hl:l.length≤1000000):∀(m:Nat) (i j:Int),0≤i→i≤j→j≤l.length→j-i<m→
  ∃k b,B m i j=some (k,b)∧0≤k∧(b=true→∃x,idx l k=some x∧x∈l∧c x=some 0)
 |0,i,j,h0,h1,h2,h3=>by omega
 | m+1,i,j,h0,h1,h2,h3=>by
  rw[hB]
  by_cases hij:i<j
  ·rw[if_pos (by simpa using hij)]
   have e1:bP (i+j)=i+j:=dB (by omega) (by omega)
   have e2:uO (i+j)=some (i+j):=if_pos ⟨by omega,by omega⟩
   have e3:uO ((i+j) / 2)=some ((i+j) / 2):=if_pos ⟨by omega,by omega⟩
   obtain⟨x,hx1,hx2⟩:=Ht (l:=l) (i:=(i+j) / 2) (by omega) (by omega)
   obtain⟨k,hk⟩:=hc x (List.mem_of_getElem? hx2)
   rw[e1,e2,ob,e3,ob,hx1,ob,hk,ob]
   have e4:bP ((i+j) / 2+1)=(i+j) / 2+1:=dB (by omega) (by omega)
   by_cases h4:k<0
   ·rw[if_pos (by simpa using h4),e4]
    exact WK hB hc hl m _ j (by omega) (by omega) h2 (by omega)
   ·rw[if_neg (by simpa using h4)]
    exact WK hB hc hl m i _ h0 (by omega) (by omega) (by omega)
  ·rw[if_neg (by simpa using hij)]
   by_cases h4:i<l.length
   ·rw[if_pos (by simpa using h4)]
    obtain⟨x,hx1,hx2⟩:=Ht (l:=l) (i:=i) h0 h4
    obtain⟨k,hk⟩:=hc x (List.mem_of_getElem? hx2)
    rw[hx1,ob,hk]
    refine⟨i,(k==0),rfl,h0,fun hb=>⟨x,hx1,List.mem_of_getElem? hx2,?_⟩⟩
    have:k=0:=by simpa using hb
    rw[hk,this]
   ·rw[if_neg (by simpa using h4)]
    exact⟨i,false,rfl,h0,fun h=>by cases h⟩
theorem Yv{α:Type}{l:List α}{nm:α→ByteArray}{s:ByteArray}{r:Option (Int×Bool)}(h:∃k b,r=some (k,b)∧0≤k∧(b=true→∃x,idx l k=some x∧x∈l∧some (compareBytes (nm x).data.toList s.data.toList)=some 0)):
  ∃k,(r.bind fun y=>if(!y.2)=true then some (-1) else some y.1)=some k∧(0≤k→∃x,idx l k=some x∧x∈l∧nm x=s):=by
 obtain⟨k,b,rfl,h0,h⟩:=h
 rw[ob]
 cases b
 ·exact⟨-1,rfl,fun h=>by omega⟩
 ·obtain⟨x,h1,h2,h3⟩:=h rfl
  exact⟨k,rfl,fun _=>⟨x,h1,h2,ba_eq (Pt (Option.some.inj h3))⟩⟩
theorem Fp{N:Nat}(hN:2000000≤N){l:List dG}(hl:l.length≤1000000)(s:ByteArray):∃k,jF N l s=some k∧(0≤k→∃x,idx l k=some x∧x∈l∧x.Name=s):=
 Yv (nm:=dG.Name) (WK (c:=fun x=>ol x s) (fun _ _ _=>rfl) (fun _ _=>⟨_,rfl⟩) hl N 0 _ (by omega) (by omega) (by omega) (by omega))
theorem PY{N:Nat}(hN:2000000≤N){l:List oo}(hl:l.length≤1000000)(s:ByteArray):∃k,rU N l s=some k∧(0≤k→∃x,idx l k=some x∧x∈l∧x.Name=s):=
 Yv (nm:=oo.Name) (WK (c:=fun x=>oh x s) (fun _ _ _=>rfl) (fun _ _=>⟨_,rfl⟩) hl N 0 _ (by omega) (by omega) (by omega) (by omega))
theorem Nc{N:Nat}(hN:2000000≤N){t:dG}(hl:t.Pins.length≤1000000)(s:ByteArray):∃k,qJ N t s=some k∧(0≤k→∃x,idx t.Pins k=some x∧x∈t.Pins∧x.Name=s):=
 Yv (nm:=dO.Name) (WK (c:=fun x=>oZ x s) (fun _ _ _=>rfl) (fun _ _=>⟨_,rfl⟩) hl N 0 _ (by omega) (by omega) (by omega) (by omega))
theorem zA{α:Type}{l ps suf:List α}{x:α}(h:l=ps++x::suf)(hl:l.length≤1000000){f:α→Option Bool}(hf:∀y,∃g,f y=some g):∃g,(if(decide (0<((ps.length:Nat):Int)))=true then(idx l (bP ((ps.length:Int)-1))).bind f else some false)=some g:=by
 by_cases h0:0<ps.length
 ·rw[if_pos (by simpa using h0)]
  have hlen:ps.length≤l.length:=by rw[h];simp
  have e1:bP ((ps.length:Int)-1)=((ps.length-1:Nat):Int):=by rw[dB (by omega) (by omega)];omega
  have hlt:ps.length-1<l.length:=by rw[h];simp;omega
  rw[e1,O0 hlt]
  exact hf _
 ·rw[if_neg (by simpa using h0)];exact⟨_,rfl⟩
theorem Eb{l:List dO}:∀(suf ps:List dO),l=ps++suf→∃f,iM l suf ps.length=some f
 |[],ps,_=>⟨0,rfl⟩
 | x::suf,ps,h=>by
  obtain⟨f,hf⟩:=Eb (l:=l) suf (ps++[x]) (by rw[h];simp)
  rw[List.length_append] at hf
  have hp:pre l (ps.length:Int)=some (l.take ps.length):=by
   unfold pre
   rw[if_pos ⟨by omega,by rw[h];simp;omega⟩];simp
  rw[iM.eq_2,hp,ob]
  unfold kH lI
  rw[U1 (f:=fun z0=>mg z0 x) (fun _=>rfl) (fun _ _ _=>rfl) fun y _=>⟨_,rfl⟩,ob]
  split
  ·exact⟨_,rfl⟩
  ·exact⟨f,hf⟩
theorem Ec{N:Nat}{l:List dO}(hl:l.length≤200)(hn:∀x∈l,Nm N x.Name):∀(suf ps:List dO),l=ps++suf→∃f,iN N l suf ps.length=some f∧(f=0→∀x∈suf,x.Name.size≤40)
 |[],ps,_=>by
  obtain⟨f,hf⟩:=Eb (l:=l) l [] rfl
  exact⟨f,hf,fun _ x hx=>by cases hx⟩
 | x::suf,ps,h=>by
  obtain⟨f,hf,hf'⟩:=Ec hl hn suf (ps++[x]) (by rw[h];simp)
  rw[List.length_append] at hf
  obtain⟨b,hb,hb'⟩:=tF (s:=x.Name) (hn x (by rw[h];simp)).1 (hn x (by rw[h];simp)).2
  obtain⟨g,hg⟩:=zA h (by omega) (f:=fun y=>some (Cm x.Name y.Name||rW x.Name y.Name)) fun y=>⟨_,rfl⟩
  rw[iN.eq_2,hb,ob]
  cases b
  ·exact⟨5,rfl,fun h=>by omega⟩
  ·rw[if_neg (by simp)]
   refine TL ⟨4,rfl,fun h=>by omega⟩ (TL ⟨1,rfl,fun h=>by omega⟩ ?_)
   rw[hg,ob]
   refine TL ⟨8,rfl,fun h=>by omega⟩ ⟨f,hf,fun h0 y hy=>?_⟩
   rcases List.mem_cons.1 hy with rfl|hy
   ·exact hb' rfl
   ·exact hf' h0 y hy
theorem KW{N:Nat}{l:List dO}(hn:∀x∈l,Nm N x.Name):∃f,nK N l=some f∧(f=0→l.length≤200∧∀x∈l,x.Name.size≤40):=by
 unfold nK
 refine TL ⟨9,rfl,fun h=>by omega⟩ ?_
 by_cases hl:(200:Int)<(l.length:Int)
 ·rw[if_pos (by simpa using hl)];exact⟨2,rfl,fun h=>by omega⟩
 ·rw[if_neg (by simpa using hl)]
  obtain⟨f,hf,hf'⟩:=Ec (l:=l) (by omega) hn l [] rfl
  exact⟨f,hf,fun h=>⟨by omega,hf' h⟩⟩
def Je(t:List dG):Prop:=t.length≤200∧∀x∈t,x.Pins.length≤200∧∀q∈x.Pins,q.Name.size≤40
theorem Cf{N:Nat}{l:List dG}(hl:l.length≤200)(hn:∀x∈l,Nm N x.Name∧∀q∈x.Pins,Nm N q.Name):∀(suf ps:List dG),l=ps++suf→∃f,iw N l suf ps.length=some f∧(f=0→∀x∈suf,x.Pins.length≤200∧∀q∈x.Pins,q.Name.size≤40)
 |[],ps,_=>⟨0,rfl,fun _ x hx=>by cases hx⟩
 | x::suf,ps,h=>by
  obtain⟨f,hf,hf'⟩:=Cf hl hn suf (ps++[x]) (by rw[h];simp)
  rw[List.length_append] at hf
  have hx:=hn x (by rw[h];simp)
  obtain⟨b,hb,hb'⟩:=tF (s:=x.Name) hx.1.1 hx.1.2
  obtain⟨e,he,he'⟩:=KW hx.2
  obtain⟨g,hg⟩:=zA h (by omega) (f:=fun y=>some (Cm x.Name y.Name||rW x.Name y.Name)) fun y=>⟨_,rfl⟩
  rw[iw.eq_2,hb,ob]
  refine TL ⟨5,rfl,fun h=>by omega⟩ ?_
  rw[he,ob]
  by_cases h0:e=0
  ·rw[if_neg (by simpa using h0),hg,ob]
   refine TL ⟨8,rfl,fun h=>by omega⟩ ⟨f,hf,fun h1 y hy=>?_⟩
   rcases List.mem_cons.1 hy with rfl|hy
   ·exact he' h0
   ·exact hf' h1 y hy
  ·rw[if_pos (by simpa using h0)];exact⟨e,rfl,fun h=>absurd h h0⟩
theorem Jg{N:Nat}{l:List dG}(hn:∀x∈l,Nm N x.Name∧∀q∈x.Pins,Nm N q.Name):∃f,mU N l=some f∧(f=0→Je l):=by
 unfold mU
 by_cases hl:(200:Int)<(l.length:Int)
 ·rw[if_pos (by simpa using hl)];exact⟨2,rfl,fun h=>by omega⟩
 ·rw[if_neg (by simpa using hl)]
  obtain⟨f,hf,hf'⟩:=Cf (l:=l) (by omega) hn l [] rfl
  exact⟨f,hf,fun h=>⟨by omega,hf' h⟩⟩
theorem Ca{N:Nat}(hN:2000000≤N){t:List dG}(ht:Je t){l:List oo}(hl:l.length≤1000):∀(suf ps:List oo),l=ps++suf→∃f,iq N t l (fun z0=>ji N z0) suf ps.length=some f∧(f=0→∀x∈suf,x.Name.size≤200∧∃k,jF N t x.Type_=some k∧0≤k)
 |[],ps,_=>⟨0,rfl,fun _ x hx=>by cases hx⟩
 | x::suf,ps,h=>by
  obtain⟨f,hf,hf'⟩:=Ca hN ht hl suf (ps++[x]) (by rw[h];simp)
  rw[List.length_append] at hf
  obtain⟨b,hb,hb'⟩:=BC (s:=x.Name) (N:=N) (by omega)
  obtain⟨k,hk,hk'⟩:=Fp hN (l:=t) (by have:=ht.1;omega) x.Type_
  obtain⟨g,hg⟩:=zA h (by omega) (f:=fun y=>some (Cm x.Name y.Name||rW x.Name y.Name)) fun y=>⟨_,rfl⟩
  rw[iq.eq_2,hb,ob]
  cases b
  ·exact⟨5,rfl,fun h=>by omega⟩
  ·rw[if_neg (by simp),hk,ob]
   by_cases h0:k<0
   ·rw[if_pos (by simpa using h0)];exact⟨9,rfl,fun h=>by omega⟩
   ·rw[if_neg (by simpa using h0),hg,ob]
    refine TL ⟨8,rfl,fun h=>by omega⟩ ⟨f,hf,fun h1 y hy=>?_⟩
    rcases List.mem_cons.1 hy with rfl|hy
    ·exact⟨hb' rfl,k,hk,by omega⟩
    ·exact hf' h1 y hy
theorem Jb{N:Nat}(hN:2000000≤N){t:List dG}(ht:Je t){l:List oo}:∃f,mR N t l (fun z0=>ji N z0)=some f∧(f=0→l.length≤1000∧∀x∈l,x.Name.size≤200∧∃k,jF N t x.Type_=some k∧0≤k):=by
 unfold mR
 by_cases hl:(1000:Int)<(l.length:Int)
 ·rw[if_pos (by simpa using hl)];exact⟨2,rfl,fun h=>by omega⟩
 ·rw[if_neg (by simpa using hl)]
  obtain⟨f,hf,hf'⟩:=Ca hN ht (l:=l) (by omega) l [] rfl
  exact⟨f,hf,fun h=>⟨by omega,hf' h⟩⟩
theorem Qb{N:Nat}(hN:2000000≤N){t:List dG}(ht:Je t){l:List oo}(hl:l.length≤1000∧∀x∈l,x.Name.size≤200∧∃k,jF N t x.Type_=some k∧0≤k)(p:tL):
  ∃b,qi N t l p=some b∧(b=true→La (p.Part,p.Pin)=true):=by
 unfold qi
 obtain⟨k,hk,hk'⟩:=PY hN (l:=l) (by omega) p.Part
 rw[hk,ob]
 by_cases h0:0≤k
 ·obtain⟨x,x1,x2,x3⟩:=hk' h0
  obtain⟨y1,j,y2,y3⟩:=hl.2 x x2
  obtain⟨j',hj,hj'⟩:=Fp hN (l:=t) (by have:=ht.1;omega) x.Type_
  rw[y2] at hj
  have:=Option.some.inj hj
  subst this
  obtain⟨T,t1,t2,t3⟩:=hj' y3
  obtain⟨q1,q2⟩:=ht.2 T t2
  obtain⟨r,hr,hr'⟩:=Nc hN (t:=T) (by omega) p.Pin
  rw[if_pos (by simpa using h0),x1,ob,y2,ob,t1,ob,hr]
  refine⟨decide (0≤r),rfl,fun h=>?_⟩
  obtain⟨z,z1,z2,z3⟩:=hr' (of_decide_eq_true h)
  have s1:=q2 z z2
  rw[z3] at s1
  rw[x3] at y1
  show(wD p.Part&&wD p.Pin)=true
  unfold wD
  rw[decide_eq_true (by omega),decide_eq_true (by omega)];rfl
 ·rw[if_neg (by simpa using h0)];exact⟨false,rfl,fun h=>by cases h⟩
theorem G7:∀(suf:List tL) (i:Nat) (m:List (ByteArray×ByteArray)),(∀x∈suf,La (x.Part,x.Pin)=true)→∃r,gD suf i m=some r
 |[],i,m,_=>⟨_,rfl⟩
 |x::suf,i,m,h=>by
  rw[gD.eq_2]
  unfold FT
  rw[if_pos (h x (by simp)),ob]
  exact G7 suf (i+1) _ fun y hy=>h y (by simp[hy])
theorem G8{l:List tL}(hl:l.length≤500){h:tL→Option Bool}(hh:∀p,∃b,h p=some b∧(b=true→La (p.Part,p.Pin)=true))(m:List (ByteArray×ByteArray)):∀(suf ps:List tL),l=ps++suf→(∀x∈ps,La (x.Part,x.Pin)=true)→∃r,fF l h m suf ps.length=some r
 |[],ps,e,hp=>by
  rw[fF.eq_1]
  exact G7 l 0 m fun x hx=>hp x (by rw[e] at hx;simpa using hx)
 | x ::suf,ps,e,hp=>by
  obtain⟨b,hb,hb'⟩:=hh x
  obtain⟨g,hg⟩:=zA e (by omega) (f:=fun y=>(mh x y).bind fun z=>some (decide (z≤0))) fun y=>by
   unfold mh Ja
   simp only[ob]
   split
   ·exact⟨_,rfl⟩
   ·exact⟨_,rfl⟩
  rw[fF.eq_2,hb,ob]
  cases b
  ·exact⟨_,rfl⟩
  ·have hx:=hb' rfl
   rw[if_neg (by simp),hg,ob]
   cases g
   ·rw[if_neg (by simp)]
    unfold FU
    rw[if_pos hx,ob]
    split
    ·exact⟨_,rfl⟩
    ·have:=G8 hl hh m suf (ps++[x]) (by rw[e];simp) fun y hy=>by
      rcases List.mem_append.1 hy with hy|hy
      ·exact hp y hy
      ·simp at hy;subst hy;exact hx
     rwa [List.length_append] at this
   ·exact⟨_,rfl⟩
theorem EB{N:Nat}(hN:2000000≤N){t:List dG}(ht:Je t){x:pO}(hlP:x.Parts.length≤1000∧∀y∈x.Parts,y.Name.size≤200∧∃k,jF N t y.Type_=some k∧0≤k)(hn:x.Nets.length≤1000):
  ∀(suf ps:List K4) (m:List (ByteArray×ByteArray)),x.Nets=ps++suf→∃f,iO N t x suf ps.length m=some f
 |[],ps,m,_=>⟨_,rfl⟩
 | y::suf,ps,m,h=>by
  obtain⟨b,hb,hb'⟩:=BC (s:=y.Name) (N:=N) (by omega)
  obtain⟨g,hg⟩:=zA h (by omega) (f:=fun z=>some (Cm y.Name z.Name||rW y.Name z.Name)) fun z=>⟨_,rfl⟩
  have hp:∃r,lK y.Pins (fun z0=>kP N z0 t x) m=some r:=by
   unfold lK
   by_cases hl:(500:Int)<(y.Pins.length:Int)
   ·rw[if_pos (by simpa using hl)];exact⟨_,rfl⟩
   ·rw[if_neg (by simpa using hl)]
    refine G8 (by omega) (fun p=>?_) m y.Pins [] rfl fun _ h=>by cases h
    obtain⟨c,hc,hc'⟩:=Qb hN ht hlP p
    exact⟨c,by unfold kP;rw[hc];rfl,hc'⟩
  obtain⟨r,hr⟩:=hp
  have ih:=EB hN ht hlP hn suf (ps++[y]) r.2 (by rw[h];simp)
  rw[List.length_append] at ih
  rw[iO.eq_2,hb,ob]
  split
  ·exact⟨_,rfl⟩
  split
  ·exact⟨_,rfl⟩
  rw[hr,ob]
  split
  ·exact⟨_,rfl⟩
  split
  ·exact⟨_,rfl⟩
  rw[hg,ob]
  split
  ·exact⟨_,rfl⟩
  ·exact ih
theorem K9{N:Nat}(hN:2000000≤N){t:List dG}(hn:∀x∈t,Nm N x.Name∧∀q∈x.Pins,Nm N q.Name)(x:pO):∃f,nL N t x=some f∧(f=0→Je t):=by
 obtain⟨e,he,he'⟩:=Jg hn
 unfold nL
 rw[he,ob]
 by_cases h0:e=0
 ·have ht:=he' h0
  obtain⟨f,hf,hf'⟩:=Jb hN ht (l:=x.Parts)
  rw[if_neg (by simpa using h0),hf,ob]
  by_cases h1:f=0
  ·rw[if_neg (by simpa using h1)]
   by_cases hl:(1000:Int)<(x.Nets.length:Int)
   ·rw[if_pos (by simpa using hl)];exact⟨_,rfl,fun _=>ht⟩
   ·rw[if_neg (by simpa using hl)]
    obtain⟨r,hr⟩:=EB hN ht (hf' h1) (by omega) x.Nets [] [] rfl
    exact⟨r,hr,fun _=>ht⟩
  ·rw[if_pos (by simpa using h1)];exact⟨_,rfl,fun _=>ht⟩
 ·rw[if_pos (by simpa using h0)];exact⟨_,rfl,fun h=>absurd h h0⟩
theorem MH(zs:List Int)(x:Int):x∈Lib.compact zs↔x∈zs:=by
 unfold Lib.compact Lib.compactUpTo
 constructor
 ·intro h
  obtain⟨j,hj,rfl⟩:=List.mem_map.1 h
  have hj:=List.mem_range.1 (List.mem_filter.1 hj).1
  show zs.toArray[j]! ∈zs
  rw[getElem!_pos zs.toArray j (by simpa using hj)]
  simp
 ·intro h
  have key:∀(j:Nat),(hj:j<zs.length)→∃i,i<zs.length∧Lib.keeps zs.toArray i=true∧zs.toArray[i]! =zs[j]:=by
   intro j
   induction j with
   |zero=>intro hj;exact⟨0,hj,Lib.keeps_lt_one _ 0 (by omega),by rw[getElem!_pos zs.toArray 0 (by simpa using hj)];simp⟩
   | succ j ih=>
    intro hj
    by_cases hk:Lib.keeps zs.toArray (j+1)=true
    ·exact⟨j+1,hj,hk,by rw[getElem!_pos zs.toArray (j+1) (by simpa using hj)];simp⟩
    ·have he:zs.toArray[j+1]! =zs.toArray[j]! :=by
      unfold Lib.keeps at hk
      simp at hk
      simpa using hk
     rw[getElem!_pos zs.toArray (j+1) (by simpa using hj),getElem!_pos zs.toArray j (by simp;omega)] at he
     simp at he
     obtain⟨i,h1,h2,h3⟩:=ih (by omega)
     exact⟨i,h1,h2,by rw[h3,he]⟩
  obtain⟨j,hj,rfl⟩:=List.mem_iff_getElem.1 h
  obtain⟨i,h1,h2,h3⟩:=key j hj
  exact List.mem_map.2 ⟨i,List.mem_filter.2 ⟨List.mem_range.2 h1,h2⟩,h3⟩
theorem Ig{zs:List Int}(h:zs.Pairwise fun x y=>x≤y):(Lib.compact zs).Pairwise fun x y=>x<y:=by
 unfold Lib.compact Lib.compactUpTo
 rw[List.pairwise_map]
 have hr:((List.range zs.length).filter (Lib.keeps zs.toArray)).Pairwise (fun i j=>i<j):=(List.pairwise_lt_range).filter _
 refine List.Pairwise.imp_of_mem (fun{i j} hi hj hij=>?_) hr
 have hj1:=List.mem_range.1 (List.mem_filter.1 hj).1
 have hj2:=(List.mem_filter.1 hj).2
 show zs.toArray[i]! <zs.toArray[j]!
 unfold Lib.keeps at hj2
 simp at hj2
 have hne:zs.toArray[j]! ≠zs.toArray[j-1]! :=by
  rcases hj2 with h0|h0
  ·omega
  ·simpa using h0
 rw[getElem!_pos zs.toArray j (by simpa using hj1),getElem!_pos zs.toArray (j-1) (by simp;omega)] at hne
 rw[getElem!_pos zs.toArray j (by simpa using hj1),getElem!_pos zs.toArray i (by simp;omega)]
 simp at hne ⊢
 rw[List.pairwise_iff_getElem] at h
 have a1:zs[j-1]≤zs[j]:=h (j-1) j (by omega) hj1 (by omega)
 have a2:zs[i]≤zs[j-1]:=by
  rcases Nat.lt_or_eq_of_le (show i≤j-1 by omega) with hlt|heq
  ·exact h i (j-1) (by omega) (by omega) hlt
  ·subst heq;exact Int.le_refl _
 omega
def xG(l:List Int):List Int:=Lib.compact (l.mergeSort fun x y=>decide (x≤y))
theorem vk(l:List Int)(x:Int):x∈xG l↔x∈l:=by
 unfold xG
 rw[MH]
 exact(List.mergeSort_perm l _).mem_iff
theorem tu(l:List Int):(xG l).Pairwise fun x y=>x<y:=by
 unfold xG
 refine Ig ?_
 have:=List.pairwise_mergeSort (le:=fun x y:Int=>decide (x≤y)) (fun a b c h1 h2=>by simp at*;omega) (fun a b=>by simp;omega) l
 exact this.imp (by simp)
theorem Oz{l:List Int}(h:l.length<4611686018427387904):((I1 l).bind fun y=>WF y)=some (xG l):=by
 unfold I1 WF xG
 rw[if_pos h];rfl
theorem Km{l:List Int}(h:l.length<4611686018427387904):I1 l=some (l.mergeSort fun x y=>decide (x≤y)):=if_pos h
def Can:Int→List (Int×Int)→Prop
 |_,[]=>True
 |lo,p::l=>lo<p.1∧p.1<p.2∧Can p.2 l
def tO(x:Int)(l:List (Int×Int)):Prop:=∃p∈l,p.1≤x∧x<p.2
theorem kD{x:Int}{p:Int×Int}{l:List (Int×Int)}:tO x (p::l)↔(p.1≤x∧x<p.2)∨tO x l:=by unfold tO;simp
theorem om{x:Int}:¬tO x []:=by unfold tO;simp
theorem qy{x:Int}{l m:List (Int×Int)}:tO x (l++m)↔tO x l∨tO x m:=by
 unfold tO
 constructor
 ·rintro⟨p,hp,h⟩
  rcases List.mem_append.1 hp with hp|hp
  ·exact .inl ⟨p,hp,h⟩
  ·exact .inr ⟨p,hp,h⟩
 ·rintro(⟨p,hp,h⟩|⟨p,hp,h⟩)
  ·exact⟨p,List.mem_append_left _ hp,h⟩
  ·exact⟨p,List.mem_append_right _ hp,h⟩
theorem Can.lt:∀{l:List (Int×Int)} {lo x:Int},Can lo l→tO x l→lo<x
 |[],_,_,_,h=>absurd h om
 |p::l,lo,x,h,hx=>by
  obtain⟨h1,h2,h3⟩:=h
  rcases kD.1 hx with hx|hx
  ·omega
  ·have:=h3.lt hx;omega
theorem Can.mono{l:List (Int×Int)}{lo lo':Int}(h:Can lo l)(hl:lo'≤lo):Can lo' l:=by
 cases l with
 |nil=>trivial
 |cons p l=>exact⟨by have:=h.1;omega,h.2⟩
theorem Can.uniq:∀{l m:List (Int×Int)} {lo lo':Int},Can lo l→Can lo' m→(∀x,tO x l↔tO x m)→l=m
 |[],[],_,_,_,_,_=>rfl
 |[],p::m,_,_,_,h2,h=>absurd ((h p.1).2 (kD.2 (.inl ⟨Int.le_refl _,h2.2.1⟩))) om
 |p::l,[],_,_,h1,_,h=>absurd ((h p.1).1 (kD.2 (.inl ⟨Int.le_refl _,h1.2.1⟩))) om
 | p::l,q::m,lo,lo',h1,h2,h=>by
  obtain⟨a1,a2,a3⟩:=h1
  obtain⟨b1,b2,b3⟩:=h2
  have c1:q.1≤p.1:=by
   rcases kD.1 ((h p.1).1 (kD.2 (.inl ⟨Int.le_refl _,a2⟩))) with hx|hx
   ·exact hx.1
   ·have:=b3.lt hx;omega
  have c2:p.1≤q.1:=by
   rcases kD.1 ((h q.1).2 (kD.2 (.inl ⟨Int.le_refl _,b2⟩))) with hx|hx
   ·exact hx.1
   ·have:=a3.lt hx;omega
  have c3:¬p.2<q.2:=fun hlt=>by
   rcases kD.1 ((h p.2).2 (kD.2 (.inl ⟨by omega,hlt⟩))) with hx|hx
   ·omega
   ·have:=a3.lt hx;omega
  have c4:¬q.2<p.2:=fun hlt=>by
   rcases kD.1 ((h q.2).1 (kD.2 (.inl ⟨by omega,hlt⟩))) with hx|hx
   ·omega
   ·have:=b3.lt hx;omega
  have hpq:p=q:=by obtain⟨a,b⟩:=p;obtain⟨c,d⟩:=q;simp only at*;congr 1<;>omega
  subst hpq
  have hlm:l=m:=a3.uniq b3 fun x=>by
   constructor
   ·intro hx
    have hlt:=a3.lt hx
    rcases kD.1 ((h x).1 (kD.2 (.inr hx))) with h'|h'
    ·omega
    ·exact h'
   ·intro hx
    have hlt:=b3.lt hx
    rcases kD.1 ((h x).2 (kD.2 (.inr hx))) with h'|h'
    ·omega
    ·exact h'
  rw[hlm]
theorem Can.snoc:∀{l:List (Int×Int)} {lo:Int} {p:Int×Int},Can lo l→(∀q∈l,q.2<p.1)→lo<p.1→p.1<p.2→Can lo (l++[p])
 |[],_,_,_,_,h1,h2=>⟨h1,h2,trivial⟩
 |q::l,lo,p,h,hq,h1,h2=>⟨h.1,h.2.1,h.2.2.snoc (fun r hr=>hq r (by simp[hr])) (hq q (by simp)) h2⟩
theorem Can.init:∀{l:List (Int×Int)} {lo:Int} {p:Int×Int},Can lo (l++[p])→Can lo l∧(∀q∈l,q.2<p.1)∧lo<p.1∧p.1<p.2
 |[],_,_,h=>⟨trivial,by simp,h.1,h.2.1⟩
 |q::l,lo,p,h=>by
  obtain⟨i1,i2,i3,i4⟩:=Can.init (l:=l) h.2.2
  have:=h.1;have:=h.2.1
  refine⟨⟨h.1,h.2.1,i1⟩,fun r hr=>?_,by omega,i4⟩
  rcases List.mem_cons.1 hr with rfl|hr
  ·exact i3
  ·exact i2 r hr
def eO(l:List (Int×Int)):List Int:=l.flatMap fun p=>[p.1,p.2]
theorem vW:eO []=[]:=rfl
theorem qx(p:Int×Int)(l:List (Int×Int)):eO (p::l)=p.1::p.2::eO l:=rfl
theorem tZ(l m:List (Int×Int)):eO (l++m)=eO l++eO m:=by unfold eO;rw[List.flatMap_append]
theorem iU:∀l:List (Int×Int),(eO l).length=2*l.length
 |[]=>rfl
 |p::l=>by rw[qx,List.length_cons,List.length_cons,iU l,List.length_cons];omega
theorem JO:∀{l m:List (Int×Int)},eO l=eO m→l=m
 |[],[],_=>rfl
 |[],q::m,h=>by rw[vW,qx] at h;cases h
 |p::l,[],h=>by rw[vW,qx] at h;cases h
 |p::l,q::m,h=>by
  rw[qx,qx] at h
  injection h with h1 h
  injection h with h2 h
  rw[JO h]
  congr 1
  obtain⟨a,b⟩:=p;obtain⟨c,d⟩:=q
  simp only at h1 h2
  rw[h1,h2]
def Ib(l:List (Int×Int))(p:Int×Int):List (Int×Int):=
 match l.getLast? with
 |none=>[p]
 |some q=>if p.1≤q.2 then l.dropLast++[(q.1,max q.2 p.2)] else l++[p]
theorem Mt(p:Int×Int):Ib [] p=[p]:=rfl
theorem JP(l:List (Int×Int))(q p:Int×Int):Ib (l++[q]) p=if p.1≤q.2 then l++[(q.1,max q.2 p.2)] else l++[q]++[p]:=by
 unfold Ib
 simp
theorem UB{lo:Int}{l done:List (Int×Int)}{p:Int×Int}(hc:Can lo l)(hm:∀x,tO x l↔tO x done)(hlast:∀q∈l,q.1≤p.1)(hlo:lo<p.1)(hp:p.1<p.2):
  Can lo (Ib l p)∧(∀x,tO x (Ib l p)↔tO x (done++[p]))∧∀q∈Ib l p,q.1≤p.1:=by
 have hsplit:l=[]∨∃i q,l=i++[q]:=by
  rcases List.eq_nil_or_concat l with h|⟨i,q,h⟩
  ·exact .inl h
  ·exact .inr ⟨i,q,by simpa using h⟩
 rcases hsplit with rfl|⟨i,q,rfl⟩
 ·rw[Mt]
  refine⟨⟨hlo,hp,trivial⟩,fun x=>?_,by simp⟩
  rw[qy,←hm x]
  exact⟨fun h=>.inr h,fun h=>h.resolve_left om⟩
 ·obtain⟨c1,c2,c3,c4⟩:=hc.init
  have hq:=hlast q (by simp)
  rw[JP]
  by_cases hle:p.1≤q.2
  ·rw [if_pos hle]
   refine⟨c1.snoc (p:=(q.1,max q.2 p.2)) c2 c3 (by show q.1<max q.2 p.2;omega),fun x=>?_,fun r hr=>?_⟩
   ·rw[qy,qy (l:=done),←hm x,qy]
    have e1:tO x [(q.1,max q.2 p.2)]↔(q.1≤x∧x<max q.2 p.2):=by unfold tO;simp
    have e2:tO x [q]↔(q.1≤x∧x<q.2):=by unfold tO;simp
    have e3:tO x [p]↔(p.1≤x∧x<p.2):=by unfold tO;simp
    rw[e1,e2,e3]
    constructor
    ·rintro(h|h)
     ·exact .inl (.inl h)
     ·by_cases hx:x<q.2
      ·exact .inl (.inr ⟨h.1,hx⟩)
      ·exact .inr ⟨by omega,by omega⟩
    ·rintro((h|h)|h)
     ·exact .inl h
     ·exact .inr ⟨h.1,by omega⟩
     ·exact .inr ⟨by omega,by omega⟩
   ·rcases List.mem_append.1 hr with hr|hr
    ·have:=c2 r hr;exact hlast r (by simp[hr])
    ·simp at hr;subst hr;exact hq
  ·rw[if_neg hle]
   refine⟨hc.snoc (fun r hr=>?_) hlo hp,fun x=>?_,fun r hr=>?_⟩
   ·rcases List.mem_append.1 hr with hr|hr
    ·have:=c2 r hr;omega
    ·simp at hr;subst hr;omega
   ·rw[qy,qy (l:=done),hm x]
   ·rcases List.mem_append.1 hr with hr|hr
    ·exact hlast r hr
    ·simp at hr;subst hr;exact Int.le_refl _
theorem Pm{lo:Int}:∀(suf:List (Int×Int)) (l done:List (Int×Int)),Can lo l→(∀x,tO x l↔tO x done)→(∀p∈suf,∀q∈l,q.1≤p.1)→suf.Pairwise (fun p q=>p.1≤q.1)→(∀p∈suf,lo<p.1∧p.1<p.2)→
  Can lo (suf.foldl Ib l)∧∀x,tO x (suf.foldl Ib l)↔tO x (done++suf)
 |[],l,done,h1,h2,_,_,_=>⟨h1,by simpa using h2⟩
 |p::suf,l,done,h1,h2,h3,h4,h5=>by
  obtain⟨s1,s2,s3⟩:=UB h1 h2 (h3 p (by simp)) (h5 p (by simp)).1 (h5 p (by simp)).2
  rw[List.pairwise_cons] at h4
  have:=Pm suf (Ib l p) (done++[p]) s1 s2 (fun r hr q hq=>Int.le_trans (s3 q hq) (h4.1 r hr)) h4.2 (fun r hr=>h5 r (by simp[hr]))
  simpa using this
def yY:Int→Int→List (Int×Int)→List (Int×Int)
 |a,b,[]=>[(a,b)]
 |a,b,q::l=>if q.1≤b then yY (min a q.1) (max b q.2) l else(a,b)::q::l
def yc:List (Int×Int)→Int×Int→List (Int×Int)
 |[],p=>[p]
 |q::l,p=>if q.2<p.1 then q::yc l p else yY p.1 p.2 (q::l)
theorem JK:∀{l:List (Int×Int)} {lo a b:Int},lo<a→a<b→(∀q∈l,lo<q.1)→(∀q∈l,a≤q.2)→(∃lo',Can lo' l)→Can lo (yY a b l)∧∀x,tO x (yY a b l)↔(a≤x∧x<b)∨tO x l
 |[],lo,a,b,h1,h2,_,_,_=>⟨⟨h1,h2,trivial⟩,fun x=>by unfold yY;rw[kD]⟩
 | q ::l,lo,a,b,h1,h2,h3,h5,⟨lo',h4⟩=>by
  have hq:=h3 q (by simp)
  have hov:=h5 q (by simp)
  have hq2:=h4.2.1
  unfold yY
  by_cases hle:q.1≤b
  ·rw[if_pos hle]
   obtain⟨i1,i2⟩:=JK (l:=l) (lo:=lo) (a:=min a q.1) (b:=max b q.2) (by omega) (by omega) (fun r hr=>h3 r (by simp[hr])) (fun r hr=>by have:=h5 r (by simp[hr]);omega) ⟨q.2,h4.2.2⟩
   refine⟨i1,fun x=>?_⟩
   rw[i2,kD]
   constructor
   ·rintro(h|h)
    ·by_cases h':a≤x∧x<b
     ·exact .inl h'
     ·exact .inr (.inl ⟨by omega,by omega⟩)
    ·exact .inr (.inr h)
   ·rintro(h|h|h)
    ·exact .inl ⟨by omega,by omega⟩
    ·exact .inl ⟨by omega,by omega⟩
    ·exact .inr h
  ·rw[if_neg hle]
   refine⟨⟨h1,h2,by omega,hq2,h4.2.2⟩,fun x=>?_⟩
   rw[kD]
theorem Can.mem:∀{l:List (Int×Int)} {lo:Int},Can lo l→∀q∈l,lo<q.1∧q.1<q.2
 |[],_,_,q,h=>by simp at h
 | p::l,lo,h,q,hq=>by
  rcases List.mem_cons.1 hq with rfl|hq
  ·exact⟨h.1,h.2.1⟩
  ·have:=h.2.2.mem q hq
   have:=h.1;have:=h.2.1
   omega
theorem L8:∀{l:List (Int×Int)} {lo:Int} {p:Int×Int},Can lo l→lo<p.1→p.1<p.2→Can lo (yc l p)∧∀x,tO x (yc l p)↔tO x (l++[p])
 |[],lo,p,_,h1,h2=>⟨⟨h1,h2,trivial⟩,fun x=>Iff.rfl⟩
 | q::l,lo,p,h,h1,h2=>by
  unfold yc
  by_cases hlt:q.2<p.1
  ·rw[if_pos hlt]
   obtain⟨i1,i2⟩:=L8 (l:=l) (lo:=q.2) (p:=p) h.2.2 hlt h2
   refine⟨⟨h.1,h.2.1,i1⟩,fun x=>?_⟩
   rw[kD,i2,List.cons_append,kD]
  ·rw[if_neg hlt]
   obtain⟨i1,i2⟩:=JK (l:=q::l) (lo:=lo) (a:=p.1) (b:=p.2) h1 h2 (fun r hr=>(h.mem r hr).1) (fun r hr=>by
    rcases List.mem_cons.1 hr with rfl|hr
    ·omega
    ·have:=h.2.2.mem r hr;omega) ⟨lo,h⟩
   refine⟨i1,fun x=>?_⟩
   rw[i2,qy]
   have e:tO x [p]↔(p.1≤x∧x<p.2):=by unfold tO;simp
   rw[e]
   exact or_comm
theorem L6{lo:Int}:∀(suf:List (Int×Int)) (l done:List (Int×Int)),Can lo l→(∀x,tO x l↔tO x done)→(∀p∈suf,lo<p.1∧p.1<p.2)→
  Can lo (suf.foldl yc l)∧∀x,tO x (suf.foldl yc l)↔tO x (done++suf)
 |[],l,done,h1,h2,_=>⟨h1,by simpa using h2⟩
 |p::suf,l,done,h1,h2,h5=>by
  obtain⟨s1,s2⟩:=L8 h1 (h5 p (by simp)).1 (h5 p (by simp)).2
  have:=L6 suf (yc l p) (done++[p]) s1 (fun x=>by rw[s2,qy,qy,h2]) (fun r hr=>h5 r (by simp[hr]))
  simpa using this
def BF(l:List (Int×Int)):List (Int×Int):=l.foldl yc []
theorem Gm{lo:Int}{l:List (Int×Int)}(h:∀p∈l,lo<p.1∧p.1<p.2):Can lo (BF l)∧∀x,tO x (BF l)↔tO x l:=by
 have:=L6 l [] [] (lo:=lo) trivial (fun x=>Iff.rfl) h
 rw[List.nil_append] at this
 exact this
theorem UA{lo:Int}{l m:List (Int×Int)}(hp:m.Perm l)(hs:m.Pairwise (fun p q=>p.1≤q.1))(h:∀p∈l,lo<p.1∧p.1<p.2):m.foldl Ib []=BF l:=by
 obtain⟨a1,a2⟩:=Pm m [] [] (lo:=lo) trivial (fun x=>Iff.rfl) (by simp) hs (fun p hq=>h p (hp.subset hq))
 obtain⟨b1,b2⟩:=Gm h
 refine a1.uniq b1 fun x=>?_
 rw[a2,b2,List.nil_append]
 unfold tO
 constructor
 ·rintro⟨p,hq,h⟩;exact⟨p,hp.subset hq,h⟩
 ·rintro⟨p,hq,h⟩;exact⟨p,hp.symm.subset hq,h⟩
theorem N9{lo:Int}{l m:List (Int×Int)}(hl:∀p∈l,lo<p.1∧p.1<p.2)(hm:∀p∈m,lo<p.1∧p.1<p.2)(h:∀x,tO x l↔tO x m):BF l=BF m:=by
 obtain⟨a1,a2⟩:=Gm hl
 obtain⟨b1,b2⟩:=Gm hm
 exact a1.uniq b1 fun x=>by rw[a2,b2,h]
theorem Hm:∀(l:List (Int×Int)) (a b:Int),(yY a b l).length≤l.length+1
 |[],_,_=>by simp[yY]
 |q::l,a,b=>by
  unfold yY
  split
  ·have:=Hm l (min a q.1) (max b q.2);simp;omega
  ·simp
theorem JL:∀(l:List (Int×Int)) (p:Int×Int),(yc l p).length≤l.length+1
 |[],_=>by simp[yc]
 |q::l,p=>by
  unfold yc
  split
  ·have:=JL l p;simp;omega
  ·exact Hm _ _ _
theorem MF:∀(l m:List (Int×Int)),(l.foldl yc m).length≤m.length+l.length
 |[],m=>by simp
 |p::l,m=>by
  have:=MF l (yc m p);have:=JL m p
  rw[List.foldl_cons,List.length_cons];omega
abbrev Bd:=Int×Int×List (Int×Int)
def Gq(r:aO):Int×Int:=(r.X0,r.X1)
def ww(l:List aO)(y:Int):List (Int×Int):=BF ((l.filter fun r=>decide (r.Y0≤y)&&decide (y<r.Y1)).map Gq)
def pushB(l:List Bd)(b:Bd):List Bd:=
 if b.2.2=[] then l else
 match l.getLast? with
 |none=>l++[b]
 |some c=>if c.2.1=b.1∧c.2.2=b.2.2 then l.dropLast++[(c.1,b.2.1,c.2.2)] else l++[b]
theorem qm{l:List Bd}{b:Bd}(h:b.2.2=[]):pushB l b=l:=if_pos h
theorem Bt{b:Bd}(h:b.2.2≠[]):pushB [] b=[b]:=by unfold pushB;rw[if_neg h];rfl
theorem sV{l:List Bd}{c b:Bd}(h:b.2.2≠[]):pushB (l++[c]) b=if c.2.1=b.1∧c.2.2=b.2.2 then l++[(c.1,b.2.1,c.2.2)] else l++[c]++[b]:=by
 unfold pushB
 rw[if_neg h]
 simp
def uZ(l:List aO):List Int→List Bd→List Bd
 |a::b::ys,out=>uZ l (b::ys) (pushB out (a,b,ww l a))
 |_,out=>out
def u7(l:List aO):List Int:=l.flatMap fun r=>[r.Y0,r.Y1]
def pg(l:List aO):List Bd:=uZ l (xG (u7 l)) []
def Dm(b:Bd):List aO:=b.2.2.map fun s=>⟨s.1,b.1,s.2,b.2.1⟩
def eu(l:List Bd):List aO:=l.flatMap Dm
def toP(b:Bd):bz:=⟨b.1,b.2.1,eO b.2.2⟩
structure WZ (r:aO):Prop where
 x0: -1000000≤r.X0∧r.X0≤1000000
 y0: -1000000≤r.Y0∧r.Y0≤1000000
 x1: -1000000≤r.X1∧r.X1≤1000000
 y1: -1000000≤r.Y1∧r.Y1≤1000000
 x:r.X0<r.X1
 y:r.Y0<r.Y1
structure R9 (r:aO):Prop where
 x0: -2000000000≤r.X0∧r.X0≤2000000000
 y0: -2000000000≤r.Y0∧r.Y0≤2000000000
 x1: -2000000000≤r.X1∧r.X1≤2000000000
 y1: -2000000000≤r.Y1∧r.Y1≤2000000000
 x:r.X0<r.X1
 y:r.Y0<r.Y1
theorem WZ.r9{r:aO}(h:WZ r):R9 r:=by
 have:=h.x0;have:=h.x1;have:=h.y0;have:=h.y1
 exact⟨by omega,by omega,by omega,by omega,h.x,h.y⟩
theorem Qp(l m:List Int):nX l m=some (decide (l=m)):=by
 have key:∀(suf pre rest:List Int),suf.length=rest.length→gW (pre++rest) suf pre.length=some (decide (suf=rest)):=by
  intro suf
  induction suf with
  |nil=>
   intro pre rest h
   have:rest=[]:=List.eq_nil_of_length_eq_zero h.symm
   subst this
   rw[gW.eq_1];rfl
  | cons x suf ih=>
   intro pre rest h
   cases rest with
   |nil=>simp at h
   | cons y rest=>
    rw[gW.eq_2,lC pre rest y,ob]
    have:=ih (pre++[y]) rest (by simpa using h)
    by_cases hxy:x=y
    ·subst hxy
     rw[if_neg (by simp)]
     simpa using this
    ·rw[if_pos (by simpa using hxy)]
     simp[hxy]
 unfold nX
 by_cases h:l.length=m.length
 ·rw[if_neg (by simp;omega)]
  exact key l [] m h
 ·rw[if_pos (by simp;omega)]
  have:l≠m:=fun e=>h (by rw[e])
  simp[this]
theorem Qo(l m:List aO):∃b:Bool,lN l m=some b∧(b=true↔l=m):=by
 have key:∀(suf pre rest:List aO),suf.length=rest.length→∃b:Bool,gI (pre++rest) suf pre.length=some b∧(b=true↔suf=rest):=by
  intro suf
  induction suf with
  |nil=>
   intro pre rest h
   have:rest=[]:=List.eq_nil_of_length_eq_zero h.symm
   subst this
   rw[gI.eq_1];exact⟨true,rfl,by simp⟩
  | cons x suf ih=>
   intro pre rest h
   cases rest with
   |nil=>simp at h
   | cons y rest=>
    rw[gI.eq_2,lC pre rest y,ob]
    obtain⟨b,h1,h2⟩:=ih (pre++[y]) rest (by simpa using h)
    by_cases hxy:x=y
    ·subst hxy
     rw[Au.2 rfl,if_neg (by simp)]
     exact⟨b,by simpa using h1,by simp[h2]⟩
    ·have:za x y=false:=by rw[Bool.eq_false_iff];exact fun h=>hxy (Au.1 h)
     rw[this,if_pos (by simp)]
     exact⟨false,rfl,by simp[hxy]⟩
 unfold lN
 by_cases h:l.length=m.length
 ·rw[if_neg (by simp;omega)]
  exact key l [] m h
 ·rw[if_pos (by simp;omega)]
  exact⟨false,rfl,by simp;exact fun e=>h (by rw[e])⟩
theorem GG{c:aO→aO→Option Int}{k:aO→Int}{l:List aO}(hl:l.length≤1000000000)(hc:∀x∈l,∀y∈l,c x y=some (k x-k y)):∃m,Dc l c=some m∧m.Perm l∧m.Pairwise fun x y=>k x≤k y:=by
 have hlt:∀x∈l,∀y∈l,NQ c x y=decide (k x<k y):=fun x hx y hy=>by
  unfold NQ
  rw[hc x hx y hy,Option.getD_some]
  exact decide_eq_decide.2 (by omega)
 have hs:AU c l:=⟨by omega,fun x hx y hy=>⟨_,hc x hx y hy⟩,fun x hx=>by rw[hlt x hx x hx];simp,fun x hx y hy z hz h1 h2=>by
  rw[hlt x hx y hy] at h1;rw[hlt y hy z hz] at h2;rw[hlt x hx z hz];simp at*;omega,fun x hx y hy z hz h1 h2=>by
  rw[hlt x hx y hy] at h1;rw[hlt y hy z hz] at h2;rw[hlt x hx z hz];simp at*;omega⟩
 obtain⟨m,hm⟩:=OA hs
 obtain⟨_,hp,hw⟩:=EJ hm
 refine⟨m,hm,hp,hw.imp_of_mem fun{x y} hx hy h=>?_⟩
 rw[hlt y (hp.subset hy) x (hp.subset hx)] at h
 simp at h
 exact h
theorem tT(y:List aO):∀(suf:List aO) (i:Nat) (l:List (Int×Int)),l.length+suf.length≤1000000000→gL y suf i (eO l)=some (eO ((suf.map Gq).foldl Ib l),y)
 |[],i,l,_=>by rw[gL.eq_1];rfl
 | r ::suf,i,l,h=>by
  simp only[List.length_cons] at h
  have hsplit:l=[]∨∃j q,l=j++[q]:=by
   rcases List.eq_nil_or_concat l with h|⟨j,q,h⟩
   ·exact .inl h
   ·exact .inr ⟨j,q,by simpa using h⟩
  rw[gL.eq_2,List.map_cons,List.foldl_cons]
  rcases hsplit with rfl|⟨j,q,rfl⟩
  ·rw[if_neg (by simp[vW,dB]),ob,if_neg (by simp),show EC (eO []) [r.X0,r.X1]=some (eO [Gq r]) from rfl,ob,Mt]
   exact tT y suf (i+1) [Gq r] (by simp;omega)
  ·have hfl:eO (j++[q])=(eO j++[q.1])++q.2::[]:=by rw[tZ];simp[eO]
   have hlen:(eO (j++[q])).length=2*j.length+2:=by rw[iU];simp;omega
   simp only[List.length_append,List.length_singleton] at h
   have hw:bP (((eO (j++[q])).length:Int)-1)=((eO j++[q.1]).length:Int):=by
    rw[dB (by omega) (by omega),hlen];simp[iU];omega
   have hid:idx (eO (j++[q])) ((eO j++[q.1]).length:Int)=some q.2:=by rw[hfl];exact lC _ [] q.2
   rw[hw,if_pos (decide_eq_true (by omega)),hid,ob,ob,JP]
   by_cases hle:r.X0≤q.2
   ·rw[if_pos (by simpa using hle),if_pos (show(Gq r).1≤q.2 from hle),ob]
    have hset:sets (eO (j++[q])) ((eO j++[q.1]).length:Int) (max q.2 r.X1)=some (eO (j++[(q.1,max q.2 (Gq r).2)])):=by
     unfold sets
     rw[if_pos ⟨by omega,by rw[hlen];simp[iU]⟩,hfl,tZ]
     simp[eO,Gq]
    rw[ob,hset,ob]
    exact tT y suf (i+1) _ (by simp;omega)
   ·rw[if_neg (by simpa using hle),if_neg (show ¬(Gq r).1≤q.2 from hle),qN (by rw[hlen];simp;omega),ob]
    have:eO (j++[q])++[r.X0,r.X1]=eO (j++[q]++[Gq r]):=by rw[tZ (j++[q])];rfl
    rw[this]
    exact tT y suf (i+1) _ (by simp;omega)
theorem Db{l:List aO}(hl:l.length≤400000000)(h:∀r∈l,R9 r):∃m,m.Perm l∧kI l=some (eO (BF (l.map Gq)),m):=by
 obtain⟨m,h1,h2,h3⟩:=GG (c:=fun z0 z1=>kE z0 z1) (k:=fun r=>r.X0) (l:=l) (by omega) (fun x hx y hy=>by
  have a:=(h x hx).x0;have b:=(h y hy).x0
  unfold kE
  rw[dB (by omega) (by omega)])
 refine⟨m,h2,?_⟩
 unfold kI
 rw[h1,ob]
 have:=tT m m 0 [] (by have:=h2.length_eq;simp;omega)
 rw[vW] at this
 rw[this,UA (lo:= -2000000001) (h2.map Gq) (by rw[List.pairwise_map];exact h3) (fun p hp=>by
  obtain⟨r,hr,rfl⟩:=List.mem_map.1 hp
  have a:=h r hr
  exact⟨by have:=a.x0;show -2000000001<r.X0;omega,a.x⟩)]
theorem J6{g:aO→Bool}{f:aO→Option Bool}:∀(l:List aO) (i:Nat),(∀x∈l,f x=some (g x))→eD f l i=some (qD g l i)
 |[],i,_=>rfl
 |x::l,i,h=>by
  rw[eD.eq_2,h x (by simp),ob,J6 l (i+1) (fun y hy=>h y (by simp[hy])),qD,show((i+1:Nat):Int)=(i:Int)+1 by omega]
  cases g x<;>rfl
theorem Av{g:aO→Bool}{f:aO→Option Bool}:∀(rest k u:List aO) (n:Nat),(∀x∈rest,f x=some (g x))→u≠[]→rest.length<n→(k++u++rest).length≤1000000000→
  eT f n (k++u++rest) k.length (k++u).length=some (k++rest.filter fun x=> !g x)
 | [],k,u,n+1,_,hu,_,hl=>by
  have hc:cut (k++u++[]) (k.length:Int) ((k++u++[]).length:Int)=some u:=by
   unfold cut
   rw[if_pos ⟨by omega,by simp;omega,by omega⟩,List.append_nil,Int.toNat_natCast,Int.toNat_natCast,List.take_length,List.drop_left]
  rw[eT.eq_2,if_neg (by simp),hc,ob]
  unfold SK pre
  rw[if_pos ⟨by omega,by simp;omega⟩]
  simp
 | x::rest,k,u,n+1,h,hu,hn,hl=>by
  obtain⟨u0,u',rfl⟩:∃u0 u',u=u0::u':=by cases u with|nil=>exact absurd rfl hu|cons a b=>exact⟨a,b,rfl⟩
  have hid:idx (k++(u0::u')++x::rest) ((k++(u0::u')).length:Int)=some x:=lC _ rest x
  simp only[List.length_append,List.length_cons] at hl hn
  rw[eT.eq_2,if_pos (by simp;omega),hid,ob,h x (by simp),ob,Ke (k++(u0::u')) x (by simp;omega)]
  cases hg:g x
  ·have hid2:idx (k++(u0::u')++x::rest) (k.length:Int)=some u0:=by
    rw[List.append_assoc];exact lC k (u'++x::rest) u0
   have hset:sets (k++(u0::u')++x::rest) (k.length:Int) x=some ((k++[x])++(u'++[x])++rest):=by
    unfold sets
    rw[if_pos ⟨by omega,by simp⟩]
    simp
   rw[if_pos (by simp),hid2,ob,hset,ob,Ke k x (by omega)]
   have:=Av rest (k++[x]) (u'++[x]) n (fun y hy=>h y (by simp[hy])) (by simp) (by omega) (by simp;omega)
   have e:((k++(u0::u')++[x]).length:Int)=((k++[x]++(u'++[x])).length:Int):=by rw[List.length_append,List.length_append,List.length_append,List.length_append,List.length_append];simp;omega
   rw[e,this,List.filter_cons,hg]
   simp
  ·rw[if_neg (by simp)]
   have:=Av rest k (u0::u'++[x]) n (fun y hy=>h y (by simp[hy])) (by simp) (by omega) (by simp;omega)
   have e:k++(u0::u')++x::rest=k++(u0::u'++[x])++rest:=by simp
   have e2:((k++(u0::u')++[x]).length:Int)=((k++(u0::u'++[x])).length:Int):=by simp
   rw[e,e2,this,List.filter_cons,hg]
   simp
theorem Ho{α:Type}(g:α→Bool):∀(l:List α) (i:Int),0≤i→(qD g l i= -1∧∀x∈l,g x=false)∨∃a x b,l=a++x::b∧(∀y∈a,g y=false)∧g x=true∧qD g l i=i+a.length
 |[],i,_=>.inl ⟨rfl,by simp⟩
 | x::l,i,hi=>by
  unfold qD
  cases hg:g x
  ·simp only[Bool.false_eq_true,if_false]
   rcases Ho g l (i+1) (by omega) with⟨h1,h2⟩|⟨a,z,b,h1,h2,h3,h4⟩
   ·exact .inl ⟨h1,fun y hy=>by rcases List.mem_cons.1 hy with rfl|hy;exact hg;exact h2 y hy⟩
   ·refine .inr ⟨x::a,z,b,by rw[h1];rfl,fun y hy=>?_,h3,by rw[h4];simp;omega⟩
    rcases List.mem_cons.1 hy with rfl|hy
    ·exact hg
    ·exact h2 y hy
  ·rw[if_pos rfl]
   exact .inr ⟨[],x,l,rfl,by simp,hg,by simp⟩
theorem Qq{N:Nat}{g:aO→Bool}{f:aO→Option Bool}{l:List aO}(hN:1000000000<N)(hl:l.length≤1000000000)(h:∀x∈l,f x=some (g x)):jE N l f=some (l.filter fun x=> !g x):=by
 unfold jE jN
 rw[J6 l 0 h,ob,show((0:Nat):Int)=0 from rfl]
 rcases Ho g l 0 (by omega) with⟨h1,h2⟩|⟨a,x,b,h1,h2,h3,h4⟩
 ·rw[h1,if_pos (by simp)]
  congr 1
  exact(List.filter_eq_self.2 fun y hy=>by simp[h2 y hy]).symm
 ·rw[h4,if_neg (by first|(simp;done)|(simp;omega))]
  subst h1
  simp only[List.length_append,List.length_cons] at hl
  have:=Av b a [x] N (fun y hy=>h y (by simp[hy])) (by simp) (by omega) (by simp;omega)
  have e:a++[x]++b=a++x::b:=by simp
  rw[e] at this
  rw[Int.zero_add,dB (by omega) (by omega),show((a.length:Int)+1)=((a++[x]).length:Int) by simp,this,List.filter_append,List.filter_cons,h3]
  have ha:a.filter (fun x=> !g x)=a:=List.filter_eq_self.2 fun y hy=>by simp[h2 y hy]
  simp[ha]
theorem Gg{l:List Bd}{b:Bd}(hl:l.length≤1000000000)(hb:b.1<b.2.1):gm (l.map toP) (toP b)=some ((pushB l b).map toP):=by
 unfold gm
 have hfl:((toP b).Xs.length:Int)=2*(b.2.2.length:Int):=by show((eO b.2.2).length:Int)=_;rw[iU];omega
 by_cases he:b.2.2=[]
 ·rw[if_pos (by rw[hfl,he];simp),qm he]
 ·have hpos:0<b.2.2.length:=List.length_pos_iff.2 he
  rw[if_neg (by
   rw[hfl]
   show ¬((2*(b.2.2.length:Int)==0)||decide (b.2.1≤b.1))=true
   rw[Bool.or_eq_true,not_or]
   exact⟨by simp;exact he,by simp;exact hb⟩)]
  have hsplit:l=[]∨∃j q,l=j++[q]:=by
   rcases List.eq_nil_or_concat l with h|⟨j,q,h⟩
   ·exact .inl h
   ·exact .inr ⟨j,q,by simpa using h⟩
  rcases hsplit with rfl|⟨j,c,rfl⟩
  ·rw[Bt he,if_neg (by simp[dB]),ob,if_neg (by simp),ob,if_neg (by simp)]
   rfl
  ·simp only[List.length_append,List.length_singleton] at hl
   have hm:(j++[c]).map toP=j.map toP++toP c::[]:=by simp
   have hw:bP ((((j++[c]).map toP).length:Int)-1)=((j.map toP).length:Int):=by
    rw[dB (by first|(simp;done)|(simp;omega)) (by first|(simp;done)|(simp;omega))];simp
   have hid:idx ((j++[c]).map toP) ((j.map toP).length:Int)=some (toP c):=by rw[hm];exact lC _ [] _
   rw[sV he,hw,if_pos (by simp),hid,ob,ob,ob,Qp]
   have hxs:((toP c).Xs=(toP b).Xs)↔c.2.2=b.2.2:=⟨fun h=>JO h,fun h=>by show eO c.2.2=eO b.2.2;rw[h]⟩
   by_cases h1:c.2.1=b.1
   ·have e1:((toP c).Y1==(toP b).Y0)=true:=by simpa[toP] using h1
    rw[e1,if_pos rfl,ob,ob]
    by_cases h2:c.2.2=b.2.2
    ·rw[decide_eq_true (hxs.2 h2),if_pos rfl,if_pos ⟨h1,h2⟩]
     have hset:sets ((j++[c]).map toP) ((j.map toP).length:Int) (bz.mk (toP c).Y0 (toP b).Y1 (toP c).Xs)=some ((j++[(c.1,b.2.1,c.2.2)]).map toP):=by
      unfold sets
      rw[if_pos ⟨by omega,by simp⟩,hm]
      simp[toP]
     rw[ob,hset];rfl
    ·rw[decide_eq_false (fun h=>h2 (hxs.1 h)),if_neg (by simp),if_neg (fun h=>h2 h.2),qN (by simp;omega),ob]
     simp
   ·have e1:((toP c).Y1==(toP b).Y0)=false:=by simpa[toP] using h1
    rw[e1,if_neg (by simp),ob,if_neg (by simp),if_neg (fun h=>h1 h.1),qN (by simp;omega),ob]
    simp
theorem FB:∀{l m:List Int},l.Pairwise (fun x y=>x<y)→m.Pairwise (fun x y=>x<y)→(∀x,x∈l↔x∈m)→l=m
 |[],[],_,_,_=>rfl
 |[],y::m,_,_,h=>by have:=(h y).2 (by simp);simp at this
 |x::l,[],_,_,h=>by have:=(h x).1 (by simp);simp at this
 | x::l,y::m,h1,h2,h=>by
  rw[List.pairwise_cons] at h1 h2
  have hxy:x=y:=by
   have a:=(h x).1 (by simp)
   have b:=(h y).2 (by simp)
   rcases List.mem_cons.1 a with a|a
   ·exact a
   ·rcases List.mem_cons.1 b with b|b
    ·exact b.symm
    ·have:=h1.1 y b;have:=h2.1 x a;omega
  subst hxy
  rw[FB h1.2 h2.2 fun z=>by
   have hz:=h z
   simp only[List.mem_cons] at hz
   constructor
   ·intro hm
    have hne:z≠x:=by have:=h1.1 z hm;omega
    rcases hz.1 (.inr hm) with e|e
    ·exact absurd e hne
    ·exact e
   ·intro hm
    have hne:z≠x:=by have:=h2.1 z hm;omega
    rcases hz.2 (.inr hm) with e|e
    ·exact absurd e hne
    ·exact e]
theorem PS{l m:List Int}(h:∀x,x∈l↔x∈m):xG l=xG m:=FB (tu l) (tu m) fun x=>by rw[vk,vk,h]
theorem vV{l:List aO}{y:Int}:y∈u7 l↔∃r∈l,y=r.Y0∨y=r.Y1:=by
 unfold u7
 simp[List.mem_flatMap]
theorem ED:∀l:List aO,(u7 l).length=2*l.length
 |[]=>rfl
 |r::l=>by
  show([r.Y0,r.Y1]++u7 l).length=_
  rw[List.length_append,ED l];simp;omega
theorem GA(l:List Int):(xG l).length≤l.length:=by
 unfold xG
 exact Nat.le_trans (Pp _) (by rw[List.length_mergeSort];exact Nat.le_refl _)
theorem xU(l:List Bd)(b:Bd):(pushB l b).length≤l.length+1:=by
 by_cases he:b.2.2=[]
 ·rw[qm he];omega
 ·rcases List.eq_nil_or_concat l with rfl|⟨j,c,h⟩
  ·rw[Bt he];simp
  ·rw[List.concat_eq_append] at h
   subst h
   rw[sV he]
   split<;>simp
section
variable {N:Nat} {l M:List aO} {ys:List Int} (hN:10000000000≤N) (hMl:M.length≤100000000) (hok:∀r∈M,R9 r) (hyl:ys.length≤200000000)
include hN hMl hok hyl
omit hN hyl in
theorem Q5{k a b:Int}{bands:List Bd}(hbl:bands.length≤250000000)(hk0:0≤k∧k≤250000000)(ha:idx ys k=some a)(hb:idx ys (k+1)=some b)(hab:a<b){K:Int→List bz→List aO→Int→Option (List bz)}:∀(suf pre now:List aO) (m:Nat),M=pre++suf→suf.length<m→(∀r∈now,R9 r)→now.length+suf.length≤150000000→
  ∃t suf' now',suf=t++suf'∧(∀r∈t,r.Y0≤a)∧(∀r,suf'.head?=some r→a<r.Y0)∧now'.Perm (now++t)∧
   iA M ys k (bands.map toP) K m now pre.length=K (k+1) ((pushB bands (a,b,BF ((now++t).map Gq))).map toP) now' (pre++t).length
 |suf,pre,now,0,_,h,_,_=>absurd h (Nat.not_lt_zero _)
 |[],pre,now,m+1,h1,_,h3,h4=>by
  obtain⟨now',p1,p2⟩:=Db (l:=now) (by simp at h4;omega) h3
  refine⟨[],[],now',rfl,by simp,by simp,by simpa using p1,?_⟩
  have hpush:=Gg (l:=bands) (b:=(a,b,BF (now.map Gq))) (by omega) hab
  rw[iA.eq_2,if_neg (by rw[h1];simp),ob,if_neg (by simp),ha,ob,dB (by omega) (by omega),hb,ob,p2,ob]
  show(gm (bands.map toP) (toP (a,b,BF (now.map Gq)))).bind _=_
  rw[hpush,ob]
  simp
 | r::suf,pre,now,m+1,h1,h2,h3,h4=>by
  have hrM:r∈M:=by rw[h1];simp
  have hpl:pre.length≤100000000:=by rw[h1] at hMl;simp at hMl;omega
  have hid:idx M (pre.length:Int)=some r:=by rw[h1];exact lC pre suf r
  simp only[List.length_cons] at h2 h4
  by_cases hle:r.Y0≤a
  ·obtain⟨t,suf',now',e1,e2,e3,e4,e5⟩:=Q5 hbl hk0 ha hb hab (K:=K) suf (pre++[r]) (now++[r]) m (by rw[h1];simp) (by omega) (fun x hx=>by
    rcases List.mem_append.1 hx with hx|hx
    ·exact h3 x hx
    ·simp at hx;subst hx;exact hok _ hrM) (by simp;omega)
   refine⟨r::t,suf',now',by rw[e1];rfl,fun x hx=>?_,e3,by simpa using e4,?_⟩
   ·rcases List.mem_cons.1 hx with rfl|hx
    ·exact hle
    ·exact e2 x hx
   ·rw[iA.eq_2,if_pos (by rw[h1];exact NP pre suf r),hid,ob,ha,ob,ob,if_pos (by simpa using hle),ob,qN (by simp;omega),ob,Ke pre r (by omega),e5]
    simp
  ·obtain⟨now',p1,p2⟩:=Db (l:=now) (by omega) h3
   refine⟨[],r::suf,now',rfl,by simp,fun x hx=>by simp at hx;subst hx;omega,by simpa using p1,?_⟩
   have hpush:=Gg (l:=bands) (b:=(a,b,BF (now.map Gq))) (by omega) hab
   rw[iA.eq_2,if_pos (by rw[h1];exact NP pre suf r),hid,ob,ha,ob,ob,if_neg (by simpa using hle),ob,dB (by omega) (by omega),hb,ob,p2,ob]
   show(gm (bands.map toP) (toP (a,b,BF (now.map Gq)))).bind _=_
   rw[hpush,ob]
   simp
theorem OB(hMs:M.Pairwise fun x y=>x.Y0≤y.Y0)(hys:ys.Pairwise fun x y=>x<y)(hmem:∀r∈M,r.Y0∈ys)(hl:∀r,r∈l↔r∈M):∀(hsuf hpre:List Int) (m:Nat) (bands:List Bd) (pre suf now:List aO) (v:Int),ys=hpre++hsuf→M=pre++suf→hsuf.length<m→bands.length≤hpre.length→
  (∀r∈pre,r.Y0≤v)→(∀r∈suf,v<r.Y0)→now.Perm (pre.filter fun r=>decide (v<r.Y1))→(∀h∈hsuf,v<h)→(∀h∈hpre,h≤v)→
  dU N M ys m hpre.length (bands.map toP) now pre.length=some ((uZ l hsuf bands).map toP)
 |[],hpre,m+1,bands,pre,suf,now,v,e1,e2,_,_,_,_,_,_,_=>by
  have hpl:hpre.length≤200000000:=by rw[e1] at hyl;simpa using hyl
  rw[dU.eq_2,if_neg (by rw[dB (by omega) (by omega),e1];simp;omega)]
  rfl
 |[a],hpre,m+1,bands,pre,suf,now,v,e1,e2,_,_,_,_,_,_,_=>by
  have hpl:hpre.length≤200000000:=by rw[e1] at hyl;simp at hyl;omega
  rw[dU.eq_2,if_neg (by rw[dB (by omega) (by omega),e1];simp)]
  rfl
 | a ::b::hsuf,hpre,m+1,bands,pre,suf,now,v,e1,e2,hm,hbl,i1,i2,i3,i4,i5=>by
  have hpl:hpre.length+2≤200000000:=by rw[e1] at hyl;simp at hyl;omega
  have hva:v<a:=i4 a (by simp)
  have hs2:(a::b::hsuf).Pairwise fun x y=>x<y:=by rw[e1] at hys;exact(List.pairwise_append.1 hys).2.1
  have hab:a<b:=(List.pairwise_cons.1 hs2).1 b (by simp)
  have ha:idx ys (hpre.length:Int)=some a:=by rw[e1];exact lC hpre _ a
  have hb:idx ys ((hpre.length:Int)+1)=some b:=by
   rw[e1,show hpre++a::b::hsuf=(hpre++[a])++b::hsuf by simp,show((hpre.length:Int)+1)=((hpre++[a]).length:Int) by simp]
   exact lC (hpre++[a]) _ b
  have hnl:now.length≤pre.length:=by rw[i3.length_eq];exact List.length_filter_le _ _
  have hMl2:pre.length+suf.length≤100000000:=by rw[e2] at hMl;simpa using hMl
  have hnok:∀r∈now,R9 r:=fun r hr=>hok r (by rw[e2];exact List.mem_append_left _ (List.mem_filter.1 (i3.subset hr)).1)
  have hdel:=Qq (N:=N) (g:=fun r=>decide (r.Y1≤a)) (f:=fun z0=>nz z0 ys hpre.length) (l:=now) (by omega) (by omega) (fun r _=>by unfold nz;rw[ha];rfl)
  obtain⟨t,suf',now',s1,s2,s3,s4,s5⟩:=Q5 hMl hok (bands:=bands) (by omega) (k:=(hpre.length:Int)) ⟨by omega,by omega⟩ ha hb hab (K:=dU N M ys m) suf pre (now.filter fun x=> !decide (x.Y1≤a)) N e2 (by omega) (fun r hr=>hnok r (List.mem_filter.1 hr).1) (by
   have:=List.length_filter_le (fun x:aO=> !decide (x.Y1≤a)) now
   omega)
  have hsM:suf.Pairwise fun x y=>x.Y0≤y.Y0:=by rw[e2] at hMs;exact(List.pairwise_append.1 hMs).2.1
  have hsuf':∀r∈suf',a<r.Y0:=fun r hr=>by
   cases suf' with
   |nil=>simp at hr
   | cons c cs=>
    have hc:=s3 c rfl
    rcases List.mem_cons.1 hr with rfl|hr
    ·exact hc
    ·rw[s1] at hsM
     have:=(List.pairwise_cons.1 (List.pairwise_append.1 hsM).2.1).1 r hr
     omega
  have ht:∀r∈t,r.Y0=a∧a<r.Y1:=fun r hr=>by
   have hrs:r∈suf:=by rw[s1];exact List.mem_append_left _ hr
   have hrM:r∈M:=by rw[e2];exact List.mem_append_right _ hrs
   have h1:=s2 r hr
   have h2:=i2 r hrs
   have h3:=hmem r hrM
   have hin:r.Y0∈a::b::hsuf:=by
    rw[e1] at h3
    rcases List.mem_append.1 h3 with h|h
    ·have:=i5 _ h;omega
    ·exact h
   have hle:a≤r.Y0:=by
    rcases List.mem_cons.1 hin with h|h
    ·omega
    ·have:=(List.pairwise_cons.1 hs2).1 _ h;omega
   have:=(hok r hrM).y
   omega
  have hperm:(now.filter (fun x=> !decide (x.Y1≤a))++t).Perm ((pre++t).filter fun r=>decide (a<r.Y1)):=by
   rw[List.filter_append]
   have p1:(now.filter fun x=> !decide (x.Y1≤a)).Perm (pre.filter fun r=>decide (a<r.Y1)):=by
    refine(i3.filter _).trans ?_
    rw[List.filter_filter]
    refine List.Perm.of_eq (List.filter_congr fun r _=>?_)
    rw[Bool.eq_iff_iff]
    simp
    omega
   have p2:t.filter (fun r=>decide (a<r.Y1))=t:=List.filter_eq_self.2 fun r hr=>by simpa using(ht r hr).2
   rw[p2]
   exact p1.append_right t
  have hcov:BF ((now.filter (fun x=> !decide (x.Y1≤a))++t).map Gq)=ww l a:=by
   have hin:∀r,r∈(now.filter (fun x=> !decide (x.Y1≤a))++t)↔r∈l.filter fun r=>decide (r.Y0≤a)&&decide (a<r.Y1):=fun r=>by
    rw[hperm.mem_iff,List.mem_filter,List.mem_filter,hl,e2,s1]
    simp only[List.mem_append,Bool.and_eq_true,decide_eq_true_eq]
    constructor
    ·rintro⟨h|h,h2⟩
     ·exact⟨.inl h,by have:=i1 r h;omega,h2⟩
     ·exact⟨.inr (.inl h),by have:=(ht r h).1;omega,h2⟩
    ·rintro⟨h|h|h,h1,h2⟩
     ·exact⟨.inl h,h2⟩
     ·exact⟨.inr h,h2⟩
     ·have:=hsuf' r h;omega
   have hlim:∀r,r∈M→ -2000000001<(Gq r).1∧(Gq r).1<(Gq r).2:=fun r hr=>by
    have:=hok r hr
    exact⟨by have:=this.x0;show -2000000001<r.X0;omega,this.x⟩
   have hMr:∀r,r∈(now.filter (fun x=> !decide (x.Y1≤a))++t)→r∈M:=fun r hr=>(hl r).1 (List.mem_filter.1 ((hin r).1 hr)).1
   unfold ww
   refine N9 (lo:= -2000000001) (fun p hp=>?_) (fun p hp=>?_) fun x=>?_
   ·obtain⟨r,hr,rfl⟩:=List.mem_map.1 hp;exact hlim r (hMr r hr)
   ·obtain⟨r,hr,rfl⟩:=List.mem_map.1 hp;exact hlim r ((hl r).1 (List.mem_filter.1 hr).1)
   ·unfold tO
    constructor
    ·rintro⟨p,hp,h⟩
     obtain⟨r,hr,rfl⟩:=List.mem_map.1 hp
     exact⟨_,List.mem_map.2 ⟨r,(hin r).1 hr,rfl⟩,h⟩
    ·rintro⟨p,hp,h⟩
     obtain⟨r,hr,rfl⟩:=List.mem_map.1 hp
     exact⟨_,List.mem_map.2 ⟨r,(hin r).2 hr,rfl⟩,h⟩
  rw[dU.eq_2,if_pos (by rw[dB (by omega) (by omega),e1];simp;omega),hdel,ob,s5,hcov]
  have hpb:=xU bands (a,b,ww l a)
  have ih:=OB hMs hys hmem hl (b::hsuf) (hpre++[a]) m (pushB bands (a,b,ww l a)) (pre++t) suf' now' a (by rw[e1];simp) (by rw[e2,s1];simp) (by simp at hm ⊢;omega) (by simp;omega) (fun r hr=>by
   rcases List.mem_append.1 hr with hr|hr
   ·have:=i1 r hr;omega
   ·have:=(ht r hr).1;omega) hsuf' (s4.trans hperm) (fun h hh=>(List.pairwise_cons.1 hs2).1 h hh) (fun h hh=>by
   rcases List.mem_append.1 hh with hh|hh
   ·have:=i5 h hh;omega
   ·simp at hh;omega)
  rw[show((hpre.length:Int)+1)=((hpre++[a]).length:Int) by simp,ih]
  rfl
end
theorem Nr(r:aO)(l:List aO):u7 (r::l)=[r.Y0,r.Y1]++u7 l:=rfl
theorem Eo{N:Nat}{l:List aO}(hN:10000000000≤N)(hl:l.length≤100000000)(hok:∀r∈l,R9 r):jV N l=some ((pg l).map toP):=by
 obtain⟨M,m1,m2,m3⟩:=GG (c:=fun z0 z1=>nA z0 z1) (k:=fun r=>r.Y0) (l:=l) (by omega) (fun x hx y hy=>by
  have a:=(hok x hx).y0;have b:=(hok y hy).y0
  unfold nA
  rw[dB (by omega) (by omega)])
 have hMl:M.length≤100000000:=by rw[m2.length_eq];exact hl
 have hMok:∀r∈M,R9 r:=fun r hr=>hok r (m2.subset hr)
 have hy:xG (u7 M)=xG (u7 l):=PS fun y=>by
  rw[vV,vV]
  exact⟨fun⟨r,hr,h⟩=>⟨r,m2.subset hr,h⟩,fun⟨r,hr,h⟩=>⟨r,m2.symm.subset hr,h⟩⟩
 have hyl:(xG (u7 l)).length≤200000000:=Nat.le_trans (GA _) (by rw[ED];omega)
 have L1:∀(suf:List aO) (i:Nat) (out:List Int),out.length+2*suf.length≤250000000→je N M suf i out=(dU N M (xG (out++u7 suf)) N 0 [] [] 0):=by
  intro suf
  induction suf with
  |nil=>
   intro i out ho
   rw[je.eq_1]
   have:=Oz (l:=out) (by simp at ho;omega)
   rw[Km (by simp at ho;omega),ob]
   rw[Km (by simp at ho;omega),ob] at this
   rw[this,ob]
   show _=dU N M (xG (out++[])) N 0 [] [] 0
   rw[List.append_nil]
  |cons r suf ih=>
   intro i out ho
   simp only[List.length_cons] at ho
   rw[je.eq_2,qN (by simp;omega),ob,ih (i+1) _ (by simp;omega),Nr,List.append_assoc]
 unfold jV nG
 rw[qN (by simp;omega),ob,ob,List.nil_append,m1,ob,L1 M 0 [] (by simp;omega),List.nil_append,hy]
 have:=OB (l:=l) hN hMl hMok hyl m3 (tu _) (fun r hr=>(vk _ _).2 (vV.2 ⟨r,m2.subset hr,.inl rfl⟩)) (fun r=>⟨fun h=>m2.symm.subset h,fun h=>m2.subset h⟩) (xG (u7 l)) [] N [] [] M [] (-3000000000) rfl rfl (by omega) (by simp) (by simp) (fun r hr=>by have:=(hMok r hr).y0;omega) (by simp) (fun h hh=>by
  obtain⟨r,hr,e⟩:=vV.1 ((vk _ _).1 hh)
  have a:=hok r hr
  have:=a.y0;have:=a.y1
  rcases e with rfl|rfl<;>omega) (by simp)
 exact this
theorem Rj(l:List aO)(y:Int):(ww l y).length≤l.length:=by
 unfold ww BF
 have:=MF ((l.filter fun r=>decide (r.Y0≤y)&&decide (y<r.Y1)).map Gq) []
 have h2:=List.length_filter_le (fun r:aO=>decide (r.Y0≤y)&&decide (y<r.Y1)) l
 simp at this
 omega
structure Small (l:List Bd):Prop where
 len:l.length≤200000000
 row:∀b∈l,b.2.2.length≤100000000
 tot:(eu l).length≤4000000000
theorem q8(b:Bd)(l:List Bd):eu (b::l)=Dm b++eu l:=rfl
theorem tC(b:Bd):(Dm b).length=b.2.2.length:=by unfold Dm;simp
theorem uT{l:List Bd}{R:Nat}(h:∀b∈l,b.2.2.length≤R):(eu l).length≤R*l.length:=by
 induction l with
 |nil=>simp[eu]
 |cons b l ih=>
  rw[q8,List.length_append,tC]
  have:=ih (fun c hc=>h c (by simp[hc]));have:=h b (by simp)
  rw[List.length_cons,Nat.mul_succ]
  omega
theorem I5(l m:List Bd):eu (l++m)=eu l++eu m:=by unfold eu;rw[List.flatMap_append]
theorem GU{l:List Bd}{b:Bd}(h:b∈l):b.2.2.length≤(eu l).length:=by
 obtain⟨s,t,rfl⟩:=List.append_of_mem h
 rw[I5,q8,List.length_append,List.length_append,tC]
 omega
theorem JD{l:List Bd}{b:Bd}{R:Nat}(h:∀c∈l,c.2.2.length≤R)(hb:b.2.2.length≤R):∀c∈pushB l b,c.2.2.length≤R:=by
 by_cases he:b.2.2=[]
 ·rw[qm he];exact h
 ·rcases List.eq_nil_or_concat l with rfl|⟨j,c,hc⟩
  ·rw[Bt he]
   intro c hc
   simp at hc
   subst hc
   exact hb
  ·rw[List.concat_eq_append] at hc
   subst hc
   rw[sV he]
   intro d hd
   split at hd
   ·rcases List.mem_append.1 hd with hd|hd
    ·exact h d (by simp[hd])
    ·simp at hd;subst hd;exact h c (by simp)
   ·rcases List.mem_append.1 hd with hd|hd
    ·exact h d hd
    ·simp at hd;subst hd;exact hb
theorem Cb{l:List aO}{R:Nat}(hl:l.length≤R):∀(ys:List Int) (out:List Bd),(∀c∈out,c.2.2.length≤R)→(uZ l ys out).length≤out.length+ys.length∧∀c∈uZ l ys out,c.2.2.length≤R
 |[],out,h=>⟨by simp[uZ],h⟩
 |[a],out,h=>⟨by simp[uZ],h⟩
 |a::b::ys,out,h=>by
  have hr:=Rj l a
  have hp:=xU out (a,b,ww l a)
  obtain⟨i1,i2⟩:=Cb hl (b::ys) (pushB out (a,b,ww l a)) (JD h (by show(ww l a).length≤R;omega))
  simp only[List.length_cons] at i1 ⊢
  exact⟨by show(uZ l (b::ys) (pushB out (a,b,ww l a))).length≤_;omega,i2⟩
theorem zX(l:List aO):(pg l).length≤2*l.length∧∀b∈pg l,b.2.2.length≤l.length:=by
 obtain⟨h1,h2⟩:=Cb (Nat.le_refl l.length) (xG (u7 l)) [] (by simp)
 have:=GA (u7 l)
 rw[ED] at this
 exact⟨by show(uZ l (xG (u7 l)) []).length≤_;simp at h1;omega,h2⟩
theorem Lt{l:List aO}(hl:l.length≤100000000)(ht:(eu (pg l)).length≤4000000000):Small (pg l):=by
 obtain⟨h1,h2⟩:=zX l
 exact⟨by omega,fun b hb=>by have:=h2 b hb;omega,ht⟩
theorem NC{l:List aO}(hl:l.length≤20000):Small (pg l):=by
 obtain⟨h1,h2⟩:=zX l
 refine Lt (by omega) ?_
 have:=uT (R:=20000) (l:=pg l) fun b hb=>by have:=h2 b hb;omega
 omega
section
variable {N:Nat} (hN:10000000000≤N)
include hN
omit hN in
theorem Nb{b:Bd}{K:List aO→Option (List aO)}(hb:b.2.2.length≤100000000):∀(suf pre:List (Int×Int)) (m:Nat) (out:List aO),b.2.2=pre++suf→suf.length<m→out.length+suf.length≤4294967296→
  gX K (toP b) m out ((2*pre.length:Nat):Int)=K (out++suf.map fun s=>⟨s.1,b.1,s.2,b.2.1⟩)
 |[],pre,m+1,out,h1,_,_=>by
  rw[gX.eq_2,if_neg (by show ¬decide (((2*pre.length:Nat):Int)<((eO b.2.2).length:Int))=true;rw[h1,iU];simp)]
  simp
 | s::suf,pre,m+1,out,h1,h2,h3=>by
  have hpl:pre.length≤100000000:=by rw[h1] at hb;simp at hb;omega
  have hfl:eO b.2.2=eO pre++s.1::s.2::eO suf:=by rw[h1,tZ];rfl
  have hid:idx (eO b.2.2) ((2*pre.length:Nat):Int)=some s.1:=by rw[hfl,←iU];exact lC _ _ _
  have hid2:idx (eO b.2.2) (((2*pre.length:Nat):Int)+1)=some s.2:=by
   rw[hfl,show eO pre++s.1::s.2::eO suf=(eO pre++[s.1])++s.2::eO suf by simp,show(((2*pre.length:Nat):Int)+1)=((eO pre++[s.1]).length:Int) by simp[iU]]
   exact lC _ _ _
  simp only[List.length_cons] at h2 h3
  rw[gX.eq_2,if_pos (by show decide (((2*pre.length:Nat):Int)<((eO b.2.2).length:Int))=true;rw[hfl];simp[iU];omega),dB (x:=((2*pre.length:Nat):Int)+1) (by omega) (by omega),dB (x:=((2*pre.length:Nat):Int)+2) (by omega) (by omega)]
  show((idx (eO b.2.2) _).bind fun YQ=>(idx (eO b.2.2) _).bind fun YP=>_)=_
  rw[hid,ob,hid2,ob,qN (by simp;omega),ob]
  have:=Nb (K:=K) hb suf (pre++[s]) m (out++[⟨s.1,b.1,s.2,b.2.1⟩]) (by rw[h1];simp) (by omega) (by simp;omega)
  rw[show((2*(pre++[s]).length:Nat):Int)=((2*pre.length:Nat):Int)+2 by simp;omega] at this
  show gX K (toP b) m (out++[⟨s.1,b.1,s.2,b.2.1⟩]) _=_
  rw[this]
  simp
theorem Na{l:List Bd}(h:Small l):mq N (l.map toP)=some (eu l):=by
 have key:∀(suf:List Bd) (i:Nat) (out:List aO),(∀b∈suf,b.2.2.length≤100000000)→out.length+(eu suf).length≤4294967296→eY N (suf.map toP) i out=some (out++eu suf):=by
  intro suf
  induction suf with
  |nil=>intro i out _ _;rw[List.map_nil,eY.eq_1];simp[eu]
  |cons b suf ih=>
   intro i out hb ho
   have hb0:=hb b (by simp)
   rw[q8,List.length_append,tC] at ho
   rw[List.map_cons,eY.eq_2]
   have:=Nb (K:=eY N (suf.map toP) (i+1)) hb0 b.2.2 [] N out rfl (by omega) (by omega)
   rw[show((2*([]:List (Int×Int)).length:Nat):Int)=0 from rfl] at this
   rw[this,ih (i+1) _ (fun c hc=>hb c (by simp[hc])) (by simp;omega),q8,List.append_assoc]
   rfl
 have:=key l 0 [] h.row (by have:=h.tot;simp;omega)
 rw[List.nil_append] at this
 exact this
omit hN in
theorem PH{l:List Bd}(h:(eu l).length≤1000000000000000000):oP (l.map toP)=some ((eu l).length:Int):=by
 have key:∀(suf:List Bd) (i:Nat) (c:Int),0≤c→c+(eu suf).length≤1000000000000000000→iF (suf.map toP) i c=some (c+((eu suf).length:Int)):=by
  intro suf
  induction suf with
  |nil=>intro i c _ _;rw[List.map_nil,iF.eq_1];simp[eu]
  | cons b suf ih=>
   intro i c h0 ho
   rw[q8,List.length_append,tC] at ho
   have e:Int.tdiv ((toP b).Xs.length:Int) 2=(b.2.2.length:Int):=by
    show Int.tdiv ((eO b.2.2).length:Int) 2=_
    rw[iU,Int.tdiv_eq_ediv_of_nonneg (by omega)];omega
   rw[List.map_cons,iF.eq_2,e,dB (x:=(b.2.2.length:Int)) (by omega) (by omega),dB (by omega) (by omega),ih (i+1) _ (by omega) (by omega),q8,List.length_append,tC]
   congr 1
   omega
 have:=key l 0 0 (by omega) (by omega)
 rw[Int.zero_add] at this
 exact this
end
instance:DecidableEq aO:=fun _ _=>decidable_of_iff _ Au
def NI(r:aO):Int:=
 if(((within r.X0 (-1000000) 1000000&&within r.Y0 (-1000000) 1000000)&&within r.X1 (-1000000) 1000000)&&within r.Y1 (-1000000) 1000000)=false then 1
 else if(decide (r.X1≤r.X0)||decide (r.Y1≤r.Y0))=true then 13 else 0
def GQ:List aO→Int
 |[]=>0
 |r::l=>if NI r=0 then GQ l else NI r
def wB(l:List aO):Int:=if 2000<l.length then 2 else GQ l
theorem TY{r:aO}(h:NI r=0):WZ r:=by
 unfold NI at h
 split at h
 ·omega
 ·rename_i h1
  split at h
  ·omega
  ·rename_i h2
   rw[Bool.not_eq_false,Bool.and_eq_true,Bool.and_eq_true,Bool.and_eq_true,within_iff,within_iff,within_iff,within_iff] at h1
   rw[Bool.or_eq_true,not_or,decide_eq_true_eq,decide_eq_true_eq] at h2
   exact⟨h1.1.1.1,h1.1.1.2,h1.1.2,h1.2,by omega,by omega⟩
theorem LC:∀{l:List aO},GQ l=0→∀r∈l,WZ r
 |[],_,r,hr=>by simp at hr
 | a::l,h,r,hr=>by
  unfold GQ at h
  split at h
  ·rename_i h1
   rcases List.mem_cons.1 hr with rfl|hr
   ·exact TY h1
   ·exact LC h r hr
  ·rename_i h1;exact absurd h h1
theorem LM{l:List aO}(h:wB l=0):l.length≤2000∧∀r∈l,WZ r:=by
 unfold wB at h
 split at h
 ·omega
 ·exact⟨by omega,LC h⟩
theorem JM(r:aO):pW r=some (((within r.X0 (-1000000) 1000000&&within r.Y0 (-1000000) 1000000)&&within r.X1 (-1000000) 1000000)&&within r.Y1 (-1000000) 1000000):=by
 unfold pW kZ mJ within
 simp only[ob]
 cases decide (-1000000≤r.X0)&&decide (r.X0≤1000000)<;>cases decide (-1000000≤r.Y0)&&decide (r.Y0≤1000000)<;>cases decide (-1000000≤r.X1)&&decide (r.X1≤1000000)<;>rfl
theorem Jj(l:List aO):mr l=some (wB l):=by
 have key:∀(l:List aO) (i:Nat),gY l i=some (GQ l):=by
  intro l
  induction l with
  |nil=>intro i;rw[gY.eq_1];rfl
  |cons r l ih=>
   intro i
   rw[gY.eq_2,JM,ob,ih]
   show _=some (if NI r=0 then GQ l else NI r)
   generalize GQ l=z
   unfold NI
   cases(((within r.X0 (-1000000) 1000000&&within r.Y0 (-1000000) 1000000)&&within r.X1 (-1000000) 1000000)&&within r.Y1 (-1000000) 1000000)
   ·simp
   ·cases(decide (r.X1≤r.X0)||decide (r.Y1≤r.Y0))<;>simp
 unfold mr wB
 by_cases h:2000<l.length
 ·rw[if_pos (by simp;omega),if_pos h]
 ·rw[if_neg (by simp;omega),if_neg h,key]
def XK(a b:aO):Bool:=decide (a.Y0<b.Y0)||(decide (a.Y0=b.Y0)&&decide (a.X0<b.X0))
def Rn:List aO→Bool
 |a::b::l=>XK a b&&Rn (b::l)
 |_=>true
def JA(l:List aO):Int:=if wB l=0 then if Rn l=true then if eu (pg l)=l then 0 else 3 else 8 else wB l
theorem IU{N:Nat}(hN:10000000000≤N)(l:List aO):kF N l=some (JA l):=by
 unfold kF JA
 rw[Jj,ob]
 by_cases he:wB l=0
 ·obtain⟨hl,hok⟩:=LM he
  rw[if_neg (by simpa using he),if_pos he]
  have hend:(jV N l).bind (fun Yj=>(mq N Yj).bind fun Yi=>(lN Yi l).bind fun Yh=>if(!Yh) then some 3 else some 0)=some (if eu (pg l)=l then(0:Int) else 3):=by
   rw[Eo hN (by omega) (fun r hr=>(hok r hr).r9),ob,Na hN (NC (by omega)),ob]
   obtain⟨b,h1,h2⟩:=Qo (eu (pg l)) l
   rw[h1,ob]
   cases b
   ·rw[if_pos (by simp),if_neg (fun h=>by have:=h2.2 h;cases this)]
   ·rw[if_neg (by simp),if_pos (h2.1 rfl)]
  have key:∀(suf pre:List aO) (a:aO) (m:Nat),l=pre++a::suf→suf.length<m→dV N l m ((pre.length:Int)+1)=some (if Rn (a::suf)=true then if eu (pg l)=l then 0 else 3 else 8):=by
   intro suf
   induction suf with
   |nil=>
    intro pre a m h1 h2
    obtain⟨m,rfl⟩:∃k,m=k+1:=⟨m-1,by omega⟩
    rw[dV.eq_2,if_neg (by rw[h1];simp),hend]
    rfl
   | cons b suf ih=>
    intro pre a m h1 h2
    obtain⟨m,rfl⟩:∃k,m=k+1:=⟨m-1,by omega⟩
    have hpl:pre.length≤2000:=by rw[h1] at hl;simp at hl;omega
    have ha:idx l (pre.length:Int)=some a:=by rw[h1];exact lC pre _ a
    have hb:idx l ((pre.length:Int)+1)=some b:=by
     rw[h1,show pre++a::b::suf=(pre++[a])++b::suf by simp,show((pre.length:Int)+1)=((pre++[a]).length:Int) by simp]
     exact lC (pre++[a]) _ b
    rw[dV.eq_2,if_pos (by rw[h1];simp;omega),dB (x:=(pre.length:Int)+1-1) (by omega) (by omega),show((pre.length:Int)+1-1)=(pre.length:Int) by omega,ha,ob,hb,ob,dB (by omega) (by omega)]
    have hlt:((decide (b.Y0<a.Y0))||((b.Y0==a.Y0)&&(decide (b.X0≤a.X0))))= !XK a b:=by
     unfold XK
     rw[Bool.eq_iff_iff]
     simp
     omega
    rw[hlt]
    have hor:Rn (a::b::suf)=(XK a b&&Rn (b::suf)):=rfl
    rw[hor]
    cases XK a b
    ·simp
    ·have:=ih (pre++[a]) b m (by rw[h1];simp) (by simp at h2;omega)
     rw[show(((pre++[a]).length:Int)+1)=(pre.length:Int)+1+1 by simp] at this
     rw[this]
     simp
  cases l with
  |nil=>
   obtain⟨m,hm⟩:∃k,N=k+1:=⟨N-1,by omega⟩
   have hf:dV N ([]:List aO) N 1=dV N ([]:List aO) (m+1) 1:=congrArg (fun z=>dV N ([]:List aO) z 1) hm
   rw[hf,dV.eq_2,if_neg (by simp),hend]
   rfl
  |cons a suf=>
   exact key suf [] a N rfl (by simp at hl;omega)
 ·rw[if_pos (by simpa using he),if_neg he]
open Lib (compareBytes)
theorem Wl(a b:Bool):(if a=true then some true else some b)=some (a||b):=by cases a<;>rfl
theorem gF{α:Type}{g:Bool}{a b:Option α}(ha:∃x,a=some x)(hb:∃x,b=some x):∃x,(if g=true then a else b)=some x:=by
 cases g
 ·exact hb
 ·exact ha
theorem Yz{α:Type}{l:List α}{d:α}{c:α→Option Int}{r:Option (Int×Bool)}(h:∃k b,r=some (k,b)∧0≤k∧(b=true→∃x,idx l k=some x∧x∈l∧c x=some 0)):
  ∃x b,(r.bind fun y=>if(!y.2)=true then some (d,false) else(idx l y.1).bind fun x=>some (x,true))=some (x,b):=by
 obtain⟨k,b,rfl,h0,h⟩:=h
 rw[ob]
 cases b
 ·exact⟨d,false,rfl⟩
 ·obtain⟨x,h1,_⟩:=h rfl
  exact⟨x,true,by show(idx l k).bind _=_;rw[h1];rfl⟩
theorem Qj{N:Nat}(hN:2000000≤N){l:List mW}(hl:l.length≤1000000)(s:ByteArray):∃x b,uD N l s=some (x,b):=
 Yz (WK (c:=fun x=>qj x s) (fun _ _ _=>rfl) (fun _ _=>⟨_,rfl⟩) hl N 0 _ (by omega) (by omega) (by omega) (by omega))
theorem BV{N:Nat}(hN:2000000≤N){l:List dK}(hl:l.length≤1000000)(s:ByteArray):∃x b,nT N l s=some (x,b):=
 Yz (WK (c:=fun x=>mI x s) (fun _ _ _=>rfl) (fun _ _=>⟨_,rfl⟩) hl N 0 _ (by omega) (by omega) (by omega) (by omega))
theorem Bi{N:Nat}{l:List mW}(hl:l.length≤1000000)(hN:∀x∈l,Nm N x.Type_∧Nm N x.Nozzle):∀(suf ps:List mW),l=ps++suf→∃f,gK N l suf ps.length=some f
 |[],ps,_=>⟨_,rfl⟩
 |x::suf,ps,h=>by
  have hx:=hN x (by rw[h];simp)
  obtain⟨b1,hb1,_⟩:=tF (s:=x.Type_) hx.1.1 hx.1.2
  obtain⟨b2,hb2,_⟩:=tF (s:=x.Nozzle) hx.2.1 hx.2.2
  have ih:=Bi hl hN suf (ps++[x]) (by rw[h];simp)
  rw[List.length_append] at ih
  obtain⟨g,hg⟩:=zA h hl (f:=fun y=>some (Cm x.Type_ y.Type_||rW x.Type_ y.Type_)) fun y=>⟨_,rfl⟩
  rw[gK.eq_2,hb1,ob]
  refine gF ⟨_,rfl⟩ ?_
  unfold mV
  simp only[ob,Wl]
  refine gF ⟨_,rfl⟩ ?_
  rw[hb2,ob]
  refine gF ⟨_,rfl⟩ ?_
  rw[hg,ob]
  exact gF ⟨_,rfl⟩ ih
theorem K6(p:aK):∃q,jb p=some q:=by
 unfold jb kZ mJ
 simp only[ob]
 split<;>exact⟨_,rfl⟩
theorem Bh{N:Nat}(hN:2000000≤N){b:List mW}(hb:b.length≤1000000){l:List uk}(hl:l.length≤1000000):∀(suf ps:List uk),l=ps++suf→∃f,iP N b l suf ps.length=some f
 |[],ps,_=>⟨_,rfl⟩
 |x::suf,ps,h=>by
  obtain⟨B,t,hB⟩:=Qj hN hb x.Type_
  obtain⟨pb,hpb,_⟩:=BC (s:=x.Part) (N:=N) (by omega)
  obtain⟨q,hq⟩:=K6 x.At
  have ih:=Bh hN hb hl suf (ps++[x]) (by rw[h];simp)
  rw[List.length_append] at ih
  obtain⟨g,hg⟩:=zA h hl (f:=fun y=>some (Cm x.Part y.Part||rW x.Part y.Part)) fun y=>⟨_,rfl⟩
  rw[iP.eq_2,hB,ob,hpb,ob]
  refine gF ⟨_,rfl⟩ (gF ⟨_,rfl⟩ ?_)
  unfold mV
  rw[hq]
  simp only[ob,Wl]
  refine gF ⟨_,rfl⟩ ?_
  rw[hg,ob]
  exact gF ⟨_,rfl⟩ ih
theorem IV{N:Nat}(hN:2000000≤N){b:List mW}{l:List uk}(hn:∀x∈b,Nm N x.Type_∧Nm N x.Nozzle):∃f,nM N b l=some f:=by
 unfold nM pF
 by_cases hb:(200:Int)<(b.length:Int)
 ·rw[if_pos (by simpa using hb)];exact⟨2,rfl⟩
 ·rw[if_neg (by simpa using hb)]
  obtain⟨f,hf⟩:=Bi (N:=N) (l:=b) (by omega) hn b [] rfl
  rw[show gK N b b 0=some f from hf,ob]
  refine gF ⟨_,rfl⟩ ?_
  by_cases hl:(1000:Int)<(l.length:Int)
  ·rw[if_pos (by simpa using hl)];exact⟨2,rfl⟩
  ·rw[if_neg (by simpa using hl)]
   exact Bh hN (by omega) (by omega) l [] rfl
theorem xA{N:Nat}{l:List dK}(hl:l.length≤50)(hn:∀x∈l,Nm N x.Name):∀(suf ps:List dK),l=ps++suf→∃f,fE N l suf ps.length=some f
 |[],ps,_=>⟨_,rfl⟩
 |x::suf,ps,h=>by
  have hx:=hn x (by rw[h];simp)
  obtain⟨b,hb,_⟩:=tF (s:=x.Name) hx.1 hx.2
  have ih:=xA hl hn suf (ps++[x]) (by rw[h];simp)
  rw[List.length_append] at ih
  obtain⟨g,hg⟩:=zA h (by omega) (f:=fun y=>some (Cm x.Name y.Name||rW x.Name y.Name)) fun y=>⟨_,rfl⟩
  rw[fE.eq_2,hb,ob]
  refine gF ⟨_,rfl⟩ ?_
  unfold pQ
  simp only[ob,Wl]
  refine gF ⟨_,rfl⟩ (gF ⟨_,rfl⟩ ?_)
  rw[hg,ob]
  exact gF ⟨_,rfl⟩ ih
theorem Cs{N:Nat}(hN:2000000≤N){m:List dK}(hm:m.length≤50)(l:lV):∃k,nU N m l=some k:=by
 obtain⟨x,b,h⟩:=BV hN (l:=m) (by omega) l.Material
 unfold nU
 rw[h];exact⟨_,rfl⟩
theorem Cy{N:Nat}(hN:2000000≤N){m:List dK}(hm:m.length≤50):∀(suf:List lV) (i:Nat) (acc:List Int),acc.length+suf.length≤60→∃r,jr N m suf i acc=some r∧r.length≤acc.length+suf.length
 |[],i,acc,_=>⟨acc,rfl,by simp⟩
 | x::suf,i,acc,h=>by
  simp only[List.length_cons] at h
  obtain⟨k,hk⟩:=Cs hN hm x
  rw[jr.eq_2,hk,ob,List.length_cons]
  split
  ·rw[qN (by simp;omega),ob]
   obtain⟨r,h1,h2⟩:=Cy hN hm suf (i+1) (acc++[(i:Int)]) (by simp;omega)
   exact⟨r,h1,by simp at h2;omega⟩
  ·obtain⟨r,h1,h2⟩:=Cy hN hm suf (i+1) acc (by omega)
   exact⟨r,h1,by omega⟩
theorem J5{m:List ByteArray}{k:List ByteArray→Int→Option Int}{x:lV}{y:dK×Bool}{b:Bool}(hs:wD x.Name=true)(hk:∀m' z,∃f,k m' z=some f):∃f,iY m k x y b=some f:=by
 unfold iY FT
 rw[if_pos hs,ob]
 exact gF ⟨_,rfl⟩ (hk _ _)
theorem Cg{N:Nat}(hN:2000000≤N){m:List dK}(hm:m.length≤50){l:List lV}(hl:l.length≤60):∀(suf:List lV) (i:Nat) (s:List ByteArray) (z:Int),(∀x∈suf,Nm N x.Name)→∃f,dS N m l suf i s z=some f
 | [],i,s,z,_=>by
  obtain⟨r,h1,h2⟩:=Cy hN hm l 0 [] (by simpa using hl)
  rw[dS.eq_1]
  unfold sO
  rw[h1,ob]
  by_cases h:(r.length:Int)<2
  ·rw[if_pos (by simpa using h),ob,if_pos rfl,ob];exact⟨_,rfl⟩
  ·simp at h2
   obtain⟨a,ha,_⟩:=Ht (l:=l) (i:=0) (by omega) (by omega)
   obtain⟨c,hc,_⟩:=Ht (l:=l) (i:=(l.length:Int)-1) (by omega) (by omega)
   obtain⟨k1,hk1⟩:=Cs hN hm a
   obtain⟨k2,hk2⟩:=Cs hN hm c
   rw[if_neg (by simpa using h),ha,ob,hk1,ob,ob,dB (by omega) (by omega),hc,ob,hk2,ob,Wl,ob]
   exact gF ⟨_,rfl⟩ ⟨_,rfl⟩
 | x::suf,i,s,z,hn=>by
  obtain⟨X,b,hX⟩:=BV hN (l:=m) (by omega) x.Material
  have hx:=hn x (by simp)
  obtain⟨w,hw,hw'⟩:=tF (s:=x.Name) hx.1 hx.2
  have ih:∀m' z',∃f,dS N m l suf (i+1) m' z'=some f:=fun m' z'=>Cg hN hm hl suf (i+1) m' z' fun y hy=>hn y (by simp[hy])
  rw[dS.eq_2,hX,ob]
  refine gF ⟨_,rfl⟩ ?_
  dsimp only
  cases hK:(X.Kind==1)
  ·rw[if_neg (by simp),ob]
   cases hE:rW x.Name ⟨#[]⟩
   ·exact⟨_,rfl⟩
   ·have hs:wD x.Name=true:=by rw[Bn.1 hE];rfl
    rw[if_neg (by simp),if_neg (by simp),ob]
    refine gF ⟨_,rfl⟩ (gF (J5 hs ih) (gF (J5 hs ih) (J5 hs ih)))
  ·rw[if_pos rfl,hw,ob,ob]
   cases w
   ·exact⟨_,rfl⟩
   ·have hs:wD x.Name=true:=decide_eq_true (by have:=hw' rfl;omega)
    rw[if_neg (by simp),if_pos rfl]
    unfold FU
    rw[if_pos hs,ob,ob]
    refine gF ⟨_,rfl⟩ (gF (J5 hs ih) (gF (J5 hs ih) (J5 hs ih)))
theorem Jh{N:Nat}(hN:2000000≤N){m:List dK}(hm:∀x∈m,Nm N x.Name){l:List lV}(hl:∀x∈l,Nm N x.Name):∃f,nV N m l=some f:=by
 unfold nV nN
 by_cases hb:(50:Int)<(m.length:Int)
 ·rw[if_pos (by simpa using hb)];exact⟨2,rfl⟩
 ·rw[if_neg (by simpa using hb)]
  obtain⟨f,hf⟩:=xA (N:=N) (l:=m) (by omega) hm m [] rfl
  rw[show fE N m m 0=some f from hf,ob]
  refine gF ⟨_,rfl⟩ ?_
  by_cases h:(60:Int)<(l.length:Int)
  ·rw[if_pos (by simpa using h)];exact⟨2,rfl⟩
  ·rw[if_neg (by simpa using h)]
   exact Cg hN (by omega) (by omega) l 0 [] 0 hl
theorem Ph{N:Nat}(hN:2000000≤N){o:lU}(ht:Je o.Types)(hf:o.Feet.length≤200){k:Option Int}(hk:∃f,k=some f){x:zD}{fs ps:List zD}(hx:o.Feet=ps++x::fs)(hs:x.Spots.length≤200){y:Int}{T:dG}(hT:idx o.Types y=some T∧T∈o.Types):
  ∀(suf qs:List El),x.Spots=qs++suf→∃f,iQ N o k x ps.length y suf qs.length=some f
 |[],qs,_=>by
  obtain⟨g,hg⟩:=zA hx (by omega) (f:=fun y=>some (Cm x.Type_ y.Type_||rW x.Type_ y.Type_)) fun y=>⟨_,rfl⟩
  rw[iQ.eq_1,hg,ob]
  exact gF ⟨_,rfl⟩ hk
 |z::suf,qs,h=>by
  obtain⟨g,hg⟩:=zA h (by omega) (f:=fun y=>some (Cm z.Pin y.Pin||rW z.Pin y.Pin)) fun y=>⟨_,rfl⟩
  obtain⟨j,hj,_⟩:=Nc hN (t:=T) (by have:=(ht.2 T hT.2).1;omega) z.Pin
  have ih:=Ph hN ht hf hk hx hs hT suf (qs++[z]) (by rw[h];simp)
  rw[List.length_append] at ih
  rw[iQ.eq_2,hT.1,ob,hj,ob]
  refine gF ⟨_,rfl⟩ ?_
  unfold lL
  simp only[ob,Wl]
  refine gF ⟨_,rfl⟩ ?_
  rw[hg,ob]
  exact gF ⟨_,rfl⟩ ih
theorem Pi{N:Nat}(hN:2000000≤N){o:lU}(ht:Je o.Types)(hf:o.Feet.length≤200):∀(suf ps:List zD),o.Feet=ps++suf→∃f,gP N o suf ps.length=some f
 |[],ps,_=>⟨_,rfl⟩
 | x::suf,ps,h=>by
  obtain⟨k,hk,hk'⟩:=Fp hN (l:=o.Types) (by have:=ht.1;omega) x.Type_
  have ih:=Pi hN ht hf suf (ps++[x]) (by rw[h];simp)
  rw[List.length_append] at ih
  rw[gP.eq_2,hk,ob]
  by_cases h0:k<0
  ·rw[if_pos (by simpa using h0)];exact⟨_,rfl⟩
  ·obtain⟨T,t1,t2,_⟩:=hk' (by omega)
   rw[if_neg (by simpa using h0)]
   by_cases hs:(200:Int)<(x.Spots.length:Int)
   ·rw[if_pos (by simpa using hs)];exact⟨_,rfl⟩
   ·rw[if_neg (by simpa using hs)]
    exact Ph hN ht hf ih h (by omega) ⟨t1,t2⟩ x.Spots [] rfl
theorem Uz{N:Nat}(hN:2000000≤N){o:lU}(ht:Je o.Types):∃f,o5 N o=some f:=by
 unfold o5
 by_cases hf:(200:Int)<(o.Feet.length:Int)
 ·rw[if_pos (by simpa using hf)];exact⟨_,rfl⟩
 ·rw[if_neg (by simpa using hf)]
  exact Pi hN ht (by omega) o.Feet [] rfl
theorem Ij{l:List iV}(hl:l.length≤50){k:List ByteArray→Option Int}(hk:∀m,∃f,k m=some f){x:iV}{cs ps:List iV}(hx:l=ps++x::cs):∀(suf:List ByteArray) (i:Nat) (m:List ByteArray),(∀s∈suf,wD s=true)→∃f,gp l k x ps.length suf i m=some f
 |[],i,m,_=>by
  obtain⟨g,hg⟩:=zA hx (by omega) (f:=fun y=>some (Cm x.Name y.Name||rW x.Name y.Name)) fun y=>⟨_,rfl⟩
  rw[gp.eq_1]
  unfold mK pX
  simp only[ob,Wl]
  refine gF ⟨_,rfl⟩ ?_
  rw[hg,ob]
  exact gF ⟨_,rfl⟩ (hk m)
 |s::suf,i,m,h=>by
  rw[gp.eq_2]
  unfold FT
  rw[if_pos (h s (by simp)),ob]
  exact Ij hl hk hx suf (i+1) _ fun y hy=>h y (by simp[hy])
theorem Ik{N:Nat}(hN:2000000≤N){l:List iV}(hl:l.length≤50)(m:List ByteArray){k:List ByteArray→Option Int}(hk:∀m,∃f,k m=some f){x:iV}{cs ps:List iV}(hx:l=ps++x::cs)(hn:x.Nets.length≤1000):
  ∀(suf qs:List ByteArray),x.Nets=qs++suf→(∀s∈qs,wD s=true)→∃f,gq N l m k x ps.length suf qs.length=some f
 |[],qs,e,hq=>by
  rw[gq.eq_1]
  exact Ij hl hk hx x.Nets 0 m fun s hs=>hq s (by rw[e] at hs;simpa using hs)
 | s::suf,qs,e,hq=>by
  obtain⟨b,hb,hb'⟩:=BC (s:=s) (N:=N) (by omega)
  obtain⟨g,hg⟩:=zA e (by omega) (f:=fun y=>some (Cm s y||rW s y)) fun y=>⟨_,rfl⟩
  rw[gq.eq_2,hb,ob]
  cases b
  ·exact⟨_,rfl⟩
  ·have hs:wD s=true:=decide_eq_true (by have:=hb' rfl;omega)
   have ih:=Ik hN hl m hk hx hn suf (qs++[s]) (by rw[e];simp) fun y hy=>by
    rcases List.mem_append.1 hy with hy|hy
    ·exact hq y hy
    ·simp at hy;subst hy;exact hs
   rw[List.length_append] at ih
   rw[if_neg (by simp),hg,ob]
   refine gF ⟨_,rfl⟩ ?_
   unfold FU
   rw[if_pos hs,ob]
   exact gF ⟨_,rfl⟩ ih
theorem Il{N:Nat}(hN:2000000≤N){l:List iV}(hl:l.length≤50)(hn:∀x∈l,Nm N x.Name):∀(suf ps:List iV) (m:List ByteArray),l=ps++suf→∃f,dH N l suf ps.length m=some f
 |[],ps,m,_=>⟨_,rfl⟩
 | x::suf,ps,m,h=>by
  have hx:=hn x (by rw[h];simp)
  obtain⟨b,hb,_⟩:=tF (s:=x.Name) hx.1 hx.2
  have ih:∀m',∃f,dH N l suf (ps.length+1) m'=some f:=fun m'=>by
   have:=Il hN hl hn suf (ps++[x]) m' (by rw[h];simp)
   rwa [List.length_append] at this
  rw[dH.eq_2,hb,ob]
  refine gF ⟨_,rfl⟩ ?_
  by_cases hs:(1000:Int)<(x.Nets.length:Int)
  ·rw[if_pos (by simpa using hs)];exact⟨_,rfl⟩
  ·rw[if_neg (by simpa using hs)]
   exact Ik hN hl m ih h (by omega) x.Nets [] rfl fun _ h=>by cases h
theorem MP{N:Nat}(hN:10000000000≤N):∀(suf:List rP) (i:Nat) (z:Int),∃f,gZ N suf i z=some f
 |[],i,z=>by
  rw[gZ.eq_1]
  exact gF ⟨_,rfl⟩ ⟨_,rfl⟩
 |x::suf,i,z=>by
  rw[gZ.eq_2,IU hN]
  unfold mK pX
  simp only[ob]
  exact gF ⟨_,rfl⟩ (gF ⟨_,rfl⟩ (gF ⟨_,rfl⟩ (MP hN suf (i+1) _)))
theorem Ji{N:Nat}(hN:10000000000≤N){r:uj}(hn:∀x∈r.Classes,Nm N x.Name):∃f,nZ N r=some f:=by
 unfold nZ lY nO
 rw[U1 (f:=fun z0=>mM z0) (fun _=>rfl) (fun _ _ _=>rfl) fun _ _=>⟨_,rfl⟩,ob]
 refine gF ⟨_,rfl⟩ ?_
 unfold oU
 by_cases hs:(50:Int)<(r.Classes.length:Int)
 ·rw[if_pos (by simpa using hs),ob];exact⟨_,rfl⟩
 ·rw[if_neg (by simpa using hs)]
  obtain⟨f,hf⟩:=Il (N:=N) (by omega) (l:=r.Classes) (by omega) hn r.Classes [] [] rfl
  rw[show dH N r.Classes r.Classes 0 ([]:List ByteArray)=some f from hf,ob]
  exact gF ⟨_,rfl⟩ (gF ⟨_,rfl⟩ (MP hN _ _ _))
theorem Ou{α:Type}(pre:List α)(x:α)(h:pre.length<9223372036854775807):bP ((pre.length:Int)+1)=((pre++[x]).length:Int):=by
 rw[Ci (by omega) (by omega)];simp
theorem FZ{s:ByteArray}(hs:s.size≤9223372036854775807):∀(m i:Nat),s.size<m+i→i≤s.size→∃b,gu s m (i:Int)=some b∧(b=true→s.size≤40)
 |0,i,h,h2=>by omega
 | m+1,i,h,h2=>by
  rw[gu]
  by_cases hi:i<s.size
  ·rw[if_pos (decide_eq_true (by omega))]
   have hc:∃c,FC s (i:Int)=some c:=by
    unfold FC
    rw[if_pos (by omega)]
    exact⟨(s[i].toNat:Int),by simp[hi]⟩
   obtain⟨c,hc⟩:=hc
   rw[hc,ob]
   split
   ·exact⟨false,rfl,fun h=>by cases h⟩
   ·rw[Ci (by omega) (by omega)]
    exact FZ hs m (i+1) (by omega) (by omega)
  ·rw[if_neg (by simpa using hi)]
   exact⟨_,rfl,fun h=>by simp at h;omega⟩
theorem Qn{N:Nat}{s:ByteArray}(hs:s.size≤9223372036854775807)(hN:s.size<N):∃b,jW N s=some b∧(b=true→s.size≤40):=
 FZ hs N 0 (by omega) (by omega)
def D8(n u:Int):Bool:=decide (-(1000000 / u)≤n)&&decide (n≤1000000 / u)
theorem KD{n u:Int}(hu:1≤u∧u≤1000):nQ n u=some (D8 n u):=by
 have h0:0≤1000000 / u:=Int.ediv_nonneg (by omega) (by omega)
 have h1:1000000 / u≤1000000:=Int.ediv_le_self _ (by omega)
 have e1:(1000000:Int).tdiv u=1000000 / u:=Int.tdiv_eq_ediv_of_nonneg (by omega)
 have e2:(-1000000:Int).tdiv u= -(1000000 / u):=by rw[show(-1000000:Int)= -(1000000) from rfl,Int.neg_tdiv,e1]
 unfold nQ dv
 rw[if_neg (by omega),if_neg (by omega),ob,ob,e1,e2,dB (by omega) (by omega),dB (by omega) (by omega)]
 rfl
def rX(p:aK)(u:Int):Bool:=D8 p.X u&&D8 p.Y u
theorem Hr{p:aK}{u:Int}(hu:1≤u∧u≤1000):p9 p u=some (rX p u):=by
 unfold p9 rX
 rw[KD hu,ob]
 cases D8 p.X u
 ·rfl
 ·rw[if_pos rfl,KD hu];simp
def GX(r:aO)(u:Int):Int:=if(D8 r.X0 u&&D8 r.Y0 u&&D8 r.X1 u&&D8 r.Y1 u) then(if(decide (r.X1≤r.X0)||decide (r.Y1≤r.Y0)) then 13 else 0) else 1
def ER(u:Int):List aO→Int
 |[]=>0
 |r::l=>if GX r u=0 then ER u l else GX r u
theorem AA{u:Int}(hu:1≤u∧u≤1000):∀(l:List aO) (i:Nat),jI u l i=some (ER u l)
 |[],_=>rfl
 |r::l,i=>by
  rw[jI,ER,AA hu l]
  simp only[KD hu,ob]
  unfold GX
  generalize (decide (r.X1≤r.X0)||decide (r.Y1≤r.Y0))=g
  cases D8 r.X0 u<;>cases D8 r.Y0 u<;>cases D8 r.X1 u<;>cases D8 r.Y1 u<;>cases g<;>simp
def wX(t:eH)(u:Int):Int:=if(t.Rects.length:Int)=0 then 9 else if 2000<(t.Rects.length:Int) then 2 else ER u t.Rects
theorem KU{N:Nat}{t:eH}{u:Int}(hu:1≤u∧u≤1000){b:Bool}(hb:jW N t.Name=some b):qb N t u=some (if b then wX t u else 5):=by
 unfold qb
 rw[hb,ob]
 cases b
 ·rfl
 ·simp only[Bool.not_true,Bool.false_eq_true,if_false,if_true,AA hu,wX]
  by_cases h0:(t.Rects.length:Int)=0
  ·rw[if_pos (beq_iff_eq.2 h0),if_pos h0]
  ·rw[if_neg (fun h=>h0 (beq_iff_eq.1 h)),if_neg h0]
   by_cases h1:2000<(t.Rects.length:Int)
   ·rw[if_pos (decide_eq_true h1),if_pos h1]
   ·rw[if_neg (by simpa using h1),if_neg h1]
def zU(nm:ByteArray)(l:List eH):Int:=qD (fun t=>rW t.Name nm) l 0
theorem Fy(nm:ByteArray):∀(l:List eH) (i:Nat),dC nm l i=some (qD (fun t=>rW t.Name nm) l (i:Int))
 |[],_=>rfl
 |t::l,i=>by
  rw[dC,qD,Fy nm l (i+1)]
  unfold sP
  rw[ob]
  split<;>rfl
theorem Jq(p:eX)(nm:ByteArray):qM p nm=some (zU nm p.Tools):=by
 unfold qM iW
 rw[Fy];rfl
def F4(l:List aK):List aK→Nat→Bool
 |[],_=>true
 |x::r,i=>if((x.X==(l.getD ((i+1)%l.length) ⟨0,0⟩).X)==(x.Y==(l.getD ((i+1)%l.length) ⟨0,0⟩).Y)) then false else F4 l r (i+1)
theorem Uc{l:List aK}{i:Nat}(h:i<l.length)(hl:l.length≤9223372036854775807):((md (bP ((i:Int)+1)) (l.length:Int)).bind fun q=>idx l q)=some (l.getD ((i+1)%l.length) ⟨0,0⟩):=by
 have hm:(i+1)%l.length<l.length:=Nat.mod_lt _ (by omega)
 unfold md
 rw[Ci (by omega) (by omega),if_neg (by omega),ob,Int.tmod_eq_emod_of_nonneg (by omega)]
 rw[show((i:Int)+1)%(l.length:Int)=(((i+1)%l.length:Nat):Int) by simp]
 rw[O0 hm]
 simp[List.getD,hm]
theorem LW{β:Type}{l:List aK}{i:Nat}(h:i<l.length)(hl:l.length≤9223372036854775807)(k:aK→Option β):
  ((md (bP ((i:Int)+1)) (l.length:Int)).bind fun q=>(idx l q).bind k)=k (l.getD ((i+1)%l.length) ⟨0,0⟩):=by
 have:=Uc h hl
 cases hq:md (bP ((i:Int)+1)) (l.length:Int) with
 |none=>rw[hq] at this;simp at this
 |some q=>
  rw[hq] at this
  simp only[ob] at this ⊢
  rw[this,ob]
theorem IP{l:List aK}(hl:l.length≤9223372036854775807):∀(suf:List aK) (i:Nat),i+suf.length=l.length→lw l suf i=some (F4 l suf i)
 |[],_,_=>rfl
 |x::r,i,h=>by
  simp at h
  rw[lw,F4,LW (by omega) hl,IP hl r (i+1) (by omega)]
  split<;>rfl
theorem TE{l:List aK}(hl:l.length≤9223372036854775807):sI l=some (if(l.length:Int)<4 then false else F4 l l 0):=by
 unfold sI
 rw[IP hl l 0 (by omega)]
 split
 ·rename_i h;rw[if_pos (by simpa using h)]
 ·rename_i h;rw[if_neg (by simpa using h)]
def Td(l:List aK):Int:=if 2000<(l.length:Int) then 2 else if(l.length:Int)<4 then 3 else if F4 l l 0 then 0 else 3
theorem MG{p:eX}{l:List aK}(hu:1≤p.Unit∧p.Unit≤1000):fG l (fun z0=>jS z0 p)=some (l.any (fun q=> !rX q p.Unit)):=by
 have key:∀(l:List aK) (i:Nat),dX (fun z0=>jS z0 p) l i=some (qD (fun q=> !rX q p.Unit) l (i:Int)):=by
  intro l
  induction l with
  |nil=>intro i;rfl
  | cons x r ih=>
   intro i
   rw[dX,qD,ih]
   have e:jS x p=some (!rX x p.Unit):=by
    unfold jS
    rw[Hr hu];rfl
   rw[e,ob]
   split<;>rfl
 unfold fG kR
 rw[key,ob]
 exact congrArg some (yf _ l 0 (by omega))
def fieldsB(s:aZ):Bool:=
 (((s.Kind==3||rW s.Name (⟨#[]⟩:ByteArray))&&((s.Kind==4||s.Kind==5||s.Kind==6||s.Kind==8)||kw s.At ⟨0,0⟩))&&(s.Kind==7||(s.Points.length:Int)==0))&&(s.Kind==8||((s.NX==0&&s.NY==0)&&(s.Steps.length:Int)==0))
theorem Ms(k:Int):qG k=some ⟨k==3,k==4||k==5||k==6||k==8,k==7,k==8⟩:=by
 unfold qG lh
 by_cases h3:k=3
 ·subst h3;rfl
 by_cases h4:k=4
 ·subst h4;rfl
 by_cases h5:k=5
 ·subst h5;rfl
 by_cases h6:k=6
 ·subst h6;rfl
 by_cases h7:k=7
 ·subst h7;rfl
 by_cases h8:k=8
 ·subst h8;rfl
 simp[h3,h4,h5,h6,h7,h8]
def Wh(s:aZ)(d:Int):Int:=
 if(!(decide (1≤s.NX)&&decide (s.NX≤100)))||(!(decide (1≤s.NY)&&decide (s.NY≤100))) then 1 else if(s.Steps.length:Int)=0 then 9 else if 5≤d then 2 else 0
def Gz(p:eX)(s:aZ)(d:Int):Int:=
 if !(decide (1≤s.Kind)&&decide (s.Kind≤8)) then 4 else if !fieldsB s then 3 else if s.Kind==3&&decide (zU s.Name p.Tools<0) then 5 else if !rX s.At p.Unit then 1
 else if s.Kind==7 then(if s.Points.any (fun q=> !rX q p.Unit) then 1 else Td s.Points) else if s.Kind==8 then Wh s d else 0
theorem Vb(p0:eX)(p1:aZ)(p2:Int)(y:u6)(a b c d:Bool):(if a=true then fw p0 p1 p2 y a else if b=true then fw p0 p1 p2 y b else if c=true then fw p0 p1 p2 y c else fw p0 p1 p2 y d)=fw p0 p1 p2 y (a||b||c||d):=by
 cases a<;>cases b<;>cases c<;>cases d<;>rfl
theorem KV{p:eX}{s:aZ}{d:Int}(hu:1≤p.Unit∧p.Unit≤1000)(hl:s.Points.length≤9223372036854775807):qc p s d=some (Gz p s d):=by
 unfold qc Gz
 have hw:∀a b c:Int,kS a b c=some (decide (b≤a)&&decide (a≤c)):=fun _ _ _=>rfl
 rw[hw,ob,Ms]
 by_cases hk:(decide (1≤s.Kind)&&decide (s.Kind≤8))=true
 ·simp only[hk,Bool.not_true,Bool.false_eq_true,if_false,ob]
  rw[Vb]
  have hf:(!(s.Kind==3)&& !rW s.Name (⟨#[]⟩:ByteArray)|| !(s.Kind==4||s.Kind==5||s.Kind==6||s.Kind==8)&& !kw s.At ⟨0,0⟩|| !(s.Kind==7)&&decide (0<(s.Points.length:Int))|| !(s.Kind==8)&&(s.NX !=0||s.NY !=0||decide (0<(s.Steps.length:Int))))= !fieldsB s:=by
   unfold fieldsB
   have e1:decide (0<(s.Points.length:Int))= !((s.Points.length:Int)==0):=by rw[Bool.eq_iff_iff];simp only[decide_eq_true_eq,Bool.not_eq_true',beq_eq_false_iff_ne,ne_eq];omega
   have e2:decide (0<(s.Steps.length:Int))= !((s.Steps.length:Int)==0):=by rw[Bool.eq_iff_iff];simp only[decide_eq_true_eq,Bool.not_eq_true',beq_eq_false_iff_ne,ne_eq];omega
   rw[e1,e2]
   simp only[bne,Bool.not_and,Bool.not_or]
  rw[hf]
  unfold fw
  simp only[Jq,Hr hu,MG hu,TE hl,ob,hw]
  cases hfb:fieldsB s
  ·simp
  ·simp only[Bool.not_true,Bool.false_eq_true,if_false]
   have hpt:s.Kind≠7→s.Points=[]:=by
    intro h7
    unfold fieldsB at hfb
    simp only[Bool.and_eq_true,Bool.or_eq_true,beq_iff_eq] at hfb
    have:=hfb.1.2.resolve_left h7
    exact List.eq_nil_of_length_eq_zero (by omega)
   by_cases h3:s.Kind=3
   ·have hp:=hpt (by omega)
    simp only[h3,hp,beq_self_eq_true,if_true,ob]
    cases hd:decide (zU s.Name p.Tools<0)<;>simp[hd]
    cases rX s.At p.Unit<;>simp
   ·have h3':(s.Kind==3)=false:=by simpa using h3
    simp only[h3',Bool.false_eq_true,if_false,ob,Bool.false_and]
    cases rX s.At p.Unit
    ·simp
    ·simp only[Bool.not_true,Bool.false_eq_true,if_false,ob]
     by_cases h7:s.Kind=7
     ·simp only[h7,beq_self_eq_true,if_true]
      cases s.Points.any (fun q=> !rX q p.Unit)
      ·simp only[Bool.false_eq_true,if_false,Td]
       by_cases h1:2000<(s.Points.length:Int)
       ·rw[if_pos (decide_eq_true h1),if_pos h1]
       ·rw[if_neg (by simpa using h1),if_neg h1]
        by_cases h2:(s.Points.length:Int)<4
        ·simp[h2]
        ·simp only[h2,if_false]
         cases F4 s.Points s.Points 0<;>simp
      ·simp
     ·have h7':(s.Kind==7)=false:=by simpa using h7
      have hp:=hpt h7
      simp only[h7',hp,Bool.false_eq_true,if_false,List.any_nil,List.length_nil,ob]
      by_cases h8:s.Kind=8
      ·simp only[h8,beq_self_eq_true,if_true,Wh]
       cases(decide (1≤s.NX)&&decide (s.NX≤100))
       ·simp
       ·simp only[Bool.not_true,Bool.false_eq_true,if_false,ob,Bool.false_or]
        cases(decide (1≤s.NY)&&decide (s.NY≤100))
        ·simp
        ·simp only[Bool.not_true,Bool.false_eq_true,if_false]
         rw[if_neg (by simp)]
         by_cases h0:(s.Steps.length:Int)=0
         ·rw[if_pos (beq_iff_eq.2 h0),if_pos h0]
         ·rw[if_neg (fun h=>h0 (beq_iff_eq.1 h)),if_neg h0]
          by_cases h5:5≤d
          ·rw[if_pos (decide_eq_true h5),if_pos h5]
          ·rw[if_neg (by simpa using h5),if_neg h5]
      ·have h8':(s.Kind==8)=false:=by simpa using h8
       simp[h8']
 ·have hk':(decide (1≤s.Kind)&&decide (s.Kind≤8))=false:=by simpa using hk
  simp[hk']
mutual
def Gx:aZ→Nat
 |⟨_,n,_,ps,_,_,l⟩=>1+n.size+ps.length+qV l
def qV:List aZ→Nat
 |[]=>0
 |x::l=>Gx x+qV l
end
mutual
def Wo:aZ→Nat
 |⟨_,_,_,_,_,_,l⟩=>1+Ku l
def Ku:List aZ→Nat
 |[]=>0
 |x::l=>Wo x+Ku l
end
theorem EI(x:aZ):Gx x=1+x.Name.size+x.Points.length+qV x.Steps:=by cases x;rw[Gx]
theorem Da(x:aZ)(l:List aZ):qV (x::l)=Gx x+qV l:=by rw[qV]
theorem zW{x:aZ}:∀{l:List aZ},x∈l→Gx x≤qV l
 |y::l,h=>by
  rw[Da]
  rcases List.mem_cons.1 h with h|h
  ·subst h;omega
  ·have:=zW h;omega
def Nh(n:Int):Prop:= -9223372036854775808≤n∧n≤9223372036854775807
mutual
def NR:aZ→Prop
 |⟨_,n,a,ps,nx,ny,l⟩=>n.size≤9223372036854775807∧(Nh a.X∧Nh a.Y)∧(ps.length≤9223372036854775807∧∀q∈ps,Nh q.X∧Nh q.Y)∧(Nh nx∧Nh ny)∧l.length≤9223372036854775807∧Hf l
def Hf:List aZ→Prop
 |[]=>True
 |x::l=>NR x∧Hf l
end
theorem Kz(x:aZ):NR x↔x.Name.size≤9223372036854775807∧(Nh x.At.X∧Nh x.At.Y)∧(x.Points.length≤9223372036854775807∧∀q∈x.Points,Nh q.X∧Nh q.Y)∧(Nh x.NX∧Nh x.NY)∧x.Steps.length≤9223372036854775807∧Hf x.Steps:=by cases x;rw[NR]
theorem JI(x:aZ)(l:List aZ):Hf (x::l)↔NR x∧Hf l:=by rw[Hf]
theorem He{x:aZ}:∀{l:List aZ},Hf l→x∈l→NR x
 |y::l,h,hm=>by
  rw[JI] at h
  rcases List.mem_cons.1 hm with e|e
  ·subst e;exact h.1
  ·exact He h.2 e
theorem OX{l:List aZ}(h:∀x∈l,NR x):Hf l:=by
 induction l with
 |nil=>rw[Hf];trivial
 |cons x l ih=>rw[JI];exact⟨h x List.mem_cons_self,ih (fun y hy=>h y (List.mem_cons_of_mem _ hy))⟩
def tm(n:Int):Int:=if 1≤n∧n≤100 then n else 1
theorem Vo(n:Int):1≤tm n∧tm n≤100:=by unfold tm;split<;>omega
theorem Jr(n:Int):pY n=some (tm n):=by
 unfold pY tm
 have hw:kS n 1 100=some (decide (1≤n)&&decide (n≤100)):=rfl
 rw[hw,ob]
 by_cases h:1≤n∧n≤100
 ·rw[if_pos h,if_pos (by simpa using h)]
 ·rw[if_neg h,if_neg (by simpa using h)]
theorem Nw(a b:Int):1≤tm a*tm b∧tm a*tm b≤10000:=by
 have h1:=Vo a
 have h2:=Vo b
 generalize tm a=x at*
 generalize tm b=y at*
 constructor
 ·have:=Int.mul_le_mul h1.1 h2.1 (by omega) (by omega);omega
 ·have:=Int.mul_le_mul h1.2 h2.2 (by omega) (by omega);omega
theorem QN(s:aZ):uy s=some (tm s.NX*tm s.NY):=by
 have:=Nw s.NX s.NY
 unfold uy
 rw[Jr,Jr,ob,ob,dB (by omega) (by omega)]
def XN(nm:Nat)(s:aZ):Prop:=s.Points.length≤2000∧s.Name.size≤nm
mutual
def XM(nm:Nat):aZ→Prop
 |⟨k,n,a,ps,nx,ny,l⟩=>XN nm ⟨k,n,a,ps,nx,ny,l⟩∧R4 nm l
def R4(nm:Nat):List aZ→Prop
 |[]=>True
 |x::l=>XM nm x∧R4 nm l
end
structure YK (p:eX):Prop where
 unit:1≤p.Unit∧p.Unit≤1000
 few:p.Tools.length≤200
 tools:∀t∈p.Tools,t.Name.size≤40∧t.Rects.length≤2000
 steps:R4 40 p.Steps
 nd:Ku p.Steps≤3000
structure Ql (p:eX):Prop where
 unit:Nh p.Unit
 tools:∀t∈p.Tools,t.Name.size≤9223372036854775807∧∀r∈t.Rects,(Nh r.X0∧Nh r.Y0)∧Nh r.X1∧Nh r.Y1
 sl:p.Steps.length≤9223372036854775807
 steps:Hf p.Steps
def C9:List eH→Nat
 |[]=>0
 |t::l=>1+t.Name.size+C9 l
theorem Fz{t:eH}:∀{l:List eH},t∈l→t.Name.size<C9 l
 |x::l,h=>by
  rw[C9]
  rcases List.mem_cons.1 h with e|e
  ·subst e;omega
  ·have:=Fz e;omega
def Fu(p:eX)(N:Nat):Prop:=qV p.Steps+C9 p.Tools+10000≤N
mutual
def UV:aZ→Int
 |⟨_,_,_,_,nx,ny,l⟩=>1+tm nx*tm ny*wI l
def wI:List aZ→Int
 |[]=>0
 |x::l=>UV x+wI l
end
theorem Ps(x:aZ):UV x=1+tm x.NX*tm x.NY*wI x.Steps:=by cases x;rw[UV]
theorem Ih:wI []=0:=by rw[wI]
theorem JW(x:aZ)(l:List aZ):wI (x::l)=UV x+wI l:=by rw[wI]
theorem Az:∀(k:Nat) (l:List aZ),qV l≤k→0≤wI l
 |_,[],_=>by rw[Ih];omega
 | k,x::l,hk=>by
  rw[Da,EI] at hk
  rw[JW,Ps]
  cases k with
  |zero=>omega
  |succ k=>
   have h1:=Az k x.Steps (by omega)
   have h2:=Az k l (by omega)
   have h3:=Nw x.NX x.NY
   have:=Int.mul_nonneg (show 0≤tm x.NX*tm x.NY by omega) h1
   omega
theorem MI(l:List aZ):0≤wI l:=Az _ l (Nat.le_refl _)
theorem FP{rec:List aZ→Option Int}:∀(l:List aZ) (i:Nat) (x:Int),0≤x→x≤3000→(∀s∈l,rec s.Steps=some (min (wI s.Steps) 3001))→gU rec l i x=some (min (x+wI l) 3001)
 |[],i,x,h0,h1,_=>by
  rw[gU,Ih]
  congr 1
  omega
 | s ::l,i,x,h0,h1,hc=>by
  have c1:=hc s List.mem_cons_self
  have hn:=MI s.Steps
  have hl:=MI l
  have ht:=Nw s.NX s.NY
  have key:gU rec (s::l) i x=nD (gU rec l (i+1)) (x+1+tm s.NX*tm s.NY*min (wI s.Steps) 3001):=by
   have hpc:0≤tm s.NX*tm s.NY*min (wI s.Steps) 3001∧tm s.NX*tm s.NY*min (wI s.Steps) 3001≤30010000:=by
    generalize tm s.NX*tm s.NY=t at*
    refine⟨Int.mul_nonneg (by omega) (by omega),?_⟩
    have:=Int.mul_le_mul ht.2 (show min (wI s.Steps) 3001≤3001 by omega) (by omega) (by omega);omega
   rw[gU]
   by_cases he:s.Steps=[]
   ·rw[if_neg (by rw[he];simp),he,Ih,dB (by omega) (by omega),show min (0:Int) 3001=0 from rfl,Int.mul_zero,Int.add_zero]
   ·have:0<(s.Steps.length:Int):=by
     have:=List.length_pos_iff.2 he;omega
    rw[if_pos (decide_eq_true this),QN,ob,c1,ob,dB (x:=tm s.NX*tm s.NY*min (wI s.Steps) 3001) (by omega) (by omega),dB (x:=x+1) (by omega) (by omega),dB (by omega) (by omega)]
  rw[key,JW,Ps]
  unfold nD
  by_cases hs:wI s.Steps≤3001
  ·rw[Int.min_eq_left hs]
   have hp:=Int.mul_nonneg (show 0≤tm s.NX*tm s.NY by omega) hn
   generalize tm s.NX*tm s.NY*wI s.Steps=v at*
   by_cases hb:3000<x+1+v
   ·rw[if_pos (decide_eq_true hb)];congr 1;omega
   ·rw[if_neg (by simpa using hb),FP l (i+1) _ (by omega) (by omega) (fun y hy=>hc y (List.mem_cons_of_mem _ hy))]
    congr 2;omega
  ·rw[Int.min_eq_right (by omega)]
   have h1:=Int.mul_le_mul_of_nonneg_right ht.1 (show(0:Int)≤3001 by omega)
   have h2:=Int.mul_le_mul_of_nonneg_right ht.1 hn
   generalize tm s.NX*tm s.NY*3001=u at*
   generalize tm s.NX*tm s.NY*wI s.Steps=v at*
   rw[if_pos (decide_eq_true (by omega))];congr 1;omega
theorem JV:∀(k:Nat) (l:List aZ) (N:Nat),qV l≤k→k+5≤N→rR N l=some (min (wI l) 3001)
 | k,l,N,hk,hN=>by
  obtain⟨N,rfl⟩:∃n,N=n+1:=⟨N-1,by omega⟩
  have:=FP (rec:=rR N) l 0 0 (by omega) (by omega) (fun s hs=>by
   have h1:=zW hs
   have h2:=EI s
   cases k with
   |zero=>omega
   |succ k=>exact JV k s.Steps N (by omega) (by omega))
  rw[Int.zero_add] at this
  exact this
mutual
def Tp(p:eX):Int→aZ→Prop
 |d,⟨k,n,a,ps,nx,ny,l⟩=>Gz p ⟨k,n,a,ps,nx,ny,l⟩ d=0∧Ei p (d+1) l
def Ei(p:eX):Int→List aZ→Prop
 |_,[]=>True
 |d,x::l=>Tp p d x∧Ei p d l
end
theorem Gn(p:eX)(d:Int)(x:aZ):Tp p d x↔Gz p x d=0∧Ei p (d+1) x.Steps:=by cases x;rw[Tp]
theorem IE(p:eX)(d:Int):Ei p d []:=by rw[Ei];trivial
theorem BA(p:eX)(d:Int)(x:aZ)(l:List aZ):Ei p d (x::l)↔Tp p d x∧Ei p d l:=by rw[Ei]
theorem Tt(p:eX)(d:Int)(l:List aZ):Ei p d l↔∀x∈l,Tp p d x:=by
 induction l with
 |nil=>exact⟨fun _ _ h=>(by cases h),fun _=>IE p d⟩
 |cons x l ih=>rw[BA,ih,List.forall_mem_cons]
structure IL (p:eX) (s:aZ) (d:Int):Prop where
 kind:1≤s.Kind∧s.Kind≤8
 name:s.Kind≠3→s.Name=ByteArray.empty
 at_:s.Kind≠4→s.Kind≠5→s.Kind≠6→s.Kind≠8→s.At=⟨0,0⟩
 points:s.Kind≠7→s.Points=[]
 Xp:s.Kind≠8→s.NX=0∧s.NY=0∧s.Steps=[]
 tool:s.Kind=3→0≤zU s.Name p.Tools
 place:rX s.At p.Unit=true
 area:s.Kind=7→s.Points.all (fun q=>rX q p.Unit)=true∧4≤s.Points.length∧s.Points.length≤2000∧F4 s.Points s.Points 0=true
 times:s.Kind=8→(1≤s.NX∧s.NX≤100)∧(1≤s.NY∧s.NY≤100)∧s.Steps≠[]∧d<5
theorem FN(s:aZ):fieldsB s=true↔(s.Kind≠3→s.Name=ByteArray.empty)∧(s.Kind≠4→s.Kind≠5→s.Kind≠6→s.Kind≠8→s.At=⟨0,0⟩)∧(s.Kind≠7→s.Points=[])∧(s.Kind≠8→s.NX=0∧s.NY=0∧s.Steps=[]):=by
 unfold fieldsB
 have e1:((s.Points.length:Int)==0)=true↔s.Points=[]:=by rw[beq_iff_eq];exact⟨fun h=>List.eq_nil_of_length_eq_zero (by omega),fun h=>by rw[h];rfl⟩
 have e2:((s.Steps.length:Int)==0)=true↔s.Steps=[]:=by rw[beq_iff_eq];exact⟨fun h=>List.eq_nil_of_length_eq_zero (by omega),fun h=>by rw[h];rfl⟩
 simp only[Bool.and_eq_true,Bool.or_eq_true,e1,e2,Bn,vO,beq_iff_eq]
 constructor
 ·rintro⟨⟨⟨a,b⟩,c⟩,d⟩
  refine⟨fun h=>a.resolve_left h,fun h4 h5 h6 h8=>b.resolve_left (by rintro(((h|h)|h)|h)<;>contradiction),fun h=>c.resolve_left h,fun h=>?_⟩
  have:=d.resolve_left h
  exact⟨this.1.1,this.1.2,this.2⟩
 ·rintro⟨a,b,c,d⟩
  refine⟨⟨⟨Classical.or_iff_not_imp_left.2 a,Classical.or_iff_not_imp_left.2 fun h=>b (fun e=>h (.inl (.inl (.inl e)))) (fun e=>h (.inl (.inl (.inr e)))) (fun e=>h (.inl (.inr e))) (fun e=>h (.inr e))⟩,Classical.or_iff_not_imp_left.2 c⟩,Classical.or_iff_not_imp_left.2 fun h=>⟨⟨(d h).1,(d h).2.1⟩,(d h).2.2⟩⟩
theorem Jt{p:eX}{s:aZ}{d:Int}:Gz p s d=0↔IL p s d:=by
 unfold Gz
 by_cases hk:1≤s.Kind∧s.Kind≤8
 ·rw [if_neg (by simpa using hk)]
  cases hf:fieldsB s
  ·rw[if_pos (by rfl)]
   refine⟨fun h=>(by cases h),fun h=>?_⟩
   have:=(FN s).2 ⟨h.name,h.at_,h.points,h.Xp⟩
   rw[hf] at this;cases this
  ·obtain ⟨f1,f2,f3,f4⟩:=(FN s).1 hf
   rw[if_neg (by simp)]
   by_cases h3:s.Kind=3∧zU s.Name p.Tools<0
   ·rw[if_pos (by simpa using h3)]
    exact⟨fun h=>(by cases h),fun h=>by have:=h.tool h3.1;omega⟩
   ·rw [if_neg (by simpa using h3)]
    cases hp:rX s.At p.Unit
    ·rw[if_pos (by rfl)]
     exact⟨fun h=>(by cases h),fun h=>by have:=h.place;rw[hp] at this;cases this⟩
    ·rw [if_neg (by simp)]
     have ht:s.Kind=3→0≤zU s.Name p.Tools:=fun h=>by
      by_cases h':zU s.Name p.Tools<0
      ·exact absurd ⟨h,h'⟩ h3
      ·omega
     by_cases h7:s.Kind=7
     ·rw [if_pos (by simpa using h7)]
      have hall:(s.Points.any (fun q=> !rX q p.Unit))= !s.Points.all (fun q=>rX q p.Unit):=by
       rw[List.all_eq_not_any_not,Bool.not_not]
      rw[hall]
      cases ha:s.Points.all (fun q=>rX q p.Unit)
      ·rw[if_pos (by rfl)]
       exact⟨fun h=>(by cases h),fun h=>by have:=(h.area h7).1;rw[ha] at this;cases this⟩
      ·rw [if_neg (by simp)]
       unfold Td
       by_cases h1:2000<(s.Points.length:Int)
       ·rw[if_pos h1];exact⟨fun h=>(by cases h),fun h=>by have:=(h.area h7).2.2.1;omega⟩
       ·rw[if_neg h1]
        by_cases h2:(s.Points.length:Int)<4
        ·rw[if_pos h2];exact⟨fun h=>(by cases h),fun h=>by have:=(h.area h7).2.1;omega⟩
        ·rw[if_neg h2]
         cases hr:F4 s.Points s.Points 0
         ·simp only[Bool.false_eq_true,if_false]
          exact⟨fun h=>(by cases h),fun h=>by have:=(h.area h7).2.2.2;rw[hr] at this;cases this⟩
         ·simp only[if_true]
          exact⟨fun _=>⟨hk,f1,f2,f3,f4,ht,hp,fun _=>⟨ha,by omega,by omega,hr⟩,fun h8=>by omega⟩,fun _=>trivial⟩
     ·rw [if_neg (by simpa using h7)]
      by_cases h8:s.Kind=8
      ·rw [if_pos (by simpa using h8)]
       unfold Wh
       by_cases hx:(1≤s.NX∧s.NX≤100)∧(1≤s.NY∧s.NY≤100)
       ·rw[if_neg (by simp;omega)]
        by_cases h0:(s.Steps.length:Int)=0
        ·rw[if_pos h0]
         exact⟨fun h=>(by cases h),fun h=>absurd (List.eq_nil_of_length_eq_zero (by omega)) (h.times h8).2.2.1⟩
        ·rw[if_neg h0]
         by_cases h5:5≤d
         ·rw[if_pos h5];exact⟨fun h=>(by cases h),fun h=>by have:=(h.times h8).2.2.2;omega⟩
         ·rw[if_neg h5]
          exact⟨fun _=>⟨hk,f1,f2,f3,f4,ht,hp,fun h=>absurd h h7,fun _=>⟨hx.1,hx.2,fun e=>h0 (by rw[e];rfl),by omega⟩⟩,fun _=>rfl⟩
       ·rw[if_pos (by simp;omega)]
        exact⟨fun h=>(by cases h),fun h=>absurd ⟨(h.times h8).1,(h.times h8).2.1⟩ hx⟩
      ·rw[if_neg (by simpa using h8)]
       exact⟨fun _=>⟨hk,f1,f2,f3,f4,ht,hp,fun h=>absurd h h7,fun h=>absurd h h8⟩,fun _=>rfl⟩
 ·rw[if_pos (by simp;omega)]
  exact⟨fun h=>(by cases h),fun h=>absurd h.kind hk⟩
theorem Ld{p:eX}{d:Int}(hu:1≤p.Unit∧p.Unit≤1000){rec:eX→List aZ→Int→Option Int}:∀(l:List aZ) (i:Nat),(∀s∈l,s.Points.length≤9223372036854775807)→(∀s∈l,IL p s d→∃e,rec p s.Steps (bP (d+1))=some e∧(e=0↔Ei p (d+1) s.Steps))→
  ∃e,jo p d rec l i=some e∧(e=0↔Ei p d l)
 |[],i,_,_=>⟨0,rfl,fun _=>IE p d,fun _=>rfl⟩
 | s::l,i,hp,hr=>by
  rw[jo,KV hu (hp s List.mem_cons_self),ob]
  by_cases h0:Gz p s d=0
  ·rw[if_neg (by simp[h0])]
   obtain⟨e,e1,e2⟩:=hr s List.mem_cons_self (Jt.1 h0)
   rw[e1,ob]
   by_cases h1:e=0
   ·rw[if_neg (by simp[h1])]
    obtain⟨f,f1,f2⟩:=Ld hu l (i+1) (fun x hx=>hp x (List.mem_cons_of_mem _ hx)) (fun x hx=>hr x (List.mem_cons_of_mem _ hx))
    exact⟨f,f1,f2.trans (by rw[BA,Gn];exact⟨fun h=>⟨⟨h0,e2.1 h1⟩,h⟩,fun h=>h.2⟩)⟩
   ·rw[if_pos (by simpa using h1)]
    exact⟨e,rfl,fun h=>absurd h h1,fun h=>absurd (e2.2 ((Gn _ _ _).1 ((BA _ _ _ _).1 h).1).2) h1⟩
  ·rw[if_pos (by simpa using h0)]
   exact⟨_,rfl,fun h=>absurd h h0,fun h=>absurd ((Gn _ _ _).1 ((BA _ _ _ _).1 h).1).1 h0⟩
theorem QA{p:eX}(hu:1≤p.Unit∧p.Unit≤1000):∀(k:Nat) (l:List aZ) (N:Nat) (d:Int),qV l≤k→k+5≤N→Hf l→0≤d→d≤5→∃e,oW N p l d=some e∧(e=0↔Ei p d l)
 | k,l,N,d,hk,hN,hA,h0,h1=>by
  obtain⟨N,rfl⟩:∃n,N=n+1:=⟨N-1,by omega⟩
  refine Ld hu l 0 (fun s hs=>((Kz s).1 (He hA hs)).2.2.1.1) fun s hs ho=>?_
  have a1:=zW hs
  have a2:=EI s
  have a3:=(Kz s).1 (He hA hs)
  by_cases h8:s.Kind=8
  ·have:=(ho.times h8).2.2.2
   rw[dB (by omega) (by omega)]
   cases k with
   |zero=>omega
   |succ k=>exact QA hu k s.Steps N (d+1) (by omega) (by omega) a3.2.2.2.2.2 (by omega) (by omega)
  ·obtain⟨N,rfl⟩:∃n,N=n+1:=⟨N-1,by omega⟩
   rw[(ho.Xp h8).2.2]
   exact⟨0,rfl,fun _=>IE _ _,fun _=>rfl⟩
def Kq:List eH→Prop
 |a::b::l=>(Cm b.Name a.Name||rW b.Name a.Name)=false∧Kq (b::l)
 |_=>True
structure Fq (N:Nat) (p:eX):Prop where
 unit:1≤p.Unit∧p.Unit≤1000
 few:p.Tools.length≤200
 tools:∀t∈p.Tools,jW N t.Name=some true∧wX t p.Unit=0
 ord:Kq p.Tools
 cnt:wI p.Steps≤3000
 steps:Ei p 0 p.Steps
theorem P6(a:List eH)(x y:eH):Kq (a++[x]++[y])↔Kq (a++[x])∧(Cm y.Name x.Name||rW y.Name x.Name)=false:=by
 induction a with
 |nil=>simp[Kq]
 | cons z a ih=>
  cases a with
  |nil=>simp[Kq]
  |cons w a=>
   simp only[List.cons_append,Kq] at ih ⊢
   rw[ih,and_assoc]
theorem JF{N:Nat}{p:eX}(hN:Fu p N)(hL:Ql p)(hu:1≤p.Unit∧p.Unit≤1000):∀(suf pre:List eH),p.Tools=pre++suf→p.Tools.length≤200→ 
  ∃e,ja N p suf pre.length=some e∧((∀t∈pre,jW N t.Name=some true∧wX t p.Unit=0)→Kq pre→(e=0↔Fq N p))
 | [],pre,he,hl=>by
  have hN':=hN
  unfold Fu at hN'
  obtain⟨e,e1,e2⟩:=QA hu (qV p.Steps) p.Steps N 0 (Nat.le_refl _) (by omega) hL.steps (by omega) (by omega)
  rw[ja,JV (qV p.Steps) p.Steps N (Nat.le_refl _) (by omega),ob]
  by_cases hc:3000<min (wI p.Steps) 3001
  ·rw[if_pos (decide_eq_true hc)]
   exact⟨2,rfl,fun _ _=>⟨fun h=>(by cases h),fun h=>by have:=h.cnt;omega⟩⟩
  ·rw[if_neg (by simpa using hc),e1]
   refine⟨e,rfl,fun h ho=>⟨fun h0=>⟨hu,hl,?_,?_,by omega,e2.1 h0⟩,fun h=>e2.2 h.steps⟩⟩
   ·rw[he,List.append_nil];exact h
   ·rw[he,List.append_nil];exact ho
 | t ::l,pre,he,hl=>by
  have hlen:p.Tools.length=pre.length+(l.length+1):=by rw[he];simp
  have hmem:t∈p.Tools:=by rw[he];simp
  have hsz:=Fz hmem
  have hN':=hN
  unfold Fu at hN'
  obtain⟨b,b1,_⟩:=Qn (N:=N) (hL.tools t hmem).1 (by omega)
  rw[ja,KU hu b1,ob]
  cases b
  ·exact⟨5,rfl,fun _ _=>⟨fun h=>(by cases h),fun h=>by have:=(h.tools t hmem).1;rw[b1] at this;cases this⟩⟩
  simp only[if_true]
  by_cases h0:wX t p.Unit=0
  ·have hz0:(wX t p.Unit !=0)=false:=by simp[h0]
   simp only[hz0,Bool.false_eq_true,if_false]
   obtain⟨e,e1,e2⟩:=JF hN hL hu l (pre++[t]) (by rw[he];simp) hl
   rw[show(pre++[t]).length=pre.length+1 by simp] at e1
   have hall:(∀x∈pre,jW N x.Name=some true∧wX x p.Unit=0)→∀x∈pre++[t],jW N x.Name=some true∧wX x p.Unit=0:=fun h x hx=>by
    rcases List.mem_append.1 hx with hx|hx
    ·exact h x hx
    ·simp at hx;subst hx;exact⟨b1,h0⟩
   rcases List.eq_nil_or_concat pre with hz|⟨pre0,u,hz⟩
   ·subst hz
    rw[if_neg (by simp),ob,if_neg (by simp),e1]
    exact⟨e,rfl,fun h _=>e2 (hall h) trivial⟩
   ·rw [List.concat_eq_append] at hz
    subst hz
    have hpl:((pre0++[u]).length:Int)-1=(pre0.length:Int):=by simp
    rw[if_pos (by simp),hpl,dB (by omega) (by simp at hlen;omega),show idx p.Tools (pre0.length:Int)=some u by rw[he,List.append_assoc];exact lC _ _ _,ob,ob]
    cases ho:(Cm t.Name u.Name||rW t.Name u.Name)
    ·rw[if_neg (by simp),e1]
     exact⟨e,rfl,fun h h'=>e2 (hall h) ((P6 _ _ _).2 ⟨h',ho⟩)⟩
    ·rw[if_pos rfl]
     refine⟨8,rfl,fun _ _=>⟨fun h=>(by cases h),fun h=>?_⟩⟩
     have:=h.ord
     rw[he] at this
     have key:∀(a:List eH),Kq (a++u::t::l)→(Cm t.Name u.Name||rW t.Name u.Name)=false:=fun a=>by
      induction a with
      |nil=>exact fun h=>h.1
      |cons z a ih=>
       cases a with
       |nil=>exact fun h=>h.2.1
       |cons w a=>exact fun h=>ih h.2
     rw[List.append_assoc] at this
     have:=key pre0 this
     rw[ho] at this;cases this
  ·have hz0:(wX t p.Unit !=0)=true:=by simpa using h0
   simp only[hz0,if_true]
   exact⟨_,rfl,fun _ _=>⟨fun h=>absurd h h0,fun h=>absurd (h.tools t hmem).2 h0⟩⟩
def rowAt:List Bd→Int→List (Int×Int)
 |[],_=>[]
 |b::l,y=>if b.1≤y∧y<b.2.1 then b.2.2 else rowAt l y
def rV:Int→List Bd→Prop
 |_,[]=>True
 |lo,b::l=>lo≤b.1∧b.1<b.2.1∧b.2.2≠[]∧(∀d,l.head?=some d→d.1=b.2.1→d.2.2≠b.2.2)∧rV b.2.1 l
theorem wz:∀{l:List Bd} {lo y:Int},rV lo l→y<lo→rowAt l y=[]
 |[],_,_,_,_=>rfl
 |b::l,lo,y,h,hy=>by
  unfold rowAt
  rw[if_neg (by have:=h.1;omega)]
  exact wz h.2.2.2.2 (by have:=h.1;have:=h.2.1;omega)
theorem rV.uniq:∀{l m:List Bd} {lo lo':Int},rV lo l→rV lo' m→(∀y,rowAt l y=rowAt m y)→l=m
 |[],[],_,_,_,_,_=>rfl
 |[],b::m,_,_,_,h2,h=>by
  have:=h b.1
  unfold rowAt at this
  rw[if_pos ⟨Int.le_refl _,h2.2.1⟩] at this
  exact absurd this.symm h2.2.2.1
 |b::l,[],_,_,h1,_,h=>by
  have:=h b.1
  unfold rowAt at this
  rw[if_pos ⟨Int.le_refl _,h1.2.1⟩] at this
  exact absurd this h1.2.2.1
 | b ::l,d::m,lo,lo',h1,h2,h=>by
  obtain⟨a1,a2,a3,a4,a5⟩:=h1
  obtain⟨b1,b2,b3,b4,b5⟩:=h2
  have fst:∀{l:List Bd} {b:Bd} {y:Int},b.1≤y→y<b.2.1→rowAt (b::l) y=b.2.2:=fun h1 h2=>by unfold rowAt;rw[if_pos ⟨h1,h2⟩]
  have low:∀{l:List Bd} {b:Bd} {y:Int},rV b.2.1 l→b.1<b.2.1→y<b.1→rowAt (b::l) y=[]:=fun h1 h2 h3=>by
   unfold rowAt
   rw[if_neg (by omega)]
   exact wz h1 (by omega)
  have e1:b.1=d.1:=by
   have hb:=h b.1
   have hd:=h d.1
   rw[fst (Int.le_refl _) a2] at hb
   rw[fst (l:=m) (b:=d) (Int.le_refl _) b2] at hd
   rcases Int.lt_trichotomy b.1 d.1 with hlt|heq|hgt
   ·rw[low b5 b2 hlt] at hb;exact absurd hb a3
   ·exact heq
   ·rw[low a5 a2 hgt] at hd;exact absurd hd.symm b3
  have e2:b.2.2=d.2.2:=by
   have hb:=h b.1
   rw[fst (Int.le_refl _) a2,e1,fst (Int.le_refl _) b2] at hb
   exact hb
  have past:∀{l:List Bd} {b:Bd},rV b.2.1 l→(∀d,l.head?=some d→d.1=b.2.1→d.2.2≠b.2.2)→b.2.2≠[]→rowAt (b::l) b.2.1≠b.2.2:=fun{l b} h1 h2 h3=>by
   unfold rowAt
   rw[if_neg (by omega)]
   cases l with
   |nil=>exact fun h=>h3 h.symm
   | cons e l=>
    unfold rowAt
    by_cases he:e.1=b.2.1
    ·rw[if_pos ⟨by omega,by have:=h1.2.1;omega⟩]
     exact h2 e rfl he
    ·have hlt:b.2.1<e.1:=by have:=h1.1;omega
     rw[if_neg (by omega),wz h1.2.2.2.2 (by have:=h1.2.1;omega)]
     exact fun h=>h3 h.symm
  have e3:b.2.1=d.2.1:=by
   rcases Int.lt_trichotomy b.2.1 d.2.1 with hlt|heq|hgt
   ·have:=h b.2.1
    rw[fst (l:=m) (b:=d) (by omega) hlt,←e2] at this
    exact absurd this (past a5 a4 a3)
   ·exact heq
   ·have:=h d.2.1
    rw[fst (l:=l) (b:=b) (by omega) hgt,e2] at this
    exact absurd this.symm (past b5 b4 b3)
  have hbd:b=d:=by
   obtain⟨x,y,z⟩:=b
   obtain⟨x',y',z'⟩:=d
   simp only at e1 e2 e3
   rw[e1,e2,e3]
  subst hbd
  rw[rV.uniq a5 b5 fun y=>by
   by_cases hy:y<b.2.1
   ·rw[wz a5 hy,wz b5 hy]
   ·have:=h y
    unfold rowAt at this
    rw[if_neg (by omega),if_neg (by omega)] at this
    exact this]
def tH(x y:Int)(l:List Bd):Prop:=tO x (rowAt l y)
def TP(x y:Int)(l:List aO):Prop:=∃r∈l,(r.X0≤x∧x<r.X1)∧(r.Y0≤y∧y<r.Y1)
structure yL (l:List Bd):Prop where
 can:∃lo,rV lo l
 row:∀b∈l,∃lo,Can lo b.2.2
theorem Bq:∀{l:List Bd} {y:Int},rowAt l y=[]∨∃b∈l,b.1≤y∧y<b.2.1∧rowAt l y=b.2.2
 |[],_=>.inl rfl
 | b::l,y=>by
  unfold rowAt
  by_cases h:b.1≤y∧y<b.2.1
  ·rw[if_pos h];exact .inr ⟨b,by simp,h.1,h.2,rfl⟩
  ·rw[if_neg h]
   rcases Bq (l:=l) (y:=y) with h1|⟨c,h1,h2⟩
   ·exact .inl h1
   ·exact .inr ⟨c,by simp[h1],h2⟩
theorem yL.at{l:List Bd}(h:yL l)(y:Int):∃lo,Can lo (rowAt l y):=by
 rcases Bq (l:=l) (y:=y) with h1|⟨b,h1,_,_,h2⟩
 ·rw[h1];exact⟨0,trivial⟩
 ·rw[h2];exact h.row b h1
theorem rV.mem:∀{l:List Bd} {lo:Int},rV lo l→∀b∈l,lo≤b.1∧b.1<b.2.1∧b.2.2≠[]
 |[],_,_,b,hb=>by simp at hb
 | c::l,lo,h,b,hb=>by
  rcases List.mem_cons.1 hb with rfl|hb
  ·exact⟨h.1,h.2.1,h.2.2.1⟩
  ·have hm:=h.2.2.2.2.mem b hb
   have:=h.1;have:=h.2.1
   exact⟨by omega,hm.2.1,hm.2.2⟩
theorem Dl:∀{l:List Bd} {lo y:Int} {b:Bd},rV lo l→b∈l→b.1≤y→y<b.2.1→rowAt l y=b.2.2
 |[],_,_,_,_,hb,_,_=>by simp at hb
 | c::l,lo,y,b,h,hb,h1,h2=>by
  unfold rowAt
  rcases List.mem_cons.1 hb with rfl|hb
  ·rw[if_pos ⟨h1,h2⟩]
  ·have:=h.2.2.2.2.mem b hb
   rw[if_neg (by omega)]
   exact Dl h.2.2.2.2 hb h1 h2
theorem yL.uniq{l m:List Bd}(h1:yL l)(h2:yL m)(h:∀x y,tH x y l↔tH x y m):l=m:=by
 obtain⟨lo,c1⟩:=h1.can
 obtain⟨lo',c2⟩:=h2.can
 refine c1.uniq c2 fun y=>?_
 obtain⟨a,ha⟩:=h1.at y
 obtain⟨b,hb⟩:=h2.at y
 exact ha.uniq hb fun x=>h x y
theorem RL:∀(l:List (Int×Int)),∃lo,∀p∈l,lo<p.1
 |[]=>⟨0,by simp⟩
 |q::l=>by
  obtain⟨lo,h⟩:=RL l
  refine⟨min lo (q.1-1),fun p hp=>?_⟩
  rcases List.mem_cons.1 hp with rfl|hp
  ·omega
  ·have:=h p hp;omega
theorem WG{l:List (Int×Int)}(h:∀p∈l,p.1<p.2):(∃lo,Can lo (BF l))∧∀x,tO x (BF l)↔tO x l:=by
 obtain⟨lo,hlo⟩:=RL l
 obtain⟨h1,h2⟩:=Gm (lo:=lo) (l:=l) fun p hp=>⟨hlo p hp,h p hp⟩
 exact⟨⟨lo,h1⟩,h2⟩
theorem Dk{l:List aO}(h:∀r∈l,r.X0<r.X1)(y:Int):(∃lo,Can lo (ww l y))∧∀x,tO x (ww l y)↔TP x y l:=by
 obtain⟨h1,h2⟩:=WG (l:=(l.filter fun r=>decide (r.Y0≤y)&&decide (y<r.Y1)).map Gq) fun p hp=>by
  obtain⟨r,hr,rfl⟩:=List.mem_map.1 hp
  exact h r (List.mem_filter.1 hr).1
 refine⟨h1,fun x=>(h2 x).trans ?_⟩
 unfold tO TP
 constructor
 ·rintro⟨p,hp,hx⟩
  obtain⟨r,hr,rfl⟩:=List.mem_map.1 hp
  obtain⟨hr,hy⟩:=List.mem_filter.1 hr
  simp at hy
  exact⟨r,hr,hx,hy⟩
 ·rintro⟨r,hr,hx,hy⟩
  exact⟨Gq r,List.mem_map.2 ⟨r,List.mem_filter.2 ⟨hr,by simp[hy]⟩,rfl⟩,hx⟩
theorem SQ{l m:List (Int×Int)}(h1:∃lo,Can lo l)(h2:∃lo,Can lo m)(h:∀x,tO x l↔tO x m):l=m:=by
 obtain⟨_,h1⟩:=h1
 obtain⟨_,h2⟩:=h2
 exact h1.uniq h2 h
theorem UY{l:List (Int×Int)}(h1:∃lo,Can lo l)(h:∀x,¬tO x l):l=[]:=SQ h1 ⟨0,trivial⟩ fun x=>⟨fun hx=>absurd hx (h x),fun hx=>absurd hx om⟩
theorem G5{c:Bd}{l:List Bd}{b:Bd}(h:l≠[]):pushB (c::l) b=c::pushB l b:=by
 by_cases he:b.2.2=[]
 ·rw[qm he,qm he]
 ·rcases List.eq_nil_or_concat l with rfl|⟨j,d,hc⟩
  ·exact absurd rfl h
  ·rw[List.concat_eq_append] at hc
   subst hc
   rw[←List.cons_append,sV he,sV he]
   split<;>rfl
theorem NL{c:Bd}{l:List Bd}{b:Bd}:∃e m,pushB (c::l) b=e::m∧e.1=c.1∧e.2.2=c.2.2:=by
 by_cases hl:l=[]
 ·subst hl
  by_cases he:b.2.2=[]
  ·rw[qm he];exact⟨c,[],rfl,rfl,rfl⟩
  ·have:=sV (l:=[]) (c:=c) he
   rw[List.nil_append] at this
   rw[this]
   split
   ·exact⟨_,_,rfl,rfl,rfl⟩
   ·exact⟨_,_,rfl,rfl,rfl⟩
 ·rw[G5 hl];exact⟨_,_,rfl,rfl,rfl⟩
theorem rV.push:∀{l:List Bd} {lo:Int} {b:Bd},rV lo l→(∀c∈l,c.2.1≤b.1)→lo≤b.1→b.1<b.2.1→
  rV lo (pushB l b)∧(∀c∈pushB l b,c.2.1≤b.2.1∧(c.2.2=b.2.2∨∃d∈l,c.2.2=d.2.2))∧∀y,rowAt (pushB l b) y=if b.1≤y∧y<b.2.1 then b.2.2 else rowAt l y
 | [],lo,b,h,h1,h2,h3=>by
  by_cases he:b.2.2=[]
  ·rw[qm he]
   exact⟨h,by simp,fun y=>by unfold rowAt;split<;>simp[he]⟩
  ·rw[Bt he]
   exact⟨⟨h2,h3,he,by simp,trivial⟩,by simp,fun y=>by unfold rowAt;rfl⟩
 | [c],lo,b,h,h1,h2,h3=>by
  have hc:=h1 c (by simp)
  have h4:=h.2.1
  by_cases he:b.2.2=[]
  ·rw[qm he]
   refine⟨h,fun d hd=>⟨by have:=h1 d hd;omega,.inr ⟨d,hd,rfl⟩⟩,fun y=>?_⟩
   by_cases hy:b.1≤y∧y<b.2.1
   ·rw[if_pos hy,he];unfold rowAt;rw[if_neg (by omega)];rfl
   ·rw[if_neg hy]
  ·have hp:=sV (l:=[]) (c:=c) he
   rw[List.nil_append] at hp
   rw[hp]
   by_cases hj:c.2.1=b.1∧c.2.2=b.2.2
   ·rw[if_pos hj]
    refine⟨⟨h.1,by show c.1<b.2.1;omega,h.2.2.1,by simp,trivial⟩,fun d hd=>?_,fun y=>?_⟩
    ·simp at hd;subst hd;exact⟨Int.le_refl _,.inr ⟨c,by simp,rfl⟩⟩
    ·show(if c.1≤y∧y<b.2.1 then c.2.2 else[])=if b.1≤y∧y<b.2.1 then b.2.2 else if c.1≤y∧y<c.2.1 then c.2.2 else[]
     rw[hj.2]
     by_cases ha:b.1≤y∧y<b.2.1
     ·rw[if_pos ha,if_pos (by omega)]
     ·rw[if_neg ha]
      by_cases hb:c.1≤y∧y<c.2.1
      ·rw[if_pos hb,if_pos (by omega)]
      ·rw[if_neg hb,if_neg (by omega)]
   ·rw[if_neg hj]
    refine⟨⟨h.1,h.2.1,h.2.2.1,fun d hd e=>?_,⟨hc,h3,he,by simp,trivial⟩⟩,fun d hd=>?_,fun y=>?_⟩
    ·simp at hd;subst hd
     exact fun h'=>hj ⟨e.symm,h'.symm⟩
    ·simp at hd
     rcases hd with rfl|rfl
     ·exact⟨by omega,.inr ⟨d,by simp,rfl⟩⟩
     ·exact⟨Int.le_refl _,.inl rfl⟩
    ·show(if c.1≤y∧y<c.2.1 then c.2.2 else if b.1≤y∧y<b.2.1 then b.2.2 else[])=if b.1≤y∧y<b.2.1 then b.2.2 else if c.1≤y∧y<c.2.1 then c.2.2 else[]
     by_cases ha:b.1≤y∧y<b.2.1
     ·rw[if_pos ha,if_neg (by omega),if_pos ha]
     ·rw[if_neg ha,if_neg ha]
 | c::d::l,lo,b,h,h1,h2,h3=>by
  obtain⟨i1,i2,i3⟩:=rV.push (l:=d::l) (lo:=c.2.1) (b:=b) h.2.2.2.2 (fun e he=>h1 e (by simp[List.mem_cons.1 he])) (h1 c (by simp)) h3
  rw[G5 (by simp)]
  have hc:=h1 c (by simp)
  have h4:=h.2.1
  refine⟨⟨h.1,h.2.1,h.2.2.1,fun e he e1=>?_,i1⟩,fun e he=>?_,fun y=>?_⟩
  ·obtain⟨f,m,p1,p2,p3⟩:=NL (c:=d) (l:=l) (b:=b)
   rw[p1] at he
   simp at he
   subst he
   rw[p3]
   exact h.2.2.2.1 d rfl (by omega)
  ·rcases List.mem_cons.1 he with rfl|he
   ·exact⟨by omega,.inr ⟨e,by simp,rfl⟩⟩
   ·obtain⟨j1,j2|⟨f,j2,j3⟩⟩:=i2 e he
    ·exact⟨j1,.inl j2⟩
    ·exact⟨j1,.inr ⟨f,by simp[List.mem_cons.1 j2],j3⟩⟩
  ·show(if c.1≤y∧y<c.2.1 then c.2.2 else rowAt (pushB (d::l) b) y)=if b.1≤y∧y<b.2.1 then b.2.2 else if c.1≤y∧y<c.2.1 then c.2.2 else rowAt (d::l) y
   rw[i3 y]
   by_cases ha:b.1≤y∧y<b.2.1
   ·rw[if_pos ha,if_pos ha,if_neg (by omega)]
   ·rw[if_neg ha,if_neg ha]
def ru(f:Int→List (Int×Int)):List Int→List Bd→List Bd
 |a::b::ys,out=>ru f (b::ys) (pushB out (a,b,f a))
 |_,out=>out
theorem JZ(l:List aO):∀(ys:List Int) (out:List Bd),uZ l ys out=ru (ww l) ys out
 |[],_=>rfl
 |[_],_=>rfl
 |a::b::ys,out=>JZ l (b::ys) (pushB out (a,b,ww l a))
def K8(f:Int→List (Int×Int)):List Int→Prop
 |a::b::ys=>(∀y,a≤y→y<b→f y=f a)∧K8 f (b::ys)
 |_=>True
theorem Pq{f:Int→List (Int×Int)}{zs:List Int}(hc:∀a y,a≤y→(∀z∈zs,z≤a∨y<z)→f y=f a):∀{ys pre:List Int},zs=pre++ys→zs.Pairwise (fun x y=>x<y)→K8 f ys
 |[],_,_,_=>trivial
 |[_],_,_,_=>trivial
 | a::b::ys,pre,e,h=>by
  refine⟨fun y h1 h2=>hc a y h1 fun z hz=>?_,Pq hc (ys:=b::ys) (pre:=pre++[a]) (by rw[e];simp) h⟩
  rw[e] at hz h
  obtain⟨_,k1,k2⟩:=List.pairwise_append.1 h
  rcases List.mem_append.1 hz with hz|hz
  ·have:=k2 z hz a (by simp);exact .inl (by omega)
  ·rcases List.mem_cons.1 hz with rfl|hz
   ·exact .inl (Int.le_refl _)
   ·rcases List.mem_cons.1 hz with rfl|hz
    ·exact .inr h2
    ·have:=(List.pairwise_cons.1 (List.pairwise_cons.1 k1).2).1 z hz;exact .inr (by omega)
theorem MM{f:Int→List (Int×Int)}{lo:Int}(hf:∀y,∃lo,Can lo (f y)):∀(ys:List Int) (out:List Bd),ys.Pairwise (fun x y=>x<y)→K8 f ys→rV lo out→(∀b∈out,∃lo,Can lo b.2.2)→(∀a,ys.head?=some a→lo≤a∧(∀c∈out,c.2.1≤a))→
  rV lo (ru f ys out)∧(∀b∈ru f ys out,∃lo,Can lo b.2.2)∧∀y,rowAt (ru f ys out) y=if(∃a∈ys,a≤y)∧(∃z∈ys,y<z) then f y else rowAt out y
 |[],out,_,_,h1,h2,_=>⟨h1,h2,fun y=>by rw[if_neg (by simp)];rfl⟩
 |[a],out,_,_,h1,h2,_=>⟨h1,h2,fun y=>by rw[if_neg (by rintro⟨⟨c,hc,h1⟩,z,hz,h2⟩;simp at hc hz;omega)];rfl⟩
 | a ::b::ys,out,hs,hc,h1,h2,h3=>by
  have hab:a<b:=(List.pairwise_cons.1 hs).1 b (by simp)
  have hs2:=(List.pairwise_cons.1 hs).2
  obtain⟨h5,h6⟩:=h3 a rfl
  obtain⟨p1,p2,p3⟩:=h1.push (b:=(a,b,f a)) h6 h5 hab
  obtain⟨i1,i2,i3⟩:=MM hf (b::ys) (pushB out (a,b,f a)) hs2 hc.2 p1 (fun c hc=>by
   rcases(p2 c hc).2 with e|⟨d,hd,e⟩
   ·rw[e];exact hf a
   ·rw[e];exact h2 d hd) (fun z hz=>by
   simp at hz;subst hz
   exact⟨by omega,fun c hc=>(p2 c hc).1⟩)
  refine⟨i1,i2,fun y=>?_⟩
  show rowAt (ru f (b::ys) (pushB out (a,b,f a))) y=_
  rw[i3 y,p3 y]
  show(if(∃c∈b::ys,c≤y)∧(∃z∈b::ys,y<z) then f y else if a≤y∧y<b then f a else rowAt out y)=_
  by_cases ya:y<a
  ·rw[if_neg (fun h=>by
    obtain⟨⟨c,hc,hcy⟩,_⟩:=h
    rcases List.mem_cons.1 hc with rfl|hc
    ·omega
    ·have:=(List.pairwise_cons.1 hs2).1 c hc;omega),if_neg (by omega),if_neg (fun h=>by
    obtain⟨⟨c,hc,hcy⟩,_⟩:=h
    rcases List.mem_cons.1 hc with rfl|hc
    ·omega
    ·have:=(List.pairwise_cons.1 hs).1 c hc;omega)]
  ·by_cases yb:y<b
   ·rw[if_neg (fun h=>by
     obtain⟨⟨c,hc,hcy⟩,_⟩:=h
     rcases List.mem_cons.1 hc with rfl|hc
     ·omega
     ·have:=(List.pairwise_cons.1 hs2).1 c hc;omega),if_pos (by omega),if_pos ⟨⟨a,by simp,by omega⟩,⟨b,by simp,yb⟩⟩]
    exact(hc.1 y (by omega) yb).symm
   ·by_cases hz:∃z∈b::ys,y<z
    ·obtain⟨z,hz,hyz⟩:=hz
     rw[if_pos ⟨⟨b,by simp,by omega⟩,z,hz,hyz⟩,if_pos ⟨⟨a,by simp,by omega⟩,z,List.mem_cons_of_mem _ hz,hyz⟩]
    ·rw[if_neg (fun h=>hz h.2),if_neg (by omega),if_neg (fun h=>by
      obtain⟨_,z,hm,hyz⟩:=h
      rcases List.mem_cons.1 hm with rfl|hm
      ·omega
      ·exact hz ⟨z,hm,hyz⟩)]
theorem Iq{f:Int→List (Int×Int)}{ys:List Int}(hs:ys.Pairwise fun x y=>x<y)(hf:∀y,∃lo,Can lo (f y))(hc:∀a y,a≤y→(∀z∈ys,z≤a∨y<z)→f y=f a)(h0:∀y,(∀a∈ys,y<a)→f y=[])(h1:∀y,(∀a∈ys,a≤y)→f y=[]):yL (ru f ys [])∧∀y,rowAt (ru f ys []) y=f y:=by
 obtain⟨lo,hlo⟩:∃lo:Int,∀z∈ys,lo≤z:=by
  have:∀m:List Int,∃lo:Int,∀z∈m,lo≤z:=by
   intro m
   induction m with
   |nil=>exact⟨0,by simp⟩
   |cons a m ih=>
    obtain⟨lo,h⟩:=ih
    refine⟨min lo a,fun z hz=>?_⟩
    rcases List.mem_cons.1 hz with rfl|hz
    ·omega
    ·have:=h z hz;omega
  exact this _
 obtain⟨i1,i2,i3⟩:=MM (lo:=lo) hf ys [] hs (Pq hc (ys:=ys) (pre:=[]) rfl hs) trivial (by simp) (fun a ha=>⟨hlo a (List.mem_of_mem_head? (by rw[ha];rfl)),by simp⟩)
 refine⟨⟨⟨lo,i1⟩,i2⟩,fun y=>?_⟩
 rw[i3 y]
 by_cases ha:∃a∈ys,a≤y
 ·by_cases hz:∃z∈ys,y<z
  ·rw[if_pos ⟨ha,hz⟩]
  ·rw[if_neg (fun h=>hz h.2),h1 y (fun a ham=>by
    rcases Int.lt_or_le y a with h|h
    ·exact absurd ⟨a,ham,h⟩ hz
    ·exact h)];rfl
 ·rw[if_neg (fun h=>ha h.1),h0 y (fun a ham=>by
   rcases Int.lt_or_le y a with h|h
   ·exact h
   ·exact absurd ⟨a,ham,h⟩ ha)];rfl
theorem LD{l:List aO}(hl:∀r∈l,r.X0<r.X1){y:Int}(h:∀r∈l,¬(r.Y0≤y∧y<r.Y1)):ww l y=[]:=by
 obtain⟨c1,c2⟩:=Dk hl y
 exact UY c1 fun x hx=>by
  obtain⟨r,hr,_,hy⟩:=(c2 x).1 hx
  exact h r hr hy
theorem NH{l:List aO}(hl:∀r∈l,r.X0<r.X1){a y:Int}(h:∀r∈l,(r.Y0≤y∧y<r.Y1)↔(r.Y0≤a∧a<r.Y1)):ww l y=ww l a:=by
 obtain⟨c1,c2⟩:=Dk hl y
 obtain⟨c3,c4⟩:=Dk hl a
 refine SQ c1 c3 fun x=>(c2 x).trans (Iff.trans ?_ (c4 x).symm)
 unfold TP
 constructor
 ·rintro⟨r,hr,hx,hy⟩;exact⟨r,hr,hx,(h r hr).1 hy⟩
 ·rintro⟨r,hr,hx,hy⟩;exact⟨r,hr,hx,(h r hr).2 hy⟩
theorem LG{l:List aO}{ys:List Int}(hl:∀r∈l,r.X0<r.X1∧r.Y0<r.Y1)(hy:∀r∈l,r.Y0∈ys∧r.Y1∈ys):(∀a y,a≤y→(∀z∈ys,z≤a∨y<z)→ww l y=ww l a)∧(∀y,(∀a∈ys,y<a)→ww l y=[])∧(∀y,(∀a∈ys,a≤y)→ww l y=[]):=by
 have hx:∀r∈l,r.X0<r.X1:=fun r hr=>(hl r hr).1
 refine⟨fun a y hay h=>NH hx fun r hr=>?_,fun y h=>LD hx fun r hr hh=>?_,fun y h=>LD hx fun r hr hh=>?_⟩
 ·have:=h _ (hy r hr).1;have:=h _ (hy r hr).2;omega
 ·have:=h _ (hy r hr).1;omega
 ·have:=h _ (hy r hr).2;omega
theorem Q8{l:List aO}(hl:∀r∈l,r.X0<r.X1∧r.Y0<r.Y1):yL (pg l)∧∀y,rowAt (pg l) y=ww l y:=by
 obtain⟨h1,h2,h3⟩:=LG (ys:=xG (u7 l)) hl fun r hr=>⟨(vk _ _).2 (vV.2 ⟨r,hr,.inl rfl⟩),(vk _ _).2 (vV.2 ⟨r,hr,.inr rfl⟩)⟩
 have:=Iq (tu (u7 l)) (fun y=>(Dk (fun r hr=>(hl r hr).1) y).1) h1 h2 h3
 unfold pg
 rw[JZ]
 exact this
theorem yQ{l:List aO}(hl:∀r∈l,r.X0<r.X1∧r.Y0<r.Y1):yL (pg l)∧∀x y,tH x y (pg l)↔TP x y l:=by
 obtain⟨h1,h2⟩:=Q8 hl
 refine⟨h1,fun x y=>?_⟩
 unfold tH
 rw[h2]
 exact(Dk (fun r hr=>(hl r hr).1) y).2 x
theorem ND{l m:List aO}(hl:∀r∈l,r.X0<r.X1∧r.Y0<r.Y1)(hm:∀r∈m,r.X0<r.X1∧r.Y0<r.Y1)(h:∀x y,TP x y l↔TP x y m):pg l=pg m:=by
 obtain⟨a1,a2⟩:=yQ hl
 obtain⟨b1,b2⟩:=yQ hm
 exact a1.uniq b1 fun x y=>by rw[a2,b2,h]
theorem Cr{l:List Bd}{r:aO}:r∈eu l↔∃b∈l,∃s∈b.2.2,r=⟨s.1,b.1,s.2,b.2.1⟩:=by
 unfold eu Dm
 simp only[List.mem_flatMap,List.mem_map]
 constructor
 ·rintro⟨b,hb,s,hs,rfl⟩;exact⟨b,hb,s,hs,rfl⟩
 ·rintro⟨b,hb,s,hs,rfl⟩;exact⟨b,hb,s,hs,rfl⟩
theorem wL{l:List Bd}(h:yL l)(x y:Int):TP x y (eu l)↔tH x y l:=by
 obtain⟨lo,hc⟩:=h.can
 unfold TP tH
 constructor
 ·rintro⟨r,hr,hx,hy⟩
  obtain⟨b,hb,s,hs,rfl⟩:=Cr.1 hr
  rw[Dl hc hb hy.1 hy.2]
  exact⟨s,hs,hx⟩
 ·intro hx
  rcases Bq (l:=l) (y:=y) with h1|⟨b,hb,h1,h2,h3⟩
  ·rw[h1] at hx;exact absurd hx om
  ·rw[h3] at hx
   obtain⟨s,hs,hx⟩:=hx
   exact⟨_,Cr.2 ⟨b,hb,s,hs,rfl⟩,hx,h1,h2⟩
theorem Br{l:List Bd}(h:yL l):∀r∈eu l,r.X0<r.X1∧r.Y0<r.Y1:=fun r hr=>by
 obtain⟨lo,hc⟩:=h.can
 obtain⟨b,hb,s,hs,rfl⟩:=Cr.1 hr
 obtain⟨lo',hr⟩:=h.row b hb
 exact⟨(hr.mem s hs).2,(hc.mem b hb).2.1⟩
theorem Lu{l:List Bd}(h:yL l):pg (eu l)=l:=by
 obtain⟨a1,a2⟩:=yQ (Br h)
 exact a1.uniq h fun x y=>by rw[a2,wL h]
theorem rV.mono{l:List Bd}{lo lo':Int}(h:rV lo l)(hl:lo'≤lo):rV lo' l:=by
 cases l with
 |nil=>trivial
 |cons b l=>exact⟨by have:=h.1;omega,h.2⟩
theorem WZ.ne{l:List aO}(h:∀r∈l,WZ r):∀r∈l,r.X0<r.X1∧r.Y0<r.Y1:=fun r hr=>⟨(h r hr).x,(h r hr).y⟩
end Go.Proofs.YtgijeiamflmkeaaGreatDoor
