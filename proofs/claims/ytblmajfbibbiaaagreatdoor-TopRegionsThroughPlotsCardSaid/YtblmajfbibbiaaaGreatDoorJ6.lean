/- Rules of the walks, or plain laws about the plain functions. Conditions: none beyond each theorem's own. -/
import Derived.Test.YtblmajfbibbiaaaGreatDoorJ4
import Derived.Test.YtblmajfbibbiaaaGreatDoorJ5
import Derived.Test.YtblmajfbibbiaaaGreatDoorXF
namespace Go.Proofs.YtblmajfbibbiaaaGreatDoor.PX
def oK(e:Ed):Int×Int:=match e.d with
 | .E=>(e.x,e.y)
 | .N=>(e.x-1,e.y)
 | .W=>(e.x-1,e.y-1)
 | .S=>(e.x,e.y-1)
def qf(e:Ed):Int×Int:=oK ⟨e.x,e.y,e.d.right⟩
theorem RD(I:Sq)(x y:Int)(d:Dir):lq I x y d=I (oK ⟨x,y,d⟩).1 (oK ⟨x,y,d⟩).2:=by cases d<;>rfl
def sg(x y:Int)(e:Ed):Int:=match e.d with
 | .N=>if e.y=y∧e.x≤x then -1 else 0
 | .S=>if e.y=y+1∧e.x≤x then 1 else 0
 |_=>0
def wd(W:List Ed)(x y:Int):Int:=jK (sg x y) W
def vG(W:List Ed)(e:Ed):Int:=jK (fun f=>if f=e then 1 else 0) W
theorem Ay{f:Ed→Int}:∀{W:List Ed},(∀e∈W,f e=0)→jK f W=0
 |[],_=>rfl
 |e::W,h=>by
  have h1:=h e (by simp)
  have h2:=Ay (f:=f) (W:=W) fun g hg=>h g (by simp[hg])
  simp only[jK,h1,h2];rfl
theorem qO(f g:Ed→Int):∀W:List Ed,jK (fun e=>f e+g e) W=jK f W+jK g W
 |[]=>rfl
 |e::W=>by
  have:=qO f g W
  simp only[jK,this];omega
theorem sG{f g:Ed→Int}:∀{W:List Ed},(∀e∈W,f e=g e)→jK f W=jK g W
 |[],_=>rfl
 |e::W,h=>by
  have h1:=h e (by simp)
  have h2:=sG (f:=f) (g:=g) (W:=W) fun x hx=>h x (by simp[hx])
  simp only[jK,h1,h2]
theorem PW{f:Ed→Int}{W V:List Ed}(h:W.Perm V):jK f W=jK f V:=by
 induction h with
 |nil=>rfl
 |cons x _ ih=>simp only[jK,ih]
 |swap x y l=>simp only[jK];omega
 |trans _ _ h1 h2=>exact h1.trans h2
theorem Ku(f:Ed→Int)(g:Ed→Ed):∀W:List Ed,jK f (W.map g)=jK (fun e=>f (g e)) W
 |[]=>rfl
 |e::W=>by
  have:=Ku f g W
  simp only[List.map_cons,jK,this]
theorem JJ{W:List Ed}(hn:W.Nodup){e:Ed}(h:e∈W):vG W e=1:=by
 induction W with
 |nil=>cases h
 | cons f W ih=>
  obtain⟨n1,n2⟩:=List.nodup_cons.1 hn
  unfold vG at ih ⊢
  rcases List.mem_cons.1 h with h|h
  ·subst h
   have:jK (fun g=>if g=e then 1 else 0) W=0:=Ay fun g hg=>if_neg fun(hh:g=e)=>n1 (hh▸hg)
   simp only[jK,this,if_true];rfl
  ·have h1:=ih n2 h
   have h2:f≠e:=fun hh=>n1 (hh▸h)
   simp only[jK,h1,if_neg h2];rfl
theorem rf{W:List Ed}{e:Ed}(h:e∉W):vG W e=0:=Ay fun g hg=>if_neg fun(hh:g=e)=>h (hh▸hg)
theorem zy(W:List Ed)(x y:Int):wd W x y-wd W (x-1) y=vG W ⟨x,y+1,.S⟩-vG W ⟨x,y,.N⟩:=by
 have h:jK (fun e=>sg x y e+(if e=⟨x,y,.N⟩ then 1 else 0)) W=jK (fun e=>sg (x-1) y e+(if e=⟨x,y+1,.S⟩ then 1 else 0)) W:=by
  refine sG fun e _=>?_
  obtain⟨a,b,d⟩:=e
  unfold sg
  cases d<;>simp only[Ed.mk.injEq,reduceCtorEq,and_false,and_true,if_false]
  ·repeat' split
   all_goals omega
  ·repeat' split
   all_goals omega
 rw[qO,qO] at h
 unfold wd vG
 omega
def Xn(W:List Ed):Prop:=∀x y,vG W ⟨x,y,.E⟩+vG W ⟨x,y,.N⟩+vG W ⟨x,y,.W⟩+vG W ⟨x,y,.S⟩=vG W ⟨x-1,y,.E⟩+vG W ⟨x,y-1,.N⟩+vG W ⟨x+1,y,.W⟩+vG W ⟨x,y+1,.S⟩
theorem Du:∀W:List Ed,∃lo:Int,∀e∈W,lo<e.x
 |[]=>⟨0,fun _ h=>nomatch h⟩
 |e::W=>by
  obtain⟨lo,h⟩:=Du W
  refine⟨min lo (e.x-1),fun f hf=>?_⟩
  rcases List.mem_cons.1 hf with rfl|hf
  ·omega
  ·have:=h f hf;omega
theorem Eb{W:List Ed}{lo:Int}(h:∀e∈W,lo<e.x){x y:Int}(hx:x≤lo):wd W x y=0:=by
 refine Ay fun e he=>?_
 have:=h e he
 obtain⟨a,b,d⟩:=e
 have this:lo<a:=this
 unfold sg
 cases d
 ·rfl
 ·exact if_neg (by omega)
 ·rfl
 ·exact if_neg (by omega)
theorem QK{W:List Ed}(hf:Xn W)(x y:Int):wd W x y-wd W x (y-1)=vG W ⟨x,y,.E⟩-vG W ⟨x+1,y,.W⟩:=by
 obtain⟨lo,hlo⟩:=Du W
 have hout:∀{a b:Int} {d:Dir},a≤lo→vG W ⟨a,b,d⟩=0:=fun{a b d} ha=>rf fun hm=>by
  have h1:lo<a:=hlo _ hm
  omega
 have key:∀n:Nat,wd W (lo-1+n) y-wd W (lo-1+n) (y-1)=vG W ⟨lo-1+n,y,.E⟩-vG W ⟨lo-1+n+1,y,.W⟩:=by
  intro n
  induction n with
  |zero=>
   rw[Eb hlo (by omega),Eb hlo (by omega),hout (by omega),hout (by omega)]
  |succ n ih=>
   have e:lo-1+((n+1:Nat):Int)=lo-1+(n:Int)+1:=by omega
   rw[e]
   generalize lo-1+(n:Int)=z at ih ⊢
   have h1:=zy W (z+1) y
   have h2:=zy W (z+1) (y-1)
   have h3:=hf (z+1) y
   rw[show z+1-1=z by omega] at h1 h2 h3
   rw[show y-1+1=y by omega] at h2
   omega
 rcases Int.lt_or_le x (lo-1) with h|h
 ·rw[Eb hlo (by omega),Eb hlo (by omega),hout (by omega),hout (by omega)]
 ·have:=key (x-(lo-1)).toNat
  rw[show lo-1+((x-(lo-1)).toNat:Int)=x by omega] at this
  exact this
theorem ED{W:List Ed}(hf:Xn W)(e:Ed):wd W (oK e).1 (oK e).2-wd W (qf e).1 (qf e).2=vG W e-vG W ⟨e.tx,e.ty,e.d.left.left⟩:=by
 obtain⟨x,y,d⟩:=e
 unfold qf oK Ed.tx Ed.ty
 cases d<;>simp only[Dir.right,Dir.left,Dir.dx,Dir.dy]
 ·rw[Int.add_zero];exact QK hf x y
 ·have:=zy W x y
  rw[Int.add_zero];omega
 ·have:=QK hf (x-1) y
  rw[show x-1+1=x by omega] at this
  rw[Int.add_zero,show x+ -1=x-1 by omega];omega
 ·have:=zy W x (y-1)
  rw[show y-1+1=y by omega] at this
  rw[Int.add_zero,show y+ -1=y-1 by omega];omega
end Go.Proofs.YtblmajfbibbiaaaGreatDoor.PX
namespace Go.Proofs.YtblmajfbibbiaaaGreatDoor.PX
section
variable {I:Sq}
structure TP (I:Sq) (W:List Ed):Prop where
 nd:W.Nodup
 bor:∀e∈W,tY I e
 flow:Xn W
 cl:∀e,tY I e→(e∈W↔sc I e∈W)
theorem BV(I:Sq):∀(n:Nat) (e:Ed),(walk I n e).map (sc I)=walk I n (sc I e)
 |0,_=>rfl
 |n+1,e=>by
  have:=BV I n (sc I e)
  simp only[walk,List.map_cons,this]
theorem QL{e:Ed}{n:Nat}(h:it I n e=e):(walk I n (sc I e)).Perm (walk I n e):=by
 have h1:walk I (1+n) e=walk I 1 e++walk I n (it I 1 e):=zz I 1 n e
 have h2:walk I (n+1) e=walk I n e++walk I 1 (it I n e):=zz I n 1 e
 rw[Nat.add_comm 1 n] at h1
 rw[h1] at h2
 have e1:walk I 1 e=[e]:=rfl
 have e2:it I 1 e=sc I e:=rfl
 rw[h,e1,e2,List.singleton_append] at h2
 have h3:(e::walk I n (sc I e)).Perm (e::walk I n e):=by
  rw[h2]
  exact List.perm_append_comm
 exact List.Perm.cons_inv h3
theorem WN(W:List Ed)(x y:Int):vG W ⟨x,y,.E⟩+vG W ⟨x,y,.N⟩+vG W ⟨x,y,.W⟩+vG W ⟨x,y,.S⟩=jK (fun f=>if f.p=(x,y) then 1 else 0) W:=by
 unfold vG
 rw[←qO,←qO,←qO]
 refine sG fun f _=>?_
 obtain⟨a,b,d⟩:=f
 have e:(Ed.mk a b d).p=(a,b):=rfl
 rw[e]
 cases d<;>simp only[Ed.mk.injEq,reduceCtorEq,and_false,and_true,if_false,Prod.mk.injEq]<;>repeat' split
 all_goals omega
theorem WM(W:List Ed)(x y:Int):vG W ⟨x-1,y,.E⟩+vG W ⟨x,y-1,.N⟩+vG W ⟨x+1,y,.W⟩+vG W ⟨x,y+1,.S⟩=jK (fun f=>if(f.tx,f.ty)=(x,y) then 1 else 0) W:=by
 unfold vG
 rw[←qO,←qO,←qO]
 refine sG fun f _=>?_
 obtain⟨a,b,d⟩:=f
 unfold Ed.tx Ed.ty
 cases d<;>simp only[Ed.mk.injEq,reduceCtorEq,and_false,and_true,if_false,Prod.mk.injEq,Dir.dx,Dir.dy]<;>repeat' split
 all_goals omega
theorem Sk{e:Ed}{n:Nat}(he:tY I e)(h:DY I e n):TP I (walk I n e):=by
 have hrot:=QL h.2.1
 have hw:∀f∈walk I n e,tY I f:=fun f hf=>by
  obtain⟨i,_,rfl⟩:=kN.1 hf
  exact rE he i
 refine⟨h.nodup he,hw,fun x y=>?_,fun f hf=>⟨fun hm=>?_,fun hm=>?_⟩⟩
 ·rw[WN,WM,←PW hrot,←BV,Ku]
  refine sG fun f _=>?_
  rw[P7]
 ·have:sc I f∈(walk I n e).map (sc I):=List.mem_map_of_mem hm
  rw[BV] at this
  exact hrot.mem_iff.1 this
 ·have h1:=hrot.mem_iff.2 hm
  rw[←BV] at h1
  obtain⟨g,hg,hgs⟩:=List.mem_map.1 h1
  rwa [←Jl (hw g hg) hf hgs]
variable {W:List Ed}
theorem AQ(h:TP I W){g:Ed}(hg:¬tY I g):vG W g=0:=rf fun hm=>hg (h.bor g hm)
theorem Av(h:TP I W){g:Ed}(hs:lq I g.x g.y g.d=lq I g.x g.y g.d.right):wd W (oK g).1 (oK g).2=wd W (qf g).1 (qf g).2:=by
 have h1:=ED h.flow g
 obtain⟨a1,a2⟩:=Ed.xu I g
 have z1:vG W g=0:=AQ h (g:=g) fun hb=>by
  obtain⟨b1,b2⟩:=hb
  rw[hs,b2] at b1
  cases b1
 have z2:vG W ⟨g.tx,g.ty,g.d.left.left⟩=0:=AQ h fun hb=>by
  obtain⟨b1,b2⟩:=hb
  have b1:lq I g.tx g.ty g.d.left.left=true:=b1
  have b2:lq I g.tx g.ty g.d.left.left.right=false:=b2
  rw[Dir.lr] at b2
  rw[a2] at b1
  rw[a1,hs,b1] at b2
  cases b2
 rw[z1,z2] at h1
 omega
theorem Q5(e:Ed):oK ⟨e.tx,e.ty,e.d.left⟩=oK e∧oK ⟨e.tx,e.ty,e.d.left.left⟩=qf e:=by
 obtain⟨x,y,d⟩:=e
 unfold qf oK Ed.tx Ed.ty
 cases d<;>simp only[Dir.left,Dir.right,Dir.dx,Dir.dy,Prod.mk.injEq]<;>omega
theorem TQ(h:TP I W){e:Ed}(he:tY I e):wd W (oK (sc I e)).1 (oK (sc I e)).2=wd W (oK e).1 (oK e).2:=by
 obtain⟨s1,s2⟩:=Q5 e
 obtain⟨a1,a2⟩:=Ed.xu I e
 rcases xO he with⟨h1,h2⟩|⟨h1,h2,h3⟩|⟨h1,h2,h3⟩
 ·rw[h2,s1]
 ·have g:=Av h (g:=⟨e.tx,e.ty,e.d.left⟩) (by
   show lq I e.tx e.ty e.d.left=lq I e.tx e.ty e.d.left.right
   rw[Dir.lr,h1,a1];exact he.1)
  have er:qf ⟨e.tx,e.ty,e.d.left⟩=oK ⟨e.tx,e.ty,e.d⟩:=by unfold qf;rw[Dir.lr]
  rw[s1,er] at g
  rw[h3];exact g.symm
 ·have g:=Av h (g:=⟨e.tx,e.ty,e.d.left⟩) (by
   show lq I e.tx e.ty e.d.left=lq I e.tx e.ty e.d.left.right
   rw[Dir.lr,h1,a1];exact he.1)
  have er:qf ⟨e.tx,e.ty,e.d.left⟩=oK ⟨e.tx,e.ty,e.d⟩:=by unfold qf;rw[Dir.lr]
  rw[s1,er] at g
  have g2:=Av h (g:=⟨e.tx,e.ty,e.d⟩) (by
   show lq I e.tx e.ty e.d=lq I e.tx e.ty e.d.right
   rw[h1,h2])
  have er2:qf ⟨e.tx,e.ty,e.d⟩=oK ⟨e.tx,e.ty,e.d.right⟩:=rfl
  rw[er2] at g2
  rw[h3,g,g2]
theorem QJ(h:TP I W){e:Ed}(he:tY I e):wd W (qf (sc I e)).1 (qf (sc I e)).2=wd W (qf e).1 (qf e).2:=by
 obtain⟨s1,s2⟩:=Q5 e
 obtain⟨a1,a2⟩:=Ed.xu I e
 have er1:qf ⟨e.tx,e.ty,e.d.right⟩=qf e:=by
  rw[←s2]
  show oK ⟨e.tx,e.ty,e.d.right.right⟩=_
  rw[Dir.rr]
 have er2:qf ⟨e.tx,e.ty,e.d⟩=oK ⟨e.tx,e.ty,e.d.right⟩:=rfl
 have er3:qf ⟨e.tx,e.ty,e.d.left⟩=oK ⟨e.tx,e.ty,e.d⟩:=by unfold qf;rw[Dir.lr]
 have hR:lq I e.tx e.ty e.d.right.right=false:=by rw[Dir.rr,a2];exact he.2
 rcases xO he with⟨h1,h2⟩|⟨h1,h2,h3⟩|⟨h1,h2,h3⟩
 ·rw [h2,er3]
  rcases bc (b:=lq I e.tx e.ty e.d.right) with hA|hA
  ·have g1:=Av h (g:=⟨e.tx,e.ty,e.d.right⟩) (by
    show lq I e.tx e.ty e.d.right=lq I e.tx e.ty e.d.right.right
    rw[hA,hR])
   have g2:=Av h (g:=⟨e.tx,e.ty,e.d⟩) (by
    show lq I e.tx e.ty e.d=lq I e.tx e.ty e.d.right
    rw[h1,hA])
   rw[er1] at g1
   rw[er2] at g2
   rw[g2,g1]
  · -- another border passes here
   have g1:=ED h.flow ⟨e.tx,e.ty,e.d.right⟩
   have g2:=ED h.flow ⟨e.tx,e.ty,e.d⟩
   rw[er1] at g1
   rw[er2] at g2
   have b1:tY I ⟨e.tx,e.ty,e.d.right⟩:=⟨hA,hR⟩
   have c1:=PX.xu I e.tx e.ty e.d.right
   have c2:=PX.xu I e.tx e.ty e.d
   have hin:tY I ⟨Ed.tx ⟨e.tx,e.ty,e.d⟩,Ed.ty ⟨e.tx,e.ty,e.d⟩,e.d.left.left⟩:=by
    refine⟨?_,?_⟩
    ·show lq I (e.tx+e.d.dx) (e.ty+e.d.dy) e.d.left.left=true
     rw[c2.2];exact hA
    ·show lq I (e.tx+e.d.dx) (e.ty+e.d.dy) e.d.left.left.right=false
     rw[Dir.lr,c2.1];exact h1
   have hto:Ed.tx ⟨Ed.tx ⟨e.tx,e.ty,e.d⟩,Ed.ty ⟨e.tx,e.ty,e.d⟩,e.d.left.left⟩=e.tx∧Ed.ty ⟨Ed.tx ⟨e.tx,e.ty,e.d⟩,Ed.ty ⟨e.tx,e.ty,e.d⟩,e.d.left.left⟩=e.ty:=by
    generalize e.tx=u
    generalize e.ty=v
    unfold Ed.tx Ed.ty
    cases e.d<;>simp only[Dir.left,Dir.dx,Dir.dy]<;>omega
   have hsc:sc I ⟨Ed.tx ⟨e.tx,e.ty,e.d⟩,Ed.ty ⟨e.tx,e.ty,e.d⟩,e.d.left.left⟩=⟨e.tx,e.ty,e.d.right⟩:=by
    rw[Wi (by rw[hto.1,hto.2];show lq I e.tx e.ty e.d.left.left=false;rw[←Dir.rr];exact hR),hto.1,hto.2]
    show(⟨e.tx,e.ty,e.d.left.left.left⟩:Ed)=_
    rw[Dir.Zm]
   have hind:vG W ⟨e.tx,e.ty,e.d.right⟩=vG W ⟨Ed.tx ⟨e.tx,e.ty,e.d⟩,Ed.ty ⟨e.tx,e.ty,e.d⟩,e.d.left.left⟩:=by
    have hcl:=h.cl _ hin
    rw[hsc] at hcl
    by_cases hm:(⟨e.tx,e.ty,e.d.right⟩:Ed)∈W
    ·rw[JJ h.nd hm,JJ h.nd (hcl.2 hm)]
    ·rw[rf hm,rf fun hh=>hm (hcl.1 hh)]
   have z1:vG W ⟨Ed.tx ⟨e.tx,e.ty,e.d.right⟩,Ed.ty ⟨e.tx,e.ty,e.d.right⟩,e.d.right.left.left⟩=0:=AQ h fun hb=>by
    have hb1:lq I (e.tx+e.d.right.dx) (e.ty+e.d.right.dy) e.d.right.left.left=true:=hb.1
    rw[c1.2,hR] at hb1
    cases hb1
   have z2:vG W ⟨e.tx,e.ty,e.d⟩=0:=AQ h fun hb=>by
    have hb1:lq I e.tx e.ty e.d=true:=hb.1
    rw[h1] at hb1;cases hb1
   simp only at g1 g2
   rw[z1] at g1
   rw[z2,←hind] at g2
   omega
 ·have g:=Av h (g:=⟨e.tx,e.ty,e.d.right⟩) (by
   show lq I e.tx e.ty e.d.right=lq I e.tx e.ty e.d.right.right
   rw[h2,hR])
  rw[er1] at g
  rw[h3,er2,g]
 ·rw[h3,er1]
end
end Go.Proofs.YtblmajfbibbiaaaGreatDoor.PX
namespace Go.Proofs.YtblmajfbibbiaaaGreatDoor.PX
section
variable {I:Sq}
structure TI (I:Sq) (W:List Ed):Prop where
 cyc:TP I W
 one:∃e n,tY I e∧DY I e n∧W=walk I n e
theorem SL{e:Ed}{n:Nat}(he:tY I e)(h:DY I e n):TI I (walk I n e):=⟨Sk he h,e,n,he,h,rfl⟩
theorem beside{W V:List Ed}(hW:TP I W)(hV:TI I V){f g:Ed}(hf:f∈V)(hg:g∈V):wd W (oK f).1 (oK f).2=wd W (oK g).1 (oK g).2∧wd W (qf f).1 (qf f).2=wd W (qf g).1 (qf g).2:=by
 obtain⟨e,n,he,hp,rfl⟩:=hV.one
 have key:∀k,wd W (oK (it I k e)).1 (oK (it I k e)).2=wd W (oK e).1 (oK e).2∧wd W (qf (it I k e)).1 (qf (it I k e)).2=wd W (qf e).1 (qf e).2:=by
  intro k
  induction k with
  |zero=>exact⟨rfl,rfl⟩
  |succ k ih=>
   have hb:=rE he k
   rw[uz,TQ hW hb,QJ hW hb]
   exact ih
 obtain⟨i,_,rfl⟩:=kN.1 hf
 obtain⟨j,_,rfl⟩:=kN.1 hg
 exact⟨(key i).1.trans (key j).1.symm,(key i).2.trans (key j).2.symm⟩
theorem KZ{W:List Ed}(hW:TP I W){f:Ed}(hf:tY I f):wd W (oK f).1 (oK f).2=wd W (qf f).1 (qf f).2+vG W f:=by
 have h1:=ED hW.flow f
 have z:vG W ⟨f.tx,f.ty,f.d.left.left⟩=0:=AQ hW fun hb=>by
  have hb1:lq I f.tx f.ty f.d.left.left=true:=hb.1
  rw[(Ed.xu I f).2,hf.2] at hb1
  cases hb1
 omega
theorem Uj{W:List Ed}(hW:TP I W){f:Ed}(hf:f∈W):wd W (oK f).1 (oK f).2=wd W (qf f).1 (qf f).2+1:=by
 rw[KZ hW (hW.bor f hf),JJ hW.nd hf]
theorem EQ(Ws:List (List Ed))(x y:Int):(∀W∈Ws,wd W x y=0)∨∃V∈Ws,∃f∈V,∃z,(oK f=(z,y)∨qf f=(z,y))∧∀W∈Ws,wd W z y=wd W x y:=by
 obtain⟨lo,hlo⟩:∃lo:Int,∀W∈Ws,∀e∈W,lo<e.x:=by
  obtain⟨lo,h⟩:=Du Ws.flatten
  exact⟨lo,fun W hW e he=>h e (List.mem_flatten.2 ⟨W,hW,he⟩)⟩
 have key:∀(n:Nat) (x:Int),x≤lo+n→(∀W∈Ws,wd W x y=0)∨∃V∈Ws,∃f∈V,∃z,(oK f=(z,y)∨qf f=(z,y))∧∀W∈Ws,wd W z y=wd W x y:=by
  intro n
  induction n with
  |zero=>intro x hx;exact .inl fun W hW=>Eb (hlo W hW) (by omega)
  | succ n ih=>
   intro x hx
   by_cases hm:∃V∈Ws,(⟨x,y+1,.S⟩:Ed)∈V∨(⟨x,y,.N⟩:Ed)∈V
   ·right
    obtain⟨V,hV,hm|hm⟩:=hm
    ·refine⟨V,hV,_,hm,x,.inl ?_,fun _ _=>rfl⟩
     show(x,y+1-1)=(x,y)
     rw[show y+1-1=y by omega]
    ·exact⟨V,hV,_,hm,x,.inr rfl,fun _ _=>rfl⟩
   ·have hstep:∀W∈Ws,wd W (x-1) y=wd W x y:=fun W hW=>by
     have h1:=zy W x y
     rw[rf fun hh=>hm ⟨W,hW,.inl hh⟩,rf fun hh=>hm ⟨W,hW,.inr hh⟩] at h1
     omega
    rcases ih (x-1) (by omega) with h|⟨V,hV,f,hf,z,h1,h2⟩
    ·exact .inl fun W hW=>by rw[←hstep W hW];exact h W hW
    ·exact .inr ⟨V,hV,f,hf,z,h1,fun W hW=>(h2 W hW).trans (hstep W hW)⟩
 rcases Int.lt_or_le lo x with h|h
 ·exact key (x-lo).toNat x (by omega)
 ·exact key 0 x (by omega)
theorem yz{W:List Ed}(hW:TI I W){f:Ed}(hf:f∈W):(wd W (oK f).1 (oK f).2=1∧wd W (qf f).1 (qf f).2=0)∨(wd W (oK f).1 (oK f).2=0∧wd W (qf f).1 (qf f).2= -1):=by
 have h1:=Uj hW.cyc hf
 obtain⟨lo,hlo⟩:=Du W
 suffices h:wd W (oK f).1 (oK f).2=0∨wd W (qf f).1 (qf f).2=0 by omega
 have hne:∃x y,wd W x y≠0:=by
  rcases Int.lt_trichotomy (wd W (oK f).1 (oK f).2) 0 with h|h|h
  ·exact⟨(oK f).1,(oK f).2,by omega⟩
  ·exact⟨(qf f).1,(qf f).2,by omega⟩
  ·exact⟨(oK f).1,(oK f).2,by omega⟩
 obtain⟨x,y,hxy⟩:=hne
 have key:∀(n:Nat) (x:Int),x≤lo+n→wd W x y≠0→∃z,wd W z y≠0∧wd W (z-1) y=0:=by
  intro n
  induction n with
  |zero=>intro x hx h;exact absurd (Eb hlo (by omega)) h
  |succ n ih=>
   intro x hx h
   by_cases h0:wd W (x-1) y=0
   ·exact⟨x,h,h0⟩
   ·exact ih (x-1) (by omega) h0
 obtain⟨z,z1,z2⟩:=key (x-lo).toNat x (by omega) hxy
 have h2:=zy W z y
 by_cases hS:(⟨z,y+1,.S⟩:Ed)∈W
 ·have:=beside hW.cyc hW hf hS
  right
  rw[this.2]
  show wd W (z-1) (y+1-1)=0
  rw[show y+1-1=y by omega];exact z2
 ·by_cases hN:(⟨z,y,.N⟩:Ed)∈W
  ·have:=beside hW.cyc hW hf hN
   left
   rw[this.1];exact z2
  ·rw[rf hS,rf hN] at h2
   omega
end
end Go.Proofs.YtblmajfbibbiaaaGreatDoor.PX
namespace Go.Proofs.YtblmajfbibbiaaaGreatDoor.PX
section
variable {I:Sq}
theorem Qm(Ws:List (List Ed)){x y:Int}(h:∃W∈Ws,wd W x y≠0):∃V∈Ws,∃f∈V,∃z,(oK f=(z,y)∨qf f=(z,y))∧∀W∈Ws,wd W z y=0:=by
 obtain⟨lo,hlo⟩:∃lo:Int,∀W∈Ws,∀e∈W,lo<e.x:=by
  obtain⟨lo,h⟩:=Du Ws.flatten
  exact⟨lo,fun W hW e he=>h e (List.mem_flatten.2 ⟨W,hW,he⟩)⟩
 have key:∀(n:Nat) (x:Int),x≤lo+n→(∃W∈Ws,wd W x y≠0)→∃V∈Ws,∃f∈V,∃z,(oK f=(z,y)∨qf f=(z,y))∧∀W∈Ws,wd W z y=0:=by
  intro n
  induction n with
  |zero=>
   rintro x hx ⟨W,hW,h⟩
   exact absurd (Eb (hlo W hW) (by omega)) h
  | succ n ih=>
   rintro x hx ⟨W,hW,h⟩
   by_cases h0:∃U∈Ws,wd U (x-1) y≠0
   ·exact ih (x-1) (by omega) h0
   ·have hz:∀U∈Ws,wd U (x-1) y=0:=fun U hU=>by
     by_cases hh:wd U (x-1) y=0
     ·exact hh
     ·exact absurd ⟨U,hU,hh⟩ h0
    have h1:=zy W x y
    have h2:=hz W hW
    by_cases hS:(⟨x,y+1,.S⟩:Ed)∈W
    ·refine⟨W,hW,_,hS,x-1,.inr ?_,hz⟩
     show(x-1,y+1-1)=(x-1,y)
     rw[show y+1-1=y by omega]
    ·by_cases hN:(⟨x,y,.N⟩:Ed)∈W
     ·exact⟨W,hW,_,hN,x-1,.inl rfl,hz⟩
     ·rw[rf hS,rf hN] at h1
      omega
 obtain⟨W,hW,hne⟩:=h
 rcases Int.lt_or_le lo x with h|h
 ·exact key (x-lo).toNat x (by omega) ⟨W,hW,hne⟩
 ·exact key 0 x (by omega) ⟨W,hW,hne⟩
def Zy(W:List Ed)(s:Int):Prop:=∀f∈W,wd W (oK f).1 (oK f).2+wd W (qf f).1 (qf f).2=s
theorem FJ{W:List Ed}(hW:TI I W):∃s,(s=1∨s= -1)∧Zy W s∧∀x y,wd W x y=0∨wd W x y=s:=by
 obtain⟨e,n,he,hp,hw⟩:=hW.one
 have hem:e∈W:=by
  rw[hw]
  exact kN.2 ⟨0,hp.1,rfl⟩
 have h2:=yz hW hem
 refine⟨wd W (oK e).1 (oK e).2+wd W (qf e).1 (qf e).2,by omega,fun f hf=>?_,fun x y=>?_⟩
 ·obtain⟨b1,b2⟩:=beside hW.cyc hW hf hem
  rw[b1,b2]
 ·rcases EQ [W] x y with h|⟨V,hV,f,hf,z,h3,h4⟩
  ·exact .inl (h W (by simp))
  ·have:V=W:=by simpa using hV
   subst this
   have h5:=h4 V (by simp)
   obtain⟨b1,b2⟩:=beside hW.cyc hW hf hem
   rcases h3 with h3|h3
   ·rw[h3] at b1
    have b1:wd V z y=wd V (oK e).1 (oK e).2:=b1
    omega
   ·rw[h3] at b2
    have b2:wd V z y=wd V (qf e).1 (qf e).2:=b2
    omega
theorem BK{W V:List Ed}(hW:TP I W)(hV:TI I V)(hd:∀f∈V,f∉W):∃c,∀f∈V,wd W (oK f).1 (oK f).2=c∧wd W (qf f).1 (qf f).2=c:=by
 obtain⟨e,n,he,hp,hw⟩:=hV.one
 have hem:e∈V:=by
  rw[hw]
  exact kN.2 ⟨0,hp.1,rfl⟩
 refine⟨wd W (oK e).1 (oK e).2,fun f hf=>?_⟩
 obtain⟨b1,b2⟩:=beside hW hV hf hem
 have h1:=KZ hW (hV.cyc.bor e hem)
 rw[rf (hd e hem)] at h1
 exact⟨b1,by rw[b2];omega⟩
theorem uH{W:List Ed}{c x y:Int}{f:Ed}(h:wd W (oK f).1 (oK f).2=c∧wd W (qf f).1 (qf f).2=c)(hs:oK f=(x,y)∨qf f=(x,y)):wd W x y=c:=by
 rcases hs with hs|hs
 ·rw[hs] at h;exact h.1
 ·rw[hs] at h;exact h.2
theorem XZ{W V:List Ed}(hW:TI I W)(hV:TI I V)(hd:∀f∈V,f∉W):
  (∀x y,¬(wd W x y≠0∧wd V x y≠0))∨((∀x y,wd V x y≠0→wd W x y≠0)∧∀f∈V,wd W (oK f).1 (oK f).2≠0∧wd W (qf f).1 (qf f).2≠0)∨((∀x y,wd W x y≠0→wd V x y≠0)∧∀f∈W,wd V (oK f).1 (oK f).2≠0∧wd V (qf f).1 (qf f).2≠0):=by
 obtain⟨a,ha⟩:=BK hW.cyc hV hd
 obtain⟨b,hb⟩:=BK hV.cyc hW fun f hf hh=>hd f hh hf
 by_cases ha0:a=0
 ·by_cases hb0:b=0
  ·left
   rintro x y ⟨h1,h2⟩
   rcases EQ [W,V] x y with h|⟨U,hU,f,hf,z,h3,h4⟩
   ·exact h1 (h W (by simp))
   ·have e1:=h4 W (by simp)
    have e2:=h4 V (by simp)
    simp only[List.mem_cons,List.not_mem_nil,or_false] at hU
    rcases hU with rfl|rfl
    ·have:=uH (hb f hf) h3
     omega
    ·have:=uH (ha f hf) h3
     omega
  ·right;right
   refine⟨fun x y h1 h2=>?_,fun f hf=>by rw[(hb f hf).1,(hb f hf).2];exact⟨hb0,hb0⟩⟩
   rcases EQ [W,V] x y with h|⟨U,hU,f,hf,z,h3,h4⟩
   ·exact h1 (h W (by simp))
   ·have e1:=h4 W (by simp)
    have e2:=h4 V (by simp)
    simp only[List.mem_cons,List.not_mem_nil,or_false] at hU
    rcases hU with rfl|rfl
    ·have:=uH (hb f hf) h3
     omega
    ·have:=uH (ha f hf) h3
     omega
 ·by_cases hb0:b=0
  ·right;left
   refine⟨fun x y h1 h2=>?_,fun f hf=>by rw[(ha f hf).1,(ha f hf).2];exact⟨ha0,ha0⟩⟩
   rcases EQ [W,V] x y with h|⟨U,hU,f,hf,z,h3,h4⟩
   ·exact h1 (h V (by simp))
   ·have e1:=h4 W (by simp)
    have e2:=h4 V (by simp)
    simp only[List.mem_cons,List.not_mem_nil,or_false] at hU
    rcases hU with rfl|rfl
    ·have:=uH (hb f hf) h3
     omega
    ·have:=uH (ha f hf) h3
     omega
  · -- not both: the first of them that is met from far left
   exfalso
   obtain⟨e,n,he,hp,hw⟩:=hV.one
   have hem:e∈V:=by
    rw[hw]
    exact kN.2 ⟨0,hp.1,rfl⟩
   obtain⟨U,hU,f,hf,z,h3,h4⟩:=Qm [W,V] (x:=(oK e).1) (y:=(oK e).2) ⟨W,by simp,by rw[(ha e hem).1];exact ha0⟩
   have e1:=h4 W (by simp)
   have e2:=h4 V (by simp)
   simp only[List.mem_cons,List.not_mem_nil,or_false] at hU
   rcases hU with rfl|rfl
   ·have:=uH (hb f hf) h3
    omega
   ·have:=uH (ha f hf) h3
    omega
end
end Go.Proofs.YtblmajfbibbiaaaGreatDoor.PX
namespace Go.Proofs.YtblmajfbibbiaaaGreatDoor.PX
section
variable {I:Sq}
def uY(g:List Ed→Int):List (List Ed)→Int
 |[]=>0
 |W::Ws=>g W+uY g Ws
theorem xN{g:List Ed→Int}:∀{Ws:List (List Ed)},(∀W∈Ws,g W=0)→uY g Ws=0
 |[],_=>rfl
 |W::Ws,h=>by
  have h1:=h W (by simp)
  have h2:=xN (g:=g) (Ws:=Ws) fun V hV=>h V (by simp[hV])
  simp only[uY,h1,h2];rfl
theorem yC{g k:List Ed→Int}:∀{Ws:List (List Ed)},(∀W∈Ws,g W=k W)→uY g Ws=uY k Ws
 |[],_=>rfl
 |W::Ws,h=>by
  have h1:=h W (by simp)
  have h2:=yC (g:=g) (k:=k) (Ws:=Ws) fun V hV=>h V (by simp[hV])
  simp only[uY,h1,h2]
theorem Fu(g k:List Ed→Int):∀Ws:List (List Ed),uY (fun W=>g W-k W) Ws=uY g Ws-uY k Ws
 |[]=>rfl
 |W::Ws=>by
  have:=Fu g k Ws
  simp only[uY,this];omega
theorem Jt{α:Type}{R:α→α→Prop}:∀{l:List α},l.Pairwise R→∀a∈l,∀b∈l,a=b∨R a b∨R b a
 | x::l,h,a,ha,b,hb=>by
  obtain⟨h1,h2⟩:=List.pairwise_cons.1 h
  rcases List.mem_cons.1 ha with ea|ea
  ·rcases List.mem_cons.1 hb with eb|eb
   ·left;rw[ea,eb]
   ·right;left;rw[ea];exact h1 b eb
  ·rcases List.mem_cons.1 hb with eb|eb
   ·right;right;rw[eb];exact h1 a ea
   ·exact Jt h2 a ea b eb
structure Full (I:Sq) (Ws:List (List Ed)):Prop where
 bd:∀W∈Ws,TI I W
 dis:Ws.Pairwise fun W V=>∀f∈W,f∉V
 all:∀e,tY I e→∃W∈Ws,e∈W
theorem Full.vG{Ws:List (List Ed)}(h:Full I Ws)(e:Ed):(tY I e→uY (fun W=>PX.vG W e) Ws=1)∧(¬tY I e→uY (fun W=>PX.vG W e) Ws=0):=by
 refine⟨fun he=>?_,fun he=>xN fun W hW=>AQ (h.bd W hW).cyc he⟩
 have key:∀Ws:List (List Ed),(∀W∈Ws,W.Nodup)→Ws.Pairwise (fun W V=>∀f∈W,f∉V)→(∃W∈Ws,e∈W)→uY (fun W=>PX.vG W e) Ws=1:=by
  intro Ws
  induction Ws with
  |nil=>rintro _ _ ⟨W,hW,_⟩;cases hW
  | cons V Ws ih=>
   rintro hn hd ⟨W,hW,heW⟩
   obtain⟨d1,d2⟩:=List.pairwise_cons.1 hd
   by_cases hV:e∈V
   ·have:uY (fun W=>PX.vG W e) Ws=0:=xN fun U hU=>rf (d1 U hU e hV)
    simp only[uY,this,JJ (hn V (by simp)) hV];rfl
   ·have hm:∃W∈Ws,e∈W:=by
     rcases List.mem_cons.1 hW with rfl|hW
     ·exact absurd heW hV
     ·exact⟨W,hW,heW⟩
    have:=ih (fun U hU=>hn U (by simp[hU])) d2 hm
    simp only[uY,this,rf hV];rfl
 exact key Ws (fun W hW=>(h.bd W hW).cyc.nd) h.dis (h.all e he)
theorem Full.tot{Ws:List (List Ed)}(h:Full I Ws)(hfin:∀y,∃lo,∀x,x≤lo→I x y=false)(x y:Int):uY (fun W=>wd W x y) Ws=if I x y=true then 1 else 0:=by
 obtain⟨lo1,hlo1⟩:∃lo:Int,∀W∈Ws,∀e∈W,lo<e.x:=by
  obtain⟨lo,h⟩:=Du Ws.flatten
  exact⟨lo,fun W hW e he=>h e (List.mem_flatten.2 ⟨W,hW,he⟩)⟩
 obtain⟨lo2,hlo2⟩:=hfin y
 have base:∀x,x≤min lo1 lo2→uY (fun W=>wd W x y) Ws=if I x y=true then 1 else 0:=fun x hx=>by
  rw[hlo2 x (by omega),if_neg (by simp)]
  exact xN fun W hW=>Eb (hlo1 W hW) (by omega)
 have key:∀n:Nat,uY (fun W=>wd W (min lo1 lo2+n) y) Ws=if I (min lo1 lo2+n) y=true then 1 else 0:=by
  intro n
  induction n with
  |zero=>exact base _ (by omega)
  | succ n ih=>
   rw[show min lo1 lo2+((n+1:Nat):Int)=min lo1 lo2+(n:Int)+1 by omega]
   generalize min lo1 lo2+(n:Int)=z at ih ⊢
   have hs:uY (fun W=>wd W (z+1) y-wd W z y) Ws=uY (fun W=>PX.vG W ⟨z+1,y+1,.S⟩-PX.vG W ⟨z+1,y,.N⟩) Ws:=yC fun W _=>by
    have:=zy W (z+1) y
    rw[show z+1-1=z by omega] at this
    exact this
   rw[Fu,Fu,ih] at hs
   obtain⟨s1,s2⟩:=h.vG ⟨z+1,y+1,.S⟩
   obtain⟨n1,n2⟩:=h.vG ⟨z+1,y,.N⟩
   have bS:tY I ⟨z+1,y+1,.S⟩↔I (z+1) y=true∧I z y=false:=by
    unfold tY
    simp only[lq,Dir.right]
    rw[show y+1-1=y by omega,show z+1-1=z by omega]
   have bN:tY I ⟨z+1,y,.N⟩↔I z y=true∧I (z+1) y=false:=by
    unfold tY
    simp only[lq,Dir.right]
    rw[show z+1-1=z by omega]
   rw[bS] at s1 s2
   rw[bN] at n1 n2
   cases hz:I z y<;>cases hz1:I (z+1) y<;>simp only[hz,hz1,Bool.false_eq_true,reduceCtorEq,and_self,and_true,true_and,false_and,and_false,if_true,if_false,not_true,not_false_iff,forall_const,false_implies,true_implies] at s1 s2 n1 n2 hs ⊢ <;>omega
 rcases Int.lt_or_le (min lo1 lo2) x with hx|hx
 ·have:=key (x-min lo1 lo2).toNat
  rw[show min lo1 lo2+((x-min lo1 lo2).toNat:Int)=x by omega] at this
  exact this
 ·exact base x hx
theorem Full.inner{Ws:List (List Ed)}(h:Full I Ws)(hfin:∀y,∃lo,∀x,x≤lo→I x y=false){W:List Ed}(hW:W∈Ws){s x y:Int}(hs:Zy W s)(hxy:wd W x y≠0)(hin:∀V∈Ws,wd V x y≠0→V=W∨∀f∈W,wd V (oK f).1 (oK f).2≠0∧wd V (qf f).1 (qf f).2≠0):(I x y=true↔s=1):=by
 have hB:=h.bd W hW
 obtain⟨e,n,he,hp,hw⟩:=hB.one
 have hem:e∈W:=by
  rw[hw]
  exact kN.2 ⟨0,hp.1,rfl⟩
 have hse:=hs e hem
 obtain⟨s',h1,h2,h3⟩:=FJ hB
 have hss:s'=s:=by rw[←h2 e hem,hse]
 subst hss
 have htv:=yz hB hem
 have hIL:I (oK e).1 (oK e).2=true:=by rw[←RD I e.x e.y e.d];exact he.1
 have hIR:I (qf e).1 (qf e).2=false:=by
  unfold qf
  rw[←RD I e.x e.y e.d.right];exact he.2
 have hoth:∀V∈Ws,V≠W→wd V (oK e).1 (oK e).2=wd V x y∧wd V (qf e).1 (qf e).2=wd V x y:=fun V hV hne=>by
  have hVB:=h.bd V hV
  have hd:∀f∈W,f∉V:=fun f hf hfV=>by
   have:=Jt h.dis V hV W hW
   rcases this with hh|hh|hh
   ·exact hne hh
   ·exact hh f hfV hf
   ·exact hh f hf hfV
  obtain⟨c,hc⟩:=BK hVB.cyc hB hd
  obtain⟨sv,v1,v2,v3⟩:=FJ hVB
  rw[(hc e hem).1,(hc e hem).2]
  suffices hh:c=wd V x y from⟨hh,hh⟩
  by_cases h0:wd V x y=0
  ·rw[h0]
   by_cases hc0:c=0
   ·exact hc0
   ·exfalso
    rcases XZ hVB hB hd with hn|⟨hn,_⟩|⟨hn,_⟩
    ·rcases htv with⟨t1,t2⟩|⟨t1,t2⟩
     ·exact hn _ _ ⟨by rw[(hc e hem).1];exact hc0,by rw[t1];decide⟩
     ·exact hn _ _ ⟨by rw[(hc e hem).2];exact hc0,by rw[t2];decide⟩
    ·exact hn x y hxy h0
    ·rcases htv with⟨t1,t2⟩|⟨t1,t2⟩
     ·exact hn _ _ (by rw[(hc e hem).2];exact hc0) t2
     ·exact hn _ _ (by rw[(hc e hem).1];exact hc0) t1
  ·rcases hin V hV h0 with hh|hh
   ·exact absurd hh hne
   ·have g1:=(hh e hem).1
    have g2:=v3 (oK e).1 (oK e).2
    have g3:=v3 x y
    rw[(hc e hem).1] at g1 g2
    omega
 have hown:=h3 x y
 have hT:=h.tot hfin x y
 rcases htv with⟨t1,t2⟩|⟨t1,t2⟩
 · -- its squares lie within
  have hs1:s'=1:=by omega
  have hTL:=h.tot hfin (oK e).1 (oK e).2
  have:uY (fun V=>wd V x y) Ws=uY (fun V=>wd V (oK e).1 (oK e).2) Ws:=yC fun V hV=>by
   by_cases hVW:V=W
   ·subst hVW;omega
   ·exact(hoth V hV hVW).1.symm
  rw[this,hTL,hIL,if_pos rfl] at hT
  constructor
  ·intro _;exact hs1
  ·intro _
   cases hi:I x y with
   |true=>rfl
   |false=>rw[hi] at hT;simp at hT
 ·have hs1:s'= -1:=by omega
  have hTR:=h.tot hfin (qf e).1 (qf e).2
  have:uY (fun V=>wd V x y) Ws=uY (fun V=>wd V (qf e).1 (qf e).2) Ws:=yC fun V hV=>by
   by_cases hVW:V=W
   ·subst hVW;omega
   ·exact(hoth V hV hVW).2.symm
  rw[this,hTR,hIR,if_neg (by simp)] at hT
  constructor
  ·intro hi;rw[hi] at hT;simp at hT
  ·intro hh;omega
end
end Go.Proofs.YtblmajfbibbiaaaGreatDoor.PX
namespace Go.Proofs.YtblmajfbibbiaaaGreatDoor.PX
section
variable {I:Sq}
theorem yU.full{B:List Ed}(hB:wD I B){ls:List (List (Int×Int))}(h:yU I ls):∃ws,ws.length=ls.length∧Full I ws∧∀(i:Nat) (l:List (Int×Int)) (w:List Ed),ls[i]?=some l→ws[i]?=some w→∃e n,A9 I e∧DY I e n∧l=A7 I n e∧w=walk I n e∧Xj I e n l:=by
 obtain⟨ws,w1,w2,w3,w4,w5⟩:=yU.steps hB h.is h.ord
 rw[List.Nodup,List.pairwise_flatten] at w2
 refine⟨ws,w1,⟨fun W hW=>?_,w2.2.imp fun{W V} hd f hf hfV=>hd f hf f hfV rfl,fun f hf=>?_⟩,w3⟩
 ·obtain⟨i,hi⟩:=List.mem_iff_getElem?.1 hW
  have hil:i<ls.length:=by have:=(List.getElem?_eq_some_iff.1 hi).1;omega
  obtain⟨e,n,he,hn,_,rfl,_⟩:=w3 i _ _ (List.getElem?_eq_getElem hil) hi
  exact SL he.1 hn
 ·obtain⟨n,hn⟩:=per hB hf
  obtain⟨j,hj,hl⟩:=OV hf hn
  obtain⟨l,hl1,m,hm,hl2⟩:=h.has _ hl
  have:=w5 l hl1 _ m hl hm hl2 f (kN.2 ⟨(n-j)%n,by
   have:=(hn.shift hf j).uniq hm
   rw[←this];exact Nat.mod_lt _ hn.1,by
   rw[←(hn.shift hf j).mod,←lh,show n-j+j=n from by omega,hn.2.1]⟩)
  obtain⟨W,hW,hfW⟩:=List.mem_flatten.1 this
  exact⟨W,hW,hfW⟩
end
theorem VB(x y:Int):∀W:List Ed,∃k:Int,(cl x (W.filterMap (vx y)):Int)=wd W x y+2*k
 |[]=>⟨0,rfl⟩
 | e::W=>by
  obtain⟨k,hk⟩:=VB x y W
  have hw:wd (e::W) x y=sg x y e+wd W x y:=rfl
  rw[hw]
  obtain⟨a,b,d⟩:=e
  have one:∀z:Int,∀l:List Int,(cl x (z::l):Int)=(if z≤x then 1 else 0)+(cl x l:Int):=fun z l=>by
   unfold cl
   by_cases h:z≤x
   ·rw[List.filter_cons,if_pos (by simpa using h),if_pos h,List.length_cons];omega
   ·rw[List.filter_cons,if_neg (by simpa using h),if_neg h];omega
  cases d
  ·exact⟨k,by rw[List.filterMap_cons_none (by rfl),hk];show _=0+wd W x y+2*k;omega⟩
  ·by_cases hb:b=y
   ·rw[List.filterMap_cons_some (show vx y ⟨a,b,.N⟩=some a from if_pos hb),one,hk]
    by_cases ha:a≤x
    ·exact⟨k+1,by rw[if_pos ha];show _=(if b=y∧a≤x then -1 else 0)+wd W x y+2*(k+1);rw[if_pos ⟨hb,ha⟩];omega⟩
    ·exact⟨k,by rw[if_neg ha];show _=(if b=y∧a≤x then -1 else 0)+wd W x y+2*k;rw[if_neg (by omega)];omega⟩
   ·exact⟨k,by rw[List.filterMap_cons_none (show vx y ⟨a,b,.N⟩=none from if_neg hb),hk];show _=(if b=y∧a≤x then -1 else 0)+wd W x y+2*k;rw[if_neg (by omega)];omega⟩
  ·exact⟨k,by rw[List.filterMap_cons_none (by rfl),hk];show _=0+wd W x y+2*k;omega⟩
  ·by_cases hb:b=y+1
   ·rw[List.filterMap_cons_some (show vx y ⟨a,b,.S⟩=some a from if_pos hb),one,hk]
    by_cases ha:a≤x
    ·exact⟨k,by rw[if_pos ha];show _=(if b=y+1∧a≤x then 1 else 0)+wd W x y+2*k;rw[if_pos ⟨hb,ha⟩];omega⟩
    ·exact⟨k,by rw[if_neg ha];show _=(if b=y+1∧a≤x then 1 else 0)+wd W x y+2*k;rw[if_neg (by omega)];omega⟩
   ·exact⟨k,by rw[List.filterMap_cons_none (show vx y ⟨a,b,.S⟩=none from if_neg hb),hk];show _=(if b=y+1∧a≤x then 1 else 0)+wd W x y+2*k;rw[if_neg (by omega)];omega⟩
theorem Wo{I:Sq}{W:List Ed}(hW:TI I W)(x y:Int):cl x (W.filterMap (vx y))%2=1↔wd W x y≠0:=by
 obtain⟨s,s1,_,s3⟩:=FJ hW
 obtain⟨k,hk⟩:=VB x y W
 have:=s3 x y
 constructor
 ·intro h;omega
 ·intro h;omega
def nK(g:Int→Int)(lo:Int):Nat→Int
 |0=>0
 |n+1=>nK g lo n+g (lo+n)
theorem oL{g k:Int→Int}{lo:Int}:∀{n:Nat},(∀z,lo≤z→z<lo+n→g z=k z)→nK g lo n=nK k lo n
 |0,_=>rfl
 |n+1,h=>by
  have h1:=oL (g:=g) (k:=k) (lo:=lo) (n:=n) fun z a b=>h z a (by omega)
  have h2:=h (lo+n) (by omega) (by omega)
  simp only[nK,h1,h2]
theorem Kv(g k:Int→Int)(lo:Int):∀n:Nat,nK (fun z=>g z+k z) lo n=nK g lo n+nK k lo n
 |0=>rfl
 |n+1=>by
  have:=Kv g k lo n
  simp only[nK,this];omega
theorem qC(lo:Int):∀n:Nat,nK (fun _=>0) lo n=0
 |0=>rfl
 |n+1=>by
  have:=qC lo n
  simp only[nK,this];rfl
theorem Da(a lo:Int):∀n:Nat,lo≤a→a≤lo+n→nK (fun z=>if a≤z then 1 else 0) lo n=lo+n-a
 |0,h1,h2=>by simp only[nK];omega
 |n+1,h1,h2=>by
  simp only[nK]
  by_cases h:a≤lo+n
  ·rw[Da a lo n h1 h,if_pos h];omega
  ·rw[if_neg h,oL (k:=fun _=>0) fun z g1 g2=>if_neg (by omega),qC];omega
theorem Fv(a v lo:Int):∀n:Nat,lo≤a→a<lo+n→nK (fun z=>if a=z then v else 0) lo n=v
 |0,h1,h2=>by omega
 |n+1,h1,h2=>by
  simp only[nK]
  by_cases h:a=lo+n
  ·rw[if_pos h,oL (k:=fun _=>0) fun z g1 g2=>if_neg (by omega),qC];omega
  ·rw[if_neg h,Fv a v lo n h1 (by omega)];omega
theorem C9(F:Int→Ed→Int)(lo:Int)(n:Nat):∀W:List Ed,nK (fun z=>jK (F z) W) lo n=jK (fun e=>nK (fun z=>F z e) lo n) W
 |[]=>qC lo n
 |e::W=>by
  have:=C9 F lo n W
  have h2:=Kv (fun z=>F z e) (fun z=>jK (F z) W) lo n
  simp only[jK]
  rw[h2,this]
end Go.Proofs.YtblmajfbibbiaaaGreatDoor.PX
namespace Go.Proofs.YtblmajfbibbiaaaGreatDoor.PX
theorem BZ(c:Int)(g:Int→Int)(lo:Int):∀n:Nat,nK (fun z=>c*g z) lo n=c*nK g lo n
 |0=>by simp[nK]
 |n+1=>by
  have:=BZ c g lo n
  simp only[nK,this,Int.mul_add]
theorem Ca{g k:Int→Int}{lo:Int}:∀{n:Nat},(∀z,lo≤z→z<lo+n→g z≤k z)→nK g lo n≤nK k lo n
 |0,_=>Int.le_refl _
 |n+1,h=>by
  have h1:=Ca (g:=g) (k:=k) (lo:=lo) (n:=n) fun z a b=>h z a (by omega)
  have h2:=h (lo+n) (by omega) (by omega)
  simp only[nK];omega
theorem Jf{g k:Int→Int}{lo:Int}:∀{n:Nat},(∀z,lo≤z→z<lo+n→g z≤k z)→(∃z,lo≤z∧z<lo+n∧g z<k z)→nK g lo n<nK k lo n
 |0,_,⟨z,h1,h2,_⟩=>by omega
 | n+1,h,⟨z,h1,h2,h3⟩=>by
  have hl:=h (lo+n) (by omega) (by omega)
  simp only[nK]
  by_cases hz:z=lo+n
  ·subst hz
   have:=Ca (g:=g) (k:=k) (lo:=lo) (n:=n) fun z a b=>h z a (by omega)
   omega
  ·have:=Jf (g:=g) (k:=k) (lo:=lo) (n:=n) (fun z a b=>h z a (by omega)) ⟨z,h1,by omega,h3⟩
   omega
theorem Fq(c:Int)(f:Ed→Int):∀W:List Ed,jK (fun e=>c*f e) W=c*jK f W
 |[]=>by simp[jK]
 |e::W=>by
  have:=Fq c f W
  simp only[jK,this,Int.mul_add]
def TG(lo:Int)(n:Nat)(W:List Ed):Prop:=∀e∈W,(lo<e.x∧e.x<lo+n)∧(lo<e.y∧e.y<lo+n)
def ar(W:List Ed):Int:=jK (fun e=>e.x*e.d.dy) W
theorem Xc{lo:Int}{n:Nat}{e:Ed}(h:(lo<e.x∧e.x<lo+n)∧(lo<e.y∧e.y<lo+n)):nK (fun y=>nK (fun x=>sg x y e) lo n) lo n=e.x*e.d.dy+ -(lo+n)*e.d.dy:=by
 obtain⟨a,b,d⟩:=e
 obtain⟨⟨h1,h2⟩,h3,h4⟩:=h
 simp only at h1 h2 h3 h4
 have z0:nK (fun y=>nK (fun x=>(0:Int)) lo n) lo n=0:=by
  rw[oL (k:=fun _=>0) fun z _ _=>qC lo n,qC]
 cases d
 ·show nK (fun y=>nK (fun x=>(0:Int)) lo n) lo n=a*0+ -(lo+n)*0
  rw[z0];omega
 ·show nK (fun y=>nK (fun x=>if b=y∧a≤x then(-1:Int) else 0) lo n) lo n=a*1+ -(lo+n)*1
  rw[oL (k:=fun y=>if b=y then -(lo+n-a) else 0) fun y _ _=>by
   by_cases hb:b=y
   ·simp only[hb,true_and,if_true]
    rw[oL (k:=fun x=> -1*(if a≤x then 1 else 0)) fun x _ _=>by by_cases ha:a≤x<;>simp[ha],BZ,Da a lo n (by omega) (by omega)]
    omega
   ·simp only[hb,false_and,if_false]
    exact qC lo n,Fv b _ lo n (by omega) (by omega)]
  omega
 ·show nK (fun y=>nK (fun x=>(0:Int)) lo n) lo n=a*0+ -(lo+n)*0
  rw[z0];omega
 ·show nK (fun y=>nK (fun x=>if b=y+1∧a≤x then(1:Int) else 0) lo n) lo n=a* -1+ -(lo+n)* -1
  rw[oL (k:=fun y=>if b-1=y then lo+n-a else 0) fun y _ _=>by
   by_cases hb:b=y+1
   ·have hb2:b-1=y:=by omega
    simp only[hb,true_and]
    rw[if_pos (by omega),Da a lo n (by omega) (by omega)]
   ·have hb2:¬b-1=y:=by omega
    simp only[hb,false_and,if_false,if_neg hb2]
    exact qC lo n,Fv (b-1) _ lo n (by omega) (by omega)]
  omega
theorem Xb{W:List Ed}{lo:Int}{n:Nat}(hin:TG lo n W)(hc:jK (fun e=>e.d.dy) W=0):nK (fun y=>nK (fun x=>wd W x y) lo n) lo n=ar W:=by
 have e1:nK (fun y=>nK (fun x=>wd W x y) lo n) lo n=jK (fun e=>nK (fun y=>nK (fun x=>sg x y e) lo n) lo n) W:=by
  rw[←C9 (fun y e=>nK (fun x=>sg x y e) lo n) lo n W]
  exact oL fun y _ _=>C9 (fun x e=>sg x y e) lo n W
 rw[e1,sG (g:=fun e=>e.x*e.d.dy+ -(lo+n)*e.d.dy) fun e he=>Xc (hin e he),qO,Fq,hc]
 unfold ar
 omega
def cnt(W:List Ed)(lo:Int)(n:Nat):Int:=nK (fun y=>nK (fun x=>if wd W x y=0 then 0 else 1) lo n) lo n
section
variable {I:Sq}
theorem UK{W:List Ed}(hW:TI I W):jK (fun e=>e.d.dy) W=0:=by
 obtain⟨e,n,_,hp,rfl⟩:=hW.one
 rw[(E9 n e).2,hp.2.1];omega
theorem SX{W:List Ed}(hW:TI I W){s:Int}(hs:∀x y,wd W x y=0∨wd W x y=s){lo:Int}{n:Nat}(hin:TG lo n W):ar W=s*cnt W lo n:=by
 rw[←Xb hin (UK hW)]
 unfold cnt
 rw[←BZ]
 refine oL fun y _ _=>?_
 rw[←BZ]
 refine oL fun x _ _=>?_
 by_cases h:wd W x y=0
 ·rw[if_pos h,h];omega
 ·rw[if_neg h]
  have:=hs x y
  omega
theorem cnt_lt{W V:List Ed}{lo:Int}{n:Nat}(h:∀x y,wd V x y≠0→wd W x y≠0)(hs:∃x y,(lo≤x∧x<lo+n)∧(lo≤y∧y<lo+n)∧wd W x y≠0∧wd V x y=0):cnt V lo n<cnt W lo n:=by
 have hle:∀x y:Int,(if wd V x y=0 then(0:Int) else 1)≤if wd W x y=0 then 0 else 1:=fun x y=>by
  by_cases hv:wd V x y=0
  ·rw[if_pos hv];split<;>omega
  ·rw[if_neg hv,if_neg (h x y hv)];omega
 obtain⟨x,y,⟨x1,x2⟩,⟨y1,y2⟩,h1,h2⟩:=hs
 unfold cnt
 refine Jf (fun z _ _=>Ca fun u _ _=>hle u z) ⟨y,y1,y2,Jf (fun u _ _=>hle u y) ⟨x,x1,x2,?_⟩⟩
 rw[if_pos h2,if_neg h1];omega
end
end Go.Proofs.YtblmajfbibbiaaaGreatDoor.PX
namespace Go.Proofs.YtblmajfbibbiaaaGreatDoor.PX
def zY(s:(Int×Int)×(Int×Int)):Int:=s.1.1*s.2.2-s.2.1*s.1.2
def MB(l:List (Int×Int)):Int:=((Ip (l.headD (0,0)) l).map zY).sum
theorem zG(f:Ed→Int):∀W V:List Ed,jK f (W++V)=jK f W+jK f V
 |[],V=>by simp[jK]
 |e::W,V=>by
  have:=zG f W V
  simp only[List.cons_append,jK,this];omega
theorem HY(f:Ed→Int)(g:Sd→List Ed):∀sl:List Sd,jK f (sl.flatMap g)=(sl.map fun s=>jK f (g s)).sum
 |[]=>rfl
 |s::sl=>by
  have:=HY f g sl
  rw[List.flatMap_cons,zG,this,List.map_cons,List.sum_cons]
theorem PR(s:Sd):jK (fun e=>e.x*e.d.dy-e.y*e.d.dx) (unit s)=zY (s.1.p,(qR s.1 s.2).p):=by
 obtain⟨⟨x,y,d⟩,m⟩:=s
 unfold unit
 have key:∀m:Nat,jK (fun e=>e.x*e.d.dy-e.y*e.d.dx) ((List.range m).map (qR ⟨x,y,d⟩))=zY ((x,y),(x+m*d.dx,y+m*d.dy)):=by
  intro m
  induction m with
  |zero=>unfold zY;simp[jK]
  | succ m ih=>
   rw[List.range_succ,List.map_append,zG,ih]
   unfold zY
   simp only[List.map_cons,List.map_nil,jK,qR]
   cases d<;>simp only[Dir.dx,Dir.dy,Int.mul_zero,Int.mul_one,Int.add_zero,Int.sub_zero,Int.zero_add]
   ·have e1:(x+((m+1:Nat):Int))*y=(x+(m:Int))*y+y:=by
     rw[show x+((m+1:Nat):Int)=(x+(m:Int))+1 by omega,Int.add_mul];omega
    rw[e1];omega
   ·have e1:x*(y+((m+1:Nat):Int))=x*(y+(m:Int))+x:=by
     rw[show y+((m+1:Nat):Int)=(y+(m:Int))+1 by omega,Int.mul_add];omega
    rw[e1];omega
   ·have e1:(x+((m+1:Nat):Int)* -1)*y=(x+(m:Int)* -1)*y-y:=by
     rw[show x+((m+1:Nat):Int)* -1=(x+(m:Int)* -1)-1 by omega,Int.sub_mul];omega
    rw[e1];omega
   ·have e1:x*(y+((m+1:Nat):Int)* -1)=x*(y+(m:Int)* -1)-x:=by
     rw[show y+((m+1:Nat):Int)* -1=(y+(m:Int)* -1)-1 by omega,Int.mul_sub];omega
    rw[e1];omega
 exact key m
section
variable {I:Sq}
theorem Kk:∀(n:Nat) (e:Ed),jK (fun e=>e.tx*e.ty-e.x*e.y) (walk I n e)=(it I n e).x*(it I n e).y-e.x*e.y
 |0,e=>by simp[walk,jK,it]
 |n+1,e=>by
  have:=Kk n (sc I e)
  have h:=P7 (I:=I) e
  have hx:(sc I e).x=e.tx:=congrArg Prod.fst h
  have hy:(sc I e).y=e.ty:=congrArg Prod.snd h
  simp only[walk,jK,it,this,hx,hy];omega
theorem Uc{B:List Ed}(hB:wD I B){e:Ed}(he:A9 I e){n:Nat}(hn:DY I e n):MB (A7 I n e)=2*ar (walk I n e):=by
 have hc:=he.GD hB
 obtain⟨sl,s1,s2,s3,s4⟩:=stretches I n e he.1 hc (by rw[hn.2.1];exact hc)
 rw[hn.2.1] at s1
 obtain⟨m,r,hr⟩:=s2 hn.1
 have hhead:(A7 I n e).headD (0,0)=e.p:=by rw[←s3,hr];rfl
 unfold MB
 rw[hhead,←s3,JB s1,List.map_map]
 have h1:(sl.map (zY ∘ fun s=>(s.1.p,(qR s.1 s.2).p)))=sl.map fun s=>jK (fun e=>e.x*e.d.dy-e.y*e.d.dx) (unit s):=List.map_congr_left fun s _=>(PR s).symm
 rw[h1,←HY,←s4]
 have h2:jK (fun e=>(e.x*e.d.dy-e.y*e.d.dx)+(e.tx*e.ty-e.x*e.y)) (walk I n e)=jK (fun e=>2*(e.x*e.d.dy)) (walk I n e):=sG fun f _=>by
  obtain⟨x,y,d⟩:=f
  unfold Ed.tx Ed.ty
  cases d<;>simp only[Dir.dx,Dir.dy,Int.mul_zero,Int.mul_one,Int.add_zero,Int.sub_zero,Int.zero_add]
  ·rw[Int.add_mul];omega
  ·rw[Int.mul_add];omega
  ·rw[show x+ -1=x-1 by omega,Int.sub_mul];omega
  ·rw[show y+ -1=y-1 by omega,Int.mul_sub];omega
 rw[qO,Kk,hn.2.1,Fq] at h2
 unfold ar
 omega
end
end Go.Proofs.YtblmajfbibbiaaaGreatDoor.PX
namespace Go.Proofs.YtblmajfbibbiaaaGreatDoor.PX
def zI(img:Int→Int→Prop)(W:List Ed):Int→Int→Prop:=fun x y=>if ar W<0 then img x y∧wd W x y=0 else img x y∨wd W x y≠0
def ze(x y:Int):List (List Ed)→Option (List Ed)
 |[]=>none
 |W::Ws=>match ze x y Ws with
  |some V=>some V
  |none=>if wd W x y=0 then none else some W
theorem Bz{x y:Int}:∀{Ws:List (List Ed)},ze x y Ws=none→∀W∈Ws,wd W x y=0
 | V::Ws,h,W,hW=>by
  unfold ze at h
  cases hl:ze x y Ws with
  |some U=>rw[hl] at h;cases h
  | none=>
   rw[hl] at h
   simp only at h
   rcases List.mem_cons.1 hW with rfl|hW
   ·by_cases h0:wd W x y=0
    ·exact h0
    ·rw[if_neg h0] at h;cases h
   ·exact Bz hl W hW
theorem F8{x y:Int}{W:List Ed}:∀{Ws:List (List Ed)},ze x y Ws=some W→wd W x y≠0∧∃A B,Ws=A++W::B∧∀V∈B,wd V x y=0
 | V::Ws,h=>by
  unfold ze at h
  cases hl:ze x y Ws with
  |some U=>
   rw[hl] at h
   have e:U=W:=Option.some.inj h
   subst e
   obtain⟨h1,A,B,rfl,h2⟩:=F8 hl
   exact⟨h1,V::A,B,rfl,h2⟩
  | none=>
   rw[hl] at h
   simp only at h
   by_cases h0:wd V x y=0
   ·rw[if_pos h0] at h;cases h
   ·rw[if_neg h0] at h
    have e:V=W:=Option.some.inj h
    subst e
    exact⟨h0,[],Ws,rfl,Bz hl⟩
theorem M5(x y:Int)(W:List Ed)(Ws:List (List Ed)):ze x y (W::Ws)=match ze x y Ws with
  |some V=>some V
  |none=>if wd W x y=0 then none else some W:=rfl
theorem FZ(x y:Int):∀(Ws:List (List Ed)) (img:Int→Int→Prop),(Ws.foldl zI img) x y↔(match ze x y Ws with|some V=>¬ar V<0|none=>img x y)
 |[],img=>Iff.rfl
 | W::Ws,img=>by
  rw[List.foldl_cons,FZ x y Ws,M5]
  cases hl:ze x y Ws with
  |some V=>exact Iff.rfl
  | none=>
   show zI img W x y↔(match (if wd W x y=0 then none else some W) with|some V=>¬ar V<0|none=>img x y)
   unfold zI
   by_cases h0:wd W x y=0
   ·rw[if_pos h0]
    by_cases ha:ar W<0
    ·rw[if_pos ha];simp[h0]
    ·rw[if_neg ha];simp[h0]
   ·rw[if_neg h0]
    by_cases ha:ar W<0
    ·rw[if_pos ha];simp[h0,ha]
    ·rw[if_neg ha];simp[h0,ha]
section
variable {I:Sq}
theorem Xd:∀Ws:List (List Ed),∃(lo:Int) (n:Nat),∀W∈Ws,TG lo n W:=by
 have one:∀W:List Ed,∃B:Nat,∀e∈W,(-(B:Int)<e.x∧e.x<B)∧(-(B:Int)<e.y∧e.y<B):=by
  intro W
  induction W with
  |nil=>exact⟨0,fun _ h=>nomatch h⟩
  |cons e W ih=>
   obtain⟨B,h⟩:=ih
   refine⟨B+e.x.natAbs+e.y.natAbs+1,fun f hf=>?_⟩
   rcases List.mem_cons.1 hf with rfl|hf
   ·omega
   ·have:=h f hf;omega
 intro Ws
 obtain⟨B,h⟩:=one Ws.flatten
 refine⟨-(B:Int),2*B,fun W hW e he=>?_⟩
 have:=h e (List.mem_flatten.2 ⟨W,hW,he⟩)
 omega
theorem BI(W:List Ed)(lo:Int)(n:Nat):0≤cnt W lo n:=by
 have h:=Ca (g:=fun _=>0) (k:=fun y=>nK (fun x=>if wd W x y=0 then(0:Int) else 1) lo n) (lo:=lo) (n:=n) fun y _ _=>by
  have h2:=Ca (g:=fun _=>(0:Int)) (k:=fun x=>if wd W x y=0 then(0:Int) else 1) (lo:=lo) (n:=n) fun x _ _=>by
   show(0:Int)≤if wd W x y=0 then 0 else 1
   split<;>omega
  rw[qC] at h2
  exact h2
 rw[qC] at h
 exact h
theorem Jv{Ws:List (List Ed)}(h:Full I Ws)(hfin:∀y,∃lo,∀x,x≤lo→I x y=false)(hord:Ws.Pairwise fun W V=>max (ar V) (-(ar V))≤max (ar W) (-(ar W)))(x y:Int):(Ws.foldl zI fun _ _=>False) x y↔I x y=true:=by
 rw[FZ]
 cases hl:ze x y Ws with
 |none=>
  simp only
  have ht:=h.tot hfin x y
  rw[xN fun W hW=>Bz hl W hW] at ht
  constructor
  ·intro hh;exact hh.elim
  ·intro hi;rw[if_pos hi] at ht;omega
 | some W=>
  simp only
  obtain⟨hw,A,C,hWs,hC⟩:=F8 hl
  have hWm:W∈Ws:=by rw[hWs];simp
  have hB:=h.bd W hWm
  obtain⟨s,s1,s2,s3⟩:=FJ hB
  obtain⟨lo,n,hbox⟩:=Xd Ws
  have hca:=SX hB s3 (hbox W hWm)
  obtain⟨e,k,he,hp,hwk⟩:=hB.one
  have hem:e∈W:=by rw[hwk];exact kN.2 ⟨0,hp.1,rfl⟩
  have inb:∀(V:List Ed),V∈Ws→∀f∈V,((lo≤(oK f).1∧(oK f).1<lo+n)∧(lo≤(oK f).2∧(oK f).2<lo+n))∧((lo≤(qf f).1∧(qf f).1<lo+n)∧(lo≤(qf f).2∧(qf f).2<lo+n)):=fun V hV f hf=>by
   have:=hbox V hV f hf
   obtain⟨a,b,d⟩:=f
   unfold qf oK
   cases d<;>simp only[Dir.right] at* <;>omega
  have hin:∀V∈Ws,wd V x y≠0→V=W∨∀f∈W,wd V (oK f).1 (oK f).2≠0∧wd V (qf f).1 (qf f).2≠0:=fun V hV hv=>by
   by_cases hVW:V=W
   ·exact .inl hVW
   ·right
    have hVB:=h.bd V hV
    have hd:∀f∈W,f∉V:=fun f hf hfV=>by
     rcases Jt h.dis V hV W hWm with hh|hh|hh
     ·exact hVW hh
     ·exact hh f hfV hf
     ·exact hh f hf hfV
    have hVA:V∈A:=by
     rw[hWs] at hV
     rcases List.mem_append.1 hV with hV|hV
     ·exact hV
     ·rcases List.mem_cons.1 hV with hV|hV
      ·exact absurd hV hVW
      ·exact absurd (hC V hV) hv
    rw[hWs] at hord
    have hle:=(List.pairwise_append.1 hord).2.2 V hVA W (by simp)
    rcases XZ hVB hB hd with hn|⟨_,hn⟩|⟨hn1,hn2⟩
    ·exact absurd ⟨hv,hw⟩ (hn x y)
    ·exact hn
    ·exfalso
     obtain⟨s',t1,_,t3⟩:=FJ hVB
     have hcv:=SX hVB t3 (hbox V hV)
     obtain⟨g,k',_,hp',hwk'⟩:=hVB.one
     have hgm:g∈V:=by rw[hwk'];exact kN.2 ⟨0,hp'.1,rfl⟩
     have hlt:cnt V lo n<cnt W lo n:=cnt_lt hn1 (by
      have hb:=inb V hV g hgm
      rcases yz hVB hgm with⟨v1,v2⟩|⟨v1,v2⟩
      ·exact⟨_,_,hb.2.1,hb.2.2,(hn2 g hgm).2,v2⟩
      ·exact⟨_,_,hb.1.1,hb.1.2,(hn2 g hgm).1,v1⟩)
     have p1:=BI V lo n
     have p2:=BI W lo n
     rcases s1 with rfl|rfl<;>rcases t1 with rfl|rfl<;>omega
  rw[h.inner hfin hWm s2 hw hin]
  have hpos:0<cnt W lo n:=by
   have hb:=inb W hWm e hem
   have h0:=BI [] lo n
   have hlt:cnt [] lo n<cnt W lo n:=cnt_lt (V:=[]) (fun _ _ hh=>absurd rfl hh) (by
    rcases yz hB hem with⟨v1,v2⟩|⟨v1,v2⟩
    ·exact⟨_,_,hb.1.1,hb.1.2,by rw[v1];decide,rfl⟩
    ·exact⟨_,_,hb.2.1,hb.2.2,by rw[v2];decide,rfl⟩)
   omega
  rcases s1 with rfl|rfl
  ·constructor
   ·intro _;rfl
   ·intro _;omega
  ·constructor
   ·intro hh;omega
   ·intro hh;cases hh
end
end Go.Proofs.YtblmajfbibbiaaaGreatDoor.PX
namespace Go.Proofs.YtblmajfbibbiaaaGreatDoor.PX
variable {I:Sq}
theorem Full.perm{Ws Vs:List (List Ed)}(h:Full I Ws)(hp:Vs.Perm Ws):Full I Vs:=
 ⟨fun W hW=>h.bd W (hp.mem_iff.1 hW),(hp.pairwise_iff (R:=fun(W V:List Ed)=>∀f∈W,f∉V) (fun{W V} hd f hf hfW=>hd f hfW hf)).2 h.dis,fun e he=>by
  obtain⟨W,hW,heW⟩:=h.all e he
  exact⟨W,hp.mem_iff.2 hW,heW⟩⟩
def lk:List (List (Int×Int)×List Ed)→List (Int×Int)→List Ed
 |[],_=>[]
 |p::t,l=>if p.1=l then p.2 else lk t l
theorem RG:∀{Z:List (List (Int×Int)×List Ed)},(Z.map (·.1)).Nodup→(Z.map (·.1)).map (lk Z)=Z.map (·.2)
 |[],_=>rfl
 | p::t,h=>by
  rw[List.map_cons,List.nodup_cons] at h
  rw[List.map_cons,List.map_cons,List.map_cons]
  congr 1
  ·exact if_pos rfl
  ·rw[←RG h.2]
   apply List.map_congr_left
   intro l hl
   exact if_neg fun(e:p.1=l)=>h.1 (by rw[e];exact hl)
theorem MV{ls:List (List (Int×Int))}(h:yU I ls):ls.Nodup:=h.ord.imp fun{a b} hab e=>by
 subst e
 exact qD _ hab
theorem Jw{B:List Ed}(hB:wD I B){ls:List (List (Int×Int))}(h:yU I ls)(hfin:∀y,∃lo,∀x,x≤lo→I x y=false):
  ∃wf:List (Int×Int)→List Ed,(∀l∈ls,(∀x y,cl x (Yd y l)%2=1↔wd (wf l) x y≠0)∧MB l=2*ar (wf l))∧
   ∀os:List (List (Int×Int)),os.Perm ls→os.Pairwise (fun a b=>max (ar (wf b)) (-(ar (wf b)))≤max (ar (wf a)) (-(ar (wf a))))→∀x y,((os.map wf).foldl zI fun _ _=>False) x y↔I x y=true:=by
 obtain⟨ws,w1,w2,w3⟩:=h.full hB
 have e1:(ls.zip ws).map (·.1)=ls:=List.map_fst_zip (by omega)
 have e2:(ls.zip ws).map (·.2)=ws:=List.map_snd_zip (by omega)
 have hm:ls.map (lk (ls.zip ws))=ws:=by
  have:=RG (Z:=ls.zip ws) (by rw[e1];exact MV h)
  rw[e1,e2] at this
  exact this
 refine⟨lk (ls.zip ws),fun l hl=>?_,fun os hp ho=>?_⟩
 ·obtain⟨i,hi⟩:=List.mem_iff_getElem?.1 hl
  have hwi:ws[i]?=some (lk (ls.zip ws) l):=by
   have:=congrArg (fun z=>z[i]?) hm
   simp only[List.getElem?_map,hi,Option.map_some] at this
   exact this.symm
  obtain⟨e,n,he,hn,hl2,hw,hr⟩:=w3 i l _ hi hwi
  have hd:l.headD (0,0)=e.p:=Md.headD hB he ⟨n,hn,hl2⟩
  rw[hw]
  refine⟨fun x y=>?_,?_⟩
  ·have:Yd y l=(walk I n e).filterMap (vx y):=by
    unfold Yd
    rw[hd];exact hr.crs y
   rw[this]
   exact Wo (SL he.1 hn) x y
  ·rw[hl2]
   exact Uc hB he hn
 ·have hpw:(os.map (lk (ls.zip ws))).Perm ws:=by
   have:=hp.map (lk (ls.zip ws))
   rw[hm] at this
   exact this
  exact Jv (w2.perm hpw) hfin (List.pairwise_map.2 ho)
end Go.Proofs.YtblmajfbibbiaaaGreatDoor.PX
namespace Go.Proofs.YtblmajfbibbiaaaGreatDoor
def N7(xs:List Int)(x:Int):List Int:=if xs.getLast?=some x then xs.dropLast else xs++[x]
def LC(l:List Int):List Int:=l.foldl N7 []
def Ew(x:Int)(l:List Int):Nat:=(l.filter fun z=>decide (z≤x)).length
theorem um(x:Int)(l m:List Int):Ew x (l++m)=Ew x l+Ew x m:=by unfold Ew;rw[List.filter_append,List.length_append]
theorem Ps(x z:Int):Ew x [z]=if z≤x then 1 else 0:=by
 unfold Ew
 by_cases h:z≤x<;>simp[h]
structure L6 (xs done:List Int):Prop where
 inc:xs.Pairwise fun a b=>a<b
 par:∀x,Ew x xs%2=Ew x done%2
 len:xs.length%2=done.length%2
 sub:∀x∈xs,x∈done
theorem V8{xs done:List Int}{x:Int}(h:L6 xs done)(hx:∀z∈done,z≤x):L6 (N7 xs x) (done++[x]):=by
 obtain⟨h1,h2,h3,h4⟩:=h
 unfold N7
 by_cases hl:xs.getLast?=some x
 ·rw[if_pos hl]
  obtain⟨ys,rfl⟩:=List.getLast?_eq_some_iff.1 hl
  rw[List.dropLast_concat]
  rw[List.pairwise_append] at h1
  refine⟨h1.1,fun z=>?_,?_,fun z hz=>List.mem_append_left _ (h4 z (List.mem_append_left _ hz))⟩
  ·have:=h2 z
   rw[um] at this
   rw[um];omega
  ·rw[List.length_append] at h3 ⊢
   simp only[List.length_singleton] at h3 ⊢
   omega
 ·rw [if_neg hl]
  refine⟨?_,fun z=>?_,?_,fun z hz=>?_⟩
  ·rw [List.pairwise_append]
   refine⟨h1,by simp,fun a ha b hb=>?_⟩
   simp at hb;subst hb
   have hle:=hx a (h4 a ha)
   rcases Int.lt_or_eq_of_le hle with h|h
   ·exact h
   ·subst h
    exfalso
    apply hl
    rcases List.eq_nil_or_concat xs with e|⟨ys,y,e⟩
    ·subst e;cases ha
    ·rw[List.concat_eq_append] at e
     subst e
     have hy:=hx y (h4 y (by simp))
     rw[List.pairwise_append] at h1
     rcases List.mem_append.1 ha with ha|ha
     ·have:=h1.2.2 a ha y (by simp)
      omega
     ·simp at ha;subst ha;simp
  ·have:=h2 z
   rw[um,um];omega
  ·rw[List.length_append,List.length_append]
   simp only[List.length_singleton];omega
  ·rcases List.mem_append.1 hz with hz|hz
   ·exact List.mem_append_left _ (h4 z hz)
   ·exact List.mem_append_right _ hz
theorem Pt:∀(suf done xs:List Int),L6 xs done→(∀z∈done,∀y∈suf,z≤y)→suf.Pairwise (fun a b=>a≤b)→L6 (suf.foldl N7 xs) (done++suf)
 |[],done,xs,h,_,_=>by simpa using h
 | x::l,done,xs,h,hd,hs=>by
  obtain⟨s1,s2⟩:=List.pairwise_cons.1 hs
  have:=Pt l (done++[x]) (N7 xs x) (V8 h fun z hz=>hd z hz x List.mem_cons_self) (fun z hz y hy=>by
   rcases List.mem_append.1 hz with hz|hz
   ·exact hd z hz y (List.mem_cons_of_mem _ hy)
   ·simp at hz;subst hz;exact s1 y hy) s2
  rw[List.foldl_cons]
  simpa using this
theorem UV{l:List Int}(hs:l.Pairwise fun a b=>a≤b):L6 (LC l) l:=by
 have:=Pt l [] [] ⟨.nil,fun _=>rfl,rfl,fun _ h=>(by cases h)⟩ (fun _ h=>by cases h) hs
 unfold LC
 simpa using this
def Wu:List Int→List (Int×Int)
 |a::b::l=>(a,b)::Wu l
 |_=>[]
theorem Rt:∀{xs:List Int} {lo:Int},xs.Pairwise (fun a b=>a<b)→xs.length%2=0→(∀x∈xs,lo<x)→dn (Wu xs)=xs∧Can lo (Wu xs)∧∀x,mP x (Wu xs)↔Ew x xs%2=1
 |[],lo,_,_,_=>⟨rfl,trivial,fun x=>⟨fun h=>absurd h gP,fun h=>by simp[Ew] at h⟩⟩
 |[a],lo,_,h,_=>by simp at h
 | a::b::l,lo,hp,hl,hlo=>by
  obtain⟨p1,p2⟩:=List.pairwise_cons.1 hp
  obtain⟨p3,p4⟩:=List.pairwise_cons.1 p2
  have hab:=p1 b List.mem_cons_self
  obtain⟨i1,i2,i3⟩:=Rt (xs:=l) (lo:=b) p4 (by simp at hl;omega) p3
  refine⟨by rw[Wu,nS,i1],⟨hlo a List.mem_cons_self,hab,i2⟩,fun x=>?_⟩
  rw[Wu,jW,i3]
  have e:Ew x (a::b::l)=(if a≤x then 1 else 0)+((if b≤x then 1 else 0)+Ew x l):=by
   rw[show a::b::l=[a]++([b]++l) from rfl,um,um,Ps,Ps]
  rw[e]
  have h0:x<b→Ew x l=0:=fun h=>by
   unfold Ew
   rw[List.length_eq_zero_iff,List.filter_eq_nil_iff]
   intro z hz
   have:=p3 z hz
   simp;omega
  by_cases ha:a≤x<;>by_cases hb:b≤x<;>simp only[ha,hb,if_true,if_false,true_and,false_and,and_false,false_or,true_or,iff_true]<;>first|omega|(have:=h0 (by omega);omega)
def CY(p0:ak):List ak→List (ak×ak)
 |[]=>[]
 |[x]=>[(x,p0)]
 |x::y::r=>(x,y)::CY p0 (y::r)
def jL:List ak→List (ak×ak)
 |[]=>[]
 |x::r=>CY x (x::r)
def VC(l:List (ak×ak)):Prop:=∀s∈l,(s.1.X=s.2.X)≠(s.1.Y=s.2.Y)
def sJ(y:Int)(l:List (ak×ak)):List (ak×ak):=l.filter fun s=>decide (s.1.X=s.2.X)&&(decide (min s.1.Y s.2.Y≤y)&&decide (y<max s.1.Y s.2.Y))
theorem IR{y:Int}{s:ak×ak}(h:s.1.X≠s.2.X→s.1.Y=s.2.Y):(decide (s.1.X=s.2.X)&&(decide (min s.1.Y s.2.Y≤y)&&decide (y<max s.1.Y s.2.Y)))=(decide (s.1.Y≤y) !=decide (s.2.Y≤y)):=by
 by_cases hx:s.1.X=s.2.X
 ·rw[decide_eq_true hx,Bool.true_and,Bool.eq_iff_iff]
  simp only[Bool.and_eq_true,decide_eq_true_eq,bne_iff_ne,ne_eq,decide_eq_decide]
  omega
 ·have hy:=h hx
  rw[decide_eq_false hx,Bool.false_and,hy];simp
theorem Ov(y:Int)(p0:ak):∀(r:List ak) (x:ak),VC (CY p0 (x::r))→(sJ y (CY p0 (x::r))).length%2=(if(decide (x.Y≤y) !=decide (p0.Y≤y)) then 1 else 0)
 | [],x,h=>by
  have hs:=h (x,p0) (by simp[CY])
  have:=IR (y:=y) (s:=(x,p0)) (fun hx=>by
   by_cases hy:x.Y=p0.Y
   ·exact hy
   ·exact absurd (propext ⟨fun h=>absurd h hx,fun h=>absurd h hy⟩) hs)
  unfold sJ
  rw[CY,List.filter_cons,List.filter_nil,this]
  split<;>rfl
 | z::r,x,h=>by
  have hs:=h (x,z) (by simp[CY])
  have hc:=IR (y:=y) (s:=(x,z)) (fun hx=>by
   by_cases hy:x.Y=z.Y
   ·exact hy
   ·exact absurd (propext ⟨fun h=>absurd h hx,fun h=>absurd h hy⟩) hs)
  have ih:=Ov y p0 r z (fun s hs=>h s (by rw[CY];exact List.mem_cons_of_mem _ hs))
  unfold sJ at ih ⊢
  rw[CY,List.filter_cons,hc]
  simp only at hc ⊢
  cases h1:decide (x.Y≤y)<;>cases h2:decide (z.Y≤y)<;>cases h3:decide (p0.Y≤y)<;>rw[h2,h3] at ih<;>simp at ih ⊢ <;>omega
theorem Gz(y:Int){l:List ak}(h:VC (jL l)):(sJ y (jL l)).length%2=0:=by
 cases l with
 |nil=>rfl
 |cons x r=>
  have:=Ov y x r x h
  rw[jL,this];simp
def sF(up:List aK)(y:Int):List Int:=(up.filter fun s=>decide (s.Y0≤y)&&decide (y<s.Y1)).map (·.X0)
def fA(up:List aK)(y:Int):List (Int×Int):=Wu (LC (sF up y))
theorem OH:∀(l:List Int),∃lo,∀x∈l,lo<x
 |[]=>⟨0,fun _ h=>by cases h⟩
 |a::l=>by
  obtain⟨lo,h⟩:=OH l
  refine⟨min lo (a-1),fun x hx=>?_⟩
  rcases List.mem_cons.1 hx with rfl|hx
  ·omega
  ·have:=h x hx;omega
theorem Pd{up:List aK}(hs:up.Pairwise fun a b=>a.X0≤b.X0)(hev:∀y,(sF up y).length%2=0)(y:Int):dn (fA up y)=LC (sF up y)∧(∃lo,Can lo (fA up y))∧(∀x,mP x (fA up y)↔Ew x (sF up y)%2=1)∧∀z∈LC (sF up y),z∈sF up y:=by
 have hp:(sF up y).Pairwise fun a b=>a≤b:=by
  unfold sF
  rw[List.pairwise_map]
  exact hs.filter _
 have hc:=UV hp
 obtain⟨lo,hlo⟩:=OH (LC (sF up y))
 obtain⟨a1,a2,a3⟩:=Rt (lo:=lo) hc.inc (by rw[hc.len,hev]) hlo
 exact⟨a1,⟨lo,a2⟩,fun x=>by unfold fA;rw[a3,hc.par],hc.sub⟩
theorem Mi{up:List aK}{ys:List Int}(hm:∀s∈up,s.Y0∈ys∧s.Y1∈ys){a y:Int}(hay:a≤y)(h:∀z∈ys,z≤a∨y<z):sF up y=sF up a:=by
 unfold sF
 congr 1
 apply List.filter_congr
 intro s hs
 obtain⟨h1,h2⟩:=hm s hs
 have k1:=h _ h1
 have k2:=h _ h2
 rw[Bool.eq_iff_iff]
 simp only[Bool.and_eq_true,decide_eq_true_eq]
 omega
theorem Sa{up:List aK}{ys:List Int}(hy:ys.Pairwise fun x y=>x<y)(hs:up.Pairwise fun a b=>a.X0≤b.X0)(hev:∀y,(sF up y).length%2=0)(hm:∀s∈up,s.Y0∈ys∧s.Y1∈ys):zt (qQ (fA up) ys [])∧∀x y,rW x y (qQ (fA up) ys [])↔Ew x (sF up y)%2=1:=by
 have hnil:∀y,(∀s∈up,¬(s.Y0≤y∧y<s.Y1))→fA up y=[]:=fun y h=>by
  have:sF up y=[]:=by
   unfold sF
   rw[List.map_eq_nil_iff,List.filter_eq_nil_iff]
   intro s hs
   have:=h s hs
   simpa using this
  unfold fA;rw[this];rfl
 obtain⟨b1,b2⟩:=GM (f:=fA up) hy (fun y=>(Pd hs hev y).2.1) (fun a y hay h=>by unfold fA;rw[Mi hm hay h])
  (fun y h=>hnil y fun s hs hh=>by have:=h _ (hm s hs).1;omega) (fun y h=>hnil y fun s hs hh=>by have:=h _ (hm s hs).2;omega)
 refine⟨b1,fun x y=>?_⟩
 unfold rW
 rw[b2,(Pd hs hev y).2.2.1]
def pg(y:Int):List Bd→List Bd
 |[]=>[]
 |b::l=>if b.2.1≤y then pg y l else b::l
theorem DF(y:Int):∀l:List Bd,∀b∈pg y l,b∈l
 |[],b,h=>h
 |c::l,b,h=>by
  unfold pg at h
  split at h
  ·exact List.mem_cons_of_mem _ (DF y l b h)
  ·exact h
theorem DI(y:Int):∀l:List Bd,(pg y l).length≤l.length
 |[]=>by simp[pg]
 |c::l=>by
  unfold pg
  split
  ·have:=DI y l;simp;omega
  ·simp
theorem DJ(y:Int):∀{l:List Bd} {lo:Int},oU lo l→∃lo,oU lo (pg y l)
 |[],lo,h=>⟨lo,h⟩
 |c::l,lo,h=>by
  unfold pg
  split
  ·exact DJ y h.2.2.2.2
  ·exact⟨lo,h⟩
theorem xZ{y z:Int}(hz:y≤z):∀l:List Bd,rowAt (pg y l) z=rowAt l z
 |[]=>rfl
 | c::l=>by
  unfold pg
  split
  ·rw[xZ hz l]
   show _=if c.1≤z∧z<c.2.1 then c.2.2 else rowAt l z
   rw[if_neg (by omega)]
  ·rfl
theorem BH{y:Int}:∀{l:List Bd} {b:Bd},(pg y l).head?=some b→y<b.2.1
 |[],b,h=>by simp[pg] at h
 |c::l,b,h=>by
  unfold pg at h
  split at h
  ·exact BH h
  ·simp at h;subst h;omega
def Jr:List Bd→Int→List (Int×Int)
 |[],_=>[]
 |b::_,y=>if y<b.1 then[] else b.2.2
def rP(e:Int):List Bd→Int→Int
 |[],_=>e
 |b::_,y=>if y<b.1 then min e b.1 else min e b.2.1
theorem Py(l:List Bd)(y e:Int):oh (l.map toP) y e=some (dn (Jr l y),rP e l y):=by
 unfold oh
 cases l with
 |nil=>rfl
 |cons b l=>
  rw[if_neg (by simp;omega),List.map_cons,show idx (toP b::l.map toP) 0=some (toP b) from rfl,ob]
  simp only[Jr,rP]
  by_cases h:y<b.1
  ·rw[if_pos (decide_eq_true (show y<(toP b).Y0 from h)),if_pos h,if_pos h,ob];rfl
  ·rw[if_neg (show ¬decide (y<(toP b).Y0)=true from by rw[decide_eq_true_eq];exact h),if_neg h,if_neg h,ob,ob];rfl
theorem Ol{l:List Bd}{lo y e:Int}(h:oU lo l)(hh:∀b,l.head?=some b→y<b.2.1)(hy:y<e):y<rP e l y∧rP e l y≤e∧(∀z,y≤z→z<rP e l y→rowAt l z=Jr l y)∧(rP e l y=e∨∃b∈l,rP e l y=b.1∨rP e l y=b.2.1):=by
 cases l with
 |nil=>exact⟨hy,Int.le_refl _,fun _ _ _=>rfl,.inl rfl⟩
 | cons b l=>
  have hb:=hh b rfl
  simp only[Jr,rP]
  by_cases h1:y<b.1
  ·rw[if_pos h1,if_pos h1]
   refine⟨by omega,by omega,fun z k1 k2=>?_,?_⟩
   ·show(if b.1≤z∧z<b.2.1 then b.2.2 else rowAt l z)=[]
    rw[if_neg (by omega)]
    exact nz h.2.2.2.2 (by have:=h.2.1;omega)
   ·by_cases k:e≤b.1
    ·exact .inl (by omega)
    ·exact .inr ⟨b,by simp,.inl (by omega)⟩
  ·rw[if_neg h1,if_neg h1]
   refine⟨by omega,by omega,fun z k1 k2=>?_,?_⟩
   ·show(if b.1≤z∧z<b.2.1 then b.2.2 else rowAt l z)=b.2.2
    rw[if_pos (by omega)]
   ·by_cases k:e≤b.2.1
    ·exact .inl (by omega)
    ·exact .inr ⟨b,by simp,.inr (by omega)⟩
section
variable {N:Nat} {f:Bool→Bool→Option Bool} {e:Int} {out:List bf} {y:Int} {K:List bf→List bf→List bf→Int→Option (List bf)}
def SI(N:Nat)(f:Bool→Bool→Option Bool)(e:Int)(out:List bf)(y:Int)(K:List bf→List bf→List bf→Int→Option (List bf))(a b:List Bd):Option (List bf):=
 (lw N (dn (Jr a y)) (dn (Jr b y)) f).bind fun YF=>
 (gJ out (bf.mk y (min (rP e a y) (rP e b y)) YF)).bind fun YE=>
 K (a.map toP) (b.map toP) YE (min (rP e a y) (rP e b y))
theorem NJ(a:List Bd):∀(b:List Bd) (m:Nat),b.length<m→ky N f e out y K (a.map toP) m (b.map toP)=SI N f e out y K a (pg y b)
 |b,0,h=>absurd h (Nat.not_lt_zero _)
 |[],m+1,h=>by
  rw[ky.eq_2,if_neg (by simp),ob,if_neg (by simp),Py,ob,Py,ob];rfl
 | c::b,m+1,h=>by
  simp only[List.length_cons] at h
  rw[ky.eq_2,if_pos (by simp),List.map_cons,show idx (toP c::b.map toP) 0=some (toP c) from rfl,ob,ob]
  unfold pg
  by_cases hc:c.2.1≤y
  ·rw[if_pos (decide_eq_true (show(toP c).Y1≤y from hc)),if_pos hc,wB,ob]
   exact NJ a b m (by omega)
  ·rw[if_neg (show ¬decide ((toP c).Y1≤y)=true from by rw[decide_eq_true_eq];exact hc),if_neg hc,←List.map_cons,Py,ob,Py,ob];rfl
theorem TD{b:List Bd}(hb:b.length<N):∀(a:List Bd) (m:Nat),a.length<m→kz N f e (b.map toP) out y K m (a.map toP)=SI N f e out y K (pg y a) (pg y b)
 |a,0,h=>absurd h (Nat.not_lt_zero _)
 |[],m+1,h=>by
  rw[kz.eq_2,if_neg (by simp),ob,if_neg (by simp)]
  exact NJ [] b N hb
 | c::a,m+1,h=>by
  simp only[List.length_cons] at h
  rw[kz.eq_2,if_pos (by simp),List.map_cons,show idx (toP c::a.map toP) 0=some (toP c) from rfl,ob,ob]
  have hd:pg y (c::a)=if c.2.1≤y then pg y a else c::a:=rfl
  rw[hd]
  by_cases hc:c.2.1≤y
  ·rw[if_pos (decide_eq_true (show(toP c).Y1≤y from hc)),if_pos hc,wB,ob]
   exact TD hb a m (by omega)
  ·rw[if_neg (show ¬decide ((toP c).Y1≤y)=true from by rw[decide_eq_true_eq];exact hc),if_neg hc,←List.map_cons]
   exact NJ (c::a) b N hb
end
def Td(ev:List Int)(y:Int):Nat:=(ev.filter fun z=>decide (y<z)).length
theorem Xg{y z:Int}(hyz:y<z):∀{ev:List Int},z∈ev→Td ev z<Td ev y:=by
 have mono:∀ev:List Int,Td ev z≤Td ev y:=by
  intro ev
  induction ev with
  |nil=>simp[Td]
  | cons a ev ih=>
   unfold Td at*
   rw[List.filter_cons,List.filter_cons]
   by_cases h1:z<a
   ·rw[if_pos (by simpa using h1),if_pos (by simp;omega)];simp;exact ih
   ·rw[if_neg (by simpa using h1)]
    split
    ·simp;omega
    ·exact ih
 intro ev
 induction ev with
 |nil=>intro h;simp at h
 | cons a ev ih=>
  intro h
  have hm:=mono ev
  unfold Td at*
  rw[List.filter_cons,List.filter_cons]
  rcases List.mem_cons.1 h with rfl|h
  ·rw[if_neg (by simp),if_pos (by simpa using hyz)]
   simp;omega
  ·have:=ih h
   by_cases h1:z<a
   ·rw[if_pos (by simpa using h1),if_pos (by simp;omega)];simp;exact this
   ·rw[if_neg (by simpa using h1)]
    split
    ·simp;omega
    ·exact this
theorem U4(ev:List Int)(y:Int):Td ev y≤ev.length:=List.length_filter_le _ _
def Kept(k:Bool→Bool→Bool)(A B:List Bd)(x y:Int):Prop:=∃p q,(p=true↔rW x y A)∧(q=true↔rW x y B)∧k p q=true
theorem K7{k:Bool→Bool→Bool}{f:Bool→Bool→Option Bool}(hf:∀a b,f a b=some (k a b))(hk:k false false=false){N:Nat}(hN:10000000000≤N){A B:List Bd}{R1 R2:Nat}(hrA:∀b∈A,(∃lo,Can lo b.2.2)∧b.2.2.length≤R1)(hrB:∀b∈B,(∃lo,Can lo b.2.2)∧b.2.2.length≤R2)(hR:R1+R2≤500000000)(hAl:A.length≤500000000)(hBl:B.length≤500000000){ev:List Int}{e lo:Int}(hev:e∈ev)(hevA:∀b∈A,b.1∈ev∧b.2.1∈ev)(hevB:∀b∈B,b.1∈ev∧b.2.1∈ev):
  ∀(m:Nat) (a b out:List Bd) (y:Int),(∃lo,oU lo a)→(∃lo,oU lo b)→(∀c∈a,c∈A)→(∀c∈b,c∈B)→a.length≤A.length→b.length≤B.length→(∀z,y≤z→rowAt a z=rowAt A z)→(∀z,y≤z→rowAt b z=rowAt B z)→oU lo out→lo≤y→(∀c∈out,c.2.1≤y∧(∃lo,Can lo c.2.2)∧c.2.2.length≤R1+R2)→(∀x z,rW x z out↔z<y∧Kept k A B x z)→Td ev y<m→out.length+Td ev y≤900000000→(∀x z,e≤z→¬Kept k A B x z)→
  ∃C,gZ N f e m (a.map toP) (b.map toP) (out.map toP) y=some (C.map toP)∧zt C∧(∀x z,rW x z C↔Kept k A B x z)∧C.length≤out.length+Td ev y∧∀c∈C,c.2.2.length≤R1+R2
 |0,_,_,_,_,_,_,_,_,_,_,_,_,_,_,_,_,h,_,_=>absurd h (Nat.not_lt_zero _)
 | m +1,a,b,out,y,⟨la,ca⟩,⟨lb,cb⟩,sa,sb,hal,hbl,ra,rb,co,hlo,ho,hin,hm,hl,hend=>by
  by_cases hye:y<e
  ·rw[gZ.eq_2,if_pos (by simpa using hye),TD (by omega) a N (by omega)]
   obtain⟨la',ca'⟩:=DJ y ca
   obtain⟨lb',cb'⟩:=DJ y cb
   have sa':∀c∈pg y a,c∈A:=fun c hc=>sa c (DF y a c hc)
   have sb':∀c∈pg y b,c∈B:=fun c hc=>sb c (DF y b c hc)
   obtain⟨na,na2,wa,va⟩:=Ol (e:=e) ca' (fun c hc=>BH hc) hye
   obtain⟨nb,nb2,wb,vb⟩:=Ol (e:=e) cb' (fun c hc=>BH hc) hye
   have rowcan:∀{l:List Bd} {L:List Bd} {R:Nat},(∀b∈L,(∃lo,Can lo b.2.2)∧b.2.2.length≤R)→(∀c∈l,c∈L)→(∃lo,Can lo (Jr l y))∧(Jr l y).length≤R:=fun{l L R} h1 h2=>by
    cases l with
    |nil=>exact⟨⟨0,trivial⟩,Nat.zero_le _⟩
    |cons c l=>
     simp only[Jr]
     split
     ·exact⟨⟨0,trivial⟩,Nat.zero_le _⟩
     ·exact h1 c (h2 c (by simp))
   obtain⟨ra1,ra2⟩:=rowcan hrA sa'
   obtain⟨rb1,rb2⟩:=rowcan hrB sb'
   obtain⟨C0,k1,k2,k3,k4⟩:=JG hf hk (N:=N) ra1 rb1 (by omega) (by omega)
   unfold SI
   rw[k1,ob]
   generalize hn:min (rP e (pg y a) y) (rP e (pg y b) y)=n
   have hyn:y<n:=by omega
   have hne:n≤e:=by omega
   have hnev:n∈ev:=by
    have key:∀{l L:List Bd},(∀c∈l,c∈L)→(∀b∈L,b.1∈ev∧b.2.1∈ev)→(rP e l y=e∨∃b∈l,rP e l y=b.1∨rP e l y=b.2.1)→rP e l y∈ev:=fun h1 h2 h3=>by
     rcases h3 with h|⟨c,hc,h|h⟩
     ·rw[h];exact hev
     ·rw[h];exact(h2 c (h1 c hc)).1
     ·rw[h];exact(h2 c (h1 c hc)).2
    have e1:=key sa' hevA va
    have e2:=key sb' hevB vb
    rcases Int.le_total (rP e (pg y a) y) (rP e (pg y b) y) with h|h
    ·rw[←hn,Int.min_eq_left h];exact e1
    ·rw[←hn,Int.min_eq_right h];exact e2
   have haft:=Xg hyn hnev
   have hp:gJ (out.map toP) (bf.mk y n (dn C0))=some ((pushB out (y,n,C0)).map toP):=EM (l:=out) (b:=(y,n,C0)) (by omega) hyn
   rw[hp,ob]
   obtain⟨p1,p2,p3⟩:=co.push (b:=(y,n,C0)) (fun c hc=>(ho c hc).1) hlo hyn
   have hpl:=xQ out (y,n,C0)
   have hkept:∀x z,y≤z→z<n→(mP x C0↔Kept k A B x z):=fun x z z1 z2=>by
    rw[k4 x,←wa z z1 (by omega),←wb z z1 (by omega),xZ z1,xZ z1,ra z z1,rb z z1]
    exact Iff.rfl
   obtain⟨C,i1,i2,i3,i4,i5⟩:=K7 hf hk hN hrA hrB hR hAl hBl hev hevA hevB m (pg y a) (pg y b) (pushB out (y,n,C0)) n ⟨la',ca'⟩ ⟨lb',cb'⟩ sa' sb' (Nat.le_trans (DI y a) hal) (Nat.le_trans (DI y b) hbl) (fun z hz=>by rw[xZ (by omega),ra z (by omega)]) (fun z hz=>by rw[xZ (by omega),rb z (by omega)]) p1 (by omega) (fun c hc=>by
    obtain⟨q1,q2|⟨d,q2,q3⟩⟩:=p2 c hc
    ·exact⟨q1,by rw[q2];exact k2,by rw[q2];show C0.length≤_;omega⟩
    ·exact⟨q1,by rw[q3];exact(ho d q2).2.1,by rw[q3];exact(ho d q2).2.2⟩) (fun x z=>by
    have h1:rW x z (pushB out (y,n,C0))↔mP x (if y≤z∧z<n then C0 else rowAt out z):=by
     unfold rW
     rw[p3 z]
    rw[h1]
    by_cases hz:y≤z∧z<n
    ·rw[if_pos hz,hkept x z hz.1 hz.2]
     exact⟨fun h=>⟨hz.2,h⟩,fun h=>h.2⟩
    ·rw[if_neg hz]
     refine(hin x z).trans ⟨fun h=>⟨by omega,h.2⟩,fun h=>⟨by omega,h.2⟩⟩) (by omega) (by omega) hend
   exact⟨C,i1,i2,i3,by omega,i5⟩
  ·rw[gZ.eq_2,if_neg (by simpa using hye)]
   refine⟨out,rfl,⟨⟨lo,co⟩,fun c hc=>(ho c hc).2.1⟩,fun x z=>?_,by omega,fun c hc=>(ho c hc).2.2⟩
   rw[hin]
   exact⟨fun h=>h.2,fun h=>⟨by
    rcases Int.lt_or_le z y with hz|hz
    ·exact hz
    ·exact absurd h (hend x z (by omega)),h⟩⟩
theorem L9{k:Bool→Bool→Bool}{f:Bool→Bool→Option Bool}(hf:∀a b,f a b=some (k a b))(hk:k false false=false){N:Nat}(hN:10000000000≤N){A B:List Bd}{R1 R2:Nat}(hA:zt A)(hB:zt B)(hrA:∀b∈A,b.2.2.length≤R1)(hrB:∀b∈B,b.2.2.length≤R2)(hR:R1+R2≤500000000)(hl:A.length+B.length≤200000000):
  ∃C,qE N (A.map toP) (B.map toP) f=some (C.map toP)∧zt C∧(∀x z,rW x z C↔Kept k A B x z)∧C.length≤2*A.length+2*B.length+1∧∀c∈C,c.2.2.length≤R1+R2:=by
 have hnot:∀{A B:List Bd} {x z:Int},¬rW x z A→¬rW x z B→¬Kept k A B x z:=fun h1 h2 ⟨p,q,hp,hq,h⟩=>by
  have e1:p=false:=by rw[Bool.eq_false_iff];exact fun h=>h1 (hp.1 h)
  have e2:q=false:=by rw[Bool.eq_false_iff];exact fun h=>h2 (hq.1 h)
  rw[e1,e2,hk] at h;cases h
 have inlo:∀{l:List Bd} {lo x z:Int},oU lo l→rW x z l→lo≤z:=fun{l lo x z} h hx=>by
  rcases Int.lt_or_le z lo with hz|hz
  ·unfold rW at hx
   rw[nz h hz] at hx
   exact absurd hx gP
  ·exact hz
 have inhi:∀{l:List Bd} {b:Bd} {lo x z:Int},oU lo (l++[b])→rW x z (l++[b])→z<b.2.1:=by
  intro l
  induction l with
  | nil=>
   intro b lo x z h hx
   unfold rW at hx
   by_cases hz:b.1≤z∧z<b.2.1
   ·exact hz.2
   ·have:rowAt ([]++[b]) z=[]:=by show(if b.1≤z∧z<b.2.1 then b.2.2 else[])=[];rw[if_neg hz]
    rw[this] at hx;exact absurd hx gP
  | cons c l ih=>
   intro b lo x z h hx
   have hcan:oU c.2.1 (l++[b]):=h.2.2.2.2
   by_cases hz:c.1≤z∧z<c.2.1
   ·have:=hcan.mem b (by simp)
    omega
   ·refine ih hcan (x:=x) ?_
    unfold rW at hx ⊢
    have:rowAt (c::l++[b]) z=rowAt (l++[b]) z:=by show(if c.1≤z∧z<c.2.1 then c.2.2 else rowAt (l++[b]) z)=_;rw[if_neg hz]
    rw[←this];exact hx
 obtain⟨la,ca⟩:=hA.can
 obtain⟨lb,cb⟩:=hB.can
 have go:∀(y e:Int),(∀x z,rW x z A→y≤z∧z<e)→(∀x z,rW x z B→y≤z∧z<e)→∃C,gZ N f e N (A.map toP) (B.map toP) ([]:List bf) y=some (C.map toP)∧zt C∧(∀x z,rW x z C↔Kept k A B x z)∧C.length≤2*A.length+2*B.length+1∧∀c∈C,c.2.2.length≤R1+R2:=fun y e h1 h2=>by
  have hlen:(e::(A.flatMap (fun b=>[b.1,b.2.1])++B.flatMap fun b=>[b.1,b.2.1])).length=2*A.length+2*B.length+1:=by
   have:∀l:List Bd,(l.flatMap fun b=>[b.1,b.2.1]).length=2*l.length:=by
    intro l
    induction l with
    |nil=>rfl
    |cons b l ih=>rw[List.flatMap_cons,List.length_append,ih];simp;omega
   rw[List.length_cons,List.length_append,this,this]
  have haf:=U4 (e::(A.flatMap (fun b=>[b.1,b.2.1])++B.flatMap fun b=>[b.1,b.2.1])) y
  rw[hlen] at haf
  have hmem:∀l:List Bd,∀b∈l,b.1∈l.flatMap (fun b=>[b.1,b.2.1])∧b.2.1∈l.flatMap (fun b=>[b.1,b.2.1]):=fun l b hb=>⟨List.mem_flatMap.2 ⟨b,hb,by simp⟩,List.mem_flatMap.2 ⟨b,hb,by simp⟩⟩
  obtain⟨C,c1,c2,c3,c4,c5⟩:=K7 hf hk hN (A:=A) (B:=B) (R1:=R1) (R2:=R2) (fun b hb=>⟨hA.row b hb,hrA b hb⟩) (fun b hb=>⟨hB.row b hb,hrB b hb⟩) hR (by omega) (by omega) (ev:=e::(A.flatMap (fun b=>[b.1,b.2.1])++B.flatMap fun b=>[b.1,b.2.1])) (e:=e) (lo:=y) (by simp) (fun b hb=>⟨List.mem_cons_of_mem _ (List.mem_append_left _ (hmem A b hb).1),List.mem_cons_of_mem _ (List.mem_append_left _ (hmem A b hb).2)⟩) (fun b hb=>⟨List.mem_cons_of_mem _ (List.mem_append_right _ (hmem B b hb).1),List.mem_cons_of_mem _ (List.mem_append_right _ (hmem B b hb).2)⟩)
   N A B [] y hA.can hB.can (fun _ h=>h) (fun _ h=>h) (Nat.le_refl _) (Nat.le_refl _) (fun _ _=>rfl) (fun _ _=>rfl) trivial (Int.le_refl _) (by simp) (fun x z=>by
    constructor
    ·intro h;unfold rW at h;exact absurd h gP
    ·rintro⟨hz,h⟩
     exact absurd h (hnot (fun h=>by have:=h1 x z h;omega) (fun h=>by have:=h2 x z h;omega))) (by omega) (by simp;omega) (fun x z hz=>hnot (fun h=>by have:=h1 x z h;omega) (fun h=>by have:=h2 x z h;omega))
  exact⟨C,c1,c2,c3,by simp at c4;omega,c5⟩
 have two:∀{l:List Bd},l≠[]→zt l→l.length≤200000000→∃b c,idx (l.map toP) 0=some (toP b)∧idx (l.map toP) (bF (((l.map toP).length:Int)-1))=some (toP c)∧∀x z,rW x z l→b.1≤z∧z<c.2.1:=fun{l} hne hok hlen=>by
  obtain⟨lo,hc⟩:=hok.can
  have h1:∃b,idx (l.map toP) 0=some (toP b)∧∀x z,rW x z l→b.1≤z:=by
   cases l with
   |nil=>exact absurd rfl hne
   |cons b l=>exact⟨b,rfl,fun x z h=>inlo (l:=b::l) (lo:=b.1) (show oU b.1 (b::l) from⟨Int.le_refl _,hc.2⟩) h⟩
  have h2:∃c,idx (l.map toP) (bF (((l.map toP).length:Int)-1))=some (toP c)∧∀x z,rW x z l→z<c.2.1:=by
   rcases List.eq_nil_or_concat l with h|⟨j,c,h⟩
   ·exact absurd h hne
   ·rw[List.concat_eq_append] at h
    subst h
    refine⟨c,?_,fun x z h=>inhi hc h⟩
    have e1:bF ((((j++[c]).map toP).length:Int)-1)=((j.map toP).length:Int):=by
     rw[bX (by first|(simp;done)|(simp;omega)) (by simp at hlen ⊢;omega)];simp
    rw[e1,List.map_append]
    exact jw _ [] _
  obtain⟨b,b1,b2⟩:=h1
  obtain⟨c,c1,c2⟩:=h2
  exact⟨b,c,b1,c1,fun x z h=>⟨b2 x z h,c2 x z h⟩⟩
 unfold qE
 have hz:bF (((A.map toP).length:Int)+((B.map toP).length:Int))=(A.length:Int)+(B.length:Int):=by rw[bX (by simp;omega) (by simp;omega)];simp
 rw[hz]
 by_cases h0:A.length+B.length=0
 ·have eA:A=[]:=List.eq_nil_of_length_eq_zero (by omega)
  have eB:B=[]:=List.eq_nil_of_length_eq_zero (by omega)
  subst eA eB
  rw[if_pos (by simp)]
  exact⟨[],rfl,⟨⟨0,trivial⟩,by simp⟩,fun x z=>⟨fun h=>absurd h gP,fun h=>absurd h (hnot gP gP)⟩,by simp,by simp⟩
 ·rw[if_neg (by simp;omega)]
  obtain⟨m,hm⟩:∃k,N=k+3:=⟨N-3,by omega⟩
  have hfu:eZ N (A.map toP) (B.map toP) f N 0 0 [A.map toP,B.map toP] 0=eZ N (A.map toP) (B.map toP) f (m+3) 0 0 [A.map toP,B.map toP] 0:=congrArg (fun z=>eZ N (A.map toP) (B.map toP) f z 0 0 [A.map toP,B.map toP] 0) hm
  rw[hfu,eZ.eq_2,if_pos (by decide),show idx [A.map toP,B.map toP] 0=some (A.map toP) from rfl,ob,show bF (0+1)=1 from rfl]
  by_cases hA0:A=[]
  ·have hB0:B≠[]:=fun h=>h0 (by rw[hA0,h];rfl)
   obtain⟨b,c,b1,b2,b3⟩:=two hB0 hB (by omega)
   rw[if_neg (by rw[hA0];simp),eZ.eq_2,if_pos (by decide),show idx [A.map toP,B.map toP] 1=some (B.map toP) from rfl,ob,if_pos (by have:=List.length_pos_iff.2 hB0;simp;omega),if_pos (by rw[hA0];rfl),b1,ob,b2,ob]
   unfold kT
   rw[b1,ob,b2,ob,show bF (1+1)=2 from rfl,eZ.eq_2,if_neg (by decide)]
   exact go _ _ (fun x z h=>by rw[hA0] at h;exact absurd h gP) (fun x z h=>by have:=b3 x z h;show min b.1 b.1≤z∧z<max c.2.1 c.2.1;omega)
  ·obtain⟨b,c,b1,b2,b3⟩:=two hA0 hA (by omega)
   rw[if_pos (by have:=List.length_pos_iff.2 hA0;simp;omega),if_pos (by rfl),b1,ob,b2,ob]
   unfold kT
   rw[b1,ob,b2,ob,show bF (0+1)=1 from rfl,eZ.eq_2,if_pos (by decide),show idx [A.map toP,B.map toP] 1=some (B.map toP) from rfl,ob]
   by_cases hB0:B=[]
   ·rw[if_neg (by rw[hB0];simp),show bF (1+1)=2 from rfl,eZ.eq_2,if_neg (by decide)]
    exact go _ _ (fun x z h=>by have:=b3 x z h;show min b.1 b.1≤z∧z<max c.2.1 c.2.1;omega) (fun x z h=>by rw[hB0] at h;exact absurd h gP)
   ·obtain⟨d,g,d1,d2,d3⟩:=two hB0 hB (by omega)
    have hAl:=List.length_pos_iff.2 hA0
    rw[if_pos (by have:=List.length_pos_iff.2 hB0;simp;omega),if_neg (by simp;exact hA0)]
    unfold kT
    rw[d1,ob,d2,ob,show bF (1+1)=2 from rfl,eZ.eq_2,if_neg (by decide)]
    exact go _ _ (fun x z h=>by have:=b3 x z h;show min (min b.1 b.1) d.1≤z∧z<max (max c.2.1 c.2.1) g.2.1;omega) (fun x z h=>by have:=d3 x z h;show min (min b.1 b.1) d.1≤z∧z<max (max c.2.1 c.2.1) g.2.1;omega)
def Deep(n:Int)(S:Int→Int→Prop)(x y:Int):Prop:=∀u v,(x-n≤u∧u≤x+n)→(y-n≤v∧v≤y+n)→S u v
theorem SN{C:List Bd}(h:∀b∈C,b.2.2≠[]):C.length≤(fK C).length:=by
 induction C with
 |nil=>simp
 |cons b l ih=>
  rw[pJ,List.length_append,qP,List.length_cons]
  have:=ih fun c hc=>h c (by simp[hc])
  have:=List.length_pos_iff.2 (h b (by simp))
  omega
theorem zt.le{C:List Bd}(h:zt C):C.length≤(fK C).length:=by
 obtain⟨lo,hc⟩:=h.can
 exact SN fun b hb=>(hc.mem b hb).2.2
theorem MK{C:List Bd}(h:zt C){m:Int}(hx:∀x y,rW x y C→(-m≤x∧x<m)∧(-m≤y∧y<m)):∀r∈fK C,(-m≤r.X0∧r.X0<r.X1∧r.X1≤m)∧(-m≤r.Y0∧r.Y0<r.Y1∧r.Y1≤m):=fun r hr=>by
 have hne:=Dl h r hr
 have h1:=hx r.X0 r.Y0 ((yV h _ _).1 ⟨r,hr,⟨Int.le_refl _,hne.1⟩,⟨Int.le_refl _,hne.2⟩⟩)
 have h2:=hx (r.X1-1) (r.Y1-1) ((yV h _ _).1 ⟨r,hr,⟨by omega,by omega⟩,⟨by omega,by omega⟩⟩)
 omega
section
variable {N:Nat} (hN:10000000000≤N) {n:Int} (hn:0≤n∧n≤100000)
include hN hn
end
def Ne(l:List aK):Prop:=∀r∈l,r.X0<r.X1∧r.Y0<r.Y1
section
variable {N:Nat} (hN:10000000000≤N)
include hN
theorem Wz{I S:List Bd}(hI:zt I)(hS:zt S)(h1:∀b∈I,b.2.2.length≤10000)(h2:∀b∈S,b.2.2.length≤10000)(h3:I.length≤100000)(h4:S.length≤100000):∃C,ol N (I.map toP) (S.map toP)=some (C.map toP)∧zt C∧(∀x y,rW x y C↔rW x y I∨rW x y S)∧(fK C).length≤1000000000000:=by
 obtain⟨C,c1,c2,c3,c4,c5⟩:=L9 (k:=fun p q=>p||q) (f:=fun z0 z1=>oD z0 z1) (fun _ _=>rfl) rfl hN (R1:=10000) (R2:=10000) hI hS h1 h2 (by omega) (by omega)
 have ht:=yE (R:=20000) (l:=C) fun c hc=>by have:=c5 c hc;omega
 refine⟨C,by unfold ol;rw[c1];rfl,c2,fun x y=>?_,by omega⟩
 rw[c3]
 constructor
 ·rintro⟨p,q,hp,hq,h⟩
  rcases Bool.or_eq_true_iff.1 h with h|h
  ·exact .inl (hp.1 h)
  ·exact .inr (hq.1 h)
 ·intro h
  classical
  refine⟨decide (rW x y I),decide (rW x y S),by simp,by simp,?_⟩
  simpa using h
theorem RL{I S:List Bd}(hI:zt I)(hS:zt S)(h1:∀b∈I,b.2.2.length≤10000)(h2:∀b∈S,b.2.2.length≤10000)(h3:I.length≤100000)(h4:S.length≤100000):∃C,mV N (I.map toP) (S.map toP)=some (C.map toP)∧zt C∧(∀x y,rW x y C↔rW x y I∧¬rW x y S)∧(fK C).length≤1000000000000:=by
 obtain⟨C,c1,c2,c3,c4,c5⟩:=L9 (k:=fun p q=>p&& !q) (f:=fun z0 z1=>nE z0 z1) (fun _ _=>rfl) rfl hN (R1:=10000) (R2:=10000) hI hS h1 h2 (by omega) (by omega)
 have ht:=yE (R:=20000) (l:=C) fun c hc=>by have:=c5 c hc;omega
 refine⟨C,by unfold mV;rw[c1];rfl,c2,fun x y=>?_,by omega⟩
 rw[c3]
 constructor
 ·rintro⟨p,q,hp,hq,h⟩
  simp only[Bool.and_eq_true,Bool.not_eq_true'] at h
  exact⟨hp.1 h.1,fun hh=>by rw[hq.2 hh] at h;cases h.2⟩
 ·intro h
  classical
  refine⟨decide (rW x y I),decide (rW x y S),by simp,by simp,?_⟩
  simp[h.1,h.2]
end
theorem TZ(xs:List Int)(x:Int):(N7 xs x).length≤xs.length+1:=by
 unfold N7
 split
 ·rw[List.length_dropLast];omega
 ·simp
theorem Es:∀(l xs:List Int),(l.foldl N7 xs).length≤xs.length+l.length
 |[],xs=>by simp
 |x::l,xs=>by
  have h1:=TZ xs x
  have h2:=Es l (N7 xs x)
  rw[List.foldl_cons,List.length_cons];omega
theorem SE(l:List Int):(LC l).length≤l.length:=by
 have:=Es l []
 unfold LC
 simpa using this
theorem Au{ys:List Int}{out:List bf}{k:Nat}{K:List bf→Int→Option (List bf)}{a b:Int}(ha:idx ys (k:Int)=some a)(hb:idx ys (bF ((k:Int)+1))=some b):∀(suf:List aK) (i:Nat) (xs:List Int),xs.length+suf.length≤1000000→
  iG ys out (k:Int) K suf i xs=(gJ out ⟨a,b,(sF suf a).foldl N7 xs⟩).bind fun y=>K y (bF ((k:Int)+1))
 |[],i,xs,_=>by
  rw[iG,ha,ob,hb,ob];rfl
 | s ::l,i,xs,h=>by
  simp at h
  rw[iG,ha,ob]
  by_cases hc:s.Y0≤a∧a<s.Y1
  ·have e1:sF (s::l) a=s.X0::sF l a:=by
    unfold sF
    rw[List.filter_cons,if_pos (by simpa using hc)];rfl
   rw[if_neg (by simp<;>omega),ob,ob,if_neg (by simp<;>omega),e1,List.foldl_cons]
   rcases List.eq_nil_or_concat xs with hx|⟨zs,z,hx⟩
   ·subst hx
    rw[if_neg (by simp),ob,if_neg (by simp),lm (by simp),ob,Au ha hb l (i+1) _ (by simp<;>omega)]
    rfl
   ·rw[List.concat_eq_append] at hx
    subst hx
    simp at h
    have hz:idx (zs++[z]) (bF (((zs++[z]).length:Int)-1))=some z:=by
     rw[bX (by simp<;>omega) (by simp<;>omega),show((zs++[z]).length:Int)-1=(zs.length:Int) by simp]
     exact jw zs [] z
    rw[if_pos (by simp),hz,ob,ob]
    by_cases he:z=s.X0
    ·have hp:pre (zs++[z]) (bF (((zs++[z]).length:Int)-1))=some zs:=by
      rw[bX (by simp<;>omega) (by simp<;>omega),show((zs++[z]).length:Int)-1=(zs.length:Int) by simp]
      unfold pre
      rw[if_pos ⟨by omega,by simp<;>omega⟩]
      simp
     rw[if_pos (by simpa using he),hp,ob,Au ha hb l (i+1) _ (by omega)]
     unfold N7
     rw[if_pos (by simp[he]),List.dropLast_concat]
    ·rw[if_neg (by simpa using he),lm (by simp<;>omega),ob,Au ha hb l (i+1) _ (by simp<;>omega)]
     have:N7 (zs++[z]) s.X0=zs++[z]++[s.X0]:=by unfold N7;rw[if_neg (by simp[he])]
     rw[this]
  ·have e1:sF (s::l) a=sF l a:=by
    unfold sF
    rw[List.filter_cons,if_neg (by simpa using hc)]
   rw[e1]
   by_cases h0:a<s.Y0
   ·rw[if_pos (decide_eq_true h0),ob,if_pos rfl,Au ha hb l (i+1) _ (by omega)]
   ·rw[if_neg (by simpa using h0),ob,ob,if_pos (by simp<;>omega),Au ha hb l (i+1) _ (by omega)]
theorem GL{ys:List Int}{up:List aK}(hy:ys.Pairwise fun x y=>x<y)(hs:up.Pairwise fun a b=>a.X0≤b.X0)(hev:∀y,(sF up y).length%2=0)(hl:ys.length≤100000)(hu:up.length≤100000):∀(suf pre:List Int) (m:Nat) (out:List Bd),ys=pre++suf→suf.length<m→out.length+suf.length≤1000000→
  iH ys up m (out.map toP) (pre.length:Int)=some ((qQ (fA up) suf out).map toP)
 |[],pre,m,out,he,hm,_=>by
  obtain⟨m,rfl⟩:∃k,m=k+1:=⟨m-1,by omega⟩
  have hlen:ys.length=pre.length:=by rw[he];simp
  rw[iH,if_neg (by rw[bX (by omega) (by omega)];simp;omega)]
  rfl
 |[a],pre,m,out,he,hm,_=>by
  obtain⟨m,rfl⟩:∃k,m=k+1:=⟨m-1,by omega⟩
  have hlen:ys.length=pre.length+1:=by rw[he];simp
  rw[iH,if_neg (by rw[bX (by omega) (by omega)];simp;omega)]
  rfl
 | a::b::l,pre,m,out,he,hm,ho=>by
  obtain⟨m,rfl⟩:∃k,m=k+1:=⟨m-1,by simp at hm;omega⟩
  simp at hm ho
  have hlen:ys.length=pre.length+(l.length+2):=by rw[he];simp
  have hab:a<b:=by
   rw[he] at hy
   have:=(List.pairwise_append.1 hy).2.1
   exact(List.pairwise_cons.1 this).1 b List.mem_cons_self
  have hia:idx ys (pre.length:Int)=some a:=by rw[he];exact jw _ _ _
  have hib:idx ys (bF ((pre.length:Int)+1))=some b:=by
   rw[NS pre a (by omega),he,show pre++a::b::l=(pre++[a])++b::l by simp];exact jw _ _ _
  rw[iH,if_pos (by rw[bX (by omega) (by omega)];simp;omega),Au hia hib up 0 [] (by simp;omega)]
  have hpu:=EM (l:=out) (b:=(a,b,fA up a)) (by omega) hab
  have e:toP (a,b,fA up a)=⟨a,b,(sF up a).foldl N7 []⟩:=by
   show(⟨a,b,dn (fA up a)⟩:bf)=_
   rw[(Pd hs hev a).1];rfl
  rw[e] at hpu
  rw[hpu,ob,NS pre a (by omega)]
  have hpl:=xQ out (a,b,fA up a)
  have:=GL hy hs hev hl hu (b::l) (pre++[a]) m (pushB out (a,b,fA up a)) (by rw[he];simp) (by simp;omega) (by simp;omega)
  rw[this];rfl
def BX(s:ak×ak):Option aK:=if s.1.X=s.2.X then some ⟨s.1.X,min s.1.Y s.2.Y,0,max s.1.Y s.2.Y⟩ else none
theorem zL(p0 x:ak)(r:List ak):CY p0 (x::r)=(x,(r++[p0]).headD p0)::CY p0 r:=by
 cases r with
 |nil=>rfl
 |cons y r=>rfl
theorem Ir{pre r:List ak}{x p0:ak}(h0:(pre++x::r).head?=some p0):(pre++x::r).getD ((pre.length+1)%(pre++x::r).length) ⟨0,0⟩=(r++[p0]).headD p0:=by
 cases r with
 |nil=>
  have:(pre.length+1)%(pre++[x]).length=0:=by simp
  rw[this]
  cases pre with
  |nil=>simp at h0 ⊢;exact h0
  |cons z pre=>simp at h0 ⊢;exact h0
 |cons y r=>
  have:(pre.length+1)%(pre++x::y::r).length=pre.length+1:=Nat.mod_eq_of_lt (by simp)
  rw[this]
  simp[List.getD]
theorem Bp{l:List ak}{p0:ak}(h0:l.head?=some p0)(hl:l.length≤100000){K:List Int→List aK→Option (List bf)}:∀(suf pre:List ak) (ys:List Int) (up:List aK),l=pre++suf→ys.length≤pre.length→up.length≤pre.length→
  jf K l suf pre.length ys up=K (ys++suf.map (·.Y)) (up++(CY p0 suf).filterMap BX)
 |[],pre,ys,up,he,hy,hu=>by rw[jf];simp[CY]
 | x::r,pre,ys,up,he,hy,hu=>by
  have hlen:l.length=pre.length+(r.length+1):=by rw[he];simp
  have hnx:l.getD ((pre.length+1)%l.length) ⟨0,0⟩=(r++[p0]).headD p0:=by
   have:=Ir (pre:=pre) (r:=r) (x:=x) (p0:=p0) (by rw[←he];exact h0)
   rw[he];exact this
  rw[jf,F4 (by omega) (by omega),hnx,lm (by simp;omega),ob,zL]
  by_cases hx:x.X=((r++[p0]).headD p0).X
  ·have hv:BX (x,(r++[p0]).headD p0)=some ⟨x.X,min x.Y ((r++[p0]).headD p0).Y,0,max x.Y ((r++[p0]).headD p0).Y⟩:=if_pos hx
   rw[if_pos (by simpa using hx),lm (by simp;omega),ob,List.filterMap_cons_some hv]
   have:=Bp h0 hl (K:=K) r (pre++[x]) (ys++[x.Y]) (up++[⟨x.X,min x.Y ((r++[p0]).headD p0).Y,0,max x.Y ((r++[p0]).headD p0).Y⟩]) (by rw[he];simp) (by simp;omega) (by simp;omega)
   rw[show(pre++[x]).length=pre.length+1 by simp] at this
   rw[this];simp
  ·have hv:BX (x,(r++[p0]).headD p0)=none:=if_neg hx
   rw[if_neg (by simpa using hx),List.filterMap_cons_none hv]
   have:=Bp h0 hl (K:=K) r (pre++[x]) (ys++[x.Y]) up (by rw[he];simp) (by simp;omega) (by simp;omega)
   rw[show(pre++[x]).length=pre.length+1 by simp] at this
   rw[this];simp
theorem Fa(y:Int):∀(S:List (ak×ak)),((S.filterMap BX).filter fun s=>decide (s.Y0≤y)&&decide (y<s.Y1)).map (·.X0)=(sJ y S).map (·.1.X)
 |[]=>rfl
 | s::S=>by
  have ih:=Fa y S
  unfold sJ at ih ⊢
  by_cases hx:s.1.X=s.2.X
  ·have hv:BX s=some ⟨s.1.X,min s.1.Y s.2.Y,0,max s.1.Y s.2.Y⟩:=if_pos hx
   rw[List.filterMap_cons_some hv,List.filter_cons,List.filter_cons,decide_eq_true hx,Bool.true_and]
   by_cases hc:(decide (min s.1.Y s.2.Y≤y)&&decide (y<max s.1.Y s.2.Y))=true
   ·rw[if_pos hc,if_pos hc,List.map_cons,List.map_cons,ih]
   ·rw[if_neg hc,if_neg hc,ih]
  ·have hv:BX s=none:=if_neg hx
   rw[List.filterMap_cons_none hv,List.filter_cons,decide_eq_false hx,Bool.false_and,if_neg (by simp),ih]
theorem Oy(p0:ak):∀(l:List ak),(CY p0 l).length=l.length
 |[]=>rfl
 |x::r=>by rw[zL,List.length_cons,List.length_cons,Oy p0 r]
theorem JA{p0:ak}:∀{l:List ak} {s:ak×ak},s∈CY p0 l→s.1∈l∧(s.2∈l∨s.2=p0)
 |[],s,h=>by cases h
 | x::r,s,h=>by
  rw[zL] at h
  rcases List.mem_cons.1 h with rfl|h
  ·refine⟨List.mem_cons_self,?_⟩
   cases r with
   |nil=>exact .inr rfl
   |cons y r=>exact .inl (by simp)
  ·obtain⟨h1,h2⟩:=JA h
   exact⟨List.mem_cons_of_mem _ h1,h2.imp (List.mem_cons_of_mem _) id⟩
def Cx(l:List ak)(x y:Int):Prop:=Ew x ((sJ y (jL l)).map (·.1.X))%2=1
theorem GN{f:Int→List (Int×Int)}{R:Nat}(hf:∀y,(f y).length≤R):∀(ys:List Int) (out:List Bd),(∀c∈out,c.2.2.length≤R)→(qQ f ys out).length≤out.length+ys.length∧∀c∈qQ f ys out,c.2.2.length≤R
 |[],out,h=>⟨by simp[qQ],h⟩
 |[a],out,h=>⟨by simp[qQ],h⟩
 |a::b::ys,out,h=>by
  have h1:=xQ out (a,b,f a)
  obtain⟨h2,h3⟩:=GN hf (b::ys) (pushB out (a,b,f a)) (Im h (hf a))
  rw[qQ]
  exact⟨by simp at h2 ⊢;omega,h3⟩
theorem NN{N:Nat}(hN:10000000000≤N){l:List ak}(hne:l≠[])(hl:l.length≤2000)(hb:∀p∈l,-1000000000≤p.X∧p.X≤1000000000)(hax:VC (jL l)):
  ∃A,qX N [l]=some (A.map toP)∧zt A∧A.length≤2000∧(∀b∈A,b.2.2.length≤2000)∧∀x y,rW x y A↔Cx l x y:=by
 obtain⟨p0,r0,rfl⟩:∃p0 r,l=p0::r:=by
  cases l with
  |nil=>exact absurd rfl hne
  |cons p r=>exact⟨p,r,rfl⟩
 obtain⟨V,hV⟩:∃V,V=(jL (p0::r0)).filterMap BX:=⟨_,rfl⟩
 have hVm:∀v∈V,(v.X0∈(p0::r0).map (·.X))∧v.Y0∈(p0::r0).map (·.Y)∧v.Y1∈(p0::r0).map (·.Y):=fun v hv=>by
  rw[hV] at hv
  obtain⟨s,hs,hsv⟩:=List.mem_filterMap.1 hv
  obtain⟨s1,s2⟩:=JA (show s∈CY p0 (p0::r0) from hs)
  have s2':s.2∈p0::r0:=s2.elim id fun e=>e▸List.mem_cons_self
  unfold BX at hsv
  split at hsv
  ·cases Option.some.inj hsv
   refine⟨List.mem_map.2 ⟨s.1,s1,rfl⟩,?_,?_⟩
   ·show min s.1.Y s.2.Y∈_
    rcases(show min s.1.Y s.2.Y=s.1.Y∨min s.1.Y s.2.Y=s.2.Y by omega) with e|e<;>rw[e]
    ·exact List.mem_map.2 ⟨s.1,s1,rfl⟩
    ·exact List.mem_map.2 ⟨s.2,s2',rfl⟩
   ·show max s.1.Y s.2.Y∈_
    rcases(show max s.1.Y s.2.Y=s.2.Y∨max s.1.Y s.2.Y=s.1.Y by omega) with e|e<;>rw[e]
    ·exact List.mem_map.2 ⟨s.2,s2',rfl⟩
    ·exact List.mem_map.2 ⟨s.1,s1,rfl⟩
  ·cases hsv
 have hVl:V.length≤2000:=by
  rw[hV]
  refine Nat.le_trans (List.length_filterMap_le _ _) ?_
  have:=Oy p0 (p0::r0)
  show(CY p0 (p0::r0)).length≤2000
  omega
 have hVx:∀v∈V,-1000000000≤v.X0∧v.X0≤1000000000:=fun v hv=>by
  obtain⟨p,hp,e⟩:=List.mem_map.1 (hVm v hv).1
  have:=hb p hp
  omega
 obtain⟨U,u1,u2,u3⟩:=FC (c:=fun z0 z1=>nO z0 z1) (k:=fun r=>r.X0) (l:=V) (by omega) (fun x hx y hy=>by
  have a:=hVx x hx;have b:=hVx y hy
  unfold nO
  rw[bX (by omega) (by omega)])
 have hxs:∀y,(sF U y).Perm ((sJ y (jL (p0::r0))).map (·.1.X)):=fun y=>by
  rw[←Fa,←hV]
  exact(u2.filter _).map _
 have hev:∀y,(sF U y).length%2=0:=fun y=>by
  rw[(hxs y).length_eq,List.length_map];exact Gz y hax
 have hcle:∀x y,Ew x (sF U y)=Ew x ((sJ y (jL (p0::r0))).map (·.1.X)):=fun x y=>((hxs y).filter _).length_eq
 obtain⟨ys,hys⟩:∃ys,ys=xE ((p0::r0).map (·.Y)):=⟨_,rfl⟩
 have hysl:ys.length≤2000:=by rw[hys];exact Nat.le_trans (Fy _) (by simpa using hl)
 obtain⟨b1,b2⟩:=Sa (up:=U) (ys:=ys) (by rw[hys];exact sP _) u3 hev (fun s hs=>by
  have:=hVm s (u2.subset hs)
  rw[hys,uG,uG];exact this.2)
 have hUl:U.length≤2000:=by rw[u2.length_eq];exact hVl
 have hrow:∀y,(fA U y).length≤2000:=fun y=>by
  have h1:=gT (fA U y)
  rw[(Pd u3 hev y).1] at h1
  have h2:=SE (sF U y)
  have h3:(sF U y).length≤U.length:=by unfold sF;rw[List.length_map];exact List.length_filter_le _ _
  omega
 obtain⟨c1,c2⟩:=GN hrow ys [] (fun c hc=>by cases hc)
 refine⟨qQ (fA U) ys [],?_,b1,by simp at c1;omega,c2,fun x y=>by rw[b2,hcle];rfl⟩
 unfold qX
 rw[iI]
 have hsl:=Bp (l:=p0::r0) (p0:=p0) rfl (by omega) (K:=iI N [] (0+1)) (p0::r0) [] [] [] rfl (by simp) (by simp)
 rw[show([]:List ak).length=0 from rfl] at hsl
 rw[hsl,List.nil_append,List.nil_append,iI]
 have hso:=N9 (l:=(p0::r0).map (·.Y)) (by rw[List.length_map];omega)
 rw[Jh (by rw[List.length_map];omega),ob] at hso ⊢
 rw[hso,ob,show(CY p0 (p0::r0)).filterMap BX=V from hV.symm,u1,ob,←hys]
 exact GL (by rw[hys];exact sP _) u3 hev (by omega) (by omega) ys [] N [] rfl (by omega) (by simp;omega)
open PX
theorem Ow(z:Int×Int):∀l:List (Int×Int),CY (iA z) (l.map iA)=(Ip z l).map fun s=>(iA s.1,iA s.2)
 |[]=>rfl
 |x::r=>by
  have e:Ip z (x::r)=(x,r.headD z)::Ip z r:=rfl
  rw[List.map_cons,zL,Ow z r,e,List.map_cons]
  congr 1
  cases r<;>rfl
theorem Mv{l:List (Int×Int)}:jL (l.map iA)=(Ip (l.headD (0,0)) l).map fun s=>(iA s.1,iA s.2):=by
 cases l with
 |nil=>rfl
 |cons x r=>exact Ow x (x::r)
theorem Nh(y:Int)(l:List (Int×Int)):(sJ y (jL (l.map iA))).map (·.1.X)=Yd y l:=by
 rw[Mv]
 unfold sJ Yd
 rw[List.filter_map,List.map_map]
 rfl
theorem Oj{l:List ak}{p0:ak}(h0:l.head?=some p0):∀(suf pre:List ak),l=pre++suf→Cg l suf pre.length=true→VC (CY p0 suf)
 |[],_,_,_=>fun s hs=>by cases hs
 | x::r,pre,he,h=>by
  have hnx:l.getD ((pre.length+1)%l.length) ⟨0,0⟩=(r++[p0]).headD p0:=by
   have:=Ir (pre:=pre) (r:=r) (x:=x) (p0:=p0) (by rw[←he];exact h0)
   rw[he];exact this
  rw[Cg,hnx] at h
  split at h
  ·cases h
  rename_i hne
  have ih:=Oj h0 r (pre++[x]) (by rw[he];simp) (by rw[List.length_append];exact h)
  rw[zL]
  intro s hs
  rcases List.mem_cons.1 hs with rfl|hs
  ·intro hc
   refine hne ?_
   simp only at hc
   rw[beq_iff_eq,Bool.eq_iff_iff,beq_iff_eq,beq_iff_eq]
   rw[hc]
  ·exact ih s hs
theorem KQ{l:List ak}(h:Cg l l 0=true):VC (jL l):=by
 cases l with
 |nil=>intro s hs;cases hs
 |cons p r=>exact Oj (p0:=p) rfl (p::r) [] rfl h
theorem Mw{l:List ak}{s:ak×ak}(h:s∈jL l):s.1∈l∧s.2∈l:=by
 cases l with
 |nil=>cases h
 |cons p r=>
  obtain⟨h1,h2⟩:=JA (show s∈CY p (p::r) from h)
  exact⟨h1,h2.elim id fun e=>e▸List.mem_cons_self⟩
theorem Sz{x:Int}{l:List Int}(h:∀z∈l,x<z):Ew x l=0:=by
 unfold Ew
 rw[List.length_eq_zero_iff,List.filter_eq_nil_iff]
 intro z hz
 have:=h z hz
 simp;omega
theorem UU{x:Int}{l:List Int}(h:∀z∈l,z≤x):Ew x l=l.length:=by
 unfold Ew
 rw[List.filter_eq_self.2]
 intro z hz
 simpa using h z hz
theorem Qj{l:List ak}(hax:VC (jL l))(hp:∀q∈l,(-1000000≤q.X∧q.X≤1000000)∧(-1000000≤q.Y∧q.Y≤1000000)){x y:Int}(h:Cx l x y):(-1000000≤x∧x<1000000)∧(-1000000≤y∧y<1000000):=by
 unfold Cx at h
 have hm:∀z∈(sJ y (jL l)).map (·.1.X),(-1000000≤z∧z≤1000000)∧(-1000000≤y∧y<1000000):=by
  intro z hz
  obtain⟨s,hs,rfl⟩:=List.mem_map.1 hz
  unfold sJ at hs
  obtain⟨h1,h2⟩:=List.mem_filter.1 hs
  obtain⟨m1,m2⟩:=Mw h1
  have p1:=hp _ m1
  have p2:=hp _ m2
  simp only[Bool.and_eq_true,decide_eq_true_eq] at h2
  omega
 have hlo: -1000000≤x:=by
  apply Classical.byContradiction
  intro hx
  rw[Sz fun z hz=>by have:=hm z hz;omega] at h
  omega
 have hhi:x<1000000:=by
  apply Classical.byContradiction
  intro hx
  rw[UU fun z hz=>by have:=hm z hz;omega,List.length_map,Gz y hax] at h
  omega
 refine⟨⟨hlo,hhi⟩,?_⟩
 cases hc:(sJ y (jL l)).map (·.1.X) with
 |nil=>
  rw[hc] at h
  have e:Ew x []=0:=rfl
  rw[e] at h
  omega
 |cons z t=>exact(hm z (by rw[hc];exact List.mem_cons_self)).2
theorem OB{a b:Int}(ha: -1000000≤a∧a≤1000000)(hb: -1000000≤b∧b≤1000000): -1000000000000≤a*b∧a*b≤1000000000000:=by
 have h:(a*b).natAbs≤1000000*1000000:=by
  rw[Int.natAbs_mul]
  exact Nat.mul_le_mul (by omega) (by omega)
 omega
theorem PD{l:List (Int×Int)}{z:Int×Int}(h0:l.head?=some z)(hl:l.length≤2000)(hp:∀q∈l,(-1000000≤q.1∧q.1≤1000000)∧(-1000000≤q.2∧q.2≤1000000)):∀(suf pre:List (Int×Int)) (x:Int),l=pre++suf→
  (-(2000000000000*(pre.length:Int))≤x∧x≤2000000000000*(pre.length:Int))→
  TM (l.map iA) (suf.map iA) pre.length x=x+((Ip z suf).map zY).sum∧(-(2000000000000*(l.length:Int))≤x+((Ip z suf).map zY).sum∧x+((Ip z suf).map zY).sum≤2000000000000*(l.length:Int))
 |[],pre,x,he,hx=>by
  have:l.length=pre.length:=by rw[he];simp
  show x=x+0∧(_≤x+0∧x+0≤_)
  omega
 | q::r,pre,x,he,hx=>by
  have hlen:l.length=pre.length+r.length+1:=by rw[he];simp;omega
  have hnx:(l.map iA).getD ((pre.length+1)%(l.map iA).length) ⟨0,0⟩=iA (r.headD z):=by
   rw[List.length_map]
   cases r with
   |nil=>
    rw[hlen,List.length_nil,Nat.add_zero,Nat.mod_self]
    cases l with
    |nil=>cases h0
    |cons y t=>cases h0;rfl
   |cons y t=>
    rw[Nat.mod_eq_of_lt (by rw[hlen];simp),List.getD_eq_getElem?_getD,List.getElem?_map,he,List.getElem?_append_right (by omega)]
    simp
  have hq:=hp q (by rw[he];simp)
  have hn:(-1000000≤(r.headD z).1∧(r.headD z).1≤1000000)∧(-1000000≤(r.headD z).2∧(r.headD z).2≤1000000):=by
   cases r with
   |nil=>
    apply hp
    cases l with
    |nil=>cases h0
    |cons y t=>cases h0;exact List.mem_cons_self
   |cons y t=>exact hp y (by rw[he];simp)
  have m1:=OB hq.1 hn.2
  have m2:=OB hn.1 hq.2
  rw[List.map_cons,TM,hnx]
  show TM (l.map iA) (r.map iA) (pre.length+1) (bF (x+bF (bF (q.1*(r.headD z).2)-bF ((r.headD z).1*q.2))))=x+(zY (q,r.headD z)+((Ip z r).map zY).sum)∧(_≤x+(zY (q,r.headD z)+((Ip z r).map zY).sum)∧x+(zY (q,r.headD z)+((Ip z r).map zY).sum)≤_)
  have ec:zY (q,r.headD z)=q.1*(r.headD z).2-(r.headD z).1*q.2:=rfl
  rw[ec]
  generalize q.1*(r.headD z).2=A at m1
  generalize (r.headD z).1*q.2=B at m2
  rw[bX (x:=A) (by omega) (by omega),bX (x:=B) (by omega) (by omega),bX (x:=A-B) (by omega) (by omega),bX (x:=x+(A-B)) (by omega) (by omega)]
  have ih:=PD h0 hl hp r (pre++[q]) (x+(A-B)) (by rw[he];simp) (by rw[List.length_append,List.length_singleton];omega)
  rw[List.length_append,List.length_singleton] at ih
  rw[ih.1]
  omega
theorem SY{l:List (Int×Int)}(hl:l.length≤2000)(hp:∀q∈l,(-1000000≤q.1∧q.1≤1000000)∧(-1000000≤q.2∧q.2≤1000000)):TM (l.map iA) (l.map iA) 0 0=MB l∧(-4000000000000000≤MB l∧MB l≤4000000000000000):=by
 cases l with
 |nil=>exact⟨rfl,by decide,by decide⟩
 |cons z t=>
  have h:=PD (l:=z::t) (z:=z) rfl hl hp (z::t) [] 0 rfl (by simp)
  have e:MB (z::t)=((Ip z (z::t)).map zY).sum:=rfl
  rw[←e,Int.zero_add] at h
  refine⟨h.1,?_⟩
  omega
def He(q:ak):Int×Int:=(q.X,q.Y)
theorem Rq(o:List (List ak)):(o.map (List.map He)).map (List.map iA)=o:=by
 rw[List.map_map]
 conv=>rhs;rw[←List.map_id o]
 apply List.map_congr_left
 intro l _
 show(l.map He).map iA=l
 rw[List.map_map]
 conv=>rhs;rw[←List.map_id l]
 apply List.map_congr_left
 intro q _
 rfl
theorem Qg(ls:List (List (Int×Int))):(ls.map (List.map iA)).map (List.map He)=ls:=by
 rw[List.map_map]
 conv=>rhs;rw[←List.map_id ls]
 apply List.map_congr_left
 intro l _
 show(l.map iA).map He=l
 rw[List.map_map]
 conv=>rhs;rw[←List.map_id l]
 apply List.map_congr_left
 intro q _
 rfl
structure U9 (l:List ak) (W:List Ed):Prop where
 good:tL l
 few:l.length≤2000
 inn:∀x y,Cx l x y↔wd W x y≠0
 kind:rC l=if ar W<0 then 2 else 1
 size:KP l= -(2*max (ar W) (-(ar W)))
theorem MG{I:Sq}{ls:List (List (Int×Int))}(ho:yU I ls)(hf:∃B,wD I B)(hI:TB I){o:List (List ak)}(hB:vw (ls.map (List.map iA)) o)(hl:o.flatten.length≤2000):
  ∃os:List (List ak×List Ed),os.map (·.1)=o∧(∀p∈os,U9 p.1 p.2)∧∀x y,((os.map (·.2)).foldl zI fun _ _=>False) x y↔I x y=true:=by
 have hg:=Ig ho hf hI
 obtain⟨B,hfB⟩:=hf
 have hfin:∀y,∃lo,∀x,x≤lo→I x y=false:=fun y=>⟨-1000001,fun x hx=>by
  cases h:I x y with
  |false=>rfl
  |true=>have:=(hI x y h).1;omega⟩
 obtain⟨wf,w1,w2⟩:=Jw hfB ho hfin
 have hperm:(o.map (List.map He)).Perm ls:=by
  have:=hB.len.map (List.map He)
  rwa [Qg] at this
 have hback:=Rq o
 have hlen:∀m∈o.map (List.map He),m.length≤2000:=by
  intro m hm
  obtain⟨l,hl2,rfl⟩:=List.mem_map.1 hm
  have:=zO hl2
  rw[List.length_map];omega
 have facts:∀m∈o.map (List.map He),U9 (m.map iA) (wf m):=by
  intro m hm
  have hml:=hperm.mem_iff.1 hm
  have hgm:=hg (m.map iA) (List.mem_map.2 ⟨m,hml,rfl⟩)
  obtain⟨f1,f2⟩:=w1 m hml
  have hs:=SY (hlen m hm) (fun q hq=>hgm.2.1 (iA q) (List.mem_map.2 ⟨q,hq,rfl⟩))
  rw[f2] at hs
  refine⟨hgm,by rw[List.length_map];exact hlen m hm,fun x y=>?_,?_,?_⟩
  ·rw[←f1 x y]
   unfold Cx
   rw[Nh]
   exact Iff.rfl
  ·unfold rC
   rw[hs.1]
   by_cases c:ar (wf m)<0
   ·rw[if_pos (by omega),if_pos c]
   ·rw[if_neg (by omega),if_neg c]
  ·unfold KP ST.KR rowOf
   simp only
   rw[hs.1,bX (by omega) (by omega)]
   omega
 refine⟨(o.map (List.map He)).map fun m=>(m.map iA,wf m),?_,?_,?_⟩
 ·rw[List.map_map]
  exact hback
 ·intro p hp
  obtain⟨m,hm,rfl⟩:=List.mem_map.1 hp
  exact facts m hm
 ·rw[List.map_map]
  refine w2 (o.map (List.map He)) hperm ?_
  have hpw:=hB.1
  rw[←hback,List.pairwise_map] at hpw
  refine List.Pairwise.imp_of_mem ?_ hpw
  intro a b ha hb hab
  rw[(facts a ha).size,(facts b hb).size] at hab
  omega
theorem Ox(f:ak→ak)(p0:ak):∀(l:List ak),CY (f p0) (l.map f)=(CY p0 l).map fun s=>(f s.1,f s.2)
 |[]=>rfl
 |[x]=>rfl
 |x::y::r=>by
  have:=Ox f p0 (y::r)
  rw[List.map_cons,List.map_cons,CY,CY,List.map_cons]
  rw[List.map_cons] at this
  rw[this]
theorem Mx(f:ak→ak)(l:List ak):jL (l.map f)=(jL l).map fun s=>(f s.1,f s.2):=by
 cases l with
 |nil=>rfl
 |cons x r=>exact Ox f x (x::r)
abbrev Sd:=ak×ak
def EG(x y:Int)(s:Sd):Bool:=(decide (s.1.X=s.2.X)&&(decide (min s.1.Y s.2.Y≤y)&&decide (y<max s.1.Y s.2.Y)))&&decide (s.1.X≤x)
def Xp(x y:Int)(s:Sd):Bool:=(decide (s.1.X=s.2.X)&&(decide (min s.1.Y s.2.Y≤y)&&decide (y<max s.1.Y s.2.Y)))&&decide (x<s.1.X)
def TK(x y:Int)(s:Sd):Bool:=(decide (s.1.Y=s.2.Y)&&(decide (min s.1.X s.2.X≤x)&&decide (x<max s.1.X s.2.X)))&&decide (s.1.Y≤y)
def Xo(x y:Int)(s:Sd):Bool:=(decide (s.1.Y=s.2.Y)&&(decide (min s.1.X s.2.X≤x)&&decide (x<max s.1.X s.2.X)))&&decide (y<s.1.Y)
theorem JW{A B:Prop}[Decidable A][Decidable B]:(decide A !=decide B)=true↔¬(A↔B):=by
 by_cases ha:A<;>by_cases hb:B<;>simp[ha,hb]
theorem IE(l:List ak)(x y:Int):Cx l x y↔(jL l).countP (EG x y)%2=1:=by
 unfold Cx Ew sJ
 have:((((jL l).filter fun s=>decide (s.1.X=s.2.X)&&(decide (min s.1.Y s.2.Y≤y)&&decide (y<max s.1.Y s.2.Y))).map (·.1.X)).filter fun z=>decide (z≤x)).length=(jL l).countP (EG x y):=by
  rw[List.filter_map,List.length_map,List.filter_filter,←List.countP_eq_length_filter]
  refine List.countP_congr fun s _=>?_
  show(decide (s.1.X≤x)&&_)=true↔_
  unfold EG
  rw[Bool.and_comm]
 rw[this]
theorem Lj(f:ak→Bool)(p0:ak):∀(r:List ak) (x:ak),((CY p0 (x::r)).countP fun s=>f s.1 !=f s.2)%2=if(f x !=f p0) then 1 else 0
 |[],x=>by
  rw[CY,List.countP_cons,List.countP_nil]
  simp only
  cases f x<;>cases f p0<;>rfl
 |z::r,x=>by
  have ih:=Lj f p0 r z
  rw[CY,List.countP_cons]
  revert ih
  simp only
  cases f x<;>cases f z<;>cases f p0<;>simp<;>omega
theorem Dy(f:ak→Bool)(l:List ak):((jL l).countP fun s=>f s.1 !=f s.2)%2=0:=by
 cases l with
 |nil=>rfl
 |cons x r=>rw[jL,Lj];simp
theorem GA{S:List Sd}{a b e:Sd→Bool}(h:∀s∈S,e s=(a s||b s)∧(a s&&b s)=false):S.countP e=S.countP a+S.countP b:=by
 induction S with
 |nil=>rfl
 |cons s S ih=>
  obtain⟨h1,h2⟩:=h s List.mem_cons_self
  rw[List.countP_cons,List.countP_cons,List.countP_cons,ih fun s hs=>h s (List.mem_cons_of_mem _ hs),h1]
  revert h2
  cases a s<;>cases b s<;>simp<;>omega
section
variable {l:List ak} (h:VC (jL l)) (x y:Int)
include h
theorem Nt{s:Sd}(hs:s∈jL l):¬(s.1.X=s.2.X↔s.1.Y=s.2.Y):=fun e=>h s hs (propext e)
theorem Ww:(jL l).countP (Xp x y)%2=(jL l).countP (EG x y)%2:=by
 have h1:=Dy (fun p=>decide (p.Y≤y)) l
 rw[GA (a:=EG x y) (b:=Xp x y) fun s hs=>by
  have:=Nt h hs
  refine⟨?_,?_⟩
  ·rw[Bool.eq_iff_iff]
   simp only[EG,Xp,Bool.or_eq_true,Bool.and_eq_true,decide_eq_true_eq,JW]
   omega
  ·rw[Bool.eq_false_iff]
   simp only[EG,Xp,ne_eq,Bool.and_eq_true,decide_eq_true_eq]
   omega] at h1
 omega
theorem Wy:(jL l).countP (Xo x y)%2=(jL l).countP (TK x y)%2:=by
 have h1:=Dy (fun p=>decide (p.X≤x)) l
 rw[GA (a:=TK x y) (b:=Xo x y) fun s hs=>by
  have:=Nt h hs
  refine⟨?_,?_⟩
  ·rw[Bool.eq_iff_iff]
   simp only[TK,Xo,Bool.or_eq_true,Bool.and_eq_true,decide_eq_true_eq,JW]
   omega
  ·rw[Bool.eq_false_iff]
   simp only[TK,Xo,ne_eq,Bool.and_eq_true,decide_eq_true_eq]
   omega] at h1
 omega
theorem Wx:(jL l).countP (TK x y)%2=(jL l).countP (EG x y)%2:=by
 have h1:=Dy (fun p=>decide (p.X≤x∧p.Y≤y)) l
 rw[GA (a:=EG x y) (b:=TK x y) fun s hs=>by
  have:=Nt h hs
  refine⟨?_,?_⟩
  ·rw[Bool.eq_iff_iff]
   simp only[EG,TK,Bool.or_eq_true,Bool.and_eq_true,decide_eq_true_eq,JW]
   omega
  ·rw[Bool.eq_false_iff]
   simp only[EG,TK,ne_eq,Bool.and_eq_true,decide_eq_true_eq]
   omega] at h1
 omega
end
def zk(t:iT)(p:Int×Int):Int×Int:=((tr t ⟨p.1,p.2,p.1+1,p.2+1⟩).X0,(tr t ⟨p.1,p.2,p.1+1,p.2+1⟩).Y0)
section
variable {t:iT} (hq:0≤t.Quarters∧t.Quarters≤3)
include hq
theorem Rn{l:List ak}(h:VC (jL l))(x y:Int):Cx (l.map (tk t)) (zk t (x,y)).1 (zk t (x,y)).2↔Cx l x y:=by
 rw[IE,IE,Mx,List.countP_map]
 have key:∀e:Sd→Bool,(jL l).countP e%2=(jL l).countP (EG x y)%2→(∀s,EG (zk t (x,y)).1 (zk t (x,y)).2 (tk t s.1,tk t s.2)=e s)→((jL l).countP (EG (zk t (x,y)).1 (zk t (x,y)).2 ∘ fun s=>(tk t s.1,tk t s.2))%2=1↔(jL l).countP (EG x y)%2=1):=fun e h1 h2=>by
  rw[show(EG (zk t (x,y)).1 (zk t (x,y)).2 ∘ fun s:Sd=>(tk t s.1,tk t s.2))=e from funext fun s=>h2 s,h1]
 have hR:=Ww h x y
 have hB:=Wx h x y
 have hT:=(Wy h x y).trans hB
 clear h
 obtain⟨fl,q,⟨ax,ay⟩⟩:=t
 simp only at hq
 rcases w9 hq with rfl|rfl|rfl|rfl<;>cases fl
 ·refine key _ rfl fun s=>?_
  rw[Bool.eq_iff_iff]
  simp[EG,zk,tr,tk,rX,rY];omega
 ·refine key _ hR fun s=>?_
  rw[Bool.eq_iff_iff]
  simp[EG,Xp,zk,tr,tk,rX,rY];omega
 ·refine key _ hT fun s=>?_
  rw[Bool.eq_iff_iff]
  simp[EG,Xo,zk,tr,tk,rX,rY];omega
 ·refine key _ hT fun s=>?_
  rw[Bool.eq_iff_iff]
  simp[EG,Xo,zk,tr,tk,rX,rY];omega
 ·refine key _ hR fun s=>?_
  rw[Bool.eq_iff_iff]
  simp[EG,Xp,zk,tr,tk,rX,rY];omega
 ·refine key _ rfl fun s=>?_
  rw[Bool.eq_iff_iff]
  simp[EG,zk,tr,tk,rX,rY];omega
 ·refine key _ hB fun s=>?_
  rw[Bool.eq_iff_iff]
  simp[EG,TK,zk,tr,tk,rX,rY];omega
 ·refine key _ hB fun s=>?_
  rw[Bool.eq_iff_iff]
  simp[EG,TK,zk,tr,tk,rX,rY];omega
theorem Q4{a:aK}(h:a.X0<a.X1∧a.Y0<a.Y1)(x y:Int):(((tr t a).X0≤(zk t (x,y)).1∧(zk t (x,y)).1<(tr t a).X1)∧(tr t a).Y0≤(zk t (x,y)).2∧(zk t (x,y)).2<(tr t a).Y1)↔((a.X0≤x∧x<a.X1)∧a.Y0≤y∧y<a.Y1):=by
 obtain⟨fl,q,⟨ax,ay⟩⟩:=t
 simp only at hq
 rcases w9 hq with rfl|rfl|rfl|rfl<;>cases fl<;>simp[zk,tr,tk,rX,rY]<;>omega
theorem XE{a:aK}(h:a.X0<a.X1∧a.Y0<a.Y1):(tr t a).X0<(tr t a).X1∧(tr t a).Y0<(tr t a).Y1:=by
 obtain⟨fl,q,⟨ax,ay⟩⟩:=t
 simp only at hq
 rcases w9 hq with rfl|rfl|rfl|rfl<;>cases fl<;>simp[tr,tk,rX,rY]<;>omega
theorem Xl{l:List aK}(hl:Ne l)(x y:Int):QF (zk t (x,y)).1 (zk t (x,y)).2 (l.map (tr t))↔QF x y l:=by
 unfold QF
 constructor
 ·rintro⟨b,hb,hx⟩
  obtain⟨a,ha,rfl⟩:=List.mem_map.1 hb
  exact⟨a,ha,(Q4 hq (hl a ha) x y).1 hx⟩
 ·rintro⟨a,ha,hx⟩
  exact⟨tr t a,List.mem_map.2 ⟨a,ha,rfl⟩,(Q4 hq (hl a ha) x y).2 hx⟩
theorem Q3(x y:Int):∃u v,zk t (u,v)=(x,y):=by
 refine⟨(zk (SQ t) (x,y)).1,(zk (SQ t) (x,y)).2,?_⟩
 obtain⟨fl,q,⟨ax,ay⟩⟩:=t
 simp only at hq
 rcases w9 hq with rfl|rfl|rfl|rfl<;>cases fl<;>simp[zk,tr,tk,rX,rY,SQ,Px]<;>omega
end
def Vt(q:ak):Bool:=(decide (-1000000≤q.X)&&decide (q.X≤1000000))&&(decide (-1000000≤q.Y)&&decide (q.Y≤1000000))
theorem Uh{q:ak}:Vt q=true↔(-1000000≤q.X∧q.X≤1000000)∧(-1000000≤q.Y∧q.Y≤1000000):=by unfold Vt;simp
theorem Ve(q:ak):lL q=some (Vt q):=by
 unfold lL lF mh Vt
 cases(decide (-1000000≤q.X)&&decide (q.X≤1000000))<;>rfl
def QB(c:Bool)(I S:List Bd)(x y:Int):Prop:=if c then rW x y I∧¬rW x y S else rW x y I∨rW x y S
open Classical in
noncomputable def Pq(c:Bool)(I S:List Bd):List Bd:=if h:∃C,zt C∧∀x y,rW x y C↔QB c I S x y then h.choose else[]
theorem Sw{c:Bool}{I S C:List Bd}(h1:zt C)(h2:∀x y,rW x y C↔QB c I S x y):Pq c I S=C:=by
 have h:∃C,zt C∧∀x y,rW x y C↔QB c I S x y:=⟨C,h1,h2⟩
 unfold Pq
 rw[dif_pos h]
 exact h.choose_spec.1.uniq h1 fun x y=>by rw[h.choose_spec.2,h2]
structure zh (I:List Bd):Prop where
 ok:zt I
 few:(fK I).length≤2000
 lim:(fK I).all lim=true
structure I7 (S:List Bd):Prop where
 ok:zt S
 few:S.length≤100000
 row:∀b∈S,b.2.2.length≤10000
 tot:(fK S).length≤100000000
theorem zh.Yy{I:List Bd}(h:zh I):I7 I:=by
 have h1:=h.ok.le
 have h2:=h.few
 exact⟨h.ok,by omega,fun b hb=>by have:=FU hb;omega,by omega⟩
theorem EO{I:List Bd}(h:zt I):(fK I).all lim=true↔∀x y,rW x y I→(-1000000≤x∧x<1000000)∧(-1000000≤y∧y<1000000):=by
 rw[List.all_eq_true]
 constructor
 ·intro hl x y hx
  obtain⟨r,hr,h1,h2⟩:=(yV h x y).2 hx
  have:=vF.1 (hl r hr)
  omega
 ·intro hp r hr
  have:=MK h (m:=1000000) hp r hr
  rw[vF];omega
theorem Nl{c:Bool}{I S:List Bd}(hI:I7 I)(hS:I7 S){N:Nat}(hN:10000000000≤N):(if c then mV N (I.map toP) (S.map toP) else ol N (I.map toP) (S.map toP))=some ((Pq c I S).map toP)∧zt (Pq c I S)∧(∀x y,rW x y (Pq c I S)↔QB c I S x y)∧(fK (Pq c I S)).length≤1000000000000:=by
 cases c
 ·obtain⟨C,c1,c2,c3,c4⟩:=Wz hN hI.ok hS.ok hI.row hS.row hI.few hS.few
  have:=Sw (c:=false) c2 c3
  rw[this]
  exact⟨c1,c2,c3,c4⟩
 ·obtain⟨C,c1,c2,c3,c4⟩:=RL hN hI.ok hS.ok hI.row hS.row hI.few hS.few
  have:=Sw (c:=true) c2 c3
  rw[this]
  exact⟨c1,c2,c3,c4⟩
theorem UR{c:Bool}{I S:List Bd}(hI:zh I)(hS:I7 S)(hl:(fK S).all lim=true)(hm:(fK (Pq c I S)).length≤2000):zh (Pq c I S):=by
 obtain⟨_,c2,c3,_⟩:=Nl (c:=c) hI.Yy hS (Nat.le_refl _)
 refine⟨c2,hm,(EO c2).2 fun x y hx=>?_⟩
 have h1:=(EO hI.ok).1 hI.lim x y
 have h2:=(EO hS.ok).1 hl x y
 rw[c3] at hx
 unfold QB at hx
 cases c
 ·rcases hx with hx|hx
  ·exact h1 hx
  ·exact h2 hx
 ·exact h1 hx.1
theorem UM{N:Nat}(hN:10000000000≤N){m:fq}{I S:List Bd}(hI:zh I)(hm:m.image=I.map toP)(hS:I7 S)(hl:(fK S).all lim=true):mF N m (S.map toP)=some (if 2000<(fK (Pq m.clear I S)).length then 2 else 0,(Pq m.clear I S).map toP):=by
 obtain⟨c1,c2,c3,c4⟩:=Nl (c:=m.clear) hI.Yy hS hN
 have hf:=PM (L:=fK S) hS.tot (Dl hS.ok)
 rw[KF hS.ok,hl] at hf
 have hj:jb ((Pq m.clear I S).map toP)=some (if 2000<(fK (Pq m.clear I S)).length then 2 else 0,(Pq m.clear I S).map toP):=by
  unfold jb
  rw[J8 (by omega),ob]
  by_cases hm:2000<(fK (Pq m.clear I S)).length
  ·rw[if_pos (by simp;omega),if_pos hm]
  ·rw[if_neg (by simp;omega),if_neg hm]
 unfold mF
 rw[hf,ob,if_neg (by simp),hm]
 revert c1 hj
 cases m.clear<;>intro c1 hj
 ·simp only[Bool.false_eq_true,if_false] at c1 ⊢
  rw[c1,ob,hj]
 ·simp only[if_true] at c1 ⊢
  rw[c1,ob,hj]
open PX
theorem VW{t:iT}(hq:0≤t.Quarters∧t.Quarters≤3)(a b:ak):(((tk t a).X==(tk t b).X)==((tk t a).Y==(tk t b).Y))=((a.X==b.X)==(a.Y==b.Y)):=by
 have e:∀x y:Int,(-x== -y)=(x==y):=fun x y=>by rw[Bool.eq_iff_iff,beq_iff_eq,beq_iff_eq];omega
 have f:∀x y z:Int,(x+z==y+z)=(x==y):=fun x y z=>by rw[Bool.eq_iff_iff,beq_iff_eq,beq_iff_eq];omega
 unfold tk rX rY
 simp only[f]
 rcases w9 hq with h|h|h|h<;>rw[h]<;>cases t.Flip<;>simp only[Bool.false_eq_true,if_false,if_true,e,Int.neg_neg,reduceIte,show ¬(1:Int)=0 by decide,show ¬(2:Int)=0 by decide,show ¬(2:Int)=1 by decide,show ¬(3:Int)=0 by decide,show ¬(3:Int)=1 by decide,show ¬(3:Int)=2 by decide]<;>cases a.X==b.X<;>cases a.Y==b.Y<;>rfl
theorem Oi{t:iT}(hq:0≤t.Quarters∧t.Quarters≤3){l:List ak}(hl:0<l.length):∀(suf:List ak) (i:Nat),Cg (l.map (tk t)) (suf.map (tk t)) i=Cg l suf i
 |[],_=>rfl
 | x::r,i=>by
  have hi:(i+1)%l.length<l.length:=Nat.mod_lt _ hl
  have e:(l.map (tk t)).getD ((i+1)%(l.map (tk t)).length) ⟨0,0⟩=tk t (l.getD ((i+1)%l.length) ⟨0,0⟩):=by
   rw[List.length_map,List.getD_eq_getElem?_getD,List.getD_eq_getElem?_getD,List.getElem?_map,List.getElem?_eq_getElem hi]
   rfl
  rw[List.map_cons,Cg,Cg,e,VW hq,Oi hq hl r (i+1)]
theorem UJ{I:Sq}{e:Ed}(h:tY I e):∃x y,I x y=true∧(x≤e.x∧e.x≤x+1)∧(y≤e.y∧e.y≤y+1):=by
 obtain⟨h1,_⟩:=h
 cases hd:e.d<;>rw[hd] at h1<;>simp only[lq,Dir.dx,Dir.dy] at* <;>exact⟨_,_,h1,by omega,by omega⟩
theorem VX{t:iT}(hq:0≤t.Quarters∧t.Quarters≤3){r:aK}{q:ak}(hx:r.X0≤q.X∧q.X≤r.X1)(hy:r.Y0≤q.Y∧q.Y≤r.Y1)(hl:lim (tr t r)=true):(-1000000≤(tk t q).X∧(tk t q).X≤1000000)∧(-1000000≤(tk t q).Y∧(tk t q).Y≤1000000):=by
 rw[vF] at hl
 obtain⟨fl,k,⟨ax,ay⟩⟩:=t
 simp only at hq
 rcases w9 hq with rfl|rfl|rfl|rfl<;>cases fl<;>simp[tr,tk,rX,rY] at hl ⊢ <;>omega
theorem MH{r:List aK}{t:iT}(hq:0≤t.Quarters∧t.Quarters≤3)(hlim:(r.map (tr t)).all lim=true){ls:List (List (Int×Int))}(ho:yU (BC r) ls)(hf:∃B,wD (BC r) B):∀l∈ls.map (List.map iA),tL l→tL (l.map (tk t)):=by
 intro l0 hl0 hg
 obtain⟨B,hB⟩:=hf
 obtain⟨l,hl,rfl⟩:=List.mem_map.1 hl0
 obtain⟨e,he,hle⟩:=ho.is l hl
 obtain⟨n,hn,hl2⟩:=hle
 have hr:=Jp hB he hn
 rw[←hl2] at hr
 refine⟨by rw[List.length_map];exact hg.1,fun q hq2=>?_,?_⟩
 ·obtain⟨p,hp,rfl⟩:=List.mem_map.1 hq2
  obtain⟨z,hz,rfl⟩:=List.mem_map.1 hp
  obtain⟨f,hf,rfl⟩:=hr.pts z hz
  obtain⟨x,y,h1,h2,h3⟩:=UJ hf
  obtain⟨a,ha,h4,h5⟩:=Cy.1 h1
  refine VX hq (r:=a) ?_ ?_ (List.all_eq_true.1 hlim _ (List.mem_map.2 ⟨a,ha,rfl⟩))
  ·show a.X0≤f.x∧f.x≤a.X1;omega
  ·show a.Y0≤f.y∧f.y≤a.Y1;omega
 ·rw[Oi hq (by have:=hg.1;omega)]
  exact hg.2.2
theorem M3{m:fq}(hu:m.p.Unit=1){q:ak}(hq:(-1000000≤q.X∧q.X≤1000000)∧(-1000000≤q.Y∧q.Y≤1000000)):kE m q ⟨0,0⟩=some q:=by
 unfold kE
 rw[hu,Int.mul_one,Int.mul_one,bX (x:=q.X) (by omega) (by omega),bX (x:=q.Y) (by omega) (by omega),Int.add_zero,Int.add_zero,bX (by omega) (by omega),bX (by omega) (by omega)]
theorem SV{l:List ak}:dF l (fun z0=>iJ z0)=some (l.any fun q=> !Vt q):=by
 have key:∀(l:List ak) (i:Nat),eP (fun z0=>iJ z0) l i=some (Dw (fun q=> !Vt q) l (i:Int)):=by
  intro l
  induction l with
  |nil=>intro i;rfl
  | cons x r ih=>
   intro i
   rw[eP,Dw,ih]
   have e:iJ x=some (!Vt x):=by
    unfold iJ
    rw[Ve];rfl
   rw[e,ob]
   split<;>rfl
 unfold dF kI
 rw[key,ob]
 exact congrArg some (Gb _ l 0 (by omega))
theorem Pz{N:Nat}{m:fq}(hu:m.p.Unit=1):∀(suf:List ak) (i:Nat) (out:List ak),out.length+suf.length≤1000000→(∀q∈suf,(-1000000≤q.X∧q.X≤1000000)∧(-1000000≤q.Y∧q.Y≤1000000))→fP N m ⟨0,0⟩ suf i out=fP N m ⟨0,0⟩ [] 0 (out++suf)
 |[],i,out,_,_=>by rw[List.append_nil];rfl
 |x::r,i,out,h,hq=>by
  simp at h
  rw[fP.eq_2,M3 hu (hq x List.mem_cons_self),ob,lm (by simp;omega),ob,Pz hu r (i+1) _ (by simp;omega) (fun q h=>hq q (List.mem_cons_of_mem _ h))]
  simp
theorem QZ{rec:fq→List aB→ak→Option (Int×Bool×List bf)}{N:Nat}{m:fq}(hu:m.p.Unit=1){k:Int}(hk:k=1∨k=2):jO rec N m (oq k) ⟨0,0⟩=some (0,k==2,m.image):=by
 unfold jO
 rw[show(oq k).At=⟨0,0⟩ from rfl,M3 hu ⟨by decide,by decide⟩,ob]
 rcases hk with rfl|rfl
 ·rw[if_pos (by show((1:Int)==1)=true;decide)];rfl
 ·rw[if_neg (by show ¬((2:Int)==1)=true;decide)];rfl
theorem Q0{rec:fq→List aB→ak→Option (Int×Bool×List bf)}{N:Nat}{m:fq}(hu:m.p.Unit=1){l:List ak}:jO rec N m (ou l) ⟨0,0⟩=(kX N m l ⟨0,0⟩).bind fun y=>some (y.1,m.clear,y.2):=by
 unfold jO
 rw[show(ou l).At=⟨0,0⟩ from rfl,M3 hu ⟨by decide,by decide⟩,ob,if_neg (by show ¬((7:Int)==1)=true;decide)]
 unfold jJ
 rw[if_neg (by show ¬((7:Int)==2)=true;decide),if_neg (by show ¬((7:Int)==3)=true;decide),if_neg (by show ¬((7:Int)==4)=true;decide),if_neg (by show ¬((7:Int)==5)=true;decide),if_neg (by show ¬((7:Int)==6)=true;decide),if_pos (by show((7:Int)==7)=true;decide)]
 rfl
section
variable {t:iT} (hq:0≤t.Quarters∧t.Quarters≤3)
include hq
theorem SS{N:Nat}(hN:10000000000≤N){m:fq}(hu:m.p.Unit=1){I:List Bd}(hI:zh I)(hm:m.image=I.map toP){l:List ak}{W:List Ed}(hr:U9 l W)(hg:tL (l.map (tk t)))(hc:m.clear=decide (ar W<0)){f:Int→Int→Prop}(hf:∀x y,rW (zk t (x,y)).1 (zk t (x,y)).2 I↔f x y):
  ∃e J,kX N m (l.map (tk t)) ⟨0,0⟩=some (e,J.map toP)∧(e=0∨e=2)∧(e=0→zh J∧∀x y,rW (zk t (x,y)).1 (zk t (x,y)).2 J↔zI f W x y):=by
 have hax:=KQ hg.2.2
 have hlen:(l.map (tk t)).length≤2000:=by rw[List.length_map];exact hr.few
 obtain⟨A,a1,a2,a3,a4,a5⟩:=NN hN (l:=l.map (tk t)) (by
  intro h
  have:=hg.1
  rw[h] at this;simp at this) hlen (fun q hq=>by have:=hg.2.1 q hq;omega) hax
 have htot:=yE a4
 have hD:I7 A:=⟨a2,by omega,fun b hb=>by have:=a4 b hb;omega,Nat.le_trans htot (by have:=Nat.mul_le_mul_left 2000 a3;omega)⟩
 have hlim:(fK A).all lim=true:=(EO a2).2 fun x y h=>Qj hax hg.2.1 ((a5 x y).1 h)
 have hany:((l.map (tk t)).any fun q=> !Vt q)=false:=by
  rw[List.any_eq_false]
  intro q hq
  rw[Uh.2 (hg.2.1 q hq)];decide
 unfold kX
 rw[Pz hu (l.map (tk t)) 0 [] (by simp at hlen ⊢;omega) hg.2.1,List.nil_append]
 rw[fP,a1,ob,J8 (by have:=hD.tot;omega),ob]
 by_cases hmany:2000<(fK A).length
 ·rw[if_pos (by simp;omega)]
  exact⟨2,I,by rw[hm],.inr rfl,fun h=>by cases h⟩
 ·rw[if_neg (by simp;omega),SV,ob,hany,if_neg (by decide),UM hN hI hm hD hlim,ob]
  obtain⟨_,_,c3,_⟩:=Nl (c:=m.clear) hI.Yy hD hN
  refine⟨_,_,rfl,?_,fun h=>⟨UR hI hD hlim ?_,fun x y=>?_⟩⟩
  ·split
   ·exact .inr rfl
   ·exact .inl rfl
  ·simp only at h
   split at h
   ·cases h
   ·omega
  ·rw[c3]
   unfold QB zI
   rw[hc,hf,a5,Rn hq (KQ hr.good.2.2),hr.inn]
   by_cases c:ar W<0
   ·rw[if_pos (by simp[c]),if_pos c,Classical.not_not]
   ·rw[if_neg (by simp[c]),if_neg c]
theorem FM{N:Nat}(hN:10000000000≤N){m:fq}(hu:m.p.Unit=1){rec:fq→List aB→ak→Option (Int×Bool×List bf)}:∀(os:List (List ak×List Ed)) (i:Nat) (I:List Bd) (d:Int) (f:Int→Int→Prop),d=1∨d=2→zh I→(∀x y,rW (zk t (x,y)).1 (zk t (x,y)).2 I↔f x y)→(∀p∈os,U9 p.1 p.2∧tL (p.1.map (tk t)))→
  ∃e c J,gB N m ⟨0,0⟩ rec ((jl (os.map (·.1)) d).map (tS t)) i (I.map toP) (d==2)=some (e,c,J.map toP)∧(e=0∨e=2)∧(e=0→zh J∧∀x y,rW (zk t (x,y)).1 (zk t (x,y)).2 J↔((os.map (·.2)).foldl zI f) x y)
 |[],i,I,d,f,_,hI,hf,_=>⟨0,d==2,I,rfl,.inl rfl,fun _=>⟨hI,hf⟩⟩
 | p::s,i,I,d,f,hd,hI,hf,hr=>by
  obtain⟨hp,hg⟩:=hr p List.mem_cons_self
  have hk:rC p.1=1∨rC p.1=2:=by unfold rC;split<;>simp
  have rest:∀j:Nat,∃e c J,gB N m ⟨0,0⟩ rec (ou (p.1.map (tk t))::(jl (s.map (·.1)) (rC p.1)).map (tS t)) j (I.map toP) (rC p.1==2)=some (e,c,J.map toP)∧(e=0∨e=2)∧(e=0→zh J∧∀x y,rW (zk t (x,y)).1 (zk t (x,y)).2 J↔(((p::s).map (·.2)).foldl zI f) x y):=by
   intro j
   rw[gB.eq_2,Q0 (by exact hu)]
   obtain⟨e,J,e1,e2,e3⟩:=SS hq hN (m:=fq.mk m.p m.tools (I.map toP) (rC p.1==2) m.tool m.place m.placed m.off m.on) hu hI rfl hp hg (by
    show(rC p.1==2)=_
    rw[hp.kind]
    by_cases c:ar p.2<0
    ·rw[if_pos c];simp[c]
    ·rw[if_neg c];simp[c]) hf
   rw[e1,ob,ob]
   by_cases he:e=0
   ·obtain⟨j1,j2⟩:=e3 he
    rw[if_neg (by simpa using he)]
    exact FM hN hu (rec:=rec) s (j+1) J (rC p.1) (zI f p.2) hk j1 j2 (fun q hq=>hr q (List.mem_cons_of_mem _ hq))
   ·rw[if_pos (by simpa using he)]
    exact⟨e,rC p.1==2,J,rfl,e2,fun h=>absurd h he⟩
  rw[List.map_cons,jl]
  by_cases c:rC p.1=d
  ·rw[if_pos c]
   have:=rest i
   rw[c] at this
   exact this
  ·rw[if_neg c,List.map_cons,show tS t (oq (rC p.1))=oq (rC p.1) from rfl,gB.eq_2,QZ (by exact hu) hk,ob,if_neg (by simp)]
   exact rest (i+1)
end
theorem Uw:zh []:=⟨⟨⟨0,trivial⟩,fun b hb=>by cases hb⟩,by simp[fK],by simp[fK]⟩
theorem Qk{I:List Bd}(h:zh I):Small I:=by
 have h1:=h.Yy
 have h2:=h.few
 exact⟨by have:=h1.few;omega,fun b hb=>by have:=h1.row b hb;omega,by omega⟩
theorem Xm{N:Nat}(hN:20000000000≤N){r:List aK}{t:iT}(hq:0≤t.Quarters∧t.Quarters≤3)(hr:lI r=0){ls:List (List (Int×Int))}{o:List (List ak)}(ho:yU (BC r) ls)(hf:∃B,wD (BC r) B)(hB:vw (ls.map (List.map iA)) o)(hl:o.flatten.length≤2000)(hg:∀l∈o,tL (l.map (tk t)))(hC:ib N ⟨1,[],(jl o 1).map (tS t)⟩=some 0):
  rz N ⟨1,[],(jl o 1).map (tS t)⟩=some (fK (rO (r.map (tr t))),0)∨rz N ⟨1,[],(jl o 1).map (tS t)⟩=some ([],2):=by
 obtain⟨_,_,r3,_⟩:=tu hr
 obtain⟨os,o1,o2,o3⟩:=MG ho hf (zH r3) hB hl
 obtain⟨M,rfl⟩:∃n,N=n+1:=⟨N-1,by omega⟩
 have hnew:∀p:ed,p.Tools=[]→qK p=some ⟨p,[],[],false,-1,⟨0,0⟩,false,0,0⟩:=fun p hp=>by
  obtain⟨a,b,c⟩:=p
  simp only at hp
  subst hp
  rfl
 obtain⟨e,c,J,e1,e2,e3⟩:=FM hq (N:=M) (by omega) (m:=⟨⟨1,[],(jl o 1).map (tS t)⟩,[],[],false,-1,⟨0,0⟩,false,0,0⟩) rfl (rec:=lJ M) os 0 [] 1 (fun _ _=>False) (.inl rfl) Uw (fun x y=>⟨fun h=>by simp[rW,rowAt,mP] at h,fun h=>h.elim⟩) (fun p hp=>⟨o2 p hp,hg _ (by rw[←o1];exact List.mem_map.2 ⟨p,hp,rfl⟩)⟩)
 rw[o1] at e1
 have hrun:lJ (M+1) ⟨⟨1,[],(jl o 1).map (tS t)⟩,[],[],false,-1,⟨0,0⟩,false,0,0⟩ ((jl o 1).map (tS t)) ⟨0,0⟩=some (e,c,J.map toP):=e1
 unfold rz tV vQ
 rw[hC,ob,if_neg (by decide),hnew _ rfl,ob,hrun,ob,ob]
 have hz:=Ae (N:=M+1) (by omega) (l:=[]) ⟨by simp,by simp,by simp[fK]⟩
 rw[List.map_nil] at hz
 rcases e2 with rfl|rfl
 ·left
  obtain⟨j1,j2⟩:=e3 rfl
  rw[if_neg (by simp),ob]
  show(jr (M+1) (J.map toP)).bind _=_
  rw[Ae (by omega) (Qk j1),ob]
  have hne:Ne r:=fun q hq=>(NG.ne r3) q hq
  have hb:=EF (l:=r.map (tr t)) (fun q hq2=>by
   obtain⟨a,ha,rfl⟩:=List.mem_map.1 hq2
   exact XE hq (hne a ha))
  have hJ:J=rO (r.map (tr t)):=j1.ok.uniq hb.1 fun x y=>by
   obtain⟨u,v,huv⟩:=Q3 hq x y
   have h1:=j2 u v
   rw[huv] at h1
   have h2:=Xl hq hne u v
   rw[huv] at h2
   rw[h1,o3,Cy,hb.2,h2]
  rw[hJ]
 ·right
  rw[if_pos (by simp),ob,hz]
  rfl
theorem Kw{α:Type}{a:α}{c:α→α→Option Int}{k:Int}(h:c a a=some k)(hk:¬k<0):Bo [a] c=some [a]:=by
 have hs:tJ c [a]:=⟨by simp,fun x hx y hy=>by simp at hx hy;subst hx hy;exact⟨k,h⟩,fun x hx=>by simp at hx;subst hx;simp[F5,h];omega,fun x hx y hy z hz h1=>by
  simp at hx hy;subst hx hy;simp[F5,h] at h1;omega,fun x hx y hy z hz _ _=>by simp at hx hz;subst hx hz;simp[F5,h];omega⟩
 obtain⟨m,hm⟩:=Ji hs
 obtain⟨_,hp,_⟩:=Az hm
 rw[hm,List.perm_singleton.1 hp]
def Ih:aK:=⟨0,0,2,3⟩
theorem XQ(m:Nat):jP (m+10) [Ih]=some [⟨0,3,[0,2]⟩]:=by
 have h1:Bo [Ih] (fun z0 z1=>nu z0 z1)=some [Ih]:=Kw (k:=0) rfl (by decide)
 have h2:Bo [Ih] (fun z0 z1=>kg z0 z1)=some [Ih]:=Kw (k:=0) rfl (by decide)
 have h3:G8 [0,3]=some [0,3]:=by
  unfold G8
  rw[if_pos (by simp),List.mergeSort_of_pairwise (by simp)]
 have h4:ku [Ih]=some ([0,2],[Ih]):=by
  unfold ku
  rw[h2];rfl
 have h5:WU [0,3]=some [0,3]:=rfl
 unfold jP nD
 rw[show wO ([]:List aK) [Ih]=some [Ih] from rfl,ob,ob,h1,ob,iZ.eq_2,show wO ([]:List Int) [Ih.Y0,Ih.Y1]=some [0,3] from rfl,ob,iZ.eq_1,h3,ob,h5,ob,
  eF.eq_2,if_pos (by decide),show jA (m+10) ([]:List aK) (fun z0=>nk z0 [0,3] 0)=some [] from rfl,ob,iB.eq_2]
 show((some (decide (Ih.Y0≤0))).bind fun Y6=>if Y6 then _ else _)=_
 rw[ob,if_pos (by decide)]
 show iB [Ih] [0,3] 0 [] (eF (m+10) [Ih] [0,3] (m+9)) (m+9) [Ih] 1=_
 rw[iB.eq_2]
 show(((ku [Ih]).bind fun XC=>(gJ [] (bf.mk 0 3 XC.1)).bind fun YG=>eF (m+10) [Ih] [0,3] (m+9) 1 YG XC.2 1))=_
 rw[h4]
 show eF (m+10) [Ih] [0,3] (m+9) 1 [⟨0,3,[0,2]⟩] [Ih] 1=_
 rw[eF.eq_2,if_neg (by decide)]
theorem Ta{N:Nat}(hN:10≤N):jk N=some true:=by
 obtain⟨m,rfl⟩:∃m,N=m+10:=⟨N-10,by omega⟩
 unfold jk vP jC
 rw[show lS [aK.mk 0 0 2 3]=some 0 from rfl,ob,if_neg (by decide),eG.eq_2,if_neg (by decide)]
 have:=XQ m
 unfold Ih at this
 rw[this]
 rfl
theorem Tz.str{x:aB}(h:Tz x):VG x:=by
 rcases h with h|h|⟨l,h,hg,hl⟩
 ·exact .inl h
 ·exact .inr (.inl h)
 ·exact .inr (.inr ⟨l,h,hl,hg.2.1⟩)
theorem Ko(l:List aK)(t:iT):((uE l t).2≠0→(uE l t).1=[])∧((uE l t).2=0→SA t=true∧(l.map (tr t)).all lim=true∧(uE l t).1=fK (rO (l.map (tr t)))):=by
 unfold uE NV
 split
 ·split
  ·rename_i h2
   split
   ·rename_i h3
    split
    ·exact⟨fun _=>rfl,fun h=>by cases h⟩
    ·exact⟨fun h=>absurd rfl h,fun _=>⟨h2,h3,rfl⟩⟩
   ·exact⟨fun _=>rfl,fun h=>by cases h⟩
  ·exact⟨fun _=>rfl,fun h=>by cases h⟩
 ·rename_i h
  exact⟨fun _=>rfl,fun e=>absurd e h⟩
theorem Nb(l:List aK):jB l l=some true:=by
 obtain⟨b,b1,b2⟩:=I5 l l
 rw[b1,b2.2 rfl]
theorem LZ{N:Nat}(hN:20000000000≤N)(r:List aK)(t:iT):gK N r t=some true:=by
 obtain⟨y,y1,y2,y3⟩:=Xk hN r
 have ha:=Ta (N:=N) (by omega)
 unfold gK
 by_cases h:y.2=0
 ·obtain⟨hr,ls,o,l1,l2,l3,o1,o2,o3,o4⟩:=y3 h
  rw[l3] at o1
  have h4:=OY (fun l hl=>(o2 l hl).1)
  have hlen:(jl o 1).length≤1000:=by have:=zK o 1;omega
  have hS:∀x∈jl o 1,Tz x:=fun x hx=>by
   rcases uL hx with⟨l,hl,rfl⟩|rfl|rfl
   ·exact .inr (.inr ⟨l,rfl,o2 l hl,by have:=zO hl;omega⟩)
   ·exact .inl rfl
   ·exact .inr (.inl rfl)
  have hC:=AZ (N:=N) (by omega) hS hlen
  rw[o4,ob,if_neg (by simp)]
  have hT:qZ N ⟨1,[],jl o 1⟩=some (if 200000<(C8 (jl o 1)).length then(⟨#[]⟩,2) else(mJ (C8 (jl o 1)),0)):=by
   obtain⟨M,rfl⟩:∃n,N=n+1:=⟨N-1,by omega⟩
   exact U8 hC (by omega) fun x hx=>(hS x hx).str
  show((qZ N ⟨1,[],jl o 1⟩).bind _)=_
  rw[hT,ob]
  by_cases hL:200000<(C8 (jl o 1)).length
  ·rw[if_pos hL,if_pos (by decide),if_pos (by decide),ha]
   rfl
  ·rw[if_neg hL,if_neg (by simp),Va (by omega) hC (by omega) (fun x hx=>(hS x hx).str) (by omega),ob,if_neg (by simp),Ez (by omega),ob]
   obtain⟨t1,t2⟩:=Ko r t
   by_cases hw:(uE r t).2=0
   ·obtain⟨ht,hlim,hv⟩:=t2 hw
    have hq:=(CG.1 ht).1
    have hg:∀l∈o,tL (l.map (tk t)):=fun l hl=>MH hq hlim l1 l2 l ((o1.mem l).1 hl) (o2 l hl)
    have hS2:∀x∈jl o 1,Tz (tS t x):=fun x hx=>by
     rcases uL hx with⟨l,hl,rfl⟩|rfl|rfl
     ·exact .inr (.inr ⟨l.map (tk t),rfl,hg l hl,by have:=zO hl;simp;omega⟩)
     ·exact .inl rfl
     ·exact .inr (.inl rfl)
    have hC2:=AZ (N:=N) (S:=(jl o 1).map (tS t)) (by omega) (fun x hx=>by
     obtain⟨z,hz,rfl⟩:=List.mem_map.1 hx
     exact hS2 z hz) (by simpa using hlen)
    rw[if_neg (by simpa using hw),Ho ht (by omega) hlen hS hS2,ob,if_neg (by simp)]
    rcases Xm hN hq hr l1 l2 o1 o3 hg hC2 with hi|hi
    ·rw[hi,ob,if_neg (by simp),if_pos (by rfl),hv,Nb,ha]
     rfl
    ·rw[hi,ob,if_pos (by decide),ha]
     rfl
   ·rw[if_pos (by simpa using hw),t1 hw,if_pos (by decide),ha]
    rfl
 ·rw[y2 h,ob,if_pos (by simpa using h),if_pos (by rfl),ha]
  rfl
theorem Hq(l:List aK)(t:iT){X Y:Prop}(_:X)(_:Y):∃N,gK N l t=some true:=⟨20000000000,LZ (Nat.le_refl _) l t⟩
end Go.Proofs.YtblmajfbibbiaaaGreatDoor
