/- Rules of the walks, or plain laws about the plain functions. Conditions: none beyond each theorem's own. -/
import Derived.Test.YtblmajfbibbiaaaGreatDoorJ4
import Derived.Test.YtblmajfbibbiaaaGreatDoorXF
namespace Go.Proofs.YtblmajfbibbiaaaGreatDoor
def Can:Int→List (Int×Int)→Prop
 |_,[]=>True
 |lo,p::l=>lo<p.1∧p.1<p.2∧Can p.2 l
def mP(x:Int)(l:List (Int×Int)):Prop:=∃p∈l,p.1≤x∧x<p.2
theorem jW{x:Int}{p:Int×Int}{l:List (Int×Int)}:mP x (p::l)↔(p.1≤x∧x<p.2)∨mP x l:=by unfold mP;simp
theorem gP{x:Int}:¬mP x []:=by unfold mP;simp
theorem pX{x:Int}{l m:List (Int×Int)}:mP x (l++m)↔mP x l∨mP x m:=by
 unfold mP
 constructor
 ·rintro⟨p,hp,h⟩
  rcases List.mem_append.1 hp with hp|hp
  ·exact .inl ⟨p,hp,h⟩
  ·exact .inr ⟨p,hp,h⟩
 ·rintro(⟨p,hp,h⟩|⟨p,hp,h⟩)
  ·exact⟨p,List.mem_append_left _ hp,h⟩
  ·exact⟨p,List.mem_append_right _ hp,h⟩
theorem Can.lt:∀{l:List (Int×Int)} {lo x:Int},Can lo l→mP x l→lo<x
 |[],_,_,_,h=>absurd h gP
 |p::l,lo,x,h,hx=>by
  obtain⟨h1,h2,h3⟩:=h
  rcases jW.1 hx with hx|hx
  ·omega
  ·have:=h3.lt hx;omega
theorem Can.mono{l:List (Int×Int)}{lo lo':Int}(h:Can lo l)(hl:lo'≤lo):Can lo' l:=by
 cases l with
 |nil=>trivial
 |cons p l=>exact⟨by have:=h.1;omega,h.2⟩
theorem Can.uniq:∀{l m:List (Int×Int)} {lo lo':Int},Can lo l→Can lo' m→(∀x,mP x l↔mP x m)→l=m
 |[],[],_,_,_,_,_=>rfl
 |[],p::m,_,_,_,h2,h=>absurd ((h p.1).2 (jW.2 (.inl ⟨Int.le_refl _,h2.2.1⟩))) gP
 |p::l,[],_,_,h1,_,h=>absurd ((h p.1).1 (jW.2 (.inl ⟨Int.le_refl _,h1.2.1⟩))) gP
 | p::l,q::m,lo,lo',h1,h2,h=>by
  obtain⟨a1,a2,a3⟩:=h1
  obtain⟨b1,b2,b3⟩:=h2
  have c1:q.1≤p.1:=by
   rcases jW.1 ((h p.1).1 (jW.2 (.inl ⟨Int.le_refl _,a2⟩))) with hx|hx
   ·exact hx.1
   ·have:=b3.lt hx;omega
  have c2:p.1≤q.1:=by
   rcases jW.1 ((h q.1).2 (jW.2 (.inl ⟨Int.le_refl _,b2⟩))) with hx|hx
   ·exact hx.1
   ·have:=a3.lt hx;omega
  have c3:¬p.2<q.2:=fun hlt=>by
   rcases jW.1 ((h p.2).2 (jW.2 (.inl ⟨by omega,hlt⟩))) with hx|hx
   ·omega
   ·have:=a3.lt hx;omega
  have c4:¬q.2<p.2:=fun hlt=>by
   rcases jW.1 ((h q.2).1 (jW.2 (.inl ⟨by omega,hlt⟩))) with hx|hx
   ·omega
   ·have:=b3.lt hx;omega
  have hpq:p=q:=by obtain⟨a,b⟩:=p;obtain⟨c,d⟩:=q;simp only at*;congr 1<;>omega
  subst hpq
  have hlm:l=m:=a3.uniq b3 fun x=>by
   constructor
   ·intro hx
    have hlt:=a3.lt hx
    rcases jW.1 ((h x).1 (jW.2 (.inr hx))) with h'|h'
    ·omega
    ·exact h'
   ·intro hx
    have hlt:=b3.lt hx
    rcases jW.1 ((h x).2 (jW.2 (.inr hx))) with h'|h'
    ·omega
    ·exact h'
  rw[hlm]
theorem Can.snoc:∀{l:List (Int×Int)} {lo:Int} {p:Int×Int},Can lo l→(∀q∈l,q.2<p.1)→lo<p.1→p.1<p.2→Can lo (l++[p])
 |[],_,_,_,_,h1,h2=>⟨h1,h2,trivial⟩
 |q::l,lo,p,h,hq,h1,h2=>⟨h.1,h.2.1,h.2.2.snoc (fun r hr=>hq r (by simp[hr])) (hq q (by simp)) h2⟩
theorem Can.init:∀{l:List (Int×Int)} {lo:Int} {p:Int×Int},Can lo (l++[p])→Can lo l∧(∀q∈l,q.2<p.1)∧lo<p.1∧p.1<p.2
 |[],_,_,h=>⟨trivial,by simp,h.1,h.2.1⟩
 |q::l,lo,p,h=>by
  obtain⟨i1,i2,i3,i4⟩:=Can.init (l:=l) h.2.2
  have:=h.1;have:=h.2.1
  refine⟨⟨h.1,h.2.1,i1⟩,fun r hr=>?_,by omega,i4⟩
  rcases List.mem_cons.1 hr with rfl|hr
  ·exact i3
  ·exact i2 r hr
def dn(l:List (Int×Int)):List Int:=l.flatMap fun p=>[p.1,p.2]
theorem vX:dn []=[]:=rfl
theorem nS(p:Int×Int)(l:List (Int×Int)):dn (p::l)=p.1::p.2::dn l:=rfl
theorem pU(l m:List (Int×Int)):dn (l++m)=dn l++dn m:=by unfold dn;rw[List.flatMap_append]
theorem gT:∀l:List (Int×Int),(dn l).length=2*l.length
 |[]=>rfl
 |p::l=>by rw[nS,List.length_cons,List.length_cons,gT l,List.length_cons];omega
theorem IK:∀{l m:List (Int×Int)},dn l=dn m→l=m
 |[],[],_=>rfl
 |[],q::m,h=>by rw[vX,nS] at h;cases h
 |p::l,[],h=>by rw[vX,nS] at h;cases h
 |p::l,q::m,h=>by
  rw[nS,nS] at h
  injection h with h1 h
  injection h with h2 h
  rw[IK h]
  congr 1
  obtain⟨a,b⟩:=p;obtain⟨c,d⟩:=q
  simp only at h1 h2
  rw[h1,h2]
def Gv(l:List (Int×Int))(p:Int×Int):List (Int×Int):=
 match l.getLast? with
 |none=>[p]
 |some q=>if p.1≤q.2 then l.dropLast++[(q.1,max q.2 p.2)] else l++[p]
theorem Lp(p:Int×Int):Gv [] p=[p]:=rfl
theorem IL(l:List (Int×Int))(q p:Int×Int):Gv (l++[q]) p=if p.1≤q.2 then l++[(q.1,max q.2 p.2)] else l++[q]++[p]:=by
 unfold Gv
 simp
theorem UH{lo:Int}{l done:List (Int×Int)}{p:Int×Int}(hc:Can lo l)(hm:∀x,mP x l↔mP x done)(hlast:∀q∈l,q.1≤p.1)(hlo:lo<p.1)(hp:p.1<p.2):
  Can lo (Gv l p)∧(∀x,mP x (Gv l p)↔mP x (done++[p]))∧∀q∈Gv l p,q.1≤p.1:=by
 have hsplit:l=[]∨∃i q,l=i++[q]:=by
  rcases List.eq_nil_or_concat l with h|⟨i,q,h⟩
  ·exact .inl h
  ·exact .inr ⟨i,q,by simpa using h⟩
 rcases hsplit with rfl|⟨i,q,rfl⟩
 ·rw[Lp]
  refine⟨⟨hlo,hp,trivial⟩,fun x=>?_,by simp⟩
  rw[pX,←hm x]
  exact⟨fun h=>.inr h,fun h=>h.resolve_left gP⟩
 ·obtain⟨c1,c2,c3,c4⟩:=hc.init
  have hq:=hlast q (by simp)
  rw[IL]
  by_cases hle:p.1≤q.2
  ·rw [if_pos hle]
   refine⟨c1.snoc (p:=(q.1,max q.2 p.2)) c2 c3 (by show q.1<max q.2 p.2;omega),fun x=>?_,fun r hr=>?_⟩
   ·rw[pX,pX (l:=done),←hm x,pX]
    have e1:mP x [(q.1,max q.2 p.2)]↔(q.1≤x∧x<max q.2 p.2):=by unfold mP;simp
    have e2:mP x [q]↔(q.1≤x∧x<q.2):=by unfold mP;simp
    have e3:mP x [p]↔(p.1≤x∧x<p.2):=by unfold mP;simp
    rw[e1,e2,e3]
    constructor
    ·rintro(h|h)
     ·exact .inl (.inl h)
     ·by_cases hx:x<q.2
      ·exact .inl (.inr ⟨h.1,hx⟩)
      ·exact .inr ⟨by omega,by omega⟩
    ·rintro((h|h)|h)
     ·exact .inl h
     ·exact .inr ⟨h.1,by omega⟩
     ·exact .inr ⟨by omega,by omega⟩
   ·rcases List.mem_append.1 hr with hr|hr
    ·have:=c2 r hr;exact hlast r (by simp[hr])
    ·simp at hr;subst hr;exact hq
  ·rw[if_neg hle]
   refine⟨hc.snoc (fun r hr=>?_) hlo hp,fun x=>?_,fun r hr=>?_⟩
   ·rcases List.mem_append.1 hr with hr|hr
    ·have:=c2 r hr;omega
    ·simp at hr;subst hr;omega
   ·rw[pX,pX (l:=done),hm x]
   ·rcases List.mem_append.1 hr with hr|hr
    ·exact hlast r hr
    ·simp at hr;subst hr;exact Int.le_refl _
theorem Pe{lo:Int}:∀(suf:List (Int×Int)) (l done:List (Int×Int)),Can lo l→(∀x,mP x l↔mP x done)→(∀p∈suf,∀q∈l,q.1≤p.1)→suf.Pairwise (fun p q=>p.1≤q.1)→(∀p∈suf,lo<p.1∧p.1<p.2)→
  Can lo (suf.foldl Gv l)∧∀x,mP x (suf.foldl Gv l)↔mP x (done++suf)
 |[],l,done,h1,h2,_,_,_=>⟨h1,by simpa using h2⟩
 |p::suf,l,done,h1,h2,h3,h4,h5=>by
  obtain⟨s1,s2,s3⟩:=UH h1 h2 (h3 p (by simp)) (h5 p (by simp)).1 (h5 p (by simp)).2
  rw[List.pairwise_cons] at h4
  have:=Pe suf (Gv l p) (done++[p]) s1 s2 (fun r hr q hq=>Int.le_trans (s3 q hq) (h4.1 r hr)) h4.2 (fun r hr=>h5 r (by simp[hr]))
  simpa using this
def yM:Int→Int→List (Int×Int)→List (Int×Int)
 |a,b,[]=>[(a,b)]
 |a,b,q::l=>if q.1≤b then yM (min a q.1) (max b q.2) l else(a,b)::q::l
def xW:List (Int×Int)→Int×Int→List (Int×Int)
 |[],p=>[p]
 |q::l,p=>if q.2<p.1 then q::xW l p else yM p.1 p.2 (q::l)
theorem IA:∀{l:List (Int×Int)} {lo a b:Int},lo<a→a<b→(∀q∈l,lo<q.1)→(∀q∈l,a≤q.2)→(∃lo',Can lo' l)→Can lo (yM a b l)∧∀x,mP x (yM a b l)↔(a≤x∧x<b)∨mP x l
 |[],lo,a,b,h1,h2,_,_,_=>⟨⟨h1,h2,trivial⟩,fun x=>by unfold yM;rw[jW]⟩
 | q ::l,lo,a,b,h1,h2,h3,h5,⟨lo',h4⟩=>by
  have hq:=h3 q (by simp)
  have hov:=h5 q (by simp)
  have hq2:=h4.2.1
  unfold yM
  by_cases hle:q.1≤b
  ·rw[if_pos hle]
   obtain⟨i1,i2⟩:=IA (l:=l) (lo:=lo) (a:=min a q.1) (b:=max b q.2) (by omega) (by omega) (fun r hr=>h3 r (by simp[hr])) (fun r hr=>by have:=h5 r (by simp[hr]);omega) ⟨q.2,h4.2.2⟩
   refine⟨i1,fun x=>?_⟩
   rw[i2,jW]
   constructor
   ·rintro(h|h)
    ·by_cases h':a≤x∧x<b
     ·exact .inl h'
     ·exact .inr (.inl ⟨by omega,by omega⟩)
    ·exact .inr (.inr h)
   ·rintro(h|h|h)
    ·exact .inl ⟨by omega,by omega⟩
    ·exact .inl ⟨by omega,by omega⟩
    ·exact .inr h
  ·rw[if_neg hle]
   refine⟨⟨h1,h2,by omega,hq2,h4.2.2⟩,fun x=>?_⟩
   rw[jW]
theorem Can.mem:∀{l:List (Int×Int)} {lo:Int},Can lo l→∀q∈l,lo<q.1∧q.1<q.2
 |[],_,_,q,h=>by simp at h
 | p::l,lo,h,q,hq=>by
  rcases List.mem_cons.1 hq with rfl|hq
  ·exact⟨h.1,h.2.1⟩
  ·have:=h.2.2.mem q hq
   have:=h.1;have:=h.2.1
   omega
theorem Lc:∀{l:List (Int×Int)} {lo:Int} {p:Int×Int},Can lo l→lo<p.1→p.1<p.2→Can lo (xW l p)∧∀x,mP x (xW l p)↔mP x (l++[p])
 |[],lo,p,_,h1,h2=>⟨⟨h1,h2,trivial⟩,fun x=>Iff.rfl⟩
 | q::l,lo,p,h,h1,h2=>by
  unfold xW
  by_cases hlt:q.2<p.1
  ·rw[if_pos hlt]
   obtain⟨i1,i2⟩:=Lc (l:=l) (lo:=q.2) (p:=p) h.2.2 hlt h2
   refine⟨⟨h.1,h.2.1,i1⟩,fun x=>?_⟩
   rw[jW,i2,List.cons_append,jW]
  ·rw[if_neg hlt]
   obtain⟨i1,i2⟩:=IA (l:=q::l) (lo:=lo) (a:=p.1) (b:=p.2) h1 h2 (fun r hr=>(h.mem r hr).1) (fun r hr=>by
    rcases List.mem_cons.1 hr with rfl|hr
    ·omega
    ·have:=h.2.2.mem r hr;omega) ⟨lo,h⟩
   refine⟨i1,fun x=>?_⟩
   rw[i2,pX]
   have e:mP x [p]↔(p.1≤x∧x<p.2):=by unfold mP;simp
   rw[e]
   exact or_comm
theorem Lb{lo:Int}:∀(suf:List (Int×Int)) (l done:List (Int×Int)),Can lo l→(∀x,mP x l↔mP x done)→(∀p∈suf,lo<p.1∧p.1<p.2)→
  Can lo (suf.foldl xW l)∧∀x,mP x (suf.foldl xW l)↔mP x (done++suf)
 |[],l,done,h1,h2,_=>⟨h1,by simpa using h2⟩
 |p::suf,l,done,h1,h2,h5=>by
  obtain⟨s1,s2⟩:=Lc h1 (h5 p (by simp)).1 (h5 p (by simp)).2
  have:=Lb suf (xW l p) (done++[p]) s1 (fun x=>by rw[s2,pX,pX,h2]) (fun r hr=>h5 r (by simp[hr]))
  simpa using this
def A8(l:List (Int×Int)):List (Int×Int):=l.foldl xW []
theorem EW{lo:Int}{l:List (Int×Int)}(h:∀p∈l,lo<p.1∧p.1<p.2):Can lo (A8 l)∧∀x,mP x (A8 l)↔mP x l:=by
 have:=Lb l [] [] (lo:=lo) trivial (fun x=>Iff.rfl) h
 rw[List.nil_append] at this
 exact this
theorem UG{lo:Int}{l m:List (Int×Int)}(hp:m.Perm l)(hs:m.Pairwise (fun p q=>p.1≤q.1))(h:∀p∈l,lo<p.1∧p.1<p.2):m.foldl Gv []=A8 l:=by
 obtain⟨a1,a2⟩:=Pe m [] [] (lo:=lo) trivial (fun x=>Iff.rfl) (by simp) hs (fun p hq=>h p (hp.subset hq))
 obtain⟨b1,b2⟩:=EW h
 refine a1.uniq b1 fun x=>?_
 rw[a2,b2,List.nil_append]
 unfold mP
 constructor
 ·rintro⟨p,hq,h⟩;exact⟨p,hp.subset hq,h⟩
 ·rintro⟨p,hq,h⟩;exact⟨p,hp.symm.subset hq,h⟩
theorem Ni{lo:Int}{l m:List (Int×Int)}(hl:∀p∈l,lo<p.1∧p.1<p.2)(hm:∀p∈m,lo<p.1∧p.1<p.2)(h:∀x,mP x l↔mP x m):A8 l=A8 m:=by
 obtain⟨a1,a2⟩:=EW hl
 obtain⟨b1,b2⟩:=EW hm
 exact a1.uniq b1 fun x=>by rw[a2,b2,h]
theorem F9:∀(l:List (Int×Int)) (a b:Int),(yM a b l).length≤l.length+1
 |[],_,_=>by simp[yM]
 |q::l,a,b=>by
  unfold yM
  split
  ·have:=F9 l (min a q.1) (max b q.2);simp;omega
  ·simp
theorem IB:∀(l:List (Int×Int)) (p:Int×Int),(xW l p).length≤l.length+1
 |[],_=>by simp[xW]
 |q::l,p=>by
  unfold xW
  split
  ·have:=IB l p;simp;omega
  ·exact F9 _ _ _
theorem Lv:∀(l m:List (Int×Int)),(l.foldl xW m).length≤m.length+l.length
 |[],m=>by simp
 |p::l,m=>by
  have:=Lv l (xW m p);have:=IB m p
  rw[List.foldl_cons,List.length_cons];omega
abbrev Bd:=Int×Int×List (Int×Int)
def E8(r:aK):Int×Int:=(r.X0,r.X1)
def wm(l:List aK)(y:Int):List (Int×Int):=A8 ((l.filter fun r=>decide (r.Y0≤y)&&decide (y<r.Y1)).map E8)
def pushB(l:List Bd)(b:Bd):List Bd:=
 if b.2.2=[] then l else
 match l.getLast? with
 |none=>l++[b]
 |some c=>if c.2.1=b.1∧c.2.2=b.2.2 then l.dropLast++[(c.1,b.2.1,c.2.2)] else l++[b]
theorem pK{l:List Bd}{b:Bd}(h:b.2.2=[]):pushB l b=l:=if_pos h
theorem AL{b:Bd}(h:b.2.2≠[]):pushB [] b=[b]:=by unfold pushB;rw[if_neg h];rfl
theorem sI{l:List Bd}{c b:Bd}(h:b.2.2≠[]):pushB (l++[c]) b=if c.2.1=b.1∧c.2.2=b.2.2 then l++[(c.1,b.2.1,c.2.2)] else l++[c]++[b]:=by
 unfold pushB
 rw[if_neg h]
 simp
def uB(l:List aK):List Int→List Bd→List Bd
 |a::b::ys,out=>uB l (b::ys) (pushB out (a,b,wm l a))
 |_,out=>out
def uC(l:List aK):List Int:=l.flatMap fun r=>[r.Y0,r.Y1]
def rO(l:List aK):List Bd:=uB l (xE (uC l)) []
def Cj(b:Bd):List aK:=b.2.2.map fun s=>⟨s.1,b.1,s.2,b.2.1⟩
def fK(l:List Bd):List aK:=l.flatMap Cj
def toP(b:Bd):bf:=⟨b.1,b.2.1,dn b.2.2⟩
structure NG (r:aK):Prop where
 x0: -1000000≤r.X0∧r.X0≤1000000
 y0: -1000000≤r.Y0∧r.Y0≤1000000
 x1: -1000000≤r.X1∧r.X1≤1000000
 y1: -1000000≤r.Y1∧r.Y1≤1000000
 x:r.X0<r.X1
 y:r.Y0<r.Y1
structure R9 (r:aK):Prop where
 x0: -2000000000≤r.X0∧r.X0≤2000000000
 y0: -2000000000≤r.Y0∧r.Y0≤2000000000
 x1: -2000000000≤r.X1∧r.X1≤2000000000
 y1: -2000000000≤r.Y1∧r.Y1≤2000000000
 x:r.X0<r.X1
 y:r.Y0<r.Y1
theorem NG.r9{r:aK}(h:NG r):R9 r:=by
 have:=h.x0;have:=h.x1;have:=h.y0;have:=h.y1
 exact⟨by omega,by omega,by omega,by omega,h.x,h.y⟩
theorem Qz(l m:List Int):nV l m=some (decide (l=m)):=by
 have key:∀(suf pre rest:List Int),suf.length=rest.length→il (pre++rest) suf pre.length=some (decide (suf=rest)):=by
  intro suf
  induction suf with
  |nil=>
   intro pre rest h
   have:rest=[]:=List.eq_nil_of_length_eq_zero h.symm
   subst this
   rw[il.eq_1];rfl
  | cons x suf ih=>
   intro pre rest h
   cases rest with
   |nil=>simp at h
   | cons y rest=>
    rw[il.eq_2,jw pre rest y,ob]
    have:=ih (pre++[y]) rest (by simpa using h)
    by_cases hxy:x=y
    ·subst hxy
     rw[if_neg (by simp)]
     simpa using this
    ·rw[if_pos (by simpa using hxy)]
     simp[hxy]
 unfold nV
 by_cases h:l.length=m.length
 ·rw[if_neg (by simp;omega)]
  exact key l [] m h
 ·rw[if_pos (by simp;omega)]
  have:l≠m:=fun e=>h (by rw[e])
  simp[this]
theorem I5(l m:List aK):∃b:Bool,jB l m=some b∧(b=true↔l=m):=by
 have key:∀(suf pre rest:List aK),suf.length=rest.length→∃b:Bool,gX (pre++rest) suf pre.length=some b∧(b=true↔suf=rest):=by
  intro suf
  induction suf with
  |nil=>
   intro pre rest h
   have:rest=[]:=List.eq_nil_of_length_eq_zero h.symm
   subst this
   rw[gX.eq_1];exact⟨true,rfl,by simp⟩
  | cons x suf ih=>
   intro pre rest h
   cases rest with
   |nil=>simp at h
   | cons y rest=>
    rw[gX.eq_2,jw pre rest y,ob]
    obtain⟨b,h1,h2⟩:=ih (pre++[y]) rest (by simpa using h)
    by_cases hxy:x=y
    ·subst hxy
     rw[zV.2 rfl,if_neg (by simp)]
     exact⟨b,by simpa using h1,by simp[h2]⟩
    ·have:yS x y=false:=by rw[Bool.eq_false_iff];exact fun h=>hxy (zV.1 h)
     rw[this,if_pos (by simp)]
     exact⟨false,rfl,by simp[hxy]⟩
 unfold jB
 by_cases h:l.length=m.length
 ·rw[if_neg (by simp;omega)]
  exact key l [] m h
 ·rw[if_pos (by simp;omega)]
  exact⟨false,rfl,by simp;exact fun e=>h (by rw[e])⟩
theorem FC{c:aK→aK→Option Int}{k:aK→Int}{l:List aK}(hl:l.length≤1000000000)(hc:∀x∈l,∀y∈l,c x y=some (k x-k y)):∃m,Bo l c=some m∧m.Perm l∧m.Pairwise fun x y=>k x≤k y:=by
 have hlt:∀x∈l,∀y∈l,F5 c x y=decide (k x<k y):=fun x hx y hy=>by
  unfold F5
  rw[hc x hx y hy,Option.getD_some]
  exact decide_eq_decide.2 (by omega)
 have hs:tJ c l:=⟨by omega,fun x hx y hy=>⟨_,hc x hx y hy⟩,fun x hx=>by rw[hlt x hx x hx];simp,fun x hx y hy z hz h1 h2=>by
  rw[hlt x hx y hy] at h1;rw[hlt y hy z hz] at h2;rw[hlt x hx z hz];simp at*;omega,fun x hx y hy z hz h1 h2=>by
  rw[hlt x hx y hy] at h1;rw[hlt y hy z hz] at h2;rw[hlt x hx z hz];simp at*;omega⟩
 obtain⟨m,hm⟩:=Ji hs
 obtain⟨_,hp,hw⟩:=Az hm
 refine⟨m,hm,hp,hw.imp_of_mem fun{x y} hx hy h=>?_⟩
 rw[hlt y (hp.subset hy) x (hp.subset hx)] at h
 simp at h
 exact h
theorem sZ(y:List aK):∀(suf:List aK) (i:Nat) (l:List (Int×Int)),l.length+suf.length≤1000000000→gY y suf i (dn l)=some (dn ((suf.map E8).foldl Gv l),y)
 |[],i,l,_=>by rw[gY.eq_1];rfl
 | r ::suf,i,l,h=>by
  simp only[List.length_cons] at h
  have hsplit:l=[]∨∃j q,l=j++[q]:=by
   rcases List.eq_nil_or_concat l with h|⟨j,q,h⟩
   ·exact .inl h
   ·exact .inr ⟨j,q,by simpa using h⟩
  rw[gY.eq_2,List.map_cons,List.foldl_cons]
  rcases hsplit with rfl|⟨j,q,rfl⟩
  ·rw[if_neg (by simp[vX,bX]),ob,if_neg (by simp),show wO (dn []) [r.X0,r.X1]=some (dn [E8 r]) from rfl,ob,Lp]
   exact sZ y suf (i+1) [E8 r] (by simp;omega)
  ·have hfl:dn (j++[q])=(dn j++[q.1])++q.2::[]:=by rw[pU];simp[dn]
   have hlen:(dn (j++[q])).length=2*j.length+2:=by rw[gT];simp;omega
   simp only[List.length_append,List.length_singleton] at h
   have hw:bF (((dn (j++[q])).length:Int)-1)=((dn j++[q.1]).length:Int):=by
    rw[bX (by omega) (by omega),hlen];simp[gT];omega
   have hid:idx (dn (j++[q])) ((dn j++[q.1]).length:Int)=some q.2:=by rw[hfl];exact jw _ [] q.2
   rw[hw,if_pos (decide_eq_true (by omega)),hid,ob,ob,IL]
   by_cases hle:r.X0≤q.2
   ·rw[if_pos (by simpa using hle),if_pos (show(E8 r).1≤q.2 from hle),ob]
    have hset:sets (dn (j++[q])) ((dn j++[q.1]).length:Int) (max q.2 r.X1)=some (dn (j++[(q.1,max q.2 (E8 r).2)])):=by
     unfold sets
     rw[if_pos ⟨by omega,by rw[hlen];simp[gT]⟩,hfl,pU]
     simp[dn,E8]
    rw[ob,hset,ob]
    exact sZ y suf (i+1) _ (by simp;omega)
   ·rw[if_neg (by simpa using hle),if_neg (show ¬(E8 r).1≤q.2 from hle),lm (by rw[hlen];simp;omega),ob]
    have:dn (j++[q])++[r.X0,r.X1]=dn (j++[q]++[E8 r]):=by rw[pU (j++[q])];rfl
    rw[this]
    exact sZ y suf (i+1) _ (by simp;omega)
theorem Cb{l:List aK}(hl:l.length≤400000000)(h:∀r∈l,R9 r):∃m,m.Perm l∧ku l=some (dn (A8 (l.map E8)),m):=by
 obtain⟨m,h1,h2,h3⟩:=FC (c:=fun z0 z1=>kg z0 z1) (k:=fun r=>r.X0) (l:=l) (by omega) (fun x hx y hy=>by
  have a:=(h x hx).x0;have b:=(h y hy).x0
  unfold kg
  rw[bX (by omega) (by omega)])
 refine⟨m,h2,?_⟩
 unfold ku
 rw[h1,ob]
 have:=sZ m m 0 [] (by have:=h2.length_eq;simp;omega)
 rw[vX] at this
 rw[this,UG (lo:= -2000000001) (h2.map E8) (by rw[List.pairwise_map];exact h3) (fun p hp=>by
  obtain⟨r,hr,rfl⟩:=List.mem_map.1 hp
  have a:=h r hr
  exact⟨by have:=a.x0;show -2000000001<r.X0;omega,a.x⟩)]
theorem I4{g:aK→Bool}{f:aK→Option Bool}:∀(l:List aK) (i:Nat),(∀x∈l,f x=some (g x))→gG f l i=some (Dw g l i)
 |[],i,_=>rfl
 |x::l,i,h=>by
  rw[gG.eq_2,h x (by simp),ob,I4 l (i+1) (fun y hy=>h y (by simp[hy])),Dw,show((i+1:Nat):Int)=(i:Int)+1 by omega]
  cases g x<;>rfl
theorem zX{g:aK→Bool}{f:aK→Option Bool}:∀(rest k u:List aK) (n:Nat),(∀x∈rest,f x=some (g x))→u≠[]→rest.length<n→(k++u++rest).length≤1000000000→
  fF f n (k++u++rest) k.length (k++u).length=some (k++rest.filter fun x=> !g x)
 | [],k,u,n+1,_,hu,_,hl=>by
  have hc:cut (k++u++[]) (k.length:Int) ((k++u++[]).length:Int)=some u:=by
   unfold cut
   rw[if_pos ⟨by omega,by simp;omega,by omega⟩,List.append_nil,Int.toNat_natCast,Int.toNat_natCast,List.take_length,List.drop_left]
  rw[fF.eq_2,if_neg (by simp),hc,ob]
  unfold Sy pre
  rw[if_pos ⟨by omega,by simp;omega⟩]
  simp
 | x::rest,k,u,n+1,h,hu,hn,hl=>by
  obtain⟨u0,u',rfl⟩:∃u0 u',u=u0::u':=by cases u with|nil=>exact absurd rfl hu|cons a b=>exact⟨a,b,rfl⟩
  have hid:idx (k++(u0::u')++x::rest) ((k++(u0::u')).length:Int)=some x:=jw _ rest x
  simp only[List.length_append,List.length_cons] at hl hn
  rw[fF.eq_2,if_pos (by simp;omega),hid,ob,h x (by simp),ob,Fb (k++(u0::u')) x (by simp;omega)]
  cases hg:g x
  ·have hid2:idx (k++(u0::u')++x::rest) (k.length:Int)=some u0:=by
    rw[List.append_assoc];exact jw k (u'++x::rest) u0
   have hset:sets (k++(u0::u')++x::rest) (k.length:Int) x=some ((k++[x])++(u'++[x])++rest):=by
    unfold sets
    rw[if_pos ⟨by omega,by simp⟩]
    simp
   rw[if_pos (by simp),hid2,ob,hset,ob,Fb k x (by omega)]
   have:=zX rest (k++[x]) (u'++[x]) n (fun y hy=>h y (by simp[hy])) (by simp) (by omega) (by simp;omega)
   have e:((k++(u0::u')++[x]).length:Int)=((k++[x]++(u'++[x])).length:Int):=by rw[List.length_append,List.length_append,List.length_append,List.length_append,List.length_append];simp;omega
   rw[e,this,List.filter_cons,hg]
   simp
  ·rw[if_neg (by simp)]
   have:=zX rest k (u0::u'++[x]) n (fun y hy=>h y (by simp[hy])) (by simp) (by omega) (by simp;omega)
   have e:k++(u0::u')++x::rest=k++(u0::u'++[x])++rest:=by simp
   have e2:((k++(u0::u')++[x]).length:Int)=((k++(u0::u'++[x])).length:Int):=by simp
   rw[e,e2,this,List.filter_cons,hg]
   simp
theorem Ga{α:Type}(g:α→Bool):∀(l:List α) (i:Int),0≤i→(Dw g l i= -1∧∀x∈l,g x=false)∨∃a x b,l=a++x::b∧(∀y∈a,g y=false)∧g x=true∧Dw g l i=i+a.length
 |[],i,_=>.inl ⟨rfl,by simp⟩
 | x::l,i,hi=>by
  unfold Dw
  cases hg:g x
  ·simp only[Bool.false_eq_true,if_false]
   rcases Ga g l (i+1) (by omega) with⟨h1,h2⟩|⟨a,z,b,h1,h2,h3,h4⟩
   ·exact .inl ⟨h1,fun y hy=>by rcases List.mem_cons.1 hy with rfl|hy;exact hg;exact h2 y hy⟩
   ·refine .inr ⟨x::a,z,b,by rw[h1];rfl,fun y hy=>?_,h3,by rw[h4];simp;omega⟩
    rcases List.mem_cons.1 hy with rfl|hy
    ·exact hg
    ·exact h2 y hy
  ·rw[if_pos rfl]
   exact .inr ⟨[],x,l,rfl,by simp,hg,by simp⟩
theorem QA{N:Nat}{g:aK→Bool}{f:aK→Option Bool}{l:List aK}(hN:1000000000<N)(hl:l.length≤1000000000)(h:∀x∈l,f x=some (g x)):jA N l f=some (l.filter fun x=> !g x):=by
 unfold jA mQ
 rw[I4 l 0 h,ob,show((0:Nat):Int)=0 from rfl]
 rcases Ga g l 0 (by omega) with⟨h1,h2⟩|⟨a,x,b,h1,h2,h3,h4⟩
 ·rw[h1,if_pos (by simp)]
  congr 1
  exact(List.filter_eq_self.2 fun y hy=>by simp[h2 y hy]).symm
 ·rw[h4,if_neg (by first|(simp;done)|(simp;omega))]
  subst h1
  simp only[List.length_append,List.length_cons] at hl
  have:=zX b a [x] N (fun y hy=>h y (by simp[hy])) (by simp) (by omega) (by simp;omega)
  have e:a++[x]++b=a++x::b:=by simp
  rw[e] at this
  rw[Int.zero_add,bX (by omega) (by omega),show((a.length:Int)+1)=((a++[x]).length:Int) by simp,this,List.filter_append,List.filter_cons,h3]
  have ha:a.filter (fun x=> !g x)=a:=List.filter_eq_self.2 fun y hy=>by simp[h2 y hy]
  simp[ha]
theorem EM{l:List Bd}{b:Bd}(hl:l.length≤1000000000)(hb:b.1<b.2.1):gJ (l.map toP) (toP b)=some ((pushB l b).map toP):=by
 unfold gJ
 have hfl:((toP b).Xs.length:Int)=2*(b.2.2.length:Int):=by show((dn b.2.2).length:Int)=_;rw[gT];omega
 by_cases he:b.2.2=[]
 ·rw[if_pos (by rw[hfl,he];simp),pK he]
 ·have hpos:0<b.2.2.length:=List.length_pos_iff.2 he
  rw[if_neg (by
   rw[hfl]
   show ¬((2*(b.2.2.length:Int)==0)||decide (b.2.1≤b.1))=true
   rw[Bool.or_eq_true,not_or]
   exact⟨by simp;exact he,by simp;exact hb⟩)]
  have hsplit:l=[]∨∃j q,l=j++[q]:=by
   rcases List.eq_nil_or_concat l with h|⟨j,q,h⟩
   ·exact .inl h
   ·exact .inr ⟨j,q,by simpa using h⟩
  rcases hsplit with rfl|⟨j,c,rfl⟩
  ·rw[AL he,if_neg (by simp[bX]),ob,if_neg (by simp),ob,if_neg (by simp)]
   rfl
  ·simp only[List.length_append,List.length_singleton] at hl
   have hm:(j++[c]).map toP=j.map toP++toP c::[]:=by simp
   have hw:bF ((((j++[c]).map toP).length:Int)-1)=((j.map toP).length:Int):=by
    rw[bX (by first|(simp;done)|(simp;omega)) (by first|(simp;done)|(simp;omega))];simp
   have hid:idx ((j++[c]).map toP) ((j.map toP).length:Int)=some (toP c):=by rw[hm];exact jw _ [] _
   rw[sI he,hw,if_pos (by simp),hid,ob,ob,ob,Qz]
   have hxs:((toP c).Xs=(toP b).Xs)↔c.2.2=b.2.2:=⟨fun h=>IK h,fun h=>by show dn c.2.2=dn b.2.2;rw[h]⟩
   by_cases h1:c.2.1=b.1
   ·have e1:((toP c).Y1==(toP b).Y0)=true:=by simpa[toP] using h1
    rw[e1,if_pos rfl,ob,ob]
    by_cases h2:c.2.2=b.2.2
    ·rw[decide_eq_true (hxs.2 h2),if_pos rfl,if_pos ⟨h1,h2⟩]
     have hset:sets ((j++[c]).map toP) ((j.map toP).length:Int) (bf.mk (toP c).Y0 (toP b).Y1 (toP c).Xs)=some ((j++[(c.1,b.2.1,c.2.2)]).map toP):=by
      unfold sets
      rw[if_pos ⟨by omega,by simp⟩,hm]
      simp[toP]
     rw[ob,hset];rfl
    ·rw[decide_eq_false (fun h=>h2 (hxs.1 h)),if_neg (by simp),if_neg (fun h=>h2 h.2),lm (by simp;omega),ob]
     simp
   ·have e1:((toP c).Y1==(toP b).Y0)=false:=by simpa[toP] using h1
    rw[e1,if_neg (by simp),ob,if_neg (by simp),if_neg (fun h=>h1 h.1),lm (by simp;omega),ob]
    simp
theorem Ee:∀{l m:List Int},l.Pairwise (fun x y=>x<y)→m.Pairwise (fun x y=>x<y)→(∀x,x∈l↔x∈m)→l=m
 |[],[],_,_,_=>rfl
 |[],y::m,_,_,h=>by have:=(h y).2 (by simp);simp at this
 |x::l,[],_,_,h=>by have:=(h x).1 (by simp);simp at this
 | x::l,y::m,h1,h2,h=>by
  rw[List.pairwise_cons] at h1 h2
  have hxy:x=y:=by
   have a:=(h x).1 (by simp)
   have b:=(h y).2 (by simp)
   rcases List.mem_cons.1 a with a|a
   ·exact a
   ·rcases List.mem_cons.1 b with b|b
    ·exact b.symm
    ·have:=h1.1 y b;have:=h2.1 x a;omega
  subst hxy
  rw[Ee h1.2 h2.2 fun z=>by
   have hz:=h z
   simp only[List.mem_cons] at hz
   constructor
   ·intro hm
    have hne:z≠x:=by have:=h1.1 z hm;omega
    rcases hz.1 (.inr hm) with e|e
    ·exact absurd e hne
    ·exact e
   ·intro hm
    have hne:z≠x:=by have:=h2.1 z hm;omega
    rcases hz.2 (.inr hm) with e|e
    ·exact absurd e hne
    ·exact e]
theorem P5{l m:List Int}(h:∀x,x∈l↔x∈m):xE l=xE m:=Ee (sP l) (sP m) fun x=>by rw[uG,uG,h]
theorem vW{l:List aK}{y:Int}:y∈uC l↔∃r∈l,y=r.Y0∨y=r.Y1:=by
 unfold uC
 simp[List.mem_flatMap]
theorem CZ:∀l:List aK,(uC l).length=2*l.length
 |[]=>rfl
 |r::l=>by
  show([r.Y0,r.Y1]++uC l).length=_
  rw[List.length_append,CZ l];simp;omega
theorem Fy(l:List Int):(xE l).length≤l.length:=by
 unfold xE
 exact Nat.le_trans (Pm _) (by rw[List.length_mergeSort];exact Nat.le_refl _)
theorem xQ(l:List Bd)(b:Bd):(pushB l b).length≤l.length+1:=by
 by_cases he:b.2.2=[]
 ·rw[pK he];omega
 ·rcases List.eq_nil_or_concat l with rfl|⟨j,c,h⟩
  ·rw[AL he];simp
  ·rw[List.concat_eq_append] at h
   subst h
   rw[sI he]
   split<;>simp
section
variable {N:Nat} {l M:List aK} {ys:List Int} (hN:10000000000≤N) (hMl:M.length≤100000000) (hok:∀r∈M,R9 r) (hyl:ys.length≤200000000)
include hN hMl hok hyl
omit hN hyl in
theorem Q6{k a b:Int}{bands:List Bd}(hbl:bands.length≤250000000)(hk0:0≤k∧k≤250000000)(ha:idx ys k=some a)(hb:idx ys (k+1)=some b)(hab:a<b){K:Int→List bf→List aK→Int→Option (List bf)}:∀(suf pre now:List aK) (m:Nat),M=pre++suf→suf.length<m→(∀r∈now,R9 r)→now.length+suf.length≤150000000→
  ∃t suf' now',suf=t++suf'∧(∀r∈t,r.Y0≤a)∧(∀r,suf'.head?=some r→a<r.Y0)∧now'.Perm (now++t)∧
   iB M ys k (bands.map toP) K m now pre.length=K (k+1) ((pushB bands (a,b,A8 ((now++t).map E8))).map toP) now' (pre++t).length
 |suf,pre,now,0,_,h,_,_=>absurd h (Nat.not_lt_zero _)
 |[],pre,now,m+1,h1,_,h3,h4=>by
  obtain⟨now',p1,p2⟩:=Cb (l:=now) (by simp at h4;omega) h3
  refine⟨[],[],now',rfl,by simp,by simp,by simpa using p1,?_⟩
  have hpush:=EM (l:=bands) (b:=(a,b,A8 (now.map E8))) (by omega) hab
  rw[iB.eq_2,if_neg (by rw[h1];simp),ob,if_neg (by simp),ha,ob,bX (by omega) (by omega),hb,ob,p2,ob]
  show(gJ (bands.map toP) (toP (a,b,A8 (now.map E8)))).bind _=_
  rw[hpush,ob]
  simp
 | r::suf,pre,now,m+1,h1,h2,h3,h4=>by
  have hrM:r∈M:=by rw[h1];simp
  have hpl:pre.length≤100000000:=by rw[h1] at hMl;simp at hMl;omega
  have hid:idx M (pre.length:Int)=some r:=by rw[h1];exact jw pre suf r
  simp only[List.length_cons] at h2 h4
  by_cases hle:r.Y0≤a
  ·obtain⟨t,suf',now',e1,e2,e3,e4,e5⟩:=Q6 hbl hk0 ha hb hab (K:=K) suf (pre++[r]) (now++[r]) m (by rw[h1];simp) (by omega) (fun x hx=>by
    rcases List.mem_append.1 hx with hx|hx
    ·exact h3 x hx
    ·simp at hx;subst hx;exact hok _ hrM) (by simp;omega)
   refine⟨r::t,suf',now',by rw[e1];rfl,fun x hx=>?_,e3,by simpa using e4,?_⟩
   ·rcases List.mem_cons.1 hx with rfl|hx
    ·exact hle
    ·exact e2 x hx
   ·rw[iB.eq_2,if_pos (by rw[h1];exact M4 pre suf r),hid,ob,ha,ob,ob,if_pos (by simpa using hle),ob,lm (by simp;omega),ob,Fb pre r (by omega),e5]
    simp
  ·obtain⟨now',p1,p2⟩:=Cb (l:=now) (by omega) h3
   refine⟨[],r::suf,now',rfl,by simp,fun x hx=>by simp at hx;subst hx;omega,by simpa using p1,?_⟩
   have hpush:=EM (l:=bands) (b:=(a,b,A8 (now.map E8))) (by omega) hab
   rw[iB.eq_2,if_pos (by rw[h1];exact M4 pre suf r),hid,ob,ha,ob,ob,if_neg (by simpa using hle),ob,bX (by omega) (by omega),hb,ob,p2,ob]
   show(gJ (bands.map toP) (toP (a,b,A8 (now.map E8)))).bind _=_
   rw[hpush,ob]
   simp
theorem Ob(hMs:M.Pairwise fun x y=>x.Y0≤y.Y0)(hys:ys.Pairwise fun x y=>x<y)(hmem:∀r∈M,r.Y0∈ys)(hl:∀r,r∈l↔r∈M):∀(hsuf hpre:List Int) (m:Nat) (bands:List Bd) (pre suf now:List aK) (v:Int),ys=hpre++hsuf→M=pre++suf→hsuf.length<m→bands.length≤hpre.length→
  (∀r∈pre,r.Y0≤v)→(∀r∈suf,v<r.Y0)→now.Perm (pre.filter fun r=>decide (v<r.Y1))→(∀h∈hsuf,v<h)→(∀h∈hpre,h≤v)→
  eF N M ys m hpre.length (bands.map toP) now pre.length=some ((uB l hsuf bands).map toP)
 |[],hpre,m+1,bands,pre,suf,now,v,e1,e2,_,_,_,_,_,_,_=>by
  have hpl:hpre.length≤200000000:=by rw[e1] at hyl;simpa using hyl
  rw[eF.eq_2,if_neg (by rw[bX (by omega) (by omega),e1];simp;omega)]
  rfl
 |[a],hpre,m+1,bands,pre,suf,now,v,e1,e2,_,_,_,_,_,_,_=>by
  have hpl:hpre.length≤200000000:=by rw[e1] at hyl;simp at hyl;omega
  rw[eF.eq_2,if_neg (by rw[bX (by omega) (by omega),e1];simp)]
  rfl
 | a ::b::hsuf,hpre,m+1,bands,pre,suf,now,v,e1,e2,hm,hbl,i1,i2,i3,i4,i5=>by
  have hpl:hpre.length+2≤200000000:=by rw[e1] at hyl;simp at hyl;omega
  have hva:v<a:=i4 a (by simp)
  have hs2:(a::b::hsuf).Pairwise fun x y=>x<y:=by rw[e1] at hys;exact(List.pairwise_append.1 hys).2.1
  have hab:a<b:=(List.pairwise_cons.1 hs2).1 b (by simp)
  have ha:idx ys (hpre.length:Int)=some a:=by rw[e1];exact jw hpre _ a
  have hb:idx ys ((hpre.length:Int)+1)=some b:=by
   rw[e1,show hpre++a::b::hsuf=(hpre++[a])++b::hsuf by simp,show((hpre.length:Int)+1)=((hpre++[a]).length:Int) by simp]
   exact jw (hpre++[a]) _ b
  have hnl:now.length≤pre.length:=by rw[i3.length_eq];exact List.length_filter_le _ _
  have hMl2:pre.length+suf.length≤100000000:=by rw[e2] at hMl;simpa using hMl
  have hnok:∀r∈now,R9 r:=fun r hr=>hok r (by rw[e2];exact List.mem_append_left _ (List.mem_filter.1 (i3.subset hr)).1)
  have hdel:=QA (N:=N) (g:=fun r=>decide (r.Y1≤a)) (f:=fun z0=>nk z0 ys hpre.length) (l:=now) (by omega) (by omega) (fun r _=>by unfold nk;rw[ha];rfl)
  obtain⟨t,suf',now',s1,s2,s3,s4,s5⟩:=Q6 hMl hok (bands:=bands) (by omega) (k:=(hpre.length:Int)) ⟨by omega,by omega⟩ ha hb hab (K:=eF N M ys m) suf pre (now.filter fun x=> !decide (x.Y1≤a)) N e2 (by omega) (fun r hr=>hnok r (List.mem_filter.1 hr).1) (by
   have:=List.length_filter_le (fun x:aK=> !decide (x.Y1≤a)) now
   omega)
  have hsM:suf.Pairwise fun x y=>x.Y0≤y.Y0:=by rw[e2] at hMs;exact(List.pairwise_append.1 hMs).2.1
  have hsuf':∀r∈suf',a<r.Y0:=fun r hr=>by
   cases suf' with
   |nil=>simp at hr
   | cons c cs=>
    have hc:=s3 c rfl
    rcases List.mem_cons.1 hr with rfl|hr
    ·exact hc
    ·rw[s1] at hsM
     have:=(List.pairwise_cons.1 (List.pairwise_append.1 hsM).2.1).1 r hr
     omega
  have ht:∀r∈t,r.Y0=a∧a<r.Y1:=fun r hr=>by
   have hrs:r∈suf:=by rw[s1];exact List.mem_append_left _ hr
   have hrM:r∈M:=by rw[e2];exact List.mem_append_right _ hrs
   have h1:=s2 r hr
   have h2:=i2 r hrs
   have h3:=hmem r hrM
   have hin:r.Y0∈a::b::hsuf:=by
    rw[e1] at h3
    rcases List.mem_append.1 h3 with h|h
    ·have:=i5 _ h;omega
    ·exact h
   have hle:a≤r.Y0:=by
    rcases List.mem_cons.1 hin with h|h
    ·omega
    ·have:=(List.pairwise_cons.1 hs2).1 _ h;omega
   have:=(hok r hrM).y
   omega
  have hperm:(now.filter (fun x=> !decide (x.Y1≤a))++t).Perm ((pre++t).filter fun r=>decide (a<r.Y1)):=by
   rw[List.filter_append]
   have p1:(now.filter fun x=> !decide (x.Y1≤a)).Perm (pre.filter fun r=>decide (a<r.Y1)):=by
    refine(i3.filter _).trans ?_
    rw[List.filter_filter]
    refine List.Perm.of_eq (List.filter_congr fun r _=>?_)
    rw[Bool.eq_iff_iff]
    simp
    omega
   have p2:t.filter (fun r=>decide (a<r.Y1))=t:=List.filter_eq_self.2 fun r hr=>by simpa using(ht r hr).2
   rw[p2]
   exact p1.append_right t
  have hcov:A8 ((now.filter (fun x=> !decide (x.Y1≤a))++t).map E8)=wm l a:=by
   have hin:∀r,r∈(now.filter (fun x=> !decide (x.Y1≤a))++t)↔r∈l.filter fun r=>decide (r.Y0≤a)&&decide (a<r.Y1):=fun r=>by
    rw[hperm.mem_iff,List.mem_filter,List.mem_filter,hl,e2,s1]
    simp only[List.mem_append,Bool.and_eq_true,decide_eq_true_eq]
    constructor
    ·rintro⟨h|h,h2⟩
     ·exact⟨.inl h,by have:=i1 r h;omega,h2⟩
     ·exact⟨.inr (.inl h),by have:=(ht r h).1;omega,h2⟩
    ·rintro⟨h|h|h,h1,h2⟩
     ·exact⟨.inl h,h2⟩
     ·exact⟨.inr h,h2⟩
     ·have:=hsuf' r h;omega
   have hlim:∀r,r∈M→ -2000000001<(E8 r).1∧(E8 r).1<(E8 r).2:=fun r hr=>by
    have:=hok r hr
    exact⟨by have:=this.x0;show -2000000001<r.X0;omega,this.x⟩
   have hMr:∀r,r∈(now.filter (fun x=> !decide (x.Y1≤a))++t)→r∈M:=fun r hr=>(hl r).1 (List.mem_filter.1 ((hin r).1 hr)).1
   unfold wm
   refine Ni (lo:= -2000000001) (fun p hp=>?_) (fun p hp=>?_) fun x=>?_
   ·obtain⟨r,hr,rfl⟩:=List.mem_map.1 hp;exact hlim r (hMr r hr)
   ·obtain⟨r,hr,rfl⟩:=List.mem_map.1 hp;exact hlim r ((hl r).1 (List.mem_filter.1 hr).1)
   ·unfold mP
    constructor
    ·rintro⟨p,hp,h⟩
     obtain⟨r,hr,rfl⟩:=List.mem_map.1 hp
     exact⟨_,List.mem_map.2 ⟨r,(hin r).1 hr,rfl⟩,h⟩
    ·rintro⟨p,hp,h⟩
     obtain⟨r,hr,rfl⟩:=List.mem_map.1 hp
     exact⟨_,List.mem_map.2 ⟨r,(hin r).2 hr,rfl⟩,h⟩
  rw[eF.eq_2,if_pos (by rw[bX (by omega) (by omega),e1];simp;omega),hdel,ob,s5,hcov]
  have hpb:=xQ bands (a,b,wm l a)
  have ih:=Ob hMs hys hmem hl (b::hsuf) (hpre++[a]) m (pushB bands (a,b,wm l a)) (pre++t) suf' now' a (by rw[e1];simp) (by rw[e2,s1];simp) (by simp at hm ⊢;omega) (by simp;omega) (fun r hr=>by
   rcases List.mem_append.1 hr with hr|hr
   ·have:=i1 r hr;omega
   ·have:=(ht r hr).1;omega) hsuf' (s4.trans hperm) (fun h hh=>(List.pairwise_cons.1 hs2).1 h hh) (fun h hh=>by
   rcases List.mem_append.1 hh with hh|hh
   ·have:=i5 h hh;omega
   ·simp at hh;omega)
  rw[show((hpre.length:Int)+1)=((hpre++[a]).length:Int) by simp,ih]
  rfl
end
theorem Mh(r:aK)(l:List aK):uC (r::l)=[r.Y0,r.Y1]++uC l:=rfl
theorem CO{N:Nat}{l:List aK}(hN:10000000000≤N)(hl:l.length≤100000000)(hok:∀r∈l,R9 r):jP N l=some ((rO l).map toP):=by
 obtain⟨M,m1,m2,m3⟩:=FC (c:=fun z0 z1=>nu z0 z1) (k:=fun r=>r.Y0) (l:=l) (by omega) (fun x hx y hy=>by
  have a:=(hok x hx).y0;have b:=(hok y hy).y0
  unfold nu
  rw[bX (by omega) (by omega)])
 have hMl:M.length≤100000000:=by rw[m2.length_eq];exact hl
 have hMok:∀r∈M,R9 r:=fun r hr=>hok r (m2.subset hr)
 have hy:xE (uC M)=xE (uC l):=P5 fun y=>by
  rw[vW,vW]
  exact⟨fun⟨r,hr,h⟩=>⟨r,m2.subset hr,h⟩,fun⟨r,hr,h⟩=>⟨r,m2.symm.subset hr,h⟩⟩
 have hyl:(xE (uC l)).length≤200000000:=Nat.le_trans (Fy _) (by rw[CZ];omega)
 have L1:∀(suf:List aK) (i:Nat) (out:List Int),out.length+2*suf.length≤250000000→iZ N M suf i out=(eF N M (xE (out++uC suf)) N 0 [] [] 0):=by
  intro suf
  induction suf with
  |nil=>
   intro i out ho
   rw[iZ.eq_1]
   have:=N9 (l:=out) (by simp at ho;omega)
   rw[Jh (by simp at ho;omega),ob]
   rw[Jh (by simp at ho;omega),ob] at this
   rw[this,ob]
   show _=eF N M (xE (out++[])) N 0 [] [] 0
   rw[List.append_nil]
  |cons r suf ih=>
   intro i out ho
   simp only[List.length_cons] at ho
   rw[iZ.eq_2,lm (by simp;omega),ob,ih (i+1) _ (by simp;omega),Mh,List.append_assoc]
 unfold jP nD
 rw[lm (by simp;omega),ob,ob,List.nil_append,m1,ob,L1 M 0 [] (by simp;omega),List.nil_append,hy]
 have:=Ob (l:=l) hN hMl hMok hyl m3 (sP _) (fun r hr=>(uG _ _).2 (vW.2 ⟨r,m2.subset hr,.inl rfl⟩)) (fun r=>⟨fun h=>m2.symm.subset h,fun h=>m2.subset h⟩) (xE (uC l)) [] N [] [] M [] (-3000000000) rfl rfl (by omega) (by simp) (by simp) (fun r hr=>by have:=(hMok r hr).y0;omega) (by simp) (fun h hh=>by
  obtain⟨r,hr,e⟩:=vW.1 ((uG _ _).1 hh)
  have a:=hok r hr
  have:=a.y0;have:=a.y1
  rcases e with rfl|rfl<;>omega) (by simp)
 exact this
theorem Ro(l:List aK)(y:Int):(wm l y).length≤l.length:=by
 unfold wm A8
 have:=Lv ((l.filter fun r=>decide (r.Y0≤y)&&decide (y<r.Y1)).map E8) []
 have h2:=List.length_filter_le (fun r:aK=>decide (r.Y0≤y)&&decide (y<r.Y1)) l
 simp at this
 omega
structure Small (l:List Bd):Prop where
 len:l.length≤200000000
 row:∀b∈l,b.2.2.length≤100000000
 tot:(fK l).length≤4000000000
theorem pJ(b:Bd)(l:List Bd):fK (b::l)=Cj b++fK l:=rfl
theorem qP(b:Bd):(Cj b).length=b.2.2.length:=by unfold Cj;simp
theorem yE{l:List Bd}{R:Nat}(h:∀b∈l,b.2.2.length≤R):(fK l).length≤R*l.length:=by
 induction l with
 |nil=>simp[fK]
 |cons b l ih=>
  rw[pJ,List.length_append,qP]
  have:=ih (fun c hc=>h c (by simp[hc]));have:=h b (by simp)
  rw[List.length_cons,Nat.mul_succ]
  omega
theorem Ha(l m:List Bd):fK (l++m)=fK l++fK m:=by unfold fK;rw[List.flatMap_append]
theorem FU{l:List Bd}{b:Bd}(h:b∈l):b.2.2.length≤(fK l).length:=by
 obtain⟨s,t,rfl⟩:=List.append_of_mem h
 rw[Ha,pJ,List.length_append,List.length_append,qP]
 omega
theorem Im{l:List Bd}{b:Bd}{R:Nat}(h:∀c∈l,c.2.2.length≤R)(hb:b.2.2.length≤R):∀c∈pushB l b,c.2.2.length≤R:=by
 by_cases he:b.2.2=[]
 ·rw[pK he];exact h
 ·rcases List.eq_nil_or_concat l with rfl|⟨j,c,hc⟩
  ·rw[AL he]
   intro c hc
   simp at hc
   subst hc
   exact hb
  ·rw[List.concat_eq_append] at hc
   subst hc
   rw[sI he]
   intro d hd
   split at hd
   ·rcases List.mem_append.1 hd with hd|hd
    ·exact h d (by simp[hd])
    ·simp at hd;subst hd;exact h c (by simp)
   ·rcases List.mem_append.1 hd with hd|hd
    ·exact h d hd
    ·simp at hd;subst hd;exact hb
theorem Bi{l:List aK}{R:Nat}(hl:l.length≤R):∀(ys:List Int) (out:List Bd),(∀c∈out,c.2.2.length≤R)→(uB l ys out).length≤out.length+ys.length∧∀c∈uB l ys out,c.2.2.length≤R
 |[],out,h=>⟨by simp[uB],h⟩
 |[a],out,h=>⟨by simp[uB],h⟩
 |a::b::ys,out,h=>by
  have hr:=Ro l a
  have hp:=xQ out (a,b,wm l a)
  obtain⟨i1,i2⟩:=Bi hl (b::ys) (pushB out (a,b,wm l a)) (Im h (by show(wm l a).length≤R;omega))
  simp only[List.length_cons] at i1 ⊢
  exact⟨by show(uB l (b::ys) (pushB out (a,b,wm l a))).length≤_;omega,i2⟩
theorem FK(l:List aK):(rO l).length≤2*l.length∧∀b∈rO l,b.2.2.length≤l.length:=by
 obtain⟨h1,h2⟩:=Bi (Nat.le_refl l.length) (xE (uC l)) [] (by simp)
 have:=Fy (uC l)
 rw[CZ] at this
 exact⟨by show(uB l (xE (uC l)) []).length≤_;simp at h1;omega,h2⟩
theorem KD{l:List aK}(hl:l.length≤100000000)(ht:(fK (rO l)).length≤4000000000):Small (rO l):=by
 obtain⟨h1,h2⟩:=FK l
 exact⟨by omega,fun b hb=>by have:=h2 b hb;omega,ht⟩
theorem Bq{l:List aK}(hl:l.length≤20000):Small (rO l):=by
 obtain⟨h1,h2⟩:=FK l
 refine KD (by omega) ?_
 have:=yE (R:=20000) (l:=rO l) fun b hb=>by have:=h2 b hb;omega
 omega
section
variable {N:Nat} (hN:10000000000≤N)
include hN
omit hN in
theorem L8{b:Bd}{K:List aK→Option (List aK)}(hb:b.2.2.length≤100000000):∀(suf pre:List (Int×Int)) (m:Nat) (out:List aK),b.2.2=pre++suf→suf.length<m→out.length+suf.length≤4294967296→
  iq K (toP b) m out ((2*pre.length:Nat):Int)=K (out++suf.map fun s=>⟨s.1,b.1,s.2,b.2.1⟩)
 |[],pre,m+1,out,h1,_,_=>by
  rw[iq.eq_2,if_neg (by show ¬decide (((2*pre.length:Nat):Int)<((dn b.2.2).length:Int))=true;rw[h1,gT];simp)]
  simp
 | s::suf,pre,m+1,out,h1,h2,h3=>by
  have hpl:pre.length≤100000000:=by rw[h1] at hb;simp at hb;omega
  have hfl:dn b.2.2=dn pre++s.1::s.2::dn suf:=by rw[h1,pU];rfl
  have hid:idx (dn b.2.2) ((2*pre.length:Nat):Int)=some s.1:=by rw[hfl,←gT];exact jw _ _ _
  have hid2:idx (dn b.2.2) (((2*pre.length:Nat):Int)+1)=some s.2:=by
   rw[hfl,show dn pre++s.1::s.2::dn suf=(dn pre++[s.1])++s.2::dn suf by simp,show(((2*pre.length:Nat):Int)+1)=((dn pre++[s.1]).length:Int) by simp[gT]]
   exact jw _ _ _
  simp only[List.length_cons] at h2 h3
  rw[iq.eq_2,if_pos (by show decide (((2*pre.length:Nat):Int)<((dn b.2.2).length:Int))=true;rw[hfl];simp[gT];omega),bX (x:=((2*pre.length:Nat):Int)+1) (by omega) (by omega),bX (x:=((2*pre.length:Nat):Int)+2) (by omega) (by omega)]
  show((idx (dn b.2.2) _).bind fun ZA=>(idx (dn b.2.2) _).bind fun Zz=>_)=_
  rw[hid,ob,hid2,ob,lm (by simp;omega),ob]
  have:=L8 (K:=K) hb suf (pre++[s]) m (out++[⟨s.1,b.1,s.2,b.2.1⟩]) (by rw[h1];simp) (by omega) (by simp;omega)
  rw[show((2*(pre++[s]).length:Nat):Int)=((2*pre.length:Nat):Int)+2 by simp;omega] at this
  show iq K (toP b) m (out++[⟨s.1,b.1,s.2,b.2.1⟩]) _=_
  rw[this]
  simp
theorem Ae{l:List Bd}(h:Small l):jr N (l.map toP)=some (fK l):=by
 have key:∀(suf:List Bd) (i:Nat) (out:List aK),(∀b∈suf,b.2.2.length≤100000000)→out.length+(fK suf).length≤4294967296→fH N (suf.map toP) i out=some (out++fK suf):=by
  intro suf
  induction suf with
  |nil=>intro i out _ _;rw[List.map_nil,fH.eq_1];simp[fK]
  |cons b suf ih=>
   intro i out hb ho
   have hb0:=hb b (by simp)
   rw[pJ,List.length_append,qP] at ho
   rw[List.map_cons,fH.eq_2]
   have:=L8 (K:=fH N (suf.map toP) (i+1)) hb0 b.2.2 [] N out rfl (by omega) (by omega)
   rw[show((2*([]:List (Int×Int)).length:Nat):Int)=0 from rfl] at this
   rw[this,ih (i+1) _ (fun c hc=>hb c (by simp[hc])) (by simp;omega),pJ,List.append_assoc]
   rfl
 have:=key l 0 [] h.row (by have:=h.tot;simp;omega)
 rw[List.nil_append] at this
 exact this
omit hN in
theorem J8{l:List Bd}(h:(fK l).length≤1000000000000000000):mU (l.map toP)=some ((fK l).length:Int):=by
 have key:∀(suf:List Bd) (i:Nat) (c:Int),0≤c→c+(fK suf).length≤1000000000000000000→iE (suf.map toP) i c=some (c+((fK suf).length:Int)):=by
  intro suf
  induction suf with
  |nil=>intro i c _ _;rw[List.map_nil,iE.eq_1];simp[fK]
  | cons b suf ih=>
   intro i c h0 ho
   rw[pJ,List.length_append,qP] at ho
   have e:Int.tdiv ((toP b).Xs.length:Int) 2=(b.2.2.length:Int):=by
    show Int.tdiv ((dn b.2.2).length:Int) 2=_
    rw[gT,Int.tdiv_eq_ediv_of_nonneg (by omega)];omega
   rw[List.map_cons,iE.eq_2,e,bX (x:=(b.2.2.length:Int)) (by omega) (by omega),bX (by omega) (by omega),ih (i+1) _ (by omega) (by omega),pJ,List.length_append,qP]
   congr 1
   omega
 have:=key l 0 0 (by omega) (by omega)
 rw[Int.zero_add] at this
 exact this
def NV(l:List Bd):List aK×Int:=if 2000<(fK l).length then([],2) else(fK l,0)
end
instance:DecidableEq aK:=fun _ _=>decidable_of_iff _ zV
def ML(r:aK):Int:=
 if(((within r.X0 (-1000000) 1000000&&within r.Y0 (-1000000) 1000000)&&within r.X1 (-1000000) 1000000)&&within r.Y1 (-1000000) 1000000)=false then 1
 else if(decide (r.X1≤r.X0)||decide (r.Y1≤r.Y0))=true then 13 else 0
def FP:List aK→Int
 |[]=>0
 |r::l=>if ML r=0 then FP l else ML r
def tC(l:List aK):Int:=if 2000<l.length then 2 else FP l
theorem Ug{r:aK}(h:ML r=0):NG r:=by
 unfold ML at h
 split at h
 ·omega
 ·rename_i h1
  split at h
  ·omega
  ·rename_i h2
   rw[Bool.not_eq_false,Bool.and_eq_true,Bool.and_eq_true,Bool.and_eq_true,within_iff,within_iff,within_iff,within_iff] at h1
   rw[Bool.or_eq_true,not_or,decide_eq_true_eq,decide_eq_true_eq] at h2
   exact⟨h1.1.1.1,h1.1.1.2,h1.1.2,h1.2,by omega,by omega⟩
theorem KJ:∀{l:List aK},FP l=0→∀r∈l,NG r
 |[],_,r,hr=>by simp at hr
 | a::l,h,r,hr=>by
  unfold FP at h
  split at h
  ·rename_i h1
   rcases List.mem_cons.1 hr with rfl|hr
   ·exact Ug h1
   ·exact KJ h r hr
  ·rename_i h1;exact absurd h h1
theorem Eh{l:List aK}(h:tC l=0):l.length≤2000∧∀r∈l,NG r:=by
 unfold tC at h
 split at h
 ·omega
 ·exact⟨by omega,KJ h⟩
theorem IC(r:aK):pF r=some (((within r.X0 (-1000000) 1000000&&within r.Y0 (-1000000) 1000000)&&within r.X1 (-1000000) 1000000)&&within r.Y1 (-1000000) 1000000):=by
 unfold pF lF mh within
 simp only[ob]
 cases decide (-1000000≤r.X0)&&decide (r.X0≤1000000)<;>cases decide (-1000000≤r.Y0)&&decide (r.Y0≤1000000)<;>cases decide (-1000000≤r.X1)&&decide (r.X1≤1000000)<;>rfl
theorem Hu(l:List aK):lS l=some (tC l):=by
 have key:∀(l:List aK) (i:Nat),iw l i=some (FP l):=by
  intro l
  induction l with
  |nil=>intro i;rw[iw.eq_1];rfl
  |cons r l ih=>
   intro i
   rw[iw.eq_2,IC,ob,ih]
   show _=some (if ML r=0 then FP l else ML r)
   generalize FP l=z
   unfold ML
   cases(((within r.X0 (-1000000) 1000000&&within r.Y0 (-1000000) 1000000)&&within r.X1 (-1000000) 1000000)&&within r.Y1 (-1000000) 1000000)
   ·simp
   ·cases(decide (r.X1≤r.X0)||decide (r.Y1≤r.Y0))<;>simp
 unfold lS tC
 by_cases h:2000<l.length
 ·rw[if_pos (by simp;omega),if_pos h]
 ·rw[if_neg (by simp;omega),if_neg h,key]
def X4(a b:aK):Bool:=decide (a.Y0<b.Y0)||(decide (a.Y0=b.Y0)&&decide (a.X0<b.X0))
def Rw:List aK→Bool
 |a::b::l=>X4 a b&&Rw (b::l)
 |_=>true
def lI(l:List aK):Int:=if tC l=0 then if Rw l=true then if fK (rO l)=l then 0 else 3 else 8 else tC l
theorem Ar{N:Nat}(hN:10000000000≤N)(l:List aK):jC N l=some (lI l):=by
 unfold jC lI
 rw[Hu,ob]
 by_cases he:tC l=0
 ·obtain⟨hl,hok⟩:=Eh he
  rw[if_neg (by simpa using he),if_pos he]
  have hend:(jP N l).bind (fun YL=>(jr N YL).bind fun YK=>(jB YK l).bind fun YJ=>if(!YJ) then some 3 else some 0)=some (if fK (rO l)=l then(0:Int) else 3):=by
   rw[CO hN (by omega) (fun r hr=>(hok r hr).r9),ob,Ae hN (Bq (by omega)),ob]
   obtain⟨b,h1,h2⟩:=I5 (fK (rO l)) l
   rw[h1,ob]
   cases b
   ·rw[if_pos (by simp),if_neg (fun h=>by have:=h2.2 h;cases this)]
   ·rw[if_neg (by simp),if_pos (h2.1 rfl)]
  have key:∀(suf pre:List aK) (a:aK) (m:Nat),l=pre++a::suf→suf.length<m→eG N l m ((pre.length:Int)+1)=some (if Rw (a::suf)=true then if fK (rO l)=l then 0 else 3 else 8):=by
   intro suf
   induction suf with
   |nil=>
    intro pre a m h1 h2
    obtain⟨m,rfl⟩:∃k,m=k+1:=⟨m-1,by omega⟩
    rw[eG.eq_2,if_neg (by rw[h1];simp),hend]
    rfl
   | cons b suf ih=>
    intro pre a m h1 h2
    obtain⟨m,rfl⟩:∃k,m=k+1:=⟨m-1,by omega⟩
    have hpl:pre.length≤2000:=by rw[h1] at hl;simp at hl;omega
    have ha:idx l (pre.length:Int)=some a:=by rw[h1];exact jw pre _ a
    have hb:idx l ((pre.length:Int)+1)=some b:=by
     rw[h1,show pre++a::b::suf=(pre++[a])++b::suf by simp,show((pre.length:Int)+1)=((pre++[a]).length:Int) by simp]
     exact jw (pre++[a]) _ b
    rw[eG.eq_2,if_pos (by rw[h1];simp;omega),bX (x:=(pre.length:Int)+1-1) (by omega) (by omega),show((pre.length:Int)+1-1)=(pre.length:Int) by omega,ha,ob,hb,ob,bX (by omega) (by omega)]
    have hlt:((decide (b.Y0<a.Y0))||((b.Y0==a.Y0)&&(decide (b.X0≤a.X0))))= !X4 a b:=by
     unfold X4
     rw[Bool.eq_iff_iff]
     simp
     omega
    rw[hlt]
    have hor:Rw (a::b::suf)=(X4 a b&&Rw (b::suf)):=rfl
    rw[hor]
    cases X4 a b
    ·simp
    ·have:=ih (pre++[a]) b m (by rw[h1];simp) (by simp at h2;omega)
     rw[show(((pre++[a]).length:Int)+1)=(pre.length:Int)+1+1 by simp] at this
     rw[this]
     simp
  cases l with
  |nil=>
   obtain⟨m,hm⟩:∃k,N=k+1:=⟨N-1,by omega⟩
   have hf:eG N ([]:List aK) N 1=eG N ([]:List aK) (m+1) 1:=congrArg (fun z=>eG N ([]:List aK) z 1) hm
   rw[hf,eG.eq_2,if_neg (by simp),hend]
   rfl
  |cons a suf=>
   exact key suf [] a N rfl (by simp at hl;omega)
 ·rw[if_pos (by simpa using he),if_neg he]
def rowAt:List Bd→Int→List (Int×Int)
 |[],_=>[]
 |b::l,y=>if b.1≤y∧y<b.2.1 then b.2.2 else rowAt l y
def oU:Int→List Bd→Prop
 |_,[]=>True
 |lo,b::l=>lo≤b.1∧b.1<b.2.1∧b.2.2≠[]∧(∀d,l.head?=some d→d.1=b.2.1→d.2.2≠b.2.2)∧oU b.2.1 l
theorem nz:∀{l:List Bd} {lo y:Int},oU lo l→y<lo→rowAt l y=[]
 |[],_,_,_,_=>rfl
 |b::l,lo,y,h,hy=>by
  unfold rowAt
  rw[if_neg (by have:=h.1;omega)]
  exact nz h.2.2.2.2 (by have:=h.1;have:=h.2.1;omega)
theorem oU.uniq:∀{l m:List Bd} {lo lo':Int},oU lo l→oU lo' m→(∀y,rowAt l y=rowAt m y)→l=m
 |[],[],_,_,_,_,_=>rfl
 |[],b::m,_,_,_,h2,h=>by
  have:=h b.1
  unfold rowAt at this
  rw[if_pos ⟨Int.le_refl _,h2.2.1⟩] at this
  exact absurd this.symm h2.2.2.1
 |b::l,[],_,_,h1,_,h=>by
  have:=h b.1
  unfold rowAt at this
  rw[if_pos ⟨Int.le_refl _,h1.2.1⟩] at this
  exact absurd this h1.2.2.1
 | b ::l,d::m,lo,lo',h1,h2,h=>by
  obtain⟨a1,a2,a3,a4,a5⟩:=h1
  obtain⟨b1,b2,b3,b4,b5⟩:=h2
  have fst:∀{l:List Bd} {b:Bd} {y:Int},b.1≤y→y<b.2.1→rowAt (b::l) y=b.2.2:=fun h1 h2=>by unfold rowAt;rw[if_pos ⟨h1,h2⟩]
  have low:∀{l:List Bd} {b:Bd} {y:Int},oU b.2.1 l→b.1<b.2.1→y<b.1→rowAt (b::l) y=[]:=fun h1 h2 h3=>by
   unfold rowAt
   rw[if_neg (by omega)]
   exact nz h1 (by omega)
  have e1:b.1=d.1:=by
   have hb:=h b.1
   have hd:=h d.1
   rw[fst (Int.le_refl _) a2] at hb
   rw[fst (l:=m) (b:=d) (Int.le_refl _) b2] at hd
   rcases Int.lt_trichotomy b.1 d.1 with hlt|heq|hgt
   ·rw[low b5 b2 hlt] at hb;exact absurd hb a3
   ·exact heq
   ·rw[low a5 a2 hgt] at hd;exact absurd hd.symm b3
  have e2:b.2.2=d.2.2:=by
   have hb:=h b.1
   rw[fst (Int.le_refl _) a2,e1,fst (Int.le_refl _) b2] at hb
   exact hb
  have past:∀{l:List Bd} {b:Bd},oU b.2.1 l→(∀d,l.head?=some d→d.1=b.2.1→d.2.2≠b.2.2)→b.2.2≠[]→rowAt (b::l) b.2.1≠b.2.2:=fun{l b} h1 h2 h3=>by
   unfold rowAt
   rw[if_neg (by omega)]
   cases l with
   |nil=>exact fun h=>h3 h.symm
   | cons e l=>
    unfold rowAt
    by_cases he:e.1=b.2.1
    ·rw[if_pos ⟨by omega,by have:=h1.2.1;omega⟩]
     exact h2 e rfl he
    ·have hlt:b.2.1<e.1:=by have:=h1.1;omega
     rw[if_neg (by omega),nz h1.2.2.2.2 (by have:=h1.2.1;omega)]
     exact fun h=>h3 h.symm
  have e3:b.2.1=d.2.1:=by
   rcases Int.lt_trichotomy b.2.1 d.2.1 with hlt|heq|hgt
   ·have:=h b.2.1
    rw[fst (l:=m) (b:=d) (by omega) hlt,←e2] at this
    exact absurd this (past a5 a4 a3)
   ·exact heq
   ·have:=h d.2.1
    rw[fst (l:=l) (b:=b) (by omega) hgt,e2] at this
    exact absurd this.symm (past b5 b4 b3)
  have hbd:b=d:=by
   obtain⟨x,y,z⟩:=b
   obtain⟨x',y',z'⟩:=d
   simp only at e1 e2 e3
   rw[e1,e2,e3]
  subst hbd
  rw[oU.uniq a5 b5 fun y=>by
   by_cases hy:y<b.2.1
   ·rw[nz a5 hy,nz b5 hy]
   ·have:=h y
    unfold rowAt at this
    rw[if_neg (by omega),if_neg (by omega)] at this
    exact this]
def rW(x y:Int)(l:List Bd):Prop:=mP x (rowAt l y)
def QF(x y:Int)(l:List aK):Prop:=∃r∈l,(r.X0≤x∧x<r.X1)∧(r.Y0≤y∧y<r.Y1)
structure zt (l:List Bd):Prop where
 can:∃lo,oU lo l
 row:∀b∈l,∃lo,Can lo b.2.2
theorem AJ:∀{l:List Bd} {y:Int},rowAt l y=[]∨∃b∈l,b.1≤y∧y<b.2.1∧rowAt l y=b.2.2
 |[],_=>.inl rfl
 | b::l,y=>by
  unfold rowAt
  by_cases h:b.1≤y∧y<b.2.1
  ·rw[if_pos h];exact .inr ⟨b,by simp,h.1,h.2,rfl⟩
  ·rw[if_neg h]
   rcases AJ (l:=l) (y:=y) with h1|⟨c,h1,h2⟩
   ·exact .inl h1
   ·exact .inr ⟨c,by simp[h1],h2⟩
theorem zt.at{l:List Bd}(h:zt l)(y:Int):∃lo,Can lo (rowAt l y):=by
 rcases AJ (l:=l) (y:=y) with h1|⟨b,h1,_,_,h2⟩
 ·rw[h1];exact⟨0,trivial⟩
 ·rw[h2];exact h.row b h1
theorem oU.mem:∀{l:List Bd} {lo:Int},oU lo l→∀b∈l,lo≤b.1∧b.1<b.2.1∧b.2.2≠[]
 |[],_,_,b,hb=>by simp at hb
 | c::l,lo,h,b,hb=>by
  rcases List.mem_cons.1 hb with rfl|hb
  ·exact⟨h.1,h.2.1,h.2.2.1⟩
  ·have hm:=h.2.2.2.2.mem b hb
   have:=h.1;have:=h.2.1
   exact⟨by omega,hm.2.1,hm.2.2⟩
theorem Ch:∀{l:List Bd} {lo y:Int} {b:Bd},oU lo l→b∈l→b.1≤y→y<b.2.1→rowAt l y=b.2.2
 |[],_,_,_,_,hb,_,_=>by simp at hb
 | c::l,lo,y,b,h,hb,h1,h2=>by
  unfold rowAt
  rcases List.mem_cons.1 hb with rfl|hb
  ·rw[if_pos ⟨h1,h2⟩]
  ·have:=h.2.2.2.2.mem b hb
   rw[if_neg (by omega)]
   exact Ch h.2.2.2.2 hb h1 h2
theorem zt.uniq{l m:List Bd}(h1:zt l)(h2:zt m)(h:∀x y,rW x y l↔rW x y m):l=m:=by
 obtain⟨lo,c1⟩:=h1.can
 obtain⟨lo',c2⟩:=h2.can
 refine c1.uniq c2 fun y=>?_
 obtain⟨a,ha⟩:=h1.at y
 obtain⟨b,hb⟩:=h2.at y
 exact ha.uniq hb fun x=>h x y
theorem RF:∀(l:List (Int×Int)),∃lo,∀p∈l,lo<p.1
 |[]=>⟨0,by simp⟩
 |q::l=>by
  obtain⟨lo,h⟩:=RF l
  refine⟨min lo (q.1-1),fun p hp=>?_⟩
  rcases List.mem_cons.1 hp with rfl|hp
  ·omega
  ·have:=h p hp;omega
theorem WV{l:List (Int×Int)}(h:∀p∈l,p.1<p.2):(∃lo,Can lo (A8 l))∧∀x,mP x (A8 l)↔mP x l:=by
 obtain⟨lo,hlo⟩:=RF l
 obtain⟨h1,h2⟩:=EW (lo:=lo) (l:=l) fun p hp=>⟨hlo p hp,h p hp⟩
 exact⟨⟨lo,h1⟩,h2⟩
theorem Cf{l:List aK}(h:∀r∈l,r.X0<r.X1)(y:Int):(∃lo,Can lo (wm l y))∧∀x,mP x (wm l y)↔QF x y l:=by
 obtain⟨h1,h2⟩:=WV (l:=(l.filter fun r=>decide (r.Y0≤y)&&decide (y<r.Y1)).map E8) fun p hp=>by
  obtain⟨r,hr,rfl⟩:=List.mem_map.1 hp
  exact h r (List.mem_filter.1 hr).1
 refine⟨h1,fun x=>(h2 x).trans ?_⟩
 unfold mP QF
 constructor
 ·rintro⟨p,hp,hx⟩
  obtain⟨r,hr,rfl⟩:=List.mem_map.1 hp
  obtain⟨hr,hy⟩:=List.mem_filter.1 hr
  simp at hy
  exact⟨r,hr,hx,hy⟩
 ·rintro⟨r,hr,hx,hy⟩
  exact⟨E8 r,List.mem_map.2 ⟨r,List.mem_filter.2 ⟨hr,by simp[hy]⟩,rfl⟩,hx⟩
theorem Nn{l m:List (Int×Int)}(h1:∃lo,Can lo l)(h2:∃lo,Can lo m)(h:∀x,mP x l↔mP x m):l=m:=by
 obtain⟨_,h1⟩:=h1
 obtain⟨_,h2⟩:=h2
 exact h1.uniq h2 h
theorem UW{l:List (Int×Int)}(h1:∃lo,Can lo l)(h:∀x,¬mP x l):l=[]:=Nn h1 ⟨0,trivial⟩ fun x=>⟨fun hx=>absurd hx (h x),fun hx=>absurd hx gP⟩
theorem FW{c:Bd}{l:List Bd}{b:Bd}(h:l≠[]):pushB (c::l) b=c::pushB l b:=by
 by_cases he:b.2.2=[]
 ·rw[pK he,pK he]
 ·rcases List.eq_nil_or_concat l with rfl|⟨j,d,hc⟩
  ·exact absurd rfl h
  ·rw[List.concat_eq_append] at hc
   subst hc
   rw[←List.cons_append,sI he,sI he]
   split<;>rfl
theorem MS{c:Bd}{l:List Bd}{b:Bd}:∃e m,pushB (c::l) b=e::m∧e.1=c.1∧e.2.2=c.2.2:=by
 by_cases hl:l=[]
 ·subst hl
  by_cases he:b.2.2=[]
  ·rw[pK he];exact⟨c,[],rfl,rfl,rfl⟩
  ·have:=sI (l:=[]) (c:=c) he
   rw[List.nil_append] at this
   rw[this]
   split
   ·exact⟨_,_,rfl,rfl,rfl⟩
   ·exact⟨_,_,rfl,rfl,rfl⟩
 ·rw[FW hl];exact⟨_,_,rfl,rfl,rfl⟩
theorem oU.push:∀{l:List Bd} {lo:Int} {b:Bd},oU lo l→(∀c∈l,c.2.1≤b.1)→lo≤b.1→b.1<b.2.1→
  oU lo (pushB l b)∧(∀c∈pushB l b,c.2.1≤b.2.1∧(c.2.2=b.2.2∨∃d∈l,c.2.2=d.2.2))∧∀y,rowAt (pushB l b) y=if b.1≤y∧y<b.2.1 then b.2.2 else rowAt l y
 | [],lo,b,h,h1,h2,h3=>by
  by_cases he:b.2.2=[]
  ·rw[pK he]
   exact⟨h,by simp,fun y=>by unfold rowAt;split<;>simp[he]⟩
  ·rw[AL he]
   exact⟨⟨h2,h3,he,by simp,trivial⟩,by simp,fun y=>by unfold rowAt;rfl⟩
 | [c],lo,b,h,h1,h2,h3=>by
  have hc:=h1 c (by simp)
  have h4:=h.2.1
  by_cases he:b.2.2=[]
  ·rw[pK he]
   refine⟨h,fun d hd=>⟨by have:=h1 d hd;omega,.inr ⟨d,hd,rfl⟩⟩,fun y=>?_⟩
   by_cases hy:b.1≤y∧y<b.2.1
   ·rw[if_pos hy,he];unfold rowAt;rw[if_neg (by omega)];rfl
   ·rw[if_neg hy]
  ·have hp:=sI (l:=[]) (c:=c) he
   rw[List.nil_append] at hp
   rw[hp]
   by_cases hj:c.2.1=b.1∧c.2.2=b.2.2
   ·rw[if_pos hj]
    refine⟨⟨h.1,by show c.1<b.2.1;omega,h.2.2.1,by simp,trivial⟩,fun d hd=>?_,fun y=>?_⟩
    ·simp at hd;subst hd;exact⟨Int.le_refl _,.inr ⟨c,by simp,rfl⟩⟩
    ·show(if c.1≤y∧y<b.2.1 then c.2.2 else[])=if b.1≤y∧y<b.2.1 then b.2.2 else if c.1≤y∧y<c.2.1 then c.2.2 else[]
     rw[hj.2]
     by_cases ha:b.1≤y∧y<b.2.1
     ·rw[if_pos ha,if_pos (by omega)]
     ·rw[if_neg ha]
      by_cases hb:c.1≤y∧y<c.2.1
      ·rw[if_pos hb,if_pos (by omega)]
      ·rw[if_neg hb,if_neg (by omega)]
   ·rw[if_neg hj]
    refine⟨⟨h.1,h.2.1,h.2.2.1,fun d hd e=>?_,⟨hc,h3,he,by simp,trivial⟩⟩,fun d hd=>?_,fun y=>?_⟩
    ·simp at hd;subst hd
     exact fun h'=>hj ⟨e.symm,h'.symm⟩
    ·simp at hd
     rcases hd with rfl|rfl
     ·exact⟨by omega,.inr ⟨d,by simp,rfl⟩⟩
     ·exact⟨Int.le_refl _,.inl rfl⟩
    ·show(if c.1≤y∧y<c.2.1 then c.2.2 else if b.1≤y∧y<b.2.1 then b.2.2 else[])=if b.1≤y∧y<b.2.1 then b.2.2 else if c.1≤y∧y<c.2.1 then c.2.2 else[]
     by_cases ha:b.1≤y∧y<b.2.1
     ·rw[if_pos ha,if_neg (by omega),if_pos ha]
     ·rw[if_neg ha,if_neg ha]
 | c::d::l,lo,b,h,h1,h2,h3=>by
  obtain⟨i1,i2,i3⟩:=oU.push (l:=d::l) (lo:=c.2.1) (b:=b) h.2.2.2.2 (fun e he=>h1 e (by simp[List.mem_cons.1 he])) (h1 c (by simp)) h3
  rw[FW (by simp)]
  have hc:=h1 c (by simp)
  have h4:=h.2.1
  refine⟨⟨h.1,h.2.1,h.2.2.1,fun e he e1=>?_,i1⟩,fun e he=>?_,fun y=>?_⟩
  ·obtain⟨f,m,p1,p2,p3⟩:=MS (c:=d) (l:=l) (b:=b)
   rw[p1] at he
   simp at he
   subst he
   rw[p3]
   exact h.2.2.2.1 d rfl (by omega)
  ·rcases List.mem_cons.1 he with rfl|he
   ·exact⟨by omega,.inr ⟨e,by simp,rfl⟩⟩
   ·obtain⟨j1,j2|⟨f,j2,j3⟩⟩:=i2 e he
    ·exact⟨j1,.inl j2⟩
    ·exact⟨j1,.inr ⟨f,by simp[List.mem_cons.1 j2],j3⟩⟩
  ·show(if c.1≤y∧y<c.2.1 then c.2.2 else rowAt (pushB (d::l) b) y)=if b.1≤y∧y<b.2.1 then b.2.2 else if c.1≤y∧y<c.2.1 then c.2.2 else rowAt (d::l) y
   rw[i3 y]
   by_cases ha:b.1≤y∧y<b.2.1
   ·rw[if_pos ha,if_pos ha,if_neg (by omega)]
   ·rw[if_neg ha,if_neg ha]
def qQ(f:Int→List (Int×Int)):List Int→List Bd→List Bd
 |a::b::ys,out=>qQ f (b::ys) (pushB out (a,b,f a))
 |_,out=>out
theorem IY(l:List aK):∀(ys:List Int) (out:List Bd),uB l ys out=qQ (wm l) ys out
 |[],_=>rfl
 |[_],_=>rfl
 |a::b::ys,out=>IY l (b::ys) (pushB out (a,b,wm l a))
def Ka(f:Int→List (Int×Int)):List Int→Prop
 |a::b::ys=>(∀y,a≤y→y<b→f y=f a)∧Ka f (b::ys)
 |_=>True
theorem Pn{f:Int→List (Int×Int)}{zs:List Int}(hc:∀a y,a≤y→(∀z∈zs,z≤a∨y<z)→f y=f a):∀{ys pre:List Int},zs=pre++ys→zs.Pairwise (fun x y=>x<y)→Ka f ys
 |[],_,_,_=>trivial
 |[_],_,_,_=>trivial
 | a::b::ys,pre,e,h=>by
  refine⟨fun y h1 h2=>hc a y h1 fun z hz=>?_,Pn hc (ys:=b::ys) (pre:=pre++[a]) (by rw[e];simp) h⟩
  rw[e] at hz h
  obtain⟨_,k1,k2⟩:=List.pairwise_append.1 h
  rcases List.mem_append.1 hz with hz|hz
  ·have:=k2 z hz a (by simp);exact .inl (by omega)
  ·rcases List.mem_cons.1 hz with rfl|hz
   ·exact .inl (Int.le_refl _)
   ·rcases List.mem_cons.1 hz with rfl|hz
    ·exact .inr h2
    ·have:=(List.pairwise_cons.1 (List.pairwise_cons.1 k1).2).1 z hz;exact .inr (by omega)
theorem LG{f:Int→List (Int×Int)}{lo:Int}(hf:∀y,∃lo,Can lo (f y)):∀(ys:List Int) (out:List Bd),ys.Pairwise (fun x y=>x<y)→Ka f ys→oU lo out→(∀b∈out,∃lo,Can lo b.2.2)→(∀a,ys.head?=some a→lo≤a∧(∀c∈out,c.2.1≤a))→
  oU lo (qQ f ys out)∧(∀b∈qQ f ys out,∃lo,Can lo b.2.2)∧∀y,rowAt (qQ f ys out) y=if(∃a∈ys,a≤y)∧(∃z∈ys,y<z) then f y else rowAt out y
 |[],out,_,_,h1,h2,_=>⟨h1,h2,fun y=>by rw[if_neg (by simp)];rfl⟩
 |[a],out,_,_,h1,h2,_=>⟨h1,h2,fun y=>by rw[if_neg (by rintro⟨⟨c,hc,h1⟩,z,hz,h2⟩;simp at hc hz;omega)];rfl⟩
 | a ::b::ys,out,hs,hc,h1,h2,h3=>by
  have hab:a<b:=(List.pairwise_cons.1 hs).1 b (by simp)
  have hs2:=(List.pairwise_cons.1 hs).2
  obtain⟨h5,h6⟩:=h3 a rfl
  obtain⟨p1,p2,p3⟩:=h1.push (b:=(a,b,f a)) h6 h5 hab
  obtain⟨i1,i2,i3⟩:=LG hf (b::ys) (pushB out (a,b,f a)) hs2 hc.2 p1 (fun c hc=>by
   rcases(p2 c hc).2 with e|⟨d,hd,e⟩
   ·rw[e];exact hf a
   ·rw[e];exact h2 d hd) (fun z hz=>by
   simp at hz;subst hz
   exact⟨by omega,fun c hc=>(p2 c hc).1⟩)
  refine⟨i1,i2,fun y=>?_⟩
  show rowAt (qQ f (b::ys) (pushB out (a,b,f a))) y=_
  rw[i3 y,p3 y]
  show(if(∃c∈b::ys,c≤y)∧(∃z∈b::ys,y<z) then f y else if a≤y∧y<b then f a else rowAt out y)=_
  by_cases ya:y<a
  ·rw[if_neg (fun h=>by
    obtain⟨⟨c,hc,hcy⟩,_⟩:=h
    rcases List.mem_cons.1 hc with rfl|hc
    ·omega
    ·have:=(List.pairwise_cons.1 hs2).1 c hc;omega),if_neg (by omega),if_neg (fun h=>by
    obtain⟨⟨c,hc,hcy⟩,_⟩:=h
    rcases List.mem_cons.1 hc with rfl|hc
    ·omega
    ·have:=(List.pairwise_cons.1 hs).1 c hc;omega)]
  ·by_cases yb:y<b
   ·rw[if_neg (fun h=>by
     obtain⟨⟨c,hc,hcy⟩,_⟩:=h
     rcases List.mem_cons.1 hc with rfl|hc
     ·omega
     ·have:=(List.pairwise_cons.1 hs2).1 c hc;omega),if_pos (by omega),if_pos ⟨⟨a,by simp,by omega⟩,⟨b,by simp,yb⟩⟩]
    exact(hc.1 y (by omega) yb).symm
   ·by_cases hz:∃z∈b::ys,y<z
    ·obtain⟨z,hz,hyz⟩:=hz
     rw[if_pos ⟨⟨b,by simp,by omega⟩,z,hz,hyz⟩,if_pos ⟨⟨a,by simp,by omega⟩,z,List.mem_cons_of_mem _ hz,hyz⟩]
    ·rw[if_neg (fun h=>hz h.2),if_neg (by omega),if_neg (fun h=>by
      obtain⟨_,z,hm,hyz⟩:=h
      rcases List.mem_cons.1 hm with rfl|hm
      ·omega
      ·exact hz ⟨z,hm,hyz⟩)]
theorem GM{f:Int→List (Int×Int)}{ys:List Int}(hs:ys.Pairwise fun x y=>x<y)(hf:∀y,∃lo,Can lo (f y))(hc:∀a y,a≤y→(∀z∈ys,z≤a∨y<z)→f y=f a)(h0:∀y,(∀a∈ys,y<a)→f y=[])(h1:∀y,(∀a∈ys,a≤y)→f y=[]):zt (qQ f ys [])∧∀y,rowAt (qQ f ys []) y=f y:=by
 obtain⟨lo,hlo⟩:∃lo:Int,∀z∈ys,lo≤z:=by
  have:∀m:List Int,∃lo:Int,∀z∈m,lo≤z:=by
   intro m
   induction m with
   |nil=>exact⟨0,by simp⟩
   |cons a m ih=>
    obtain⟨lo,h⟩:=ih
    refine⟨min lo a,fun z hz=>?_⟩
    rcases List.mem_cons.1 hz with rfl|hz
    ·omega
    ·have:=h z hz;omega
  exact this _
 obtain⟨i1,i2,i3⟩:=LG (lo:=lo) hf ys [] hs (Pn hc (ys:=ys) (pre:=[]) rfl hs) trivial (by simp) (fun a ha=>⟨hlo a (List.mem_of_mem_head? (by rw[ha];rfl)),by simp⟩)
 refine⟨⟨⟨lo,i1⟩,i2⟩,fun y=>?_⟩
 rw[i3 y]
 by_cases ha:∃a∈ys,a≤y
 ·by_cases hz:∃z∈ys,y<z
  ·rw[if_pos ⟨ha,hz⟩]
  ·rw[if_neg (fun h=>hz h.2),h1 y (fun a ham=>by
    rcases Int.lt_or_le y a with h|h
    ·exact absurd ⟨a,ham,h⟩ hz
    ·exact h)];rfl
 ·rw[if_neg (fun h=>ha h.1),h0 y (fun a ham=>by
   rcases Int.lt_or_le y a with h|h
   ·exact h
   ·exact absurd ⟨a,ham,h⟩ ha)];rfl
theorem KM{l:List aK}(hl:∀r∈l,r.X0<r.X1){y:Int}(h:∀r∈l,¬(r.Y0≤y∧y<r.Y1)):wm l y=[]:=by
 obtain⟨c1,c2⟩:=Cf hl y
 exact UW c1 fun x hx=>by
  obtain⟨r,hr,_,hy⟩:=(c2 x).1 hx
  exact h r hr hy
theorem MI{l:List aK}(hl:∀r∈l,r.X0<r.X1){a y:Int}(h:∀r∈l,(r.Y0≤y∧y<r.Y1)↔(r.Y0≤a∧a<r.Y1)):wm l y=wm l a:=by
 obtain⟨c1,c2⟩:=Cf hl y
 obtain⟨c3,c4⟩:=Cf hl a
 refine Nn c1 c3 fun x=>(c2 x).trans (Iff.trans ?_ (c4 x).symm)
 unfold QF
 constructor
 ·rintro⟨r,hr,hx,hy⟩;exact⟨r,hr,hx,(h r hr).1 hy⟩
 ·rintro⟨r,hr,hx,hy⟩;exact⟨r,hr,hx,(h r hr).2 hy⟩
theorem KN{l:List aK}{ys:List Int}(hl:∀r∈l,r.X0<r.X1∧r.Y0<r.Y1)(hy:∀r∈l,r.Y0∈ys∧r.Y1∈ys):(∀a y,a≤y→(∀z∈ys,z≤a∨y<z)→wm l y=wm l a)∧(∀y,(∀a∈ys,y<a)→wm l y=[])∧(∀y,(∀a∈ys,a≤y)→wm l y=[]):=by
 have hx:∀r∈l,r.X0<r.X1:=fun r hr=>(hl r hr).1
 refine⟨fun a y hay h=>MI hx fun r hr=>?_,fun y h=>KM hx fun r hr hh=>?_,fun y h=>KM hx fun r hr hh=>?_⟩
 ·have:=h _ (hy r hr).1;have:=h _ (hy r hr).2;omega
 ·have:=h _ (hy r hr).1;omega
 ·have:=h _ (hy r hr).2;omega
theorem Q8{l:List aK}(hl:∀r∈l,r.X0<r.X1∧r.Y0<r.Y1):zt (rO l)∧∀y,rowAt (rO l) y=wm l y:=by
 obtain⟨h1,h2,h3⟩:=KN (ys:=xE (uC l)) hl fun r hr=>⟨(uG _ _).2 (vW.2 ⟨r,hr,.inl rfl⟩),(uG _ _).2 (vW.2 ⟨r,hr,.inr rfl⟩)⟩
 have:=GM (sP (uC l)) (fun y=>(Cf (fun r hr=>(hl r hr).1) y).1) h1 h2 h3
 unfold rO
 rw[IY]
 exact this
theorem EF{l:List aK}(hl:∀r∈l,r.X0<r.X1∧r.Y0<r.Y1):zt (rO l)∧∀x y,rW x y (rO l)↔QF x y l:=by
 obtain⟨h1,h2⟩:=Q8 hl
 refine⟨h1,fun x y=>?_⟩
 unfold rW
 rw[h2]
 exact(Cf (fun r hr=>(hl r hr).1) y).2 x
theorem Bv{l:List Bd}{r:aK}:r∈fK l↔∃b∈l,∃s∈b.2.2,r=⟨s.1,b.1,s.2,b.2.1⟩:=by
 unfold fK Cj
 simp only[List.mem_flatMap,List.mem_map]
 constructor
 ·rintro⟨b,hb,s,hs,rfl⟩;exact⟨b,hb,s,hs,rfl⟩
 ·rintro⟨b,hb,s,hs,rfl⟩;exact⟨b,hb,s,hs,rfl⟩
theorem yV{l:List Bd}(h:zt l)(x y:Int):QF x y (fK l)↔rW x y l:=by
 obtain⟨lo,hc⟩:=h.can
 unfold QF rW
 constructor
 ·rintro⟨r,hr,hx,hy⟩
  obtain⟨b,hb,s,hs,rfl⟩:=Bv.1 hr
  rw[Ch hc hb hy.1 hy.2]
  exact⟨s,hs,hx⟩
 ·intro hx
  rcases AJ (l:=l) (y:=y) with h1|⟨b,hb,h1,h2,h3⟩
  ·rw[h1] at hx;exact absurd hx gP
  ·rw[h3] at hx
   obtain⟨s,hs,hx⟩:=hx
   exact⟨_,Bv.2 ⟨b,hb,s,hs,rfl⟩,hx,h1,h2⟩
theorem Dl{l:List Bd}(h:zt l):∀r∈fK l,r.X0<r.X1∧r.Y0<r.Y1:=fun r hr=>by
 obtain⟨lo,hc⟩:=h.can
 obtain⟨b,hb,s,hs,rfl⟩:=Bv.1 hr
 obtain⟨lo',hr⟩:=h.row b hb
 exact⟨(hr.mem s hs).2,(hc.mem b hb).2.1⟩
theorem KF{l:List Bd}(h:zt l):rO (fK l)=l:=by
 obtain⟨a1,a2⟩:=EF (Dl h)
 exact a1.uniq h fun x y=>by rw[a2,yV h]
theorem oU.mono{l:List Bd}{lo lo':Int}(h:oU lo l)(hl:lo'≤lo):oU lo' l:=by
 cases l with
 |nil=>trivial
 |cons b l=>exact⟨by have:=h.1;omega,h.2⟩
theorem tu{l:List aK}(h:lI l=0):tC l=0∧l.length≤2000∧(∀r∈l,NG r)∧fK (rO l)=l:=by
 unfold lI at h
 by_cases h1:tC l=0
 ·obtain⟨h2,h3⟩:=Eh h1
  rw[if_pos h1] at h
  split at h
  ·split at h
   ·rename_i h4;exact⟨h1,h2,h3,h4⟩
   ·omega
  ·omega
 ·rw[if_neg h1] at h;exact absurd h h1
theorem NG.ne{l:List aK}(h:∀r∈l,NG r):∀r∈l,r.X0<r.X1∧r.Y0<r.Y1:=fun r hr=>⟨(h r hr).x,(h r hr).y⟩
theorem Vf{l:List aK}(h:∀r∈l,NG r){x y:Int}(hx:QF x y l):(-1000000≤x∧x<1000000)∧(-1000000≤y∧y<1000000):=by
 obtain⟨r,hr,h1,h2⟩:=hx
 have a:=h r hr
 have:=a.x0;have:=a.x1;have:=a.y0;have:=a.y1
 omega
def par(x:Int):List Int→Bool
 |[]=>false
 |a::l=>xor (decide (a≤x)) (par x l)
theorem Bu(x:Int):∀l m:List Int,par x (l++m)=xor (par x l) (par x m)
 |[],m=>by simp[par]
 |a::l,m=>by rw[List.cons_append,par,Bu x l m,par,Bool.xor_assoc]
theorem yH{x:Int}:∀{l:List Int},(∀a∈l,x<a)→par x l=false
 |[],_=>rfl
 |a::l,h=>by
  rw[par,yH fun b hb=>h b (by simp[hb]),decide_eq_false (by have:=h a (by simp);omega)];rfl
theorem Ct(n:Nat):((n+1)%2==1)= !(n%2==1):=by
 rcases Nat.mod_two_eq_zero_or_one n with h|h
 ·have:(n+1)%2=1:=by omega
  rw[h,this];rfl
 ·have:(n+1)%2=0:=by omega
  rw[h,this];rfl
theorem Dq{x:Int}:∀{l:List Int},(∀a∈l,a≤x)→par x l=(l.length%2==1)
 |[],_=>rfl
 |a::l,h=>by
  rw[par,Dq fun b hb=>h b (by simp[hb]),decide_eq_true (h a (by simp)),List.length_cons,Ct,Bool.true_xor]
theorem AY:∀{l:List (Int×Int)} {lo x:Int},Can lo l→(mP x l↔par x (dn l)=true)
 |[],_,_,_=>by simp[gP,vX,par]
 | p::l,lo,x,h=>by
  obtain⟨h1,h2,h3⟩:=h
  have ih:=AY (x:=x) h3
  have hl:=fun hx:mP x l=>h3.lt hx
  rw[jW,nS,par,par]
  cases hp:par x (dn l)
  ·rw[hp] at ih
   have:¬mP x l:=fun hx=>by have:=ih.1 hx;cases this
   by_cases a:p.1≤x<;>by_cases b:p.2≤x<;>simp[a,b,this]<;>omega
  ·rw[hp] at ih
   have h4:=ih.2 rfl
   have:=hl h4
   have a:p.1≤x:=by omega
   have b:p.2≤x:=by omega
   simp[a,b,h4]
theorem Can.strict:∀{l:List (Int×Int)} {lo:Int},Can lo l→(dn l).Pairwise (fun x y=>x<y)∧∀z∈dn l,lo<z
 |[],_,_=>⟨List.Pairwise.nil,by simp[vX]⟩
 | p::l,lo,h=>by
  obtain⟨h1,h2,h3⟩:=h
  obtain⟨i1,i2⟩:=h3.strict
  rw[nS]
  refine⟨List.pairwise_cons.2 ⟨fun z hz=>?_,List.pairwise_cons.2 ⟨i2,i1⟩⟩,fun z hz=>?_⟩
  ·rcases List.mem_cons.1 hz with rfl|hz
   ·exact h2
   ·have:=i2 z hz;omega
  ·rcases List.mem_cons.1 hz with rfl|hz
   ·exact h1
   ·rcases List.mem_cons.1 hz with rfl|hz
    ·omega
    ·have:=i2 z hz;omega
theorem Fw:∀(l:List Int) (lo:Int),l.Pairwise (fun x y=>x<y)→(∀z∈l,lo<z)→(l.length%2==1)=false→∃C,Can lo C∧dn C=l
 |[],_,_,_,_=>⟨[],trivial,rfl⟩
 |[a],_,_,_,h=>by simp at h
 |a::b::l,lo,h1,h2,h3=>by
  have k:=List.pairwise_cons.1 h1
  have k2:=List.pairwise_cons.1 k.2
  obtain⟨C,c1,c2⟩:=Fw l b k2.2 k2.1 (by rw[List.length_cons,List.length_cons,Ct,Ct,Bool.not_not] at h3;exact h3)
  exact⟨(a,b)::C,⟨h2 a (by simp),k.1 b (by simp),c1⟩,by rw[nS,c2]⟩
theorem wB{α:Type}(x:α)(l:List α):cut (x::l) 1 ((x::l).length:Int)=some l:=by
 unfold cut
 rw[if_pos ⟨by omega,by simp;omega,by omega⟩]
 simp
structure NI (k:Bool→Bool→Bool) (a b out:List Int) (inA En:Bool) (r:List Int):Prop where
 strict:r.Pairwise fun x y=>x<y
 mem:∀z∈r,z∈out∨z∈a∨z∈b
 len:r.length≤out.length+a.length+b.length
 hi:∀z,(∀o∈out,o≤z)→par z r=k (xor inA (par z a)) (xor En (par z b))
 lo:∀z,(∃o∈out,z<o)→par z r=par z out
theorem xV{k:Bool→Bool→Bool}{f:Bool→Bool→Option Bool}(hf:∀a b,f a b=some (k a b)){m:Nat}{a b a1 b1 out:List Int}{inA En inA1 inB1 is:Bool}{X:Int}
  (ih:∀(out:List Int) (is:Bool),out.Pairwise (fun x y=>x<y)→(∀o∈out,(∀x∈a1,o<x)∧∀x∈b1,o<x)→is=k inA1 inB1→is=(out.length%2==1)→out.length+a1.length+b1.length≤4000000000→∃r,fB f m a1 b1 out inA1 inB1 is=some r∧NI k a1 b1 out inA1 inB1 r)
  (hs:out.Pairwise fun x y=>x<y) (ho:∀o∈out,o<X) (ha1:∀x∈a1,X<x) (hb1:∀x∈b1,X<x) (hi:is=k inA En) (hp:is=(out.length%2==1)) (hl:out.length+a1.length+b1.length+1≤out.length+a.length+b.length) (hl2:out.length+a.length+b.length≤4000000000)
  (pa:∀z,X≤z→xor inA (par z a)=xor inA1 (par z a1)) (pb:∀z,X≤z→xor En (par z b)=xor inB1 (par z b1)) (pa0:∀z,z<X→par z a=false) (pb0:∀z,z<X→par z b=false)
  (hm:∀z,z∈a1→z∈a) (hm2:∀z,z∈b1→z∈b) (hX:X∈a∨X∈b):
  ∃r,ni f out is (fB f m) X a1 inA1 b1 inB1=some r∧NI k a b out inA En r:=by
 unfold ni
 rw[hf,ob]
 by_cases hk:k inA1 inB1=is
 ·rw[if_neg (by simp[hk])]
  obtain⟨r,h1,h2⟩:=ih out is hs (fun o h=>⟨fun x hx=>by have:=ho o h;have:=ha1 x hx;omega,fun x hx=>by have:=ho o h;have:=hb1 x hx;omega⟩) hk.symm hp (by omega)
  refine⟨r,h1,h2.strict,fun z hz=>?_,by have:=h2.len;omega,fun z hz=>?_,h2.lo⟩
  ·rcases h2.mem z hz with h|h|h
   ·exact .inl h
   ·exact .inr (.inl (hm z h))
   ·exact .inr (.inr (hm2 z h))
  ·rw[h2.hi z hz]
   by_cases hxz:X≤z
   ·rw[pa z hxz,pb z hxz]
   ·rw[pa0 z (by omega),pb0 z (by omega),yH fun x hx=>by have:=ha1 x hx;omega,yH fun x hx=>by have:=hb1 x hx;omega,Bool.xor_false,Bool.xor_false,Bool.xor_false,Bool.xor_false,hk,hi]
 ·rw [if_pos (by simpa using hk),lm (by simp;omega),ob]
  obtain⟨r,h1,h2⟩:=ih (out++[X]) (k inA1 inB1) (List.pairwise_append.2 ⟨hs,List.pairwise_singleton _ _,fun o h x hx=>by simp at hx;subst hx;exact ho o h⟩) (fun o h=>by
   rcases List.mem_append.1 h with h|h
   ·exact⟨fun x hx=>by have:=ho o h;have:=ha1 x hx;omega,fun x hx=>by have:=ho o h;have:=hb1 x hx;omega⟩
   ·simp at h;subst h;exact⟨ha1,hb1⟩) rfl (by
   rw[List.length_append,List.length_singleton,Ct,←hp]
   cases hv:k inA1 inB1<;>cases is<;>simp_all) (by simp;omega)
  refine⟨r,h1,h2.strict,fun z hz=>?_,by have:=h2.len;simp at this;omega,fun z hz=>?_,fun z hz=>?_⟩
  ·rcases h2.mem z hz with h|h|h
   ·rcases List.mem_append.1 h with h|h
    ·exact .inl h
    ·simp at h;subst h
     rcases hX with h|h
     ·exact .inr (.inl h)
     ·exact .inr (.inr h)
   ·exact .inr (.inl (hm z h))
   ·exact .inr (.inr (hm2 z h))
  ·by_cases hxz:X≤z
   ·rw[h2.hi z (fun o h=>by
     rcases List.mem_append.1 h with h|h
     ·exact hz o h
     ·simp at h;omega),pa z hxz,pb z hxz]
   ·rw[h2.lo z ⟨X,by simp,by omega⟩,Bu,pa0 z (by omega),pb0 z (by omega),Bool.xor_false,Bool.xor_false,Dq hz,←hp,hi,yH (l:=[X]) (fun x hx=>by simp at hx;omega),Bool.xor_false]
  ·obtain⟨o,h,hzo⟩:=hz
   rw[h2.lo z ⟨o,by simp[h],hzo⟩,Bu,yH (l:=[X]) (fun x hx=>by simp at hx;have:=ho o h;omega),Bool.xor_false]
theorem AP{k:Bool→Bool→Bool}{f:Bool→Bool→Option Bool}(hf:∀a b,f a b=some (k a b)):∀(m:Nat) (a b out:List Int) (inA En is:Bool),a.length+b.length<m→a.Pairwise (fun x y=>x<y)→b.Pairwise (fun x y=>x<y)→out.Pairwise (fun x y=>x<y)→(∀o∈out,(∀x∈a,o<x)∧∀x∈b,o<x)→is=k inA En→is=(out.length%2==1)→out.length+a.length+b.length≤4000000000→
  ∃r,fB f m a b out inA En is=some r∧NI k a b out inA En r
 |0,_,_,_,_,_,_,h,_,_,_,_,_,_,_=>absurd h (Nat.not_lt_zero _)
 |m+1,[],[],out,inA,En,is,_,_,_,hs,_,hi,hp,_=>by
  rw[fB.eq_2,if_neg (by simp)]
  exact⟨out,rfl,hs,fun z hz=>.inl hz,by simp,fun z hz=>by rw[Dq hz,←hp,hi];simp[par],fun _ _=>rfl⟩
 | m+1,x::a,[],out,inA,En,is,hm,sa,sb,hs,ho,hi,hp,hl=>by
  have ha:=List.pairwise_cons.1 sa
  rw[fB.eq_2,if_pos (by simp),if_pos (by simp),ob,if_pos rfl,show idx (x::a) 0=some x from rfl,ob]
  unfold jS
  rw[if_pos (by simp),show idx (x::a) 0=some x from rfl,ob,ob,if_pos (by simp),wB,ob]
  unfold kJ
  rw[if_neg (by simp),ob,if_neg (by simp)]
  simp only[List.length_cons,List.length_nil] at hm hl
  refine xV (m:=m) (a:=x::a) (b:=[]) hf (fun o i k1 k2 k3 k4 k5=>AP hf m a [] o (!inA) En i (by simp;omega) ha.2 sb k1 k2 k3 k4 k5) hs (fun o h=>(ho o h).1 x (by simp)) ha.1 (by simp) hi hp (by simp;omega) (by simp;omega) (fun z hz=>?_) (fun _ _=>rfl) (fun z hz=>yH fun y hy=>?_) (fun _ _=>rfl) (fun z h=>by simp[h]) (fun z h=>h) (.inl (by simp))
  ·rw[par,decide_eq_true hz];cases inA<;>cases par z a<;>rfl
  ·rcases List.mem_cons.1 hy with rfl|hy
   ·exact hz
   ·have:=ha.1 y hy;omega
 | m+1,[],y::b,out,inA,En,is,hm,sa,sb,hs,ho,hi,hp,hl=>by
  have hb:=List.pairwise_cons.1 sb
  rw[fB.eq_2,if_pos (by simp),if_neg (by simp;omega),if_neg (by simp),ob,ob,if_neg (by simp),show idx (y::b) 0=some y from rfl,ob]
  unfold jS
  rw[if_neg (by simp),ob,if_neg (by simp)]
  unfold kJ
  rw[if_pos (by simp),show idx (y::b) 0=some y from rfl,ob,ob,if_pos (by simp),wB,ob]
  simp only[List.length_cons,List.length_nil] at hm hl
  refine xV (m:=m) (a:=[]) (b:=y::b) hf (fun o i k1 k2 k3 k4 k5=>AP hf m [] b o inA (!En) i (by simp;omega) sa hb.2 k1 k2 k3 k4 k5) hs (fun o h=>(ho o h).2 y (by simp)) (by simp) hb.1 hi hp (by simp;omega) (by simp;omega) (fun _ _=>rfl) (fun z hz=>?_) (fun _ _=>rfl) (fun z hz=>yH fun x hx=>?_) (fun z h=>h) (fun z h=>by simp[h]) (.inr (by simp))
  ·rw[par,decide_eq_true hz];cases En<;>cases par z b<;>rfl
  ·rcases List.mem_cons.1 hx with rfl|hx
   ·exact hz
   ·have:=hb.1 x hx;omega
 | m +1,x::a,y::b,out,inA,En,is,hm,sa,sb,hs,ho,hi,hp,hl=>by
  have ha:=List.pairwise_cons.1 sa
  have hb:=List.pairwise_cons.1 sb
  have e1:idx (x::a) 0=some x:=rfl
  have e2:idx (y::b) 0=some y:=rfl
  simp only[List.length_cons] at hm hl
  rw[fB.eq_2,if_pos (by simp),if_neg (by simp;omega),if_pos (by simp),e1,ob,e2,ob,ob,ob]
  simp only[ob]
  have hxa:∀z,x≤z→xor inA (par z (x::a))=xor (!inA) (par z a):=fun z hz=>by rw[par,decide_eq_true hz];cases inA<;>cases par z a<;>rfl
  have hyb:∀z,y≤z→xor En (par z (y::b))=xor (!En) (par z b):=fun z hz=>by rw[par,decide_eq_true hz];cases En<;>cases par z b<;>rfl
  have hax:∀z,z<x→par z (x::a)=false:=fun z hz=>yH fun v hv=>by
   rcases List.mem_cons.1 hv with rfl|hv
   ·exact hz
   ·have:=ha.1 v hv;omega
  have hby:∀z,z<y→par z (y::b)=false:=fun z hz=>yH fun v hv=>by
   rcases List.mem_cons.1 hv with rfl|hv
   ·exact hz
   ·have:=hb.1 v hv;omega
  by_cases hxy:x≤y
  ·rw[if_pos (by simpa using hxy)]
   unfold jS
   rw[if_pos (by simp),e1,ob,ob,if_pos (by simp),wB,ob]
   unfold kJ
   rw[if_pos (by simp),e2,ob,ob]
   by_cases he:y=x
   ·subst he
    rw[if_pos (by simp),wB,ob]
    exact xV (m:=m) (a:=y::a) (b:=y::b) hf (fun o i k1 k2 k3 k4 k5=>AP hf m a b o (!inA) (!En) i (by omega) ha.2 hb.2 k1 k2 k3 k4 k5) hs (fun o h=>(ho o h).1 y (by simp)) ha.1 hb.1 hi hp (by simp;omega) (by simp;omega) hxa hyb hax hby (fun z h=>by simp[h]) (fun z h=>by simp[h]) (.inl (by simp))
   ·rw[if_neg (by simpa using he)]
    exact xV (m:=m) (a:=x::a) (b:=y::b) hf (fun o i k1 k2 k3 k4 k5=>AP hf m a (y::b) o (!inA) En i (by simp;omega) ha.2 sb k1 k2 k3 k4 k5) hs (fun o h=>(ho o h).1 x (by simp)) ha.1 (fun v hv=>by
     rcases List.mem_cons.1 hv with rfl|hv
     ·omega
     ·have:=hb.1 v hv;omega) hi hp (by simp;omega) (by simp;omega) hxa (fun _ _=>rfl) hax (fun z hz=>hby z (by omega)) (fun z h=>by simp[h]) (fun z h=>h) (.inl (by simp))
  ·rw[if_neg (by simpa using hxy)]
   unfold jS
   rw[if_pos (by simp),e1,ob,ob,if_neg (by simp;omega)]
   unfold kJ
   rw[if_pos (by simp),e2,ob,ob,if_pos (by simp),wB,ob]
   exact xV (m:=m) (a:=x::a) (b:=y::b) hf (fun o i k1 k2 k3 k4 k5=>AP hf m (x::a) b o inA (!En) i (by simp;omega) sa hb.2 k1 k2 k3 k4 k5) hs (fun o h=>(ho o h).2 y (by simp)) (fun v hv=>by
     rcases List.mem_cons.1 hv with rfl|hv
     ·omega
     ·have:=ha.1 v hv;omega) hb.1 hi hp (by simp;omega) (by simp;omega) (fun _ _=>rfl) hyb (fun z hz=>hax z (by omega)) hby (fun z h=>h) (fun z h=>by simp[h]) (.inr (by simp))
theorem Vj:∀l:List Int,∃z,∀a∈l,a≤z
 |[]=>⟨0,by simp⟩
 |b::l=>by
  obtain⟨z,h⟩:=Vj l
  refine⟨max z b,fun a ha=>?_⟩
  rcases List.mem_cons.1 ha with rfl|ha
  ·omega
  ·have:=h a ha;omega
theorem Vx:∀l:List Int,∃z,∀a∈l,z<a
 |[]=>⟨0,by simp⟩
 |b::l=>by
  obtain⟨z,h⟩:=Vx l
  refine⟨min z (b-1),fun a ha=>?_⟩
  rcases List.mem_cons.1 ha with rfl|ha
  ·omega
  ·have:=h a ha;omega
theorem Lr(n:Nat):(2*n%2==1)=false:=by
 have:2*n%2=0:=by omega
 rw[this];rfl
theorem JG{k:Bool→Bool→Bool}{f:Bool→Bool→Option Bool}(hf:∀a b,f a b=some (k a b))(hk:k false false=false){N:Nat}{l m:List (Int×Int)}(hl:∃lo,Can lo l)(hm:∃lo,Can lo m)(hlen:2*l.length+2*m.length<N)(hlen2:2*l.length+2*m.length≤4000000000):
  ∃C,lw N (dn l) (dn m) f=some (dn C)∧(∃lo,Can lo C)∧C.length≤l.length+m.length∧∀x,mP x C↔∃p q,(p=true↔mP x l)∧(q=true↔mP x m)∧k p q=true:=by
 obtain⟨lo1,c1⟩:=hl
 obtain⟨lo2,c2⟩:=hm
 obtain⟨r,h1,h2⟩:=AP hf N (dn l) (dn m) [] false false false (by rw[gT,gT];exact hlen) c1.strict.1 c2.strict.1 List.Pairwise.nil (by simp) hk.symm rfl (by rw[gT,gT];simpa using hlen2)
 have hpar:∀z,par z r=k (par z (dn l)) (par z (dn m)):=fun z=>by
  have:=h2.hi z (by simp)
  rw[Bool.false_xor,Bool.false_xor] at this
  exact this
 have hodd:(r.length%2==1)=false:=by
  obtain⟨z,hz⟩:=Vj (r++dn l++dn m)
  rw[←Dq (x:=z) (l:=r) (fun a ha=>hz a (by simp[ha])),hpar z,Dq (x:=z) (l:=dn l) (fun a ha=>hz a (by simp[ha])),Dq (x:=z) (l:=dn m) (fun a ha=>hz a (by simp[ha])),gT,gT,Lr,Lr,hk]
 obtain⟨lo,hlo⟩:=Vx r
 obtain⟨C,d1,d2⟩:=Fw r lo h2.strict hlo hodd
 refine⟨C,by rw[d2];exact h1,⟨lo,d1⟩,?_,fun x=>?_⟩
 ·have:=h2.len
  rw[←d2,gT,gT,gT] at this
  simp at this
  omega
 ·rw[AY d1,d2,hpar]
  constructor
  ·intro h
   exact⟨_,_,(AY c1).symm,(AY c2).symm,h⟩
  ·rintro⟨p,q,hp,hq,h⟩
   have e1:p=par x (dn l):=by rw[Bool.eq_iff_iff,hp,AY c1]
   have e2:q=par x (dn m):=by rw[Bool.eq_iff_iff,hq,AY c2]
   rw[←e1,←e2];exact h
open PX
def On(s:Sd)(e:Ed):Prop:=∃i,i<s.2∧qR s.1 i=e
def Dj(s t:Sd):Prop:=∀e,On s e→¬On t e
theorem TW{I:Sq}{L:List Sd}(hp:∀s∈L,0<s.2)(hon:∀e,(∃s∈L,On s e)↔tY I e)(hd:L.Pairwise Dj):oN I L where
 pos:=hp
 bor:=fun s hs i hi=>(hon _).1 ⟨s,hs,i,hi,rfl⟩
 all:=fun e he=>(hon e).2 he
 once:=fun a b s t ha hb i j hi hj he=>by
  obtain⟨ha',rfl⟩:=List.getElem?_eq_some_iff.1 ha
  obtain⟨hb',rfl⟩:=List.getElem?_eq_some_iff.1 hb
  rw[List.pairwise_iff_getElem] at hd
  rcases Nat.lt_trichotomy a b with h|h|h
  ·exact absurd ⟨j,hj,rfl⟩ (hd a b ha' hb' h _ ⟨i,hi,he⟩)
  ·exact h
  ·exact absurd ⟨i,hi,rfl⟩ (hd b a hb' ha' h _ ⟨j,hj,he.symm⟩)
def Vq(y0 y1:Int)(p:Int×Int):Sd:=(⟨p.1,y1,.S⟩,(y1-y0).toNat)
def Vr(y0 y1:Int)(p:Int×Int):Sd:=(⟨p.2,y0,.N⟩,(y1-y0).toNat)
def Vp(y:Int)(p:Int×Int):Sd:=(⟨p.2,y,.W⟩,(p.2-p.1).toNat)
def Wh(y:Int)(p:Int×Int):Sd:=(⟨p.1,y,.E⟩,(p.2-p.1).toNat)
theorem MX{y0 y1:Int}{p:Int×Int}{e:Ed}:On (Vq y0 y1 p) e↔e.d= .S∧e.x=p.1∧y0<e.y∧e.y≤y1:=by
 unfold On Vq qR
 constructor
 ·rintro⟨i,hi,rfl⟩
  simp only[Dir.dx,Dir.dy] at*
  exact⟨trivial,by omega,by omega,by omega⟩
 ·rintro⟨h1,h2,h3,h4⟩
  refine⟨(y1-e.y).toNat,by simp only;omega,Ed.ext' ?_ ?_ h1.symm⟩<;>simp only[Dir.dx,Dir.dy]<;>omega
theorem MZ{y0 y1:Int}{p:Int×Int}{e:Ed}:On (Vr y0 y1 p) e↔e.d= .N∧e.x=p.2∧y0≤e.y∧e.y<y1:=by
 unfold On Vr qR
 constructor
 ·rintro⟨i,hi,rfl⟩
  simp only[Dir.dx,Dir.dy] at*
  exact⟨trivial,by omega,by omega,by omega⟩
 ·rintro⟨h1,h2,h3,h4⟩
  refine⟨(e.y-y0).toNat,by simp only;omega,Ed.ext' ?_ ?_ h1.symm⟩<;>simp only[Dir.dx,Dir.dy]<;>omega
theorem Rx{y:Int}{p:Int×Int}{e:Ed}:On (Vp y p) e↔e.d= .W∧e.y=y∧p.1<e.x∧e.x≤p.2:=by
 unfold On Vp qR
 constructor
 ·rintro⟨i,hi,rfl⟩
  simp only[Dir.dx,Dir.dy] at*
  exact⟨trivial,by omega,by omega,by omega⟩
 ·rintro⟨h1,h2,h3,h4⟩
  refine⟨(p.2-e.x).toNat,by simp only;omega,Ed.ext' ?_ ?_ h1.symm⟩<;>simp only[Dir.dx,Dir.dy]<;>omega
theorem Ry{y:Int}{p:Int×Int}{e:Ed}:On (Wh y p) e↔e.d= .E∧e.y=y∧p.1≤e.x∧e.x<p.2:=by
 unfold On Wh qR
 constructor
 ·rintro⟨i,hi,rfl⟩
  simp only[Dir.dx,Dir.dy] at*
  exact⟨trivial,by omega,by omega,by omega⟩
 ·rintro⟨h1,h2,h3,h4⟩
  refine⟨(e.x-p.1).toNat,by simp only;omega,Ed.ext' ?_ ?_ h1.symm⟩<;>simp only[Dir.dx,Dir.dy]<;>omega
open Classical in
noncomputable def zg(A B:List (Int×Int)):List (Int×Int):=if h:∃C,(∃lo,Can lo C)∧∀x,mP x C↔mP x A∧¬mP x B then Classical.choose h else[]
theorem Lt{A B C:List (Int×Int)}(h1:∃lo,Can lo C)(h2:∀x,mP x C↔mP x A∧¬mP x B):zg A B=C:=by
 have h:∃C,(∃lo,Can lo C)∧∀x,mP x C↔mP x A∧¬mP x B:=⟨C,h1,h2⟩
 unfold zg
 rw[dif_pos h]
 obtain⟨g1,g2⟩:=Classical.choose_spec h
 exact Nn g1 h1 fun x=>by rw[g2,h2]
structure NM (A B C:List (Int×Int)):Prop where
 can:∃lo,Can lo C
 mem:∀x,mP x C↔mP x A∧¬mP x B
 len:C.length≤A.length+B.length
theorem K9{N:Nat}{A B:List (Int×Int)}(hN:10000000000≤N)(hA:∃lo,Can lo A)(hB:∃lo,Can lo B)(hl:A.length+B.length≤1000000000):NM A B (zg A B)∧lw N (dn A) (dn B) jq=some (dn (zg A B)):=by
 obtain⟨C,h1,h2,h3,h4⟩:=JG (k:=fun a b=>a&& !b) (f:=jq) (fun a b=>rfl) rfl (N:=N) hA hB (by omega) (by omega)
 have h5:∀x,mP x C↔mP x A∧¬mP x B:=fun x=>by
  rw[h4]
  constructor
  ·rintro⟨p,q,g1,g2,g3⟩
   simp only[Bool.and_eq_true,Bool.not_eq_true'] at g3
   exact⟨g1.1 g3.1,fun hh=>by have:=g2.2 hh;rw[g3.2] at this;cases this⟩
  ·rintro⟨g1,g2⟩
   exact⟨true,false,by simp[g1],by simp[g2],rfl⟩
 rw[Lt h2 h5]
 exact⟨⟨h2,h5,h3⟩,h1⟩
theorem RJ{N:Nat}{A B:List (Int×Int)}(hN:10000000000≤N)(hA:∃lo,Can lo A)(hB:∃lo,Can lo B)(hl:A.length+B.length≤1000000000):NM B A (zg B A)∧lw N (dn A) (dn B) jo=some (dn (zg B A)):=by
 obtain⟨C,h1,h2,h3,h4⟩:=JG (k:=fun a b=>b&& !a) (f:=jo) (fun a b=>rfl) rfl (N:=N) hA hB (by omega) (by omega)
 have h5:∀x,mP x C↔mP x B∧¬mP x A:=fun x=>by
  rw[h4]
  constructor
  ·rintro⟨p,q,g1,g2,g3⟩
   simp only[Bool.and_eq_true,Bool.not_eq_true'] at g3
   exact⟨g2.1 g3.1,fun hh=>by have:=g1.2 hh;rw[g3.2] at this;cases this⟩
  ·rintro⟨g1,g2⟩
   exact⟨false,true,by simp[g2],by simp[g1],rfl⟩
 rw[Lt h2 h5]
 exact⟨⟨h2,h5,by omega⟩,h1⟩
noncomputable def hz(y:Int)(A B:List (Int×Int)):List Sd:=(zg A B).map (Vp y)++(zg B A).map (Wh y)
def vt(b:Bd):List Sd:=b.2.2.flatMap fun p=>[Vq b.1 b.2.1 p,Vr b.1 b.2.1 p]
def yJ(prev:Option Bd)(b:Bd):List (Int×Int):=match prev with
 |none=>[]
 |some c=>if c.2.1<b.1 then[] else c.2.2
noncomputable def yB(b:Bd)(rest:List Bd):List Sd:=match rest with
 |[]=>hz b.2.1 b.2.2 []
 |c::_=>if b.2.1<c.1 then hz b.2.1 b.2.2 [] else[]
noncomputable def nZ:Option Bd→List Bd→List Sd
 |_,[]=>[]
 |prev,b::rest=>vt b++hz b.1 (yJ prev b) b.2.2++yB b rest++nZ (some b) rest
theorem XG{y0 y1:Int}{p:Int×Int}(h:y0<y1):toS (Vq y0 y1 p)=⟨⟨p.1,y1⟩,⟨p.1,y0⟩⟩:=by
 unfold toS rQ Vq qR iA Ed.p
 simp only[Dir.dx,Dir.dy,fJ.mk.injEq,ak.mk.injEq]
 exact⟨trivial,by omega,by omega⟩
theorem XH{y0 y1:Int}{p:Int×Int}(h:y0<y1):toS (Vr y0 y1 p)=⟨⟨p.2,y0⟩,⟨p.2,y1⟩⟩:=by
 unfold toS rQ Vr qR iA Ed.p
 simp only[Dir.dx,Dir.dy,fJ.mk.injEq,ak.mk.injEq]
 exact⟨trivial,by omega,by omega⟩
theorem XF{y:Int}{p:Int×Int}(h:p.1<p.2):toS (Vp y p)=⟨⟨p.2,y⟩,⟨p.1,y⟩⟩:=by
 unfold toS rQ Vp qR iA Ed.p
 simp only[Dir.dx,Dir.dy,fJ.mk.injEq,ak.mk.injEq]
 exact⟨trivial,by omega,by omega⟩
theorem XI{y:Int}{p:Int×Int}(h:p.1<p.2):toS (Wh y p)=⟨⟨p.1,y⟩,⟨p.2,y⟩⟩:=by
 unfold toS rQ Wh qR iA Ed.p
 simp only[Dir.dx,Dir.dy,fJ.mk.injEq,ak.mk.injEq]
 exact⟨trivial,by omega,by omega⟩
theorem Gp(pre suf:List (Int×Int))(p:Int×Int):idx (dn (pre++p::suf)) ((2*pre.length:Nat):Int)=some p.1:=by
 have h:=jw (dn pre) (p.2::dn suf) p.1
 rw[gT] at h
 rw[pU,nS];exact h
theorem Gm(pre suf:List (Int×Int))(p:Int×Int):idx (dn (pre++p::suf)) ((2*pre.length+1:Nat):Int)=some p.2:=by
 have h:=jw (dn pre++[p.1]) (dn suf) p.2
 rw[List.length_append,gT,List.length_singleton,List.append_assoc] at h
 rw[pU,nS];exact h
theorem AA{a b c d:Int}{out:List fJ}(h:out.length<1000000000):jh a b c d out=some (out++[⟨⟨a,b⟩,⟨c,d⟩⟩]):=by
 unfold jh
 rw[lm (by simp;omega)];rfl
theorem wz{l:List (Int×Int)}{C pre suf:List (Int×Int)}(h:C=pre++suf):(dn C).length=2*pre.length+2*suf.length:=by rw[h,gT,List.length_append];omega
theorem E5{l:List (Int×Int)}(h:∃lo,Can lo l):∀p∈l,p.1<p.2:=fun p hp=>by
 obtain⟨lo,h⟩:=h
 exact(h.mem p hp).2
theorem IP{y:Int}{C:List (Int×Int)}(hC:∀p∈C,p.1<p.2)(hl:C.length≤1000000000):∀(suf pre:List (Int×Int)) (m:Nat) (out:List Sd),C=pre++suf→suf.length<m→out.length+suf.length≤100000000→
  dQ y (dn C) m (out.map toS) ((2*pre.length:Nat):Int)=some ((out++suf.map (Wh y)).map toS)
 |_,_,0,_,_,hm,_=>absurd hm (Nat.not_lt_zero _)
 |[],pre,m+1,out,h,_,_=>by
  rw[dQ.eq_2,if_neg (by rw[wz (l:=C) h];simp)];simp
 |p::suf,pre,m+1,out,h,hm,ho=>by
  have hpl:pre.length≤1000000000:=by rw[h] at hl;simp at hl;omega
  rw[dQ.eq_2,if_pos (by rw[wz (l:=C) h];simp;omega)]
  have e1:bF (((2*pre.length:Nat):Int)+1)=((2*pre.length+1:Nat):Int):=by rw[bX (by omega) (by omega)];omega
  have e2:bF (((2*pre.length:Nat):Int)+2)=((2*(pre++[p]).length:Nat):Int):=by rw[bX (by omega) (by omega)];simp;omega
  have i1:=Gp pre suf p
  have i2:=Gm pre suf p
  rw[←h] at i1 i2
  simp only[List.length_cons] at hm ho
  rw[e1,e2,i1,ob,i2,ob,AA (by rw[List.length_map];omega),ob]
  have:=IP (y:=y) hC hl suf (pre++[p]) m (out++[Wh y p]) (by rw[h];simp) (by omega) (by simp;omega)
  rw[List.map_append,List.map_singleton,XI (hC p (by rw[h];simp))] at this
  rw[this];simp
theorem Hz{N:Nat}{y:Int}{A B:List Int}{C:List (Int×Int)}(hC:∀p∈C,p.1<p.2)(hl:C.length≤1000000000):∀(suf pre:List (Int×Int)) (m:Nat) (out:List Sd),C=pre++suf→suf.length<m→out.length+suf.length≤100000000→
  eY N y A B (dn C) m (out.map toS) ((2*pre.length:Nat):Int)=(lw N A B jo).bind fun YM=>dQ y YM N ((out++suf.map (Vp y)).map toS) 0
 |_,_,0,_,_,hm,_=>absurd hm (Nat.not_lt_zero _)
 |[],pre,m+1,out,h,_,_=>by
  rw[eY.eq_2,if_neg (by rw[wz (l:=C) h];simp)];simp
 |p::suf,pre,m+1,out,h,hm,ho=>by
  have hpl:pre.length≤1000000000:=by rw[h] at hl;simp at hl;omega
  rw[eY.eq_2,if_pos (by rw[wz (l:=C) h];simp;omega)]
  have e1:bF (((2*pre.length:Nat):Int)+1)=((2*pre.length+1:Nat):Int):=by rw[bX (by omega) (by omega)];omega
  have e2:bF (((2*pre.length:Nat):Int)+2)=((2*(pre++[p]).length:Nat):Int):=by rw[bX (by omega) (by omega)];simp;omega
  have i1:=Gp pre suf p
  have i2:=Gm pre suf p
  rw[←h] at i1 i2
  simp only[List.length_cons] at hm ho
  rw[e1,e2,i2,ob,i1,ob,AA (by rw[List.length_map];omega),ob]
  have:=Hz (N:=N) (y:=y) (A:=A) (B:=B) hC hl suf (pre++[p]) m (out++[Vp y p]) (by rw[h];simp) (by omega) (by simp;omega)
  rw[List.map_append,List.map_singleton,XF (hC p (by rw[h];simp))] at this
  rw[this];simp
theorem OP{N:Nat}{y:Int}{A B:List (Int×Int)}{out:List Sd}(hN:10000000000≤N)(hA:∃lo,Can lo A)(hB:∃lo,Can lo B)(hl:A.length+B.length≤1000000000)(ho:(out++hz y A B).length≤100000000):
  fM N y (dn A) (dn B) (out.map toS)=some ((out++hz y A B).map toS):=by
 obtain⟨d1,d2⟩:=K9 hN hA hB hl
 obtain⟨d3,d4⟩:=RJ hN hA hB hl
 unfold hz at ho
 simp only[List.length_append,List.length_map] at ho
 unfold fM
 show(lw N (dn A) (dn B) jq).bind _=_
 rw[d2,ob]
 have h1:=Hz (N:=N) (y:=y) (A:=dn A) (B:=dn B) (E5 d1.can) (by have:=d1.len;omega) (zg A B) [] N out rfl (by have:=d1.len;omega) (by omega)
 have h2:=IP (y:=y) (E5 d3.can) (by have:=d3.len;omega) (zg B A) [] N (out++(zg A B).map (Vp y)) rfl (by have:=d3.len;omega) (by simp;omega)
 have e0:((2*([]:List (Int×Int)).length:Nat):Int)=0:=rfl
 rw[e0] at h1 h2
 rw[h1,d4,ob,h2]
 unfold hz
 rw[List.append_assoc]
theorem NR{N:Nat}{p0:List bf}{k:List fJ→Option (List fJ)}{b:Bd}{i:Nat}(hb:b.1<b.2.1)(hl:b.2.2.length≤1000000000):∀(suf pre:List (Int×Int)) (m:Nat) (out:List Sd),b.2.2=pre++suf→suf.length<m→out.length+2*suf.length≤100000000→
  fU N p0 k (toP b) i m (out.map toS) ((2*pre.length:Nat):Int)=fU N p0 k (toP b) i 1 ((out++suf.flatMap fun p=>[Vq b.1 b.2.1 p,Vr b.1 b.2.1 p]).map toS) ((2*b.2.2.length:Nat):Int)
 |_,_,0,_,_,hm,_=>absurd hm (Nat.not_lt_zero _)
 |[],pre,m+1,out,h,_,_=>by
  have e:b.2.2.length=pre.length:=by rw[h];simp
  have hx:(toP b).Xs=dn b.2.2:=rfl
  rw[fU.eq_2,fU.eq_2,e,hx,if_neg (by rw[wz (l:=b.2.2) h];simp),if_neg (c:=decide (((2*pre.length:Nat):Int)<((dn b.2.2).length:Int))=true) (by rw[wz (l:=b.2.2) h];simp)];simp
 |p::suf,pre,m+1,out,h,hm,ho=>by
  have hpl:pre.length≤1000000000:=by rw[h] at hl;simp at hl;omega
  have hx:(toP b).Xs=dn b.2.2:=rfl
  have hy0:(toP b).Y0=b.1:=rfl
  have hy1:(toP b).Y1=b.2.1:=rfl
  rw[fU.eq_2,hx,hy0,hy1,if_pos (by rw[wz (l:=b.2.2) h];simp;omega)]
  have e1:bF (((2*pre.length:Nat):Int)+1)=((2*pre.length+1:Nat):Int):=by rw[bX (by omega) (by omega)];omega
  have e2:bF (((2*pre.length:Nat):Int)+2)=((2*(pre++[p]).length:Nat):Int):=by rw[bX (by omega) (by omega)];simp;omega
  have i1:=Gp pre suf p
  have i2:=Gm pre suf p
  rw[←h] at i1 i2
  simp only[List.length_cons] at hm ho
  rw[e1,e2,i1,ob,ob,AA (by rw[List.length_map];omega),ob,i2,ob,ob,AA (by simp;omega),ob]
  have:=NR (N:=N) (p0:=p0) (k:=k) (i:=i) hb hl suf (pre++[p]) m (out++[Vq b.1 b.2.1 p,Vr b.1 b.2.1 p]) (by rw[h];simp) (by omega) (by simp;omega)
  rw[List.map_append,List.map_cons,List.map_singleton,XG hb,XH hb] at this
  rw[show(out.map toS++[fJ.mk ⟨p.1,b.2.1⟩ ⟨p.1,b.1⟩]++[fJ.mk ⟨p.2,b.1⟩ ⟨p.2,b.2.1⟩])=out.map toS++[fJ.mk ⟨p.1,b.2.1⟩ ⟨p.1,b.1⟩,fJ.mk ⟨p.2,b.1⟩ ⟨p.2,b.2.1⟩] from by simp,this]
  simp
theorem JH{a b:List Sd}{n:Nat}(h:(a++b).length≤n):a.length≤n:=by rw[List.length_append] at h;omega
theorem Eg{N:Nat}(hN:10000000000≤N){l:List Bd}(hl:l.length≤1000000000)(hlo:∀b∈l,b.1<b.2.1∧b.2.2.length≤100000000∧∃lo,Can lo b.2.2):∀(suf pre:List Bd) (out:List Sd),l=pre++suf→(out++nZ pre.getLast? suf).length≤100000000→
  dw N (l.map toP) (suf.map toP) pre.length (out.map toS)=some ((out++nZ pre.getLast? suf).map toS)
 |[],pre,out,_,_=>by
  show dw _ _ [] _ _=_
  rw[dw.eq_1]
  unfold nZ
  rw[List.append_nil]
 | b ::rest,pre,out,h,ho=>by
  have hbm:b∈l:=by rw[h];simp
  obtain⟨hb1,hb2,hb3⟩:=hlo b hbm
  have hpl:pre.length≤1000000000:=by rw[h] at hl;simp at hl;omega
  unfold nZ at ho ⊢
  have eA:out++(vt b++hz b.1 (yJ pre.getLast? b) b.2.2++yB b rest++nZ (some b) rest)=(((out++vt b)++hz b.1 (yJ pre.getLast? b) b.2.2)++yB b rest)++nZ (some b) rest:=by simp only[List.append_assoc]
  rw[eA] at ho ⊢
  have ho3:=JH ho
  have ho2:=JH ho3
  have ho1:=JH ho2
  have hvl:(vt b).length=2*b.2.2.length:=by
   unfold vt
   rw[List.length_flatMap]
   simp only[List.length_cons,List.length_nil]
   rw[List.map_const',List.sum_replicate_nat];omega
  rw[List.map_cons,dw.eq_2]
  have hv:=NR (N:=N) (p0:=l.map toP) (k:=dw N (l.map toP) (rest.map toP) (pre.length+1)) (b:=b) (i:=pre.length) hb1 (by omega) b.2.2 [] N out rfl (by omega) (by rw[List.length_append,hvl] at ho1;omega)
  have e0:((2*([]:List (Int×Int)).length:Nat):Int)=0:=rfl
  rw[e0] at hv
  have hx:(toP b).Xs=dn b.2.2:=rfl
  have hy0:(toP b).Y0=b.1:=rfl
  have hy1:(toP b).Y1=b.2.1:=rfl
  have hvt:(b.2.2.flatMap fun p=>[Vq b.1 b.2.1 p,Vr b.1 b.2.1 p])=vt b:=rfl
  rw[hv,hvt,fU.eq_2,hx,hy0,if_neg (by rw[gT];simp)]
  have hJ:jD N (l.map toP) (dw N (l.map toP) (rest.map toP) (pre.length+1)) (toP b) pre.length ((out++vt b++hz b.1 (yJ pre.getLast? b) b.2.2).map toS)=some ((out++vt b++hz b.1 (yJ pre.getLast? b) b.2.2++yB b rest++nZ (some b) rest).map toS):=by
   have ih:=Eg hN hl hlo rest (pre++[b]) (out++vt b++hz b.1 (yJ pre.getLast? b) b.2.2++yB b rest) (by rw[h];simp) (by rw[List.getLast?_append];exact ho)
   rw[List.getLast?_append,List.length_append] at ih
   have ih:dw N (l.map toP) (rest.map toP) (pre.length+1) ((out++vt b++hz b.1 (yJ pre.getLast? b) b.2.2++yB b rest).map toS)=some ((out++vt b++hz b.1 (yJ pre.getLast? b) b.2.2++yB b rest++nZ (some b) rest).map toS):=ih
   unfold jD
   have e1:bF ((pre.length:Int)+1)=((pre++[b]).length:Int):=Fb pre b (by omega)
   have hz0:∀{o:List Sd},(o++hz b.2.1 b.2.2 []).length≤100000000→fM N b.2.1 (dn b.2.2) [] (o.map toS)=some ((o++hz b.2.1 b.2.2 []).map toS):=fun{o} ho=>OP (B:=[]) hN hb3 ⟨0,trivial⟩ (by simp;omega) ho
   rw[e1,hx,hy1]
   cases rest with
   |nil=>
    rw[if_pos (by rw[h];simp),ob,if_pos rfl]
    have e2:yB b []=hz b.2.1 b.2.2 []:=rfl
    rw[e2] at ih ho3 ⊢
    rw[hz0 ho3,ob];exact ih
   | cons c rest=>
    have e3:idx (l.map toP) ((pre++[b]).length:Int)=some (toP c):=by
     have:=jw ((pre++[b]).map toP) (rest.map toP) (toP c)
     rw[List.length_map] at this
     rw[h,show pre++b::c::rest=(pre++[b])++c::rest by simp,List.map_append,List.map_cons];exact this
    rw[if_neg (by rw[h];simp;omega),e3,ob,ob]
    have e4:(toP c).Y0=c.1:=rfl
    rw[e4]
    by_cases hc:b.2.1<c.1
    ·have e2:yB b (c::rest)=hz b.2.1 b.2.2 []:=if_pos hc
     rw[if_pos (by simpa using hc)]
     rw[e2] at ih ho3 ⊢
     rw[hz0 ho3,ob];exact ih
    ·have e2:yB b (c::rest)=[]:=if_neg hc
     rw[if_neg (by simpa using hc)]
     rw[e2,List.append_nil] at ih ⊢
     exact ih
  rcases List.eq_nil_or_concat pre with hp|⟨q,c,hp⟩
  ·subst hp
   rw[if_pos (by simp),ob,if_pos rfl]
   have:=OP (N:=N) (y:=b.1) (A:=[]) (B:=b.2.2) (out:=out++vt b) hN ⟨0,trivial⟩ hb3 (by simp;omega) ho2
   have e2:dn []=[]:=rfl
   rw[e2] at this
   rw[this,ob]
   exact hJ
  ·rw[List.concat_eq_append] at hp
   subst hp
   have hcm:c∈l:=by rw[h];simp
   obtain⟨hc1,hc2,hc3⟩:=hlo c hcm
   have e1:bF (((q++[c]).length:Int)-1)=(q.length:Int):=by rw[bX (by omega) (by omega)];simp
   have e3:idx (l.map toP) (q.length:Int)=some (toP c):=by
    have:=jw (q.map toP) ((b::rest).map toP) (toP c)
    rw[List.length_map] at this
    rw[h,show(q++[c])++b::rest=q++c::b::rest by simp,List.map_append,List.map_cons];exact this
   rw[if_neg (by simp;omega),e1,e3,ob,ob]
   have e4:(toP c).Y1=c.2.1:=rfl
   have e5:(toP c).Xs=dn c.2.2:=rfl
   have e6:(q++[c]).getLast?=some c:=by simp
   rw[e4]
   rw[e6] at hJ ho2 ⊢
   by_cases hc:c.2.1<b.1
   ·have e2:yJ (some c) b=[]:=if_pos hc
    rw[e2] at hJ ho2 ⊢
    rw[if_pos (by simpa using hc)]
    have:=OP (N:=N) (y:=b.1) (A:=[]) (B:=b.2.2) (out:=out++vt b) hN ⟨0,trivial⟩ hb3 (by simp;omega) ho2
    have e2:dn []=[]:=rfl
    rw[e2] at this
    rw[this,ob]
    exact hJ
   ·have e2:yJ (some c) b=c.2.2:=if_neg hc
    rw[e2] at hJ ho2 ⊢
    rw[if_neg (by simpa using hc),ob,e5,OP (N:=N) (y:=b.1) (out:=out++vt b) hN hc3 hb3 (by omega) ho2,ob]
    exact hJ
theorem P6{N:Nat}(hN:10000000000≤N){l:List Bd}(hl:l.length≤1000000000)(hlo:∀b∈l,b.1<b.2.1∧b.2.2.length≤100000000∧∃lo,Can lo b.2.2)(hlen:(nZ none l).length≤100000000):qb N (l.map toP)=some ((nZ none l).map toS):=Eg hN hl hlo l [] [] rfl hlen
open PX
def Has(L:List Sd)(e:Ed):Prop:=∃s∈L,On s e
theorem OU(e:Ed):¬Has [] e:=fun⟨_,h,_⟩=>nomatch h
theorem yN{A B:List Sd}{e:Ed}:Has (A++B) e↔Has A e∨Has B e:=by
 unfold Has
 constructor
 ·rintro⟨s,h1,h2⟩
  rcases List.mem_append.1 h1 with h1|h1
  ·exact .inl ⟨s,h1,h2⟩
  ·exact .inr ⟨s,h1,h2⟩
 ·rintro(⟨s,h1,h2⟩|⟨s,h1,h2⟩)
  ·exact⟨s,List.mem_append_left _ h1,h2⟩
  ·exact⟨s,List.mem_append_right _ h1,h2⟩
theorem AR:∀{l:List (Int×Int)} {lo:Int},Can lo l→l.Pairwise fun p q=>p.2<q.1
 |[],_,_=>.nil
 |p::l,lo,h=>List.pairwise_cons.2 ⟨fun q hq=>(h.2.2.mem q hq).1,AR h.2.2⟩
theorem MM{α:Type}{R:α→α→Prop}:∀{l:List α},l.Pairwise R→∀a∈l,∀b∈l,a=b∨R a b∨R b a
 | x::l,h,a,ha,b,hb=>by
  obtain⟨h1,h2⟩:=List.pairwise_cons.1 h
  rcases List.mem_cons.1 ha with ea|ea
  ·rcases List.mem_cons.1 hb with eb|eb
   ·left;rw[ea,eb]
   ·right;left;rw[ea];exact h1 b eb
  ·rcases List.mem_cons.1 hb with eb|eb
   ·right;right;rw[eb];exact h1 a ea
   ·exact MM h2 a ea b eb
theorem UX{l:List (Int×Int)}(h:∃lo,Can lo l){x:Int}:(∃p∈l,x=p.2)↔mP (x-1) l∧¬mP x l:=by
 obtain⟨lo,h⟩:=h
 constructor
 ·rintro⟨p,hp,rfl⟩
  have h1:=(h.mem p hp).2
  refine⟨⟨p,hp,by omega,by omega⟩,?_⟩
  rintro⟨q,hq,g1,g2⟩
  have h2:=(h.mem q hq).2
  rcases MM (AR h) p hp q hq with e|e|e
  ·subst e;omega
  ·omega
  ·omega
 ·rintro⟨⟨p,hp,g1,g2⟩,h2⟩
  refine⟨p,hp,?_⟩
  rcases Int.lt_or_le x p.2 with h3|h3
  ·exact absurd ⟨p,hp,by omega,h3⟩ h2
  ·omega
theorem UY{l:List (Int×Int)}(h:∃lo,Can lo l){x:Int}:(∃p∈l,x=p.1)↔mP x l∧¬mP (x-1) l:=by
 obtain⟨lo,h⟩:=h
 constructor
 ·rintro⟨p,hp,rfl⟩
  have h1:=(h.mem p hp).2
  refine⟨⟨p,hp,by omega,by omega⟩,?_⟩
  rintro⟨q,hq,g1,g2⟩
  have h2:=(h.mem q hq).2
  rcases MM (AR h) p hp q hq with e|e|e
  ·subst e;omega
  ·omega
  ·omega
 ·rintro⟨⟨p,hp,g1,g2⟩,h2⟩
  refine⟨p,hp,?_⟩
  rcases Int.lt_or_le (x-1) p.1 with h3|h3
  ·omega
  ·exact absurd ⟨p,hp,by omega,by omega⟩ h2
def PI(b:Bd):Prop:=b.1<b.2.1∧b.2.2.length≤100000000∧∃lo,Can lo b.2.2
theorem xn{A B:List (Int×Int)}(hA:∃lo,Can lo A)(hB:∃lo,Can lo B)(hl:A.length+B.length≤1000000000):NM A B (zg A B):=(K9 (Nat.le_refl _) hA hB hl).1
def yf(A:List (Int×Int)):Prop:=(∃lo,Can lo A)∧A.length≤100000000
theorem yf.nil:yf []:=⟨⟨0,trivial⟩,by simp⟩
theorem PI.row{b:Bd}(h:PI b):yf b.2.2:=⟨h.2.2,h.2.1⟩
theorem JL{b:Bd}(h:PI b){e:Ed}:Has (vt b) e↔(e.d= .N∧(b.1≤e.y∧e.y<b.2.1)∧mP (e.x-1) b.2.2∧¬mP e.x b.2.2)∨(e.d= .S∧(b.1<e.y∧e.y≤b.2.1)∧mP e.x b.2.2∧¬mP (e.x-1) b.2.2):=by
 unfold Has vt
 rw[←UX h.2.2,←UY h.2.2]
 constructor
 ·rintro⟨s,h1,h2⟩
  obtain⟨p,hp,hs⟩:=List.mem_flatMap.1 h1
  simp only[List.mem_cons,List.not_mem_nil,or_false] at hs
  rcases hs with rfl|rfl
  ·obtain⟨g1,g2,g3,g4⟩:=MX.1 h2
   exact .inr ⟨g1,⟨g3,g4⟩,p,hp,g2⟩
  ·obtain⟨g1,g2,g3,g4⟩:=MZ.1 h2
   exact .inl ⟨g1,⟨g3,g4⟩,p,hp,g2⟩
 ·rintro(⟨g1,⟨g3,g4⟩,p,hp,g2⟩|⟨g1,⟨g3,g4⟩,p,hp,g2⟩)
  ·exact⟨_,List.mem_flatMap.2 ⟨p,hp,List.mem_cons_of_mem _ (List.mem_cons_self)⟩,MZ.2 ⟨g1,g2,g3,g4⟩⟩
  ·exact⟨_,List.mem_flatMap.2 ⟨p,hp,List.mem_cons_self⟩,MX.2 ⟨g1,g2,g3,g4⟩⟩
theorem Gj{y:Int}{A B:List (Int×Int)}(hA:yf A)(hB:yf B){e:Ed}:Has (hz y A B) e↔e.y=y∧((e.d= .W∧mP (e.x-1) A∧¬mP (e.x-1) B)∨(e.d= .E∧mP e.x B∧¬mP e.x A)):=by
 have d1:=xn hA.1 hB.1 (by have:=hA.2;have:=hB.2;omega)
 have d2:=xn hB.1 hA.1 (by have:=hA.2;have:=hB.2;omega)
 unfold hz
 rw[yN,←d1.mem,←d2.mem]
 unfold Has
 simp only[List.mem_map]
 constructor
 ·rintro(⟨s,⟨p,hp,rfl⟩,h2⟩|⟨s,⟨p,hp,rfl⟩,h2⟩)
  ·obtain⟨g1,g2,g3,g4⟩:=Rx.1 h2
   exact⟨g2,.inl ⟨g1,p,hp,by omega,by omega⟩⟩
  ·obtain⟨g1,g2,g3,g4⟩:=Ry.1 h2
   exact⟨g2,.inr ⟨g1,p,hp,by omega,by omega⟩⟩
 ·rintro⟨g2,(⟨g1,p,hp,g3,g4⟩|⟨g1,p,hp,g3,g4⟩)⟩
  ·exact .inl ⟨_,⟨p,hp,rfl⟩,Rx.2 ⟨g1,g2,by omega,by omega⟩⟩
  ·exact .inr ⟨_,⟨p,hp,rfl⟩,Ry.2 ⟨g1,g2,by omega,by omega⟩⟩
def NL(b:Bd):List Bd→Prop
 |[]=>True
 |c::_=>b.2.1<c.1
theorem JM{b:Bd}{rest:List Bd}(h:PI b){e:Ed}:Has (yB b rest) e↔NL b rest∧e.y=b.2.1∧e.d= .W∧mP (e.x-1) b.2.2:=by
 have h1:=Gj (y:=b.2.1) h.row yf.nil (e:=e)
 have h2:Has (hz b.2.1 b.2.2 []) e↔e.y=b.2.1∧e.d= .W∧mP (e.x-1) b.2.2:=by
  rw[h1]
  constructor
  ·rintro⟨g1,(⟨g2,g3,_⟩|⟨_,g3,_⟩)⟩
   ·exact⟨g1,g2,g3⟩
   ·exact absurd g3 gP
  ·rintro⟨g1,g2,g3⟩
   exact⟨g1,.inl ⟨g2,g3,gP⟩⟩
 cases rest with
 |nil=>show Has (hz b.2.1 b.2.2 []) e↔_;rw[h2];simp[NL]
 | cons c rest=>
  unfold yB NL
  by_cases hc:b.2.1<c.1
  ·simp only[if_pos hc]
   rw[h2];simp[hc]
  ·simp only[if_neg hc]
   exact⟨fun hh=>absurd hh (OU e),fun hh=>absurd hh.1 hc⟩
def gR(prev:Option Bd):List Bd→Int→List (Int×Int)
 |[],_=>[]
 |b::rest,y=>if y=b.1-1 then yJ prev b else rowAt (b::rest) y
theorem yO(prev:Option Bd)(b:Bd)(rest:List Bd)(y:Int):gR prev (b::rest) y=if y=b.1-1 then yJ prev b else rowAt (b::rest) y:=rfl
theorem wW(prev:Option Bd)(b:Bd)(rest:List Bd):nZ prev (b::rest)=vt b++hz b.1 (yJ prev b) b.2.2++yB b rest++nZ (some b) rest:=by rw[nZ]
theorem Vy{prev:Option Bd}{l:List Bd}{lo y:Int}(h:oU lo l)(hy:y<lo-1):gR prev l y=[]:=by
 cases l with
 |nil=>rfl
 |cons b rest=>
  rw[yO,if_neg (by have:=h.1;omega)]
  exact nz h (by omega)
theorem OX{b:Bd}{l:List Bd}(h:oU b.2.1 l)(hf:NL b l):gR (some b) l (b.2.1-1)=[]:=by
 cases l with
 |nil=>rfl
 |cons c rest=>
  have hf:b.2.1<c.1:=hf
  rw[yO,if_neg (by omega)]
  exact nz h (by omega)
theorem Lf{b:Bd}{l:List Bd}(h:oU b.2.1 l)(hf:¬NL b l):gR (some b) l (b.2.1-1)=b.2.2:=by
 cases l with
 |nil=>exact absurd trivial hf
 |cons c rest=>
  have hf:¬b.2.1<c.1:=hf
  have hc:c.1=b.2.1:=by have:=h.1;omega
  rw[yO,if_pos (by omega)]
  exact if_neg hf
theorem uK{b:Bd}{rest:List Bd}{y:Int}(h1:b.1≤y)(h2:y<b.2.1):rowAt (b::rest) y=b.2.2:=if_pos ⟨h1,h2⟩
theorem Ci{b:Bd}{rest:List Bd}{y:Int}(h2:b.2.1≤y):rowAt (b::rest) y=rowAt rest y:=if_neg (by omega)
theorem Vz{b:Bd}{l:List Bd}{y:Int}(h:oU b.2.1 l)(hy:b.2.1≤y):gR (some b) l y=rowAt l y:=by
 cases l with
 |nil=>rfl
 | cons c rest=>
  rw[yO]
  by_cases hc:y=c.1-1
  ·rw[if_pos hc]
   have hf:b.2.1<c.1:=by omega
   have:rowAt (c::rest) y=[]:=nz (lo:=c.1) ⟨Int.le_refl _,h.2.1,h.2.2.1,h.2.2.2.1,h.2.2.2.2⟩ (by omega)
   rw[this]
   exact if_pos hf
  ·rw[if_neg hc]
structure VH (prev:Option Bd):Prop where
 ok:∀c,prev=some c→PI c
theorem VH.low{prev:Option Bd}(h:VH prev)(b:Bd):yf (yJ prev b):=by
 cases prev with
 |none=>exact yf.nil
 |some c=>
  unfold yJ
  by_cases hc:c.2.1<b.1
  ·simp only[if_pos hc];exact yf.nil
  ·simp only[if_neg hc];exact(h.ok c rfl).row
def QN(l:List Bd)(e:Ed):Prop:=mP (e.x-1) (rowAt l e.y)∧¬mP e.x (rowAt l e.y)
def QS(l:List Bd)(e:Ed):Prop:=mP e.x (rowAt l (e.y-1))∧¬mP (e.x-1) (rowAt l (e.y-1))
def QE(prev:Option Bd)(l:List Bd)(e:Ed):Prop:=mP e.x (rowAt l e.y)∧¬mP e.x (gR prev l (e.y-1))
def QW(prev:Option Bd)(l:List Bd)(e:Ed):Prop:=mP (e.x-1) (gR prev l (e.y-1))∧¬mP (e.x-1) (rowAt l e.y)
theorem RZ{prev:Option Bd}{b:Bd}{rest:List Bd}{e:Ed}:Has (nZ prev (b::rest)) e↔Has (vt b) e∨Has (hz b.1 (yJ prev b) b.2.2) e∨Has (yB b rest) e∨Has (nZ (some b) rest) e:=by
 rw[wW,yN,yN,yN]
 constructor
 ·rintro(((h|h)|h)|h)
  ·exact .inl h
  ·exact .inr (.inl h)
  ·exact .inr (.inr (.inl h))
  ·exact .inr (.inr (.inr h))
 ·rintro(h|h|h|h)
  ·exact .inl (.inl (.inl h))
  ·exact .inl (.inl (.inr h))
  ·exact .inl (.inr h)
  ·exact .inr h
theorem Dx:∀{l:List Bd} {prev:Option Bd} {lo:Int},oU lo l→(∀b∈l,PI b)→VH prev→∀e,Has (nZ prev l) e↔(e.d= .N∧QN l e)∨(e.d= .S∧QS l e)∨(e.d= .E∧QE prev l e)∨(e.d= .W∧QW prev l e)
 |[],prev,lo,_,_,_,e=>by
  constructor
  ·intro h;exact absurd h (OU e)
  ·rintro(⟨_,h,_⟩|⟨_,h,_⟩|⟨_,h,_⟩|⟨_,h,_⟩)<;>exact absurd h gP
 | b :: rest,prev,lo,hc,hok,hp,e=>by
  obtain⟨c1,c2,c3,c4,c5⟩:=hc
  have hb:=hok b (by simp)
  have ih:=Dx (prev:=some b) c5 (fun c hc=>hok c (by simp[hc])) ⟨fun c hc=>by cases hc;exact hb⟩ e
  have hcan:oU b.1 (b::rest):=⟨Int.le_refl _,c2,c3,c4,c5⟩
  rw[RZ,JL hb,Gj (hp.low b) hb.row,JM hb,ih]
  have nil:∀{y:Int},y<b.2.1→rowAt rest y=[]:=fun hy=>nz c5 hy
  have lo0:∀{y:Int},y<b.1→rowAt (b::rest) y=[]:=fun hy=>nz hcan hy
  have glow:gR prev (b::rest) (b.1-1)=yJ prev b:=by rw[yO,if_pos rfl]
  have gother:∀{y:Int},y≠b.1-1→gR prev (b::rest) y=rowAt (b::rest) y:=fun hy=>by rw[yO,if_neg hy]
  have gnil:∀{y:Int},y<b.2.1-1→gR (some b) rest y=[]:=fun hy=>Vy c5 hy
  cases hd:e.d
  · -- east
   simp only[reduceCtorEq,false_and,false_or,or_false,true_and,and_false]
   unfold QE
   rcases Int.lt_or_le e.y b.1 with h1|h1
   ·rw[lo0 h1,nil (y:=e.y) (by omega)]
    constructor
    ·rintro(⟨h,_⟩|⟨h,_⟩)
     ·omega
     ·exact absurd h gP
    ·rintro⟨h,_⟩;exact absurd h gP
   ·rcases Int.lt_or_le e.y b.2.1 with h2|h2
    ·rw[uK h1 h2,nil h2]
     by_cases h3:e.y=b.1
     ·rw[h3,glow]
      constructor
      ·rintro(⟨_,g⟩|⟨h,_⟩)
       ·exact g
       ·exact absurd h gP
      ·intro g;exact .inl ⟨rfl,g⟩
     ·rw[gother (by omega),uK (by omega) (by omega)]
      constructor
      ·rintro(⟨h,_⟩|⟨h,_⟩)
       ·exact absurd h h3
       ·exact absurd h gP
      ·rintro⟨g1,g2⟩;exact absurd g1 g2
    ·rw [Ci h2,gother (y:=e.y-1) (by omega)]
     by_cases h3:e.y=b.2.1
     ·rw[uK (y:=e.y-1) (by omega) (by omega),h3]
      by_cases hf:NL b rest
      · -- nothing begins there
       have hn:rowAt rest b.2.1=[]:=by
        cases rest with
        |nil=>rfl
        |cons c r=>exact nz (lo:=c.1) ⟨Int.le_refl _,c5.2.1,c5.2.2.1,c5.2.2.2.1,c5.2.2.2.2⟩ hf
       rw[hn]
       constructor
       ·rintro(⟨h,_⟩|⟨h,_⟩)
        ·omega
        ·exact absurd h gP
       ·rintro⟨h,_⟩;exact absurd h gP
      ·rw[Lf c5 hf]
       constructor
       ·rintro(⟨h,_⟩|g)
        ·omega
        ·exact g
       ·intro g;exact .inr g
     ·rw[Ci (y:=e.y-1) (by omega),Vz c5 (y:=e.y-1) (by omega)]
      constructor
      ·rintro(⟨h,_⟩|g)
       ·omega
       ·exact g
      ·intro g;exact .inr g
  · -- north
   simp only[reduceCtorEq,false_and,false_or,or_false,true_and,and_false]
   unfold QN
   by_cases h1:b.1≤e.y∧e.y<b.2.1
   ·rw[uK h1.1 h1.2,nil h1.2]
    constructor
    ·rintro(⟨_,g⟩|⟨h,_⟩)
     ·exact g
     ·exact absurd h gP
    ·intro g;exact .inl ⟨h1,g⟩
   ·have:rowAt (b::rest) e.y=rowAt rest e.y:=if_neg h1
    rw[this]
    constructor
    ·rintro(⟨h,_⟩|g)
     ·exact absurd h h1
     ·exact g
    ·intro g;exact .inr g
  · -- west
   simp only[reduceCtorEq,false_and,false_or,or_false,true_and,and_false]
   unfold QW
   rcases Int.lt_or_le e.y b.1 with h1|h1
   ·rw[gother (by omega),lo0 (y:=e.y-1) (by omega),gnil (by omega)]
    constructor
    ·rintro(⟨h,_⟩|⟨_,h,_⟩|⟨h,_⟩)
     ·omega
     ·omega
     ·exact absurd h gP
    ·rintro⟨h,_⟩;exact absurd h gP
   ·rcases Int.lt_or_le e.y b.2.1 with h2|h2
    ·rw[uK h1 h2,nil h2,gnil (by omega)]
     by_cases h3:e.y=b.1
     ·rw[h3,glow]
      constructor
      ·rintro(⟨_,g⟩|⟨_,h,_⟩|⟨h,_⟩)
       ·exact g
       ·omega
       ·exact absurd h gP
      ·intro g;exact .inl ⟨rfl,g⟩
     ·rw[gother (by omega),uK (by omega) (by omega)]
      constructor
      ·rintro(⟨h,_⟩|⟨_,h,_⟩|⟨h,_⟩)
       ·exact absurd h h3
       ·omega
       ·exact absurd h gP
      ·rintro⟨g1,g2⟩;exact absurd g1 g2
    ·rw [Ci h2,gother (y:=e.y-1) (by omega)]
     by_cases h3:e.y=b.2.1
     ·rw[uK (y:=e.y-1) (by omega) (by omega),h3]
      by_cases hf:NL b rest
      ·have hn:rowAt rest b.2.1=[]:=by
        cases rest with
        |nil=>rfl
        |cons c r=>exact nz (lo:=c.1) ⟨Int.le_refl _,c5.2.1,c5.2.2.1,c5.2.2.2.1,c5.2.2.2.2⟩ hf
       rw[hn,OX c5 hf]
       constructor
       ·rintro(⟨h,_⟩|⟨_,_,g⟩|⟨h,_⟩)
        ·omega
        ·exact⟨g,gP⟩
        ·exact absurd h gP
       ·rintro⟨g,_⟩;exact .inr (.inl ⟨hf,rfl,g⟩)
      ·rw[Lf c5 hf]
       constructor
       ·rintro(⟨h,_⟩|⟨h,_⟩|g)
        ·omega
        ·exact absurd h hf
        ·exact g
       ·intro g;exact .inr (.inr g)
     ·rw[Ci (y:=e.y-1) (by omega),Vz c5 (y:=e.y-1) (by omega)]
      constructor
      ·rintro(⟨h,_⟩|⟨_,h,_⟩|g)
       ·omega
       ·exact absurd h h3
       ·exact g
      ·intro g;exact .inr (.inr g)
  · -- south
   simp only[reduceCtorEq,false_and,false_or,or_false,true_and,and_false]
   unfold QS
   by_cases h1:b.1<e.y∧e.y≤b.2.1
   ·rw[uK (by omega) (by omega),nil (y:=e.y-1) (by omega)]
    constructor
    ·rintro(⟨_,g⟩|⟨h,_⟩)
     ·exact g
     ·exact absurd h gP
    ·intro g;exact .inl ⟨h1,g⟩
   ·have:rowAt (b::rest) (e.y-1)=rowAt rest (e.y-1):=if_neg (by omega)
    rw[this]
    constructor
    ·rintro(⟨h,_⟩|g)
     ·exact absurd h h1
     ·exact g
    ·intro g;exact .inr g
theorem Ju{A B:List Sd}(hA:A.Pairwise Dj)(hB:B.Pairwise Dj)(h:∀e,Has A e→¬Has B e):(A++B).Pairwise Dj:=
 List.pairwise_append.2 ⟨hA,hB,fun s hs t ht e h1 h2=>h e ⟨s,hs,h1⟩ ⟨t,ht,h2⟩⟩
theorem Rp{y:Int}{A B:List (Int×Int)}(hA:yf A)(hB:yf B):(hz y A B).Pairwise Dj:=by
 obtain⟨lo1,d1⟩:=(xn hA.1 hB.1 (by have:=hA.2;have:=hB.2;omega)).can
 obtain⟨lo2,d2⟩:=(xn hB.1 hA.1 (by have:=hA.2;have:=hB.2;omega)).can
 unfold hz
 refine Ju ?_ ?_ ?_
 ·rw[List.pairwise_map]
  exact(AR d1).imp fun{p q} h e h1 h2=>by
   obtain⟨_,_,g1,g2⟩:=Rx.1 h1
   obtain⟨_,_,g3,g4⟩:=Rx.1 h2
   omega
 ·rw[List.pairwise_map]
  exact(AR d2).imp fun{p q} h e h1 h2=>by
   obtain⟨_,_,g1,g2⟩:=Ry.1 h1
   obtain⟨_,_,g3,g4⟩:=Ry.1 h2
   omega
 ·rintro e ⟨s,hs,h1⟩ ⟨t,ht,h2⟩
  obtain⟨p,_,rfl⟩:=List.mem_map.1 hs
  obtain⟨q,_,rfl⟩:=List.mem_map.1 ht
  have g1:=(Rx.1 h1).1
  have g2:=(Ry.1 h2).1
  rw[g1] at g2;cases g2
theorem XV{b:Bd}(h:PI b):(vt b).Pairwise Dj:=by
 obtain⟨lo,hc⟩:=h.2.2
 unfold vt
 rw[List.pairwise_flatMap]
 constructor
 ·intro p hp
  refine List.pairwise_cons.2 ⟨fun t ht e h1 h2=>?_,List.pairwise_cons.2 ⟨fun t ht=>(nomatch ht),.nil⟩⟩
  rw[List.mem_singleton.1 ht] at h2
  have g1:=(MX.1 h1).1
  have g2:=(MZ.1 h2).1
  rw[g1] at g2;cases g2
 ·refine List.Pairwise.imp_of_mem (R:=fun p q=>p.2<q.1) (fun{p q} hp hq hpq s hs t ht e h1 h2=>?_) (AR hc)
  have p1:=(hc.mem p hp).2
  have q1:=(hc.mem q hq).2
  simp only[List.mem_cons,List.not_mem_nil,or_false] at hs ht
  rcases hs with rfl|rfl<;>rcases ht with rfl|rfl
  ·have g1:=(MX.1 h1).2.1
   have g2:=(MX.1 h2).2.1
   omega
  ·have g1:=(MX.1 h1).2.1
   have g2:=(MZ.1 h2).2.1
   omega
  ·have g1:=(MZ.1 h1).2.1
   have g2:=(MX.1 h2).2.1
   omega
  ·have g1:=(MZ.1 h1).2.1
   have g2:=(MZ.1 h2).2.1
   omega
theorem Wt{b:Bd}{rest:List Bd}(h:PI b):(yB b rest).Pairwise Dj:=by
 cases rest with
 |nil=>exact Rp h.row yf.nil
 |cons c r=>
  unfold yB
  by_cases hc:b.2.1<c.1
  ·simp only[if_pos hc];exact Rp h.row yf.nil
  ·simp only[if_neg hc];exact .nil
theorem KU:∀{l:List Bd} {prev:Option Bd} {lo:Int},oU lo l→(∀b∈l,PI b)→VH prev→(nZ prev l).Pairwise Dj
 |[],_,_,_,_,_=>.nil
 | b::rest,prev,lo,⟨c1,c2,c3,c4,c5⟩,hok,hp=>by
  have hb:=hok b (by simp)
  have hp':VH (some b):=⟨fun c hc=>by cases hc;exact hb⟩
  have ih:=KU (prev:=some b) c5 (fun c hc=>hok c (by simp[hc])) hp'
  have hs:=Dx (prev:=some b) c5 (fun c hc=>hok c (by simp[hc])) hp'
  rw[wW]
  refine Ju (Ju (Ju (XV hb) (Rp (hp.low b) hb.row) ?_) (Wt hb) ?_) ih ?_
  ·intro e h1 h2
   rw[JL hb] at h1
   rw[Gj (hp.low b) hb.row] at h2
   rcases h1 with⟨g,_⟩|⟨g,_⟩<;>rcases h2 with⟨_,(⟨g',_⟩|⟨g',_⟩)⟩<;>rw[g] at g'<;>cases g'
  ·intro e h1 h2
   rw[JM hb] at h2
   obtain⟨_,g1,g2,_⟩:=h2
   rcases yN.1 h1 with h1|h1
   ·rw[JL hb] at h1
    rcases h1 with⟨g,_⟩|⟨g,_⟩<;>rw[g2] at g<;>cases g
   ·rw[Gj (hp.low b) hb.row] at h1
    omega
  ·intro e h1 h2
   have nil:∀{y:Int},y<b.2.1→rowAt rest y=[]:=fun hy=>nz c5 hy
   rw[hs e] at h2
   rw[yN,yN,JL hb,Gj (hp.low b) hb.row,JM hb] at h1
   rcases h2 with⟨g,q1,_⟩|⟨g,q1,_⟩|⟨g,q1,_⟩|⟨g,q1,_⟩<;>rw[g] at h1<;>simp only[reduceCtorEq,false_and,false_or,or_false,true_and,and_false] at h1
   ·rw[nil h1.1.2] at q1;exact gP q1
   ·rw[nil (by omega)] at q1;exact gP q1
   ·rw[nil (by omega)] at q1;exact gP q1
   ·rcases h1 with⟨h1,_⟩|⟨hf,h1,_⟩
    ·rw[Vy c5 (by omega)] at q1;exact gP q1
    ·rw[h1,OX c5 hf] at q1;exact gP q1
theorem UA{l:List Bd}{lo:Int}(h:oU lo l)(y:Int):gR none l y=rowAt l y:=by
 cases l with
 |nil=>rfl
 | cons b rest=>
  rw[yO]
  by_cases hy:y=b.1-1
  ·rw[if_pos hy]
   exact(nz (lo:=b.1) (l:=b::rest) ⟨Int.le_refl _,h.2.1,h.2.2.1,h.2.2.2.1,h.2.2.2.2⟩ (by omega)).symm
  ·rw[if_neg hy]
theorem Ic:∀{l:List Bd} {prev:Option Bd},(∀b∈l,PI b)→VH prev→∀s∈nZ prev l,0<s.2
 | b ::rest,prev,hok,hp,s,hs=>by
  have hb:=hok b (by simp)
  have hz0:∀{y:Int} {A B:List (Int×Int)},yf A→yf B→∀s∈hz y A B,0<s.2:=fun{y A B} hA hB s hs=>by
   have d1:=E5 (xn hA.1 hB.1 (by have:=hA.2;have:=hB.2;omega)).can
   have d2:=E5 (xn hB.1 hA.1 (by have:=hA.2;have:=hB.2;omega)).can
   unfold hz at hs
   rcases List.mem_append.1 hs with hs|hs
   ·obtain⟨p,hp,rfl⟩:=List.mem_map.1 hs
    have:=d1 p hp
    show 0<(p.2-p.1).toNat;omega
   ·obtain⟨p,hp,rfl⟩:=List.mem_map.1 hs
    have:=d2 p hp
    show 0<(p.2-p.1).toNat;omega
  rw[wW] at hs
  rcases List.mem_append.1 hs with hs|hs
  ·rcases List.mem_append.1 hs with hs|hs
   ·rcases List.mem_append.1 hs with hs|hs
    ·obtain⟨p,hp,hs⟩:=List.mem_flatMap.1 hs
     have:=hb.1
     simp only[List.mem_cons,List.not_mem_nil,or_false] at hs
     rcases hs with rfl|rfl<;>show 0<(b.2.1-b.1).toNat<;>omega
    ·exact hz0 (hp.low b) hb.row s hs
   ·cases rest with
    |nil=>exact hz0 hb.row yf.nil s hs
    |cons c r=>
     unfold yB at hs
     by_cases hc:b.2.1<c.1
     ·simp only[if_pos hc] at hs;exact hz0 hb.row yf.nil s hs
     ·simp only[if_neg hc] at hs;cases hs
  ·exact Ic (prev:=some b) (fun c hc=>hok c (by simp[hc])) ⟨fun c hc=>by cases hc;exact hb⟩ s hs
theorem Mt{I:Sq}{l:List Bd}(h:zt l)(hlen:∀b∈l,b.2.2.length≤100000000)(hI:∀x y,I x y=true↔mP x (rowAt l y)):oN I (nZ none l):=by
 obtain⟨lo,hc⟩:=h.can
 have hok:∀b∈l,PI b:=fun b hb=>⟨(hc.mem b hb).2.1,hlen b hb,h.row b hb⟩
 have hp:VH none:=⟨fun c hc=>nomatch hc⟩
 have hI':∀x y,I x y=false↔¬mP x (rowAt l y):=fun x y=>by
  rw[←hI];cases I x y<;>simp
 refine TW (Ic hok hp) (fun e=>?_) (KU hc hok hp)
 refine(Dx hc hok hp e).trans ?_
 unfold QN QS QE QW tY
 rw[UA hc]
 cases hd:e.d<;>simp only[reduceCtorEq,false_and,false_or,or_false,true_and,and_false,lq,Dir.right,hI,hI']
theorem FI{n:Nat}(hn:n≤100000000):∀{l:List Bd} {prev:Option Bd},(∀b∈l,PI b∧b.2.2.length≤n)→(∀c,prev=some c→PI c∧c.2.2.length≤n)→(nZ prev l).length≤l.length*(8*n)
 |[],_,_,_=>by unfold nZ;simp
 | b::rest,prev,hok,hp=>by
  obtain⟨hb,hbn⟩:=hok b (by simp)
  have ih:=FI hn (l:=rest) (prev:=some b) (fun c hc=>hok c (by simp[hc])) (fun c hc=>by cases hc;exact⟨hb,hbn⟩)
  have hzl:∀{y:Int} {A B:List (Int×Int)},yf A→yf B→(hz y A B).length≤2*(A.length+B.length):=fun{y A B} hA hB=>by
   have d1:=(xn hA.1 hB.1 (by have:=hA.2;have:=hB.2;omega)).len
   have d2:=(xn hB.1 hA.1 (by have:=hA.2;have:=hB.2;omega)).len
   unfold hz
   simp only[List.length_append,List.length_map];omega
  have hlow:(yJ prev b).length≤n:=by
   cases prev with
   |none=>exact Nat.zero_le _
   |some c=>
    unfold yJ
    by_cases hc:c.2.1<b.1
    ·simp only[if_pos hc];exact Nat.zero_le _
    ·simp only[if_neg hc];exact(hp c rfl).2
  have h1:=hzl (y:=b.1) (VH.low ⟨fun c hc=>(hp c hc).1⟩ b) hb.row
  have h2:(yB b rest).length≤2*n:=by
   have h3:=hzl (y:=b.2.1) hb.row yf.nil
   rw[List.length_nil] at h3
   cases rest with
   |nil=>exact Nat.le_trans h3 (by omega)
   |cons c r=>
    unfold yB
    by_cases hc:b.2.1<c.1
    ·simp only[if_pos hc];omega
    ·simp only[if_neg hc];exact Nat.zero_le _
  have hvl:(vt b).length=2*b.2.2.length:=by
   unfold vt
   rw[List.length_flatMap]
   simp only[List.length_cons,List.length_nil]
   rw[List.map_const',List.sum_replicate_nat];omega
  rw[wW]
  simp only[List.length_append,List.length_cons,hvl]
  rw[Nat.add_mul,Nat.one_mul]
  omega
section
variable {N:Nat} (hN:10000000000≤N)
include hN
theorem U7{l:List Bd}(hl:l.length≤200000000)(h:(fK l).length≤1000000000000000000):oC N (l.map toP)=some (NV l):=by
 unfold oC NV
 rw[J8 h,ob]
 by_cases h2:2000<(fK l).length
 ·rw[if_pos (by simp;omega),if_pos h2]
 ·rw[if_neg (by simp;omega),if_neg h2,Ae hN ⟨hl,fun b hb=>by have:=FU hb;omega,by omega⟩,ob]
end
open PX
def BC(l:List aK):Sq:=fun x y=>l.any fun r=>(decide (r.X0≤x)&&decide (x<r.X1))&&(decide (r.Y0≤y)&&decide (y<r.Y1))
theorem Cy{l:List aK}{x y:Int}:BC l x y=true↔QF x y l:=by
 unfold BC QF
 rw[List.any_eq_true]
 simp only[Bool.and_eq_true,decide_eq_true_eq]
def TB(I:Sq):Prop:=∀x y,I x y=true→(-1000000≤x∧x<1000000)∧(-1000000≤y∧y<1000000)
theorem Fx{I:Sq}(hI:TB I){e:Ed}(h:tY I e):((-1000000≤e.x∧e.x≤1000000)∧(-1000000≤e.y∧e.y≤1000000))∧((-1000000≤e.tx∧e.tx≤1000000)∧(-1000000≤e.ty∧e.ty≤1000000)):=by
 obtain⟨h1,_⟩:=h
 unfold Ed.tx Ed.ty
 cases hd:e.d<;>rw[hd] at h1<;>simp only[lq,Dir.dx,Dir.dy] at* <;>have:=hI _ _ h1<;>omega
theorem Ur{I:Sq}{L:List Sd}(h:oN I L)(hI:TB I)(hl:L.length≤100000000):Ht L:=by
 refine⟨hl,fun s hs=>?_⟩
 obtain⟨a1,_⟩:=Fx hI (h.fst hs)
 obtain⟨_,a2⟩:=Fx hI (h.last hs).1
 obtain⟨t1,t2,_⟩:=JF (h.pos s hs)
 rw[t1,t2] at a2
 refine⟨⟨?_,?_⟩,?_,?_⟩
 ·show -1000000000≤s.1.x∧s.1.x≤1000000000;omega
 ·show -1000000000≤s.1.y∧s.1.y≤1000000000;omega
 ·omega
 ·omega
def LB:List (List ak)→Int→Int
 |[],n=>n
 |p::l,n=>LB l (bF (n+(p.length:Int)))
theorem Po(y:List (List ak)):∀(suf:List (List ak)) (i:Nat) (n:Int),iU y suf i n=some (if 2000<LB suf n then([],2) else(y,0))
 |[],i,n=>by
  rw[iU.eq_1]
  unfold LB
  by_cases h:2000<n
  ·rw[if_pos (by simpa using h),if_pos h]
  ·rw[if_neg (by simpa using h),if_neg h]
 |p::suf,i,n=>by rw[iU.eq_2,Po y suf];rfl
theorem zH{l:List aK}(h:∀r∈l,NG r):TB (BC l):=fun _ _ hx=>Vf h (Cy.1 hx)
theorem Qs{l:List Bd}(h:∀b∈l,b.2.2≠[]):l.length≤(fK l).length∧∀b∈l,b.2.2.length≤(fK l).length:=by
 induction l with
 |nil=>exact⟨Nat.le_refl _,fun b hb=>nomatch hb⟩
 |cons b l ih=>
  obtain⟨i1,i2⟩:=ih fun c hc=>h c (by simp[hc])
  have hb:=List.length_pos_iff.2 (h b (by simp))
  rw[pJ,List.length_append,qP]
  refine⟨by simp only[List.length_cons];omega,fun c hc=>?_⟩
  rcases List.mem_cons.1 hc with rfl|hc
  ·omega
  ·have:=i2 c hc;omega
def Rv(l:List aK)(ls:List (List (Int×Int))):List (List ak)×Int:=if 2000<LB (ls.map (List.map iA)) 0 then([],2) else(ls.map (List.map iA),0)
theorem LD{N:Nat}(hN:10000000000≤N){l:List aK}(h:lI l=0):∃ls,yU (BC l) ls∧(∃B,wD (BC l) B)∧ls.length≤100000000∧ls.flatten.length≤100000000∧(jP N l).bind (fun y101=>mD N y101)=some (ls.map (List.map iA)):=by
 obtain⟨_,h2,h3,h4⟩:=tu h
 have hne:=NG.ne h3
 obtain⟨b1,b2⟩:=EF hne
 obtain⟨lo,hc⟩:=b1.can
 obtain⟨f1,f2⟩:=Qs (l:=rO l) fun b hb=>(hc.mem b hb).2.2
 rw[h4] at f1 f2
 have hrow:∀b∈rO l,b.2.2.length≤2000:=fun b hb=>by have:=f2 b hb;omega
 have hok:∀b∈rO l,PI b:=fun b hb=>⟨(hc.mem b hb).2.1,by have:=hrow b hb;omega,b1.row b hb⟩
 have hI:∀x y,BC l x y=true↔mP x (rowAt (rO l) y):=fun x y=>Cy.trans (b2 x y).symm
 have sys:=Mt (I:=BC l) b1 (fun b hb=>by have:=hrow b hb;omega) hI
 have hlen:=FI (n:=2000) (by omega) (l:=rO l) (prev:=none) (fun b hb=>⟨hok b hb,hrow b hb⟩) (fun c hc=>nomatch hc)
 have hlim:=Ur sys (zH h3) (by omega)
 obtain⟨ls,l1,l2,l4,l3⟩:=Ns sys hlim (N:=N) (by omega)
 refine⟨ls,l1,sys.fin,by omega,by omega,?_⟩
 rw[CO hN (by omega) (fun r hr=>(h3 r hr).r9),ob]
 unfold mD
 rw[P6 hN (by omega) (fun b hb=>hok b hb) (by omega),ob]
 exact l3
theorem J7{N:Nat}(hN:10000000000≤N)(l:List aK):∃y,nN N l=some y∧(lI l≠0→y=([],lI l))∧(lI l=0→∃ls,yU (BC l) ls∧(∃B,wD (BC l) B)∧ls.length≤100000000∧ls.flatten.length≤100000000∧y=Rv l ls):=by
 unfold nN
 rw[Ar hN,ob]
 by_cases h:lI l=0
 ·rw[if_neg (by simpa using h)]
  obtain⟨ls,l1,l4,l2,l5,l3⟩:=LD hN h
  refine⟨Rv l ls,?_,fun hh=>absurd h hh,fun _=>⟨ls,l1,l4,l2,l5,rfl⟩⟩
  obtain⟨y,y1,y2⟩:=Option.bind_eq_some_iff.1 l3
  rw[y1,ob,y2,ob,Po];rfl
 ·rw[if_pos (by simpa using h)]
  exact⟨_,rfl,fun _=>rfl,fun hh=>absurd hh h⟩
theorem LA:∀(suf:List (List ak)) (n:Nat),n+suf.flatten.length≤100000000→LB suf (n:Int)=((n+suf.flatten.length:Nat):Int)
 |[],n,_=>by simp[LB]
 |l::suf,n,hn=>by
  rw[List.flatten_cons,List.length_append] at hn
  unfold LB
  have e:bF ((n:Int)+(l.length:Int))=((n+l.length:Nat):Int):=by rw[bX (by omega) (by omega)];omega
  rw[e,LA suf (n+l.length) (by omega),List.flatten_cons,List.length_append]
  omega
open PX
theorem KO{l:List (Int×Int)}{p0:Int×Int}(h0:l.head?=some p0):∀(suf pre:List (Int×Int)),l=pre++suf→(∀s∈Ip p0 suf,(s.1.1=s.2.1)≠(s.1.2=s.2.2))→Cg (l.map iA) (suf.map iA) pre.length=true
 |[],_,_,_=>rfl
 | x::r,pre,he,h=>by
  have hlen:l.length=pre.length+r.length+1:=by rw[he];simp;omega
  have hnx:(l.map iA).getD ((pre.length+1)%(l.map iA).length) ⟨0,0⟩=iA (r.headD p0):=by
   rw[List.length_map]
   cases r with
   |nil=>
    rw[hlen,List.length_nil,Nat.add_zero,Nat.mod_self]
    cases l with
    |nil=>cases h0
    |cons y t=>cases h0;rfl
   |cons y t=>
    rw[Nat.mod_eq_of_lt (by rw[hlen];simp),List.getD_eq_getElem?_getD,List.getElem?_map,he,List.getElem?_append_right (by omega)]
    simp
  rw[List.map_cons,Cg,hnx]
  have hx:=h (x,r.headD p0) List.mem_cons_self
  have ih:=KO h0 r (pre++[x]) (by rw[he];simp) (fun s hs=>h s (List.mem_cons_of_mem _ hs))
  rw[List.length_append,List.length_singleton] at ih
  rw[if_neg,ih]
  intro hb
  apply hx
  simp only[iA,beq_iff_eq] at hb
  show(x.1=(r.headD p0).1)=(x.2=(r.headD p0).2)
  generalize r.headD p0=q at hb ⊢
  rw[Bool.eq_iff_iff,beq_iff_eq,beq_iff_eq] at hb
  exact propext hb
def tL(l:List ak):Prop:=4≤l.length∧(∀q∈l,(-1000000≤q.X∧q.X≤1000000)∧(-1000000≤q.Y∧q.Y≤1000000))∧Cg l l 0=true
theorem Ig{I:Sq}{ls:List (List (Int×Int))}(ho:yU I ls)(hf:∃B,wD I B)(hI:TB I):∀l∈ls.map (List.map iA),tL l:=by
 intro l0 hl0
 obtain⟨B,hB⟩:=hf
 obtain⟨l,hl,rfl⟩:=List.mem_map.1 hl0
 obtain⟨e,he,hle⟩:=ho.is l hl
 have hd:=hle.head hB he
 obtain⟨n,hn,hl2⟩:=hle
 have hr:=Jp hB he hn
 rw[←hl2] at hr
 refine⟨by rw[List.length_map];exact hr.len,fun q hq=>?_,?_⟩
 ·obtain⟨z,hz,rfl⟩:=List.mem_map.1 hq
  obtain⟨f,hf,rfl⟩:=hr.pts z hz
  have:=(Fx hI hf).1
  exact this
 ·obtain⟨r,hr2⟩:=hd
  exact KO (p0:=e.p) (by rw[hr2];rfl) l [] rfl hr.ax
theorem uL{x:aB}:∀{o:List (List ak)} {d:Int},x∈jl o d→(∃l∈o,x=ou l)∨x=oq 1∨x=oq 2
 |[],_,h=>by cases h
 | l ::t,d,h=>by
  unfold jl at h
  have hk:rC l=1∨rC l=2:=by unfold rC;split<;>simp
  split at h
  ·rcases List.mem_cons.1 h with rfl|h
   ·exact .inl ⟨l,List.mem_cons_self,rfl⟩
   ·rcases uL h with⟨m,hm,e⟩|h
    ·exact .inl ⟨m,List.mem_cons_of_mem _ hm,e⟩
    ·exact .inr h
  ·rcases List.mem_cons.1 h with rfl|h
   ·rcases hk with h|h
    ·exact .inr (.inl (by rw[h]))
    ·exact .inr (.inr (by rw[h]))
   ·rcases List.mem_cons.1 h with rfl|h
    ·exact .inl ⟨l,List.mem_cons_self,rfl⟩
    ·rcases uL h with⟨m,hm,e⟩|h
     ·exact .inl ⟨m,List.mem_cons_of_mem _ hm,e⟩
     ·exact .inr h
theorem OY:∀{o:List (List ak)},(∀l∈o,4≤l.length)→4*o.length≤o.flatten.length
 |[],_=>by simp
 |l::t,h=>by
  rw[List.length_cons,List.flatten_cons,List.length_append]
  have h1:=h l List.mem_cons_self
  have h2:=OY (o:=t) (fun m hm=>h m (List.mem_cons_of_mem _ hm))
  omega
theorem zO{l:List ak}:∀{o:List (List ak)},l∈o→l.length≤o.flatten.length
 |m::t,h=>by
  rw[List.flatten_cons,List.length_append]
  rcases List.mem_cons.1 h with rfl|h
  ·omega
  ·have:=zO h;omega
def RA(o:List (List ak)):ed:=⟨1,[],jl o 1⟩
theorem of_steps{x:aB}{o:List (List ak)}(h:x∈(RA o).Steps):x.Steps=[]∧x.NX=0∧x.NY=0∧x.Name.size=0∧x.At=⟨0,0⟩∧(x.Points=[]∨x.Points∈o):=by
 rcases uL h with⟨l,hl,rfl⟩|rfl|rfl
 ·exact⟨rfl,rfl,rfl,rfl,rfl,.inr hl⟩
 ·exact⟨rfl,rfl,rfl,rfl,rfl,.inl rfl⟩
 ·exact⟨rfl,rfl,rfl,rfl,rfl,.inl rfl⟩
theorem Xk{N:Nat}(hN:20000000000≤N)(r:List aK):∃y,nN N r=some y∧(y.2≠0→uy N r=some (⟨0,[],[]⟩,y.2))∧
  (y.2=0→lI r=0∧∃ls o,yU (BC r) ls∧(∃B,wD (BC r) B)∧y.1=ls.map (List.map iA)∧vw y.1 o∧(∀l∈o,tL l)∧o.flatten.length≤2000∧uy N r=some (RA o,0)):=by
 obtain⟨y,y1,y2,y3⟩:=J7 (N:=N) (by omega) r
 refine⟨y,y1,fun h=>?_,fun h=>?_⟩
 ·unfold uy
  rw[y1,ob,if_pos (by simpa using h)]
 ·have hr:lI r=0:=by
   apply Classical.byContradiction
   intro hn
   rw[y2 hn] at h
   exact hn h
  obtain⟨ls,l1,l2,l3,l4,rfl⟩:=y3 hr
  have hc:¬2000<LB (ls.map (List.map iA)) 0:=by
   intro hc
   rw[Rv,if_pos hc] at h
   cases h
  have hfl:(ls.map (List.map iA)).flatten.length=ls.flatten.length:=by rw[←List.map_flatten,List.length_map]
  have hv:=LA (ls.map (List.map iA)) 0 (by rw[hfl];omega)
  rw[show((0:Nat):Int)=0 from rfl] at hv
  rw[hv] at hc
  rw[Rv,if_neg (by rw[hv];exact hc)]
  have hg:=Ig l1 l2 (zH (tu hr).2.2.1)
  have Y4:(ls.map (List.map iA)).flatten.length≤2000:=by omega
  obtain⟨o,o1,o2⟩:=TA hN (ls:=ls.map (List.map iA)) (by rw[List.length_map];exact l3) (fun l hl=>by have:=zO hl;omega)
  refine⟨hr,ls,o,l1,l2,rfl,o1,fun l hl=>hg l ((o1.mem l).1 hl),by rw[o1.len.flatten.length_eq];exact Y4,?_⟩
  unfold uy
  rw[y1,Rv,if_neg (by rw[hv];exact hc),ob,if_neg (by simp)]
  exact o2
def Dp:List ak→List Int
 |[]=>[]
 |q::l=>q.X::q.Y::Dp l
def Kb(l:List ak):List UInt8:=((Dp l).map fun n=>32::it n).flatten
def Mc(s:aB):List UInt8:=if s.Kind=1 then[100,97,114,107] else if s.Kind=2 then[99,108,101,97,114] else[97,114,101,97]++Kb s.Points
def txt:List aB→List UInt8
 |[]=>[]
 |s::l=>Mc s++10::txt l
def VG(x:aB):Prop:=x=oq 1∨x=oq 2∨∃l,x=ou l∧l.length≤2000∧∀q∈l,NB q.X∧NB q.Y
theorem Gg{n:Int}(h:NB n):(it n).length≤10:=by
 obtain⟨d,_,_,_,h4,_,h5⟩:=Cw h
 rcases h5 with⟨_,e⟩|⟨_,e⟩<;>rw[e]
 ·rw[List.length_cons];omega
 ·omega
theorem MU:∀{l:List ak},(∀q∈l,NB q.X∧NB q.Y)→∀n∈Dp l,NB n
 |q::l,h,n,hn=>by
  have hq:=h q (by simp)
  rw[Dp] at hn
  rcases List.mem_cons.1 hn with rfl|hn
  ·exact hq.1
  rcases List.mem_cons.1 hn with rfl|hn
  ·exact hq.2
  exact MU (fun x hx=>h x (by simp[hx])) n hn
theorem Co:∀l:List ak,(Dp l).length=2*l.length
 |[]=>rfl
 |q::l=>by rw[Dp];simp[Co l];omega
theorem KW(q:ak)(l:List ak):Kb (q::l)=32::(it q.X++32::(it q.Y++Kb l)):=by simp[Kb,Dp]
theorem EN:∀{l:List ak},(∀q∈l,NB q.X∧NB q.Y)→(Kb l).length≤22*l.length
 |[],_=>by simp[Kb,Dp]
 |q::l,h=>by
  have h1:=Gg (h q (by simp)).1
  have h2:=Gg (h q (by simp)).2
  have:=EN (l:=l) (fun x hx=>h x (by simp[hx]))
  rw[KW]
  simp;omega
theorem ZC{n:Int}{a:List UInt8}(h:NB n)(ha:a.length≤1000000):x8 (mJ a) (nb n)=some (mJ (a++it n)):=xq (by have:=Gg h;omega)
theorem Io:∀(l:List ak) (i:Nat) (a:List UInt8),a.length+22*l.length≤500000→(∀q∈l,NB q.X∧NB q.Y)→jT l i (mJ a)=some (mJ (a++Kb l))
 |[],i,a,_,_=>by simp[jT,Kb,Dp]
 |q::l,i,a,ha,h=>by
  have hx:=(h q (by simp)).1
  have hy:=(h q (by simp)).2
  have h1:=Gg hx
  have h2:=Gg hy
  rw[List.length_cons] at ha
  have s1:x8 ⟨#[32]⟩ (nb q.X)=some (mJ (32::it q.X)):=xq (a:=[32]) (by simp;omega)
  have s2:x8 (mJ (32::it q.X)) ⟨#[32]⟩=some (mJ (32::it q.X++[32])):=xq (b:=[32]) (by simp;omega)
  rw[jT,Gc hx,ob,s1,ob,s2,ob,Gc hy,ob,ZC hy (by simp;omega),ob,xq (by simp;omega),ob,Io l (i+1) _ (by simp;omega) (fun x hx=>h x (by simp[hx])),KW]
  simp
theorem N8{x:aB}(h:VG x):(Mc x).length≤44010:=by
 rcases h with rfl|rfl|⟨l,rfl,hl,hq⟩
 ·decide
 ·decide
 ·show([97,114,101,97]++Kb l).length≤_
  have:=EN hq
  rw[List.length_append,show([97,114,101,97]:List UInt8).length=4 from rfl];omega
theorem Kh:∀(S:List aB) (i:Nat) (a:List UInt8),a.length+44011*S.length≤140737488355328→(∀x∈S,VG x)→fO S i (mJ a)=some (mJ (a++txt S))
 |[],i,a,_,_=>by simp[fO,txt]
 | x::S,i,a,ha,h=>by
  have hx:=h x (by simp)
  have hl:=N8 hx
  rw[List.length_cons] at ha
  have ih:=Kh S (i+1) (a++(Mc x++[10])) (by simp;omega) (fun y hy=>h y (by simp[hy]))
  have e:a++txt (x::S)=a++(Mc x++[10])++txt S:=by simp[txt]
  rw[e,←ih]
  have key:∀b:List UInt8,b=Mc x++[10]→(Re (mJ a) (mJ b)).bind (fO S (i+1))=fO S (i+1) (mJ (a++(Mc x++[10]))):=fun b hb=>by
   rw[hb,Rc (by simp;omega)];rfl
  rcases hx with rfl|rfl|⟨l,rfl,hl,hq⟩
  ·exact key [100,97,114,107,10] rfl
  ·exact key [99,108,101,97,114,10] rfl
  ·have hp:rZ (ou l).Points=some (mJ (Kb l)):=Io l 0 [] (by simp;omega) hq
   have hn:=EN hq
   have s1:x8 ⟨#[97,114,101,97]⟩ (mJ (Kb l))=some (mJ ([97,114,101,97]++Kb l)):=xq (a:=[97,114,101,97]) (by simp;omega)
   have s2:x8 (mJ ([97,114,101,97]++Kb l)) ⟨#[10]⟩=some (mJ ([97,114,101,97]++Kb l++[10])):=xq (b:=[10]) (by simp;omega)
   show((rZ (ou l).Points).bind _)=_
   rw[hp,ob,s1,ob,s2,ob]
   exact key _ rfl
def C8(S:List aB):List UInt8:=[117,110,105,116,32,49,10]++txt S
theorem Gf:it 1=[49]:=(Lib.itoa_nonneg 1).trans (Lib.decDigits_one (by omega))
theorem U8{N:Nat}{S:List aB}(hc:ib (N+1) ⟨1,[],S⟩=some 0)(hl:S.length≤3000)(h:∀x∈S,VG x):qZ (N+1) ⟨1,[],S⟩=some (if 200000<(C8 S).length then(⟨#[]⟩,2) else(mJ (C8 S),0)):=by
 have s1:x8 ⟨#[117,110,105,116,32]⟩ (nb 1)=some (mJ [117,110,105,116,32,49]):=by
  have:=xq (a:=[117,110,105,116,32]) (b:=it 1) (by rw[Gf];decide)
  rw[Gf] at this
  unfold nb
  rw[Gf];exact this
 have s2:x8 (mJ [117,110,105,116,32,49]) ⟨#[10]⟩=some (mJ [117,110,105,116,32,49,10]):=xq (a:=[117,110,105,116,32,49]) (b:=[10]) (by decide)
 have s3:Re ByteArray.empty (mJ [117,110,105,116,32,49,10])=some (mJ [117,110,105,116,32,49,10]):=Rc (a:=[]) (b:=[117,110,105,116,32,49,10]) (by decide)
 have s4:oG (N+1) (mJ [117,110,105,116,32,49,10]) S=some (mJ (C8 S)):=Kh S 0 _ (by simp;omega) h
 unfold qZ
 rw[hc,ob,if_neg (by decide),Gc (n:=1) ⟨by decide,by decide⟩,ob,s1,ob,s2,ob,s3,ob]
 show nW (N+1) _ _ [] 0=_
 rw[nW.eq_1,s4,ob]
 unfold Yu XT
 rw[ob,nR]
 by_cases hc:200000<(C8 S).length
 ·rw[if_pos (by simp;omega),if_pos hc]
 ·rw[if_neg (by simp;omega),if_neg hc,if_pos (by simp[C8])]
  rfl
theorem MO(S:List aB)(hS:S.length≤4000)(b c:Bool)(u:Int)(x:aB):kM ⟨⟨u,[],S⟩,b,[],c⟩ x=some (S++[x],[]):=by
 unfold kM
 rw[if_neg (by show ¬decide (0≤bF (((0:Nat):Int)-1))=true;decide),lm (by simp;omega),ob,jw,ob]
 unfold sets
 rw[if_pos ⟨by omega,by simp⟩]
 simp
theorem zR{α:Type}{k:α}{r:List α}:idx (k::r) 0=some k:=rfl
theorem pO(a b:List UInt8):sw (mJ a) (mJ b)=decide (a=b):=by rw[Jm,pW,pW]
theorem Rs{r:mO}{m:List Int}(hm:m.length≤100000):∀(l:List ak) (pre:List Int) (a:List ak) (n:Nat),m=pre++Dp l→l.length<n→a.length+l.length≤100000→
  gH r m n a (pre.length:Int)=ja r (a++l)
 |[],pre,a,n+1,he,_,_=>by
  rw[gH.eq_2,if_neg (by rw[he];simp[Dp])]
  simp
 | q::l,pre,a,n+1,he,hn,ha=>by
  have hlen:m.length=pre.length+(2*l.length+2):=by rw[he,List.length_append,Co,List.length_cons];omega
  simp at hn ha
  have i1:idx m (pre.length:Int)=some q.X:=by rw[he];exact jw pre (q.Y::Dp l) q.X
  have i2:idx m (bF ((pre.length:Int)+1))=some q.Y:=by
   rw[bX (by omega) (by omega),he,show pre++Dp (q::l)=(pre++[q.X])++q.Y::Dp l by simp[Dp],show(pre.length:Int)+1=((pre++[q.X]).length:Int) by simp]
   exact jw _ _ _
  rw[gH.eq_2,if_pos (by simp;omega),i1,ob,i2,ob,lm (by simp;omega),ob,bX (by omega) (by omega)]
  have ih:=Rs (r:=r) hm l (pre++[q.X,q.Y]) (a++[⟨q.X,q.Y⟩]) n (by rw[he];simp[Dp]) (by omega) (by simp;omega)
  rw[show((pre++[q.X,q.Y]).length:Int)=(pre.length:Int)+2 by simp] at ih
  rw[ih]
  simp
theorem Ia{a:List UInt8}(ha:a.length≤100000)(h:(32:UInt8)∉a):yD (mJ a) ⟨#[32]⟩=some [mJ a]:=FB (r:=[]) (by omega) (by simp[jn]) (by simpa using h)
theorem RI{N:Nat}(hN:3000≤N){S:List aB}(hS:S.length≤4000)(c:Bool){x:aB}(h:VG x):ko N ⟨⟨1,[],S⟩,true,[],c⟩ (mJ (Mc x))=some (true,1,true,true,S++[x],[]):=by
 unfold ko
 rcases h with rfl|rfl|⟨l,rfl,hl,hq⟩
 ·have e:Mc (oq 1)=[100,97,114,107]:=rfl
  rw[e,Ia (by decide) (by decide),ob,zR,ob]
  have e1:sw (mJ [100,97,114,107]) ⟨#[117,110,105,116]⟩=false:=pO _ [117,110,105,116]
  have e2:sw (mJ [100,97,114,107]) ⟨#[116,111,111,108]⟩=false:=pO _ [116,111,111,108]
  have e3:sw (mJ [100,97,114,107]) ⟨#[100,97,114,107]⟩=true:=pO _ [100,97,114,107]
  rw[e1,if_neg (by decide),ob,e2,ob,if_neg (by decide),if_neg (by simp),e3,if_pos rfl,MO S hS]
  rfl
 ·have e:Mc (oq 2)=[99,108,101,97,114]:=rfl
  rw[e,Ia (by decide) (by decide),ob,zR,ob]
  have e1:sw (mJ [99,108,101,97,114]) ⟨#[117,110,105,116]⟩=false:=pO _ [117,110,105,116]
  have e2:sw (mJ [99,108,101,97,114]) ⟨#[116,111,111,108]⟩=false:=pO _ [116,111,111,108]
  have e3:sw (mJ [99,108,101,97,114]) ⟨#[100,97,114,107]⟩=false:=pO _ [100,97,114,107]
  have e4:sw (mJ [99,108,101,97,114]) ⟨#[99,108,101,97,114]⟩=true:=pO _ [99,108,101,97,114]
  rw[e1,if_neg (by decide),ob,e2,ob,if_neg (by decide),if_neg (by simp),e3,if_neg (by decide),e4,if_pos rfl,MO S hS]
  rfl
 ·have e:Mc (ou l)=jn [97,114,101,97] ((Dp l).map it):=by
   show[97,114,101,97]++Kb l=_
   unfold jn Kb
   rw[List.map_map];rfl
  have hn:=EN hq
  have hb:=MU hq
  have hsp:yD (mJ (Mc (ou l))) ⟨#[32]⟩=some (mJ [97,114,101,97]::(Dp l).map nb):=by
   rw[FB (w:=[97,114,101,97]) (r:=(Dp l).map it) (by have:=N8 (.inr (.inr ⟨l,rfl,hl,hq⟩));omega) e fun y hy=>by
    rcases List.mem_cons.1 hy with rfl|hy
    ·decide
    ·obtain⟨n,hn,rfl⟩:=List.mem_map.1 hy
     have:=(Vw (hb n hn)).1
     unfold nb at this
     rwa [pW] at this]
   rw[List.map_cons,List.map_map];rfl
  have e1:sw (mJ [97,114,101,97]) ⟨#[117,110,105,116]⟩=false:=pO _ [117,110,105,116]
  have e2:sw (mJ [97,114,101,97]) ⟨#[116,111,111,108]⟩=false:=pO _ [116,111,111,108]
  have e3:∀w:List UInt8,w.head?≠some 97→w≠[]→sw (mJ (Mc (ou l))) (mJ w)=false:=fun w h1 h2=>by
   rw[pO,decide_eq_false_iff_not]
   intro hh
   rw[←hh] at h1
   exact h1 rfl
  have e4:sw (mJ [97,114,101,97]) ⟨#[117,115,101]⟩=false:=pO _ [117,115,101]
  have f1:sw (mJ (Mc (ou l))) ⟨#[100,97,114,107]⟩=false:=e3 [100,97,114,107] (by decide) (by decide)
  have f2:sw (mJ (Mc (ou l))) ⟨#[99,108,101,97,114]⟩=false:=e3 [99,108,101,97,114] (by decide) (by decide)
  have f3:sw (mJ (Mc (ou l))) ⟨#[100,111,110,101]⟩=false:=e3 [100,111,110,101] (by decide) (by decide)
  have hcut:cut (mJ [97,114,101,97]::(Dp l).map nb) 1 ((mJ [97,114,101,97]::(Dp l).map nb).length:Int)=some ((Dp l).map nb):=by
   unfold cut
   rw[if_pos ⟨by omega,by simp;omega,by omega⟩]
   simp
   exact List.take_of_length_le (by simp)
  have hnum:nX ((Dp l).map nb)=some (Dp l,true):=BL (Dp l) 0 [] (by rw[Co];simp;omega) hb
  have hw:kV N ⟨⟨1,[],S⟩,true,[],true⟩ (mJ [97,114,101,97]) (Dp l)=some (true,S++[ou l],[]):=by
   have g1:sw (mJ [97,114,101,97]) ⟨#[109,111,118,101]⟩=false:=pO _ [109,111,118,101]
   have g2:sw (mJ [97,114,101,97]) ⟨#[102,108,97,115,104]⟩=false:=pO _ [102,108,97,115,104]
   have g3:sw (mJ [97,114,101,97]) ⟨#[108,105,110,101]⟩=false:=pO _ [108,105,110,101]
   have g4:sw (mJ [97,114,101,97]) ⟨#[97,114,101,97]⟩=true:=pO _ [97,114,101,97]
   unfold kV ik
   rw[g1,if_neg (by decide),g2,if_neg (by decide),g3,if_neg (by decide),g4,if_pos rfl,if_neg (by
    rw[Co]
    have:Int.tmod ((2*l.length:Nat):Int) 2=((2*l.length%2:Nat):Int):=rfl
    rw[this,Nat.mul_mod_right];decide)]
   have:=Rs (r:=⟨⟨1,[],S⟩,true,[],true⟩) (m:=Dp l) (by rw[Co];omega) l [] [] N rfl (by omega) (by simp;omega)
   refine Eq.trans this ?_
   unfold ja
   rw[MO S hS];rfl
  rw[hsp,ob,zR,ob,e1,if_neg (by decide),ob,e2,ob,if_neg (by decide),if_neg (by simp),f1,if_neg (by decide),f2,if_neg (by decide),f3,if_neg (by decide),ob,e4,if_neg (by decide),hcut,ob,hnum,ob,if_pos rfl,ob,hw]
  rfl
theorem V9{x:aB}(h:VG x):(10:UInt8)∉Mc x:=by
 rcases h with rfl|rfl|⟨l,rfl,hl,hq⟩
 ·decide
 ·decide
 ·have hb:=MU hq
  show(10:UInt8)∉[97,114,101,97]++Kb l
  intro hm
  rcases List.mem_append.1 hm with hm|hm
  ·exact absurd hm (by decide)
  ·unfold Kb at hm
   obtain⟨m,hm1,hm2⟩:=List.mem_flatten.1 hm
   obtain⟨n,hn,rfl⟩:=List.mem_map.1 hm1
   have:=(Vw (hb n hn)).2
   unfold nb at this
   rw[pW] at this
   rcases List.mem_cons.1 hm2 with h|h
   ·exact absurd h (by decide)
   ·exact this h
theorem Om{N:Nat}(hN:3000≤N){S:List aB}(hc:ib N ⟨1,[],S⟩=some 0)(hl:S.length≤4000):∀(T pre:List aB) (m:Nat) (c:Bool) (k:Int),S=pre++T→T.length<m→(txt T).length≤200000→(∀x∈T,VG x)→lH N m [] 1 pre true c (mJ (txt T)) k=some (⟨1,[],S⟩,0,0)
 |[],pre,m+1,c,k,he,_,_,_=>by
  rw[List.append_nil] at he
  subst he
  have e:sw (mJ (txt [])) ⟨#[]⟩=true:=pO _ []
  rw[lH.eq_2,e,if_neg (by decide),if_neg (by decide),hc]
  rfl
 | x::T,pre,m+1,c,k,he,hm,ht,h=>by
  have hx:=h x (by simp)
  simp at hm
  have e:sw (mJ (txt (x::T))) ⟨#[]⟩=false:=by
   refine(pO _ []).trans ?_
   simp[txt]
  have hp:pre.length≤4000:=by rw[he] at hl;simp at hl;omega
  rw[lH.eq_2,e,if_pos (by rfl)]
  rw[txt] at ht ⊢
  rw[Sn (V9 hx) ht,ob,if_neg (by simp),RI hN hp c hx,ob,if_neg (by simp)]
  exact Om hN hc hl T (pre++[x]) m true _ (by rw[he];simp) hm (by simp at ht;omega) (fun y hy=>h y (by simp[hy]))
theorem Va{N:Nat}(hN:5000≤N){S:List aB}(hc:ib N ⟨1,[],S⟩=some 0)(hl:S.length≤4000)(h:∀x∈S,VG x)(ht:(C8 S).length≤200000):uW N (mJ (C8 S))=some (⟨1,[],S⟩,0,0):=by
 obtain⟨M,rfl⟩:∃n,N=n+1:=⟨N-1,by omega⟩
 unfold uW
 rw[if_neg (by rw[nR];simp;omega)]
 have e:sw (mJ (C8 S)) ⟨#[]⟩=false:=by
  refine(pO _ []).trans ?_
  simp[C8]
 have e0:C8 S=[117,110,105,116,32,49]++10::txt S:=rfl
 have hsp:yD (mJ [117,110,105,116,32,49]) ⟨#[32]⟩=some [mJ [117,110,105,116],nb 1]:=by
  have:=FB (w:=[117,110,105,116]) (r:=[it 1]) (s:=[117,110,105,116,32,49]) (by decide) (by rw[Gf];rfl) (by rw[Gf];decide)
  exact this
 have hline:ko (M+1) ⟨⟨0,[],[]⟩,false,[],false⟩ (mJ [117,110,105,116,32,49])=some (true,1,true,false,[],[]):=by
  have e1:sw (mJ [117,110,105,116]) ⟨#[117,110,105,116]⟩=true:=pO _ [117,110,105,116]
  have hnum:nX [nb 1]=some ([1],true):=BL [1] 0 [] (by decide) (by intro n hn;simp at hn;subst hn;exact⟨by decide,by decide⟩)
  unfold ko
  rw[hsp,ob,zR,ob,e1,if_pos rfl,ob,if_pos rfl]
  unfold oZ
  rw[zR,ob,e1,if_pos rfl]
  show(((nX [nb 1]).bind _).bind _)=_
  rw[hnum];rfl
 rw[lH.eq_2,e,if_pos (by rfl),e0,Sn (by decide) (by rw[←e0];exact ht),ob,if_neg (by simp),hline,ob,if_neg (by simp)]
 exact Om (by omega) hc hl S [] M false _ rfl (by omega) (by rw[e0] at ht;simp at ht;omega) h
theorem WZ{S:List aB}{l:List ak}(hg:tL l)(hl:l.length≤2000)(d:Int):kY (⟨1,[],S⟩:ed) (ou l) d=some 0:=by
 have hu:1≤(⟨1,[],S⟩:ed).Unit∧(⟨1,[],S⟩:ed).Unit≤1000:=⟨by show(1:Int)≤1;decide,by show(1:Int)≤1000;decide⟩
 have h1:nL (ou l).Kind 1 8=some true:=rfl
 have h2:lM (ou l).Kind=some ⟨false,false,true,false⟩:=rfl
 have h3:mG (ou l).At (⟨1,[],S⟩:ed).Unit=some true:=by rw[BA hu];rfl
 have h4:(l.any fun q=> !Gq q (⟨1,[],S⟩:ed).Unit)=false:=by
  rw[List.any_eq_false]
  intro q hq h
  have:=hg.2.1 q hq
  unfold Gq R7 at h
  simp only[Bool.not_eq_true',Bool.and_eq_false_iff,decide_eq_false_iff_not] at h
  omega
 have h5:dF (ou l).Points (fun z0=>iO z0 (⟨1,[],S⟩:ed))=some false:=by
  show dF l _=_
  rw[Er hu,h4]
 have h6:oO (ou l).Points=some true:=by
  show oO l=_
  rw[TF (by omega),if_neg (by have:=hg.1;omega),hg.2.2]
 have hn:(sw (ou l).Name ⟨#[]⟩)=true:=KG _
 have ha:jV (ou l).At (ak.mk 0 0)=true:=vI.2 rfl
 have hp:decide (2000<((ou l).Points.length:Int))=false:=by
  show decide (2000<(l.length:Int))=false
  rw[decide_eq_false_iff_not];omega
 have hs:(((ou l).NX !=0||(ou l).NY !=0)||decide (0<((ou l).Steps.length:Int)))=false:=rfl
 unfold kY
 rw[h1,ob,if_neg (by decide),h2,ob]
 simp only[iV,hn,ha,h3,h5,h6,hp,hs,ob,Bool.not_true,Bool.not_false,Bool.and_false,Bool.false_and,Bool.true_and,Bool.false_eq_true,if_false,if_true]
theorem SC{S:List aB}{k:Int}(hk:k=1∨k=2)(d:Int):kY (⟨1,[],S⟩:ed) (oq k) d=some 0:=by
 have hu:1≤(⟨1,[],S⟩:ed).Unit∧(⟨1,[],S⟩:ed).Unit≤1000:=⟨by show(1:Int)≤1;decide,by show(1:Int)≤1000;decide⟩
 have h1:nL (oq k).Kind 1 8=some true:=by rcases hk with rfl|rfl<;>rfl
 have h2:lM (oq k).Kind=some ⟨false,false,false,false⟩:=by rcases hk with rfl|rfl<;>rfl
 have h3:mG (oq k).At (⟨1,[],S⟩:ed).Unit=some true:=by rw[BA hu];rfl
 have h5:dF (oq k).Points (fun z0=>iO z0 (⟨1,[],S⟩:ed))=some false:=by
  show dF [] _=_
  rw[Er hu];rfl
 have hn:(sw (oq k).Name ⟨#[]⟩)=true:=KG _
 have ha:jV (oq k).At (ak.mk 0 0)=true:=vI.2 rfl
 have hp:decide (2000<((oq k).Points.length:Int))=false:=rfl
 have hq:decide (0<((oq k).Points.length:Int))=false:=rfl
 have hs:(((oq k).NX !=0||(oq k).NY !=0)||decide (0<((oq k).Steps.length:Int)))=false:=rfl
 unfold kY
 rw[h1,ob,if_neg (by decide),h2,ob]
 simp only[iV,hn,ha,h3,h5,hp,hq,hs,ob,Bool.not_true,Bool.not_false,Bool.and_false,Bool.false_and,Bool.true_and,Bool.false_eq_true,if_false,if_true]
theorem countP:∀(l:List aB) (i n:Nat),(∀x∈l,x.Steps=[])→n+l.length≤1000→jQ l i (n:Int)=some ((n+l.length:Nat):Int)
 |[],_,_,_,_=>rfl
 |x::t,i,n,h,hl=>by
  simp only[List.length_cons] at hl
  rw[jQ,h x List.mem_cons_self,if_neg (by decide)]
  unfold qz
  rw[bX (by omega) (by omega),if_neg (by rw[decide_eq_true_eq];omega),show(n:Int)+1=((n+1:Nat):Int) by omega,countP t (i+1) (n+1) (fun y hy=>h y (List.mem_cons_of_mem _ hy)) (by omega),List.length_cons]
  congr 2;omega
theorem SB{N:Nat}{p:ed}{d:Int}:∀(l:List aB) (i:Nat),(∀x∈l,x.Steps=[]∧kY p x d=some 0)→ji p d (lG (N+1)) l i=some 0
 |[],_,_=>rfl
 |x::t,i,h=>by
  obtain⟨h1,h2⟩:=h x List.mem_cons_self
  have hz:∀e,lG (N+1) p [] e=some 0:=fun e=>rfl
  rw[ji,h2,ob,if_neg (by decide),h1,hz,ob,if_neg (by decide)]
  exact SB t (i+1) (fun y hy=>h y (List.mem_cons_of_mem _ hy))
def Tz(x:aB):Prop:=x=oq 1∨x=oq 2∨∃l,x=ou l∧tL l∧l.length≤2000
theorem AZ{N:Nat}{S:List aB}(hN:10≤N)(h:∀x∈S,Tz x)(hs:S.length≤1000):ib N ⟨1,[],S⟩=some 0:=by
 obtain⟨M,rfl⟩:∃n,N=n+2:=⟨N-2,by omega⟩
 have hw:nL (1:Int) 1 1000=some true:=rfl
 have hz:∀x∈S,x.Steps=[]:=fun x hx=>by rcases h x hx with rfl|rfl|⟨l,rfl,_⟩<;>rfl
 have hc:tT (M+2) S=some ((0+S.length:Nat):Int):=countP S 0 0 hz (by omega)
 have hk:lG (M+2) ⟨1,[],S⟩ S 0=some 0:=
  SB (N:=M) S 0 (fun x hx=>⟨hz x hx,by
   rcases h x hx with rfl|rfl|⟨l,rfl,hg,hl⟩
   ·exact SC (.inl rfl) 0
   ·exact SC (.inr rfl) 0
   ·exact WZ hg hl 0⟩)
 unfold ib
 rw[hw,ob,if_neg (by decide),if_neg (by show ¬decide (200<((0:Nat):Int))=true;decide)]
 show kr (M+2) _ [] 0=_
 rw[kr,hc,ob,if_neg (by rw[decide_eq_true_eq];omega),hk]
 rfl
def Cu(q:ak):Bool:=within q.X (-1000000) 1000000&&within q.Y (-1000000) 1000000
theorem xU{q:ak}:Cu q=true↔(-1000000≤q.X∧q.X≤1000000)∧(-1000000≤q.Y∧q.Y≤1000000):=by
 unfold Cu
 rw[Bool.and_eq_true,within_iff,within_iff]
def SA(t:iT):Bool:=within t.Quarters 0 3&&Cu t.At
theorem CG{t:iT}:SA t=true↔(0≤t.Quarters∧t.Quarters≤3)∧(-1000000≤t.At.X∧t.At.X≤1000000)∧(-1000000≤t.At.Y∧t.At.Y≤1000000):=by
 unfold SA
 rw[Bool.and_eq_true,within_iff,xU]
def rX(q x y:Int):Int:=if q=0 then x else if q=1 then -y else if q=2 then -x else y
def rY(q x y:Int):Int:=if q=0 then y else if q=1 then x else if q=2 then -y else -x
def tk(t:iT)(q:ak):ak:=⟨rX t.Quarters (if t.Flip then -q.X else q.X) q.Y+t.At.X,rY t.Quarters (if t.Flip then -q.X else q.X) q.Y+t.At.Y⟩
theorem w9{q:Int}(h:0≤q∧q≤3):q=0∨q=1∨q=2∨q=3:=by omega
theorem Jc{N:Nat}(hN:5≤N){t:iT}{p:ak}(hq:0≤t.Quarters∧t.Quarters≤3)(ha:(-1000000≤t.At.X∧t.At.X≤1000000)∧(-1000000≤t.At.Y∧t.At.Y≤1000000))(hp:Cu p=true):kw N p t=some (tk t p):=by
 obtain⟨m,rfl⟩:∃m,N=m+5:=⟨N-5,by omega⟩
 rw[xU] at hp
 obtain⟨fl,q,⟨ax,ay⟩⟩:=t
 obtain⟨px,py⟩:=p
 simp only at hq ha hp
 unfold kw kS tk
 rcases w9 hq with rfl|rfl|rfl|rfl<;>cases fl<;>simp(disch:=omega) [kR,bX,rX,rY]
def tr(t:iT)(r:aK):aK:=⟨min (tk t ⟨r.X0,r.Y0⟩).X (tk t ⟨r.X1,r.Y1⟩).X,min (tk t ⟨r.X0,r.Y0⟩).Y (tk t ⟨r.X1,r.Y1⟩).Y,max (tk t ⟨r.X0,r.Y0⟩).X (tk t ⟨r.X1,r.Y1⟩).X,max (tk t ⟨r.X0,r.Y0⟩).Y (tk t ⟨r.X1,r.Y1⟩).Y⟩
theorem EX{r:aK}(h:NG r):Cu ⟨r.X0,r.Y0⟩=true∧Cu ⟨r.X1,r.Y1⟩=true:=⟨xU.2 ⟨h.x0,h.y0⟩,xU.2 ⟨h.x1,h.y1⟩⟩
theorem Vl{t:iT}(ht:SA t=true){r:aK}(h:NG r):R9 (tr t r):=by
 obtain⟨c1,c2,c3⟩:=CG.1 ht
 have:=h.x0;have:=h.x1;have:=h.y0;have:=h.y1;have hx:=h.x;have hy:=h.y
 obtain⟨fl,q,⟨ax,ay⟩⟩:=t
 obtain⟨x0,y0,x1,y1⟩:=r
 simp only at*
 rcases w9 c1 with rfl|rfl|rfl|rfl<;>cases fl<;>(constructor<;>simp[tr,tk,rX,rY]<;>omega)
theorem LP{N:Nat}(hN:5≤N){t:iT}(ht:SA t=true){r:aK}(h:NG r):nM N r t=some (tr t r):=by
 obtain⟨c1,c2,c3⟩:=CG.1 ht
 obtain⟨h1,h2⟩:=EX h
 unfold nM
 rw[Jc hN c1 ⟨c2,c3⟩ h1,ob,Jc hN c1 ⟨c2,c3⟩ h2];rfl
structure PK (S:Int→Int→Prop) (r:aK):Prop where
 all:∀x y,S x y→(r.X0≤x∧x<r.X1)∧(r.Y0≤y∧y<r.Y1)
 x0:∃y,S r.X0 y
 x1:∃y,S (r.X1-1) y
 y0:∃x,S x r.Y0
 y1:∃x,S x (r.Y1-1)
theorem PK.uniq{S T:Int→Int→Prop}{r q:aK}(h1:PK S r)(h2:PK T q)(h:∀x y,S x y↔T x y):r=q:=by
 obtain⟨a,ha⟩:=h1.x0
 obtain⟨b,hb⟩:=h1.x1
 obtain⟨c,hc⟩:=h1.y0
 obtain⟨d,hd⟩:=h1.y1
 obtain⟨a',ha'⟩:=h2.x0
 obtain⟨b',hb'⟩:=h2.x1
 obtain⟨c',hc'⟩:=h2.y0
 obtain⟨d',hd'⟩:=h2.y1
 have e1:=h2.all _ _ ((h _ _).1 ha)
 have e2:=h2.all _ _ ((h _ _).1 hb)
 have e3:=h2.all _ _ ((h _ _).1 hc)
 have e4:=h2.all _ _ ((h _ _).1 hd)
 have f1:=h1.all _ _ ((h _ _).2 ha')
 have f2:=h1.all _ _ ((h _ _).2 hb')
 have f3:=h1.all _ _ ((h _ _).2 hc')
 have f4:=h1.all _ _ ((h _ _).2 hd')
 obtain⟨x0,y0,x1,y1⟩:=r
 obtain⟨x0',y0',x1',y1'⟩:=q
 simp only at*
 congr 1<;>omega
theorem oU.init:∀{l:List Bd} {b:Bd} {lo:Int},oU lo (l++[b])→∀c∈l,c.2.1≤b.1
 |[],_,_,_,c,hc=>by simp at hc
 |d::l,b,lo,h,c,hc=>by
  have h':oU d.2.1 (l++[b]):=h.2.2.2.2
  rcases List.mem_cons.1 hc with rfl|hc
  ·exact(h'.mem b (by simp)).1
  ·exact h'.init c hc
theorem M9{l:List (Int×Int)}{q:Int×Int}(hl:l.length≤1000000000):idx (dn (l++[q])) (bF (((dn (l++[q])).length:Int)-1))=some q.2:=by
 have e:dn (l++[q])=(dn l++[q.1])++q.2::[]:=by rw[pU];simp[dn]
 have e2:bF (((dn (l++[q])).length:Int)-1)=((dn l++[q.1]).length:Int):=by
  rw[bX (by rw[gT];simp;omega) (by rw[gT];simp;omega),gT];simp[gT];omega
 rw[e2,e]
 exact jw _ [] _
theorem QC{l:List Bd}(h:zt l)(hne:l≠[])(hl:l.length≤1000000000)(hr:∀b∈l,b.2.2.length≤1000000000):∃r,nH (l.map toP)=some r∧PK (fun x y=>rW x y l) r:=by
 obtain⟨lo,hc⟩:=h.can
 have loop:∀(f g:bf) (suf:List Bd) (i:Nat) (u v:Int),(∀b∈suf,b∈l)→∃u' v',iF f g (suf.map toP) i u v=some ⟨u',f.Y0,v',g.Y1⟩∧u'≤u∧v≤v'∧(u'=u∨∃b∈suf,∃p∈b.2.2,u'=p.1)∧(v'=v∨∃b∈suf,∃p∈b.2.2,v'=p.2)∧∀b∈suf,∀p∈b.2.2,u'≤p.1∧p.2≤v':=by
  intro f g suf
  induction suf with
  |nil=>intro i u v _;exact⟨u,v,rfl,Int.le_refl _,Int.le_refl _,.inl rfl,.inl rfl,by simp⟩
  | cons b suf ih=>
   intro i u v hb
   have hbl:=hb b (by simp)
   have hbne:=(hc.mem b hbl).2.2
   obtain⟨lo',hcan⟩:=h.row b hbl
   have hlen:=hr b hbl
   obtain⟨p,t,hp⟩:∃p t,b.2.2=p::t:=by cases hx:b.2.2 with|nil=>exact absurd hx hbne|cons p t=>exact⟨p,t,rfl⟩
   obtain⟨j,q,hq⟩:∃j q,b.2.2=j++[q]:=by
    rcases List.eq_nil_or_concat b.2.2 with hx|⟨j,q,hx⟩
    ·exact absurd hx hbne
    ·exact⟨j,q,by simpa using hx⟩
   have e1:idx (toP b).Xs 0=some p.1:=by show idx (dn b.2.2) 0=_;rw[hp];rfl
   have e2:idx (toP b).Xs (bF (((toP b).Xs.length:Int)-1))=some q.2:=by
    show idx (dn b.2.2) (bF (((dn b.2.2).length:Int)-1))=_
    rw[hq]
    exact M9 (by rw[hq] at hlen;simp at hlen;omega)
   obtain⟨u',v',i1,i2,i3,i4,i5,i6⟩:=ih (i+1) (min u p.1) (max v q.2) (fun c hc=>hb c (by simp[hc]))
   have hfirst:∀r∈b.2.2,p.1≤r.1:=fun r hr=>by
    rw[hp] at hr hcan
    rcases List.mem_cons.1 hr with rfl|hr
    ·exact Int.le_refl _
    ·have:=hcan.2.2.mem r hr;have:=hcan.2.1;omega
   have hlast:∀r∈b.2.2,r.2≤q.2:=fun r hr=>by
    rw[hq] at hr hcan
    obtain⟨_,c2,c3,c4⟩:=hcan.init
    rcases List.mem_append.1 hr with hr|hr
    ·have:=c2 r hr;omega
    ·simp at hr;subst hr;exact Int.le_refl _
   refine⟨u',v',?_,Int.le_trans i2 (Int.min_le_left _ _),Int.le_trans (Int.le_max_left _ _) i3,?_,?_,fun c hcm r hrm=>?_⟩
   ·rw[List.map_cons,iF.eq_2,e1,ob,e2,ob];exact i1
   ·rcases i4 with k|⟨c,hc1,r,hr1,k⟩
    ·by_cases hu:u≤p.1
     ·exact .inl (k.trans (Int.min_eq_left hu))
     ·exact .inr ⟨b,by simp,p,by rw[hp];simp,k.trans (Int.min_eq_right (by omega))⟩
    ·exact .inr ⟨c,by simp[hc1],r,hr1,k⟩
   ·rcases i5 with k|⟨c,hc1,r,hr1,k⟩
    ·by_cases hv:q.2≤v
     ·exact .inl (k.trans (Int.max_eq_left hv))
     ·exact .inr ⟨b,by simp,q,by rw[hq];simp,k.trans (Int.max_eq_right (by omega))⟩
    ·exact .inr ⟨c,by simp[hc1],r,hr1,k⟩
   ·rcases List.mem_cons.1 hcm with rfl|hcm
    ·exact⟨Int.le_trans i2 (Int.le_trans (Int.min_le_right _ _) (hfirst r hrm)),Int.le_trans (hlast r hrm) (Int.le_trans (Int.le_max_right _ _) i3)⟩
    ·exact i6 c hcm r hrm
 obtain⟨b,t,hbt⟩:∃b t,l=b::t:=by cases l with|nil=>exact absurd rfl hne|cons b t=>exact⟨b,t,rfl⟩
 obtain⟨j,c,hjc⟩:∃j c,l=j++[c]:=by
  rcases List.eq_nil_or_concat l with hx|⟨j,q,hx⟩
  ·exact absurd hx hne
  ·exact⟨j,q,by simpa using hx⟩
 have hbl:b∈l:=by rw[hbt];simp
 have hcl:c∈l:=by rw[hjc];simp
 have hbm:=hc.mem b hbl
 have hcm:=hc.mem c hcl
 obtain⟨p,s,hp⟩:∃p s,b.2.2=p::s:=by cases hx:b.2.2 with|nil=>exact absurd hx hbm.2.2|cons p t=>exact⟨p,t,rfl⟩
 obtain⟨p2,s2,hp2⟩:∃p s,c.2.2=p::s:=by cases hx:c.2.2 with|nil=>exact absurd hx hcm.2.2|cons p t=>exact⟨p,t,rfl⟩
 have e0:idx (l.map toP) 0=some (toP b):=by rw[hbt];rfl
 have e1:idx (toP b).Xs 0=some p.1:=by show idx (dn b.2.2) 0=_;rw[hp];rfl
 have e2:idx (toP b).Xs 1=some p.2:=by show idx (dn b.2.2) 1=_;rw[hp];rfl
 have e3:idx (l.map toP) (bF (((l.map toP).length:Int)-1))=some (toP c):=by
  have:bF (((l.map toP).length:Int)-1)=((j.map toP).length:Int):=by
   rw[bX (by simp;omega) (by simp;omega),hjc];simp
  rw[this,hjc,List.map_append]
  exact jw _ [] _
 obtain⟨u,v,k1,k2,k3,k4,k5,k6⟩:=loop (toP b) (toP c) l 0 p.1 p.2 (fun _ h=>h)
 have inb:∀d∈l,∀r∈d.2.2,rW r.1 d.1 l∧rW (r.2-1) d.1 l∧rW r.1 (d.2.1-1) l:=fun d hd r hr=>by
  have hdm:=hc.mem d hd
  obtain⟨_,hcan⟩:=h.row d hd
  have hrm:=hcan.mem r hr
  unfold rW
  rw[Ch hc hd (Int.le_refl _) hdm.2.1,Ch hc hd (y:=d.2.1-1) (by omega) (by omega)]
  exact⟨⟨r,hr,Int.le_refl _,hrm.2⟩,⟨r,hr,by omega,by omega⟩,⟨r,hr,Int.le_refl _,hrm.2⟩⟩
 refine⟨⟨u,b.1,v,c.2.1⟩,?_,fun x y hxy=>?_,?_,?_,?_,?_⟩
 ·unfold nH
  rw[e0,ob,e1,ob,ob,ob,e2,ob,e3,ob]
  exact k1
 ·have hxy:rW x y l:=hxy
  unfold rW at hxy
  rcases AJ (l:=l) (y:=y) with h1|⟨d,hd,h1,h2,h3⟩
  ·rw[h1] at hxy;exact absurd hxy gP
  ·rw[h3] at hxy
   obtain⟨r,hr,hx⟩:=hxy
   have:=k6 d hd r hr
   have hlo:b.1≤d.1:=by
    have hc':=hc
    rw[hbt] at hd hc'
    rcases List.mem_cons.1 hd with rfl|hd
    ·exact Int.le_refl _
    ·have:=hc'.2.2.2.2.mem d hd;have:=hc'.2.1;omega
   have hhi:d.2.1≤c.2.1:=by
    have hc':=hc
    rw[hjc] at hd hc'
    rcases List.mem_append.1 hd with hd|hd
    ·have:=hc'.init d hd;omega
    ·simp at hd;subst hd;exact Int.le_refl _
   show(u≤x∧x<v)∧(b.1≤y∧y<c.2.1)
   omega
 ·rcases k4 with k|⟨d,hd,r,hr,k⟩
  ·rw[k];exact⟨b.1,(inb b hbl p (by rw[hp];simp)).1⟩
  ·rw[k];exact⟨d.1,(inb d hd r hr).1⟩
 ·rcases k5 with k|⟨d,hd,r,hr,k⟩
  ·show ∃y,rW (v-1) y l
   rw[k];exact⟨b.1,(inb b hbl p (by rw[hp];simp)).2.1⟩
  ·show ∃y,rW (v-1) y l
   rw[k];exact⟨d.1,(inb d hd r hr).2.1⟩
 ·exact⟨p.1,(inb b hbl p (by rw[hp];simp)).1⟩
 ·exact⟨p2.1,(inb c hcl p2 (by rw[hp2];simp)).2.2⟩
def lim(r:aK):Bool:=((within r.X0 (-1000000) 1000000&&within r.Y0 (-1000000) 1000000)&&within r.X1 (-1000000) 1000000)&&within r.Y1 (-1000000) 1000000
theorem vF{r:aK}:lim r=true↔((((-1000000≤r.X0∧r.X0≤1000000)∧(-1000000≤r.Y0∧r.Y0≤1000000))∧(-1000000≤r.X1∧r.X1≤1000000))∧(-1000000≤r.Y1∧r.Y1≤1000000)):=by
 unfold lim
 rw[Bool.and_eq_true,Bool.and_eq_true,Bool.and_eq_true,within_iff,within_iff,within_iff,within_iff]
theorem PM{L:List aK}(hL:L.length≤100000000)(hne:∀r∈L,r.X0<r.X1∧r.Y0<r.Y1):mW ((rO L).map toP)=some (L.all lim):=by
 unfold mW
 obtain⟨c1,c2⟩:=EF hne
 obtain⟨s1,s2⟩:=FK L
 by_cases h:rO L=[]
 ·have hnil:L=[]:=by
   cases L with
   |nil=>rfl
   |cons a l=>
    have ha:=hne a (by simp)
    have:=(c2 a.X0 a.Y0).2 ⟨a,by simp,⟨by omega,by omega⟩,by omega,by omega⟩
    rw[h] at this
    exact absurd this gP
  subst hnil
  rw[h];rfl
 ·have hlen:=List.length_pos_iff.2 h
  obtain⟨b,b1,b2⟩:=QC c1 h (by omega) (fun c hc=>by have:=s2 c hc;omega)
  rw[if_neg (by simp;exact h),b1,ob,IC,ob,ob]
  congr 1
  show lim b=L.all lim
  rw[Bool.eq_iff_iff,List.all_eq_true]
  constructor
  ·intro hb r hr
   have hr':=hne r hr
   have k1:=b2.all _ _ ((c2 r.X0 r.Y0).2 ⟨r,hr,⟨by omega,by omega⟩,by omega,by omega⟩)
   have k2:=b2.all _ _ ((c2 (r.X1-1) (r.Y1-1)).2 ⟨r,hr,⟨by omega,by omega⟩,by omega,by omega⟩)
   rw[vF] at hb ⊢
   omega
  ·intro hall
   obtain⟨y,hx0⟩:=b2.x0
   obtain⟨y',hx1⟩:=b2.x1
   obtain⟨x,hy0⟩:=b2.y0
   obtain⟨x',hy1⟩:=b2.y1
   obtain⟨r1,m1,e1⟩:=(c2 _ _).1 hx0
   obtain⟨r2,m2,e2⟩:=(c2 _ _).1 hx1
   obtain⟨r3,m3,e3⟩:=(c2 _ _).1 hy0
   obtain⟨r4,m4,e4⟩:=(c2 _ _).1 hy1
   have l1:=vF.1 (hall r1 m1)
   have l2:=vF.1 (hall r2 m2)
   have l3:=vF.1 (hall r3 m3)
   have l4:=vF.1 (hall r4 m4)
   rw[vF]
   omega
theorem NK(q:ak):lL q=some (Cu q):=by
 unfold lL lF mh Cu within
 simp only[ob]
 cases decide (-1000000≤q.X)&&decide (q.X≤1000000)<;>rfl
theorem CW(t:iT):mX t=some (if SA t then 0 else 1):=by
 unfold mX
 rw[NK]
 unfold mh SA within
 simp only[ob]
 cases decide (0≤t.Quarters)&&decide (t.Quarters≤3)<;>cases Cu t.At<;>rfl
def Px(t:iT):Int:=if t.Flip then t.Quarters else Int.tmod (4-t.Quarters) 4
def SQ(t:iT):iT:=⟨t.Flip,Px t,⟨-(tk ⟨t.Flip,Px t,⟨0,0⟩⟩ t.At).X,-(tk ⟨t.Flip,Px t,⟨0,0⟩⟩ t.At).Y⟩⟩
theorem NA{N:Nat}(hN:10000000000≤N){t:iT}(ht:SA t=true){l:List aK}(h:lI l=0):mr N ((rO l).map toP) t=some ((rO (l.map (tr t))).map toP):=by
 obtain⟨_,hl,hok,hr⟩:=tu h
 have loop:∀(suf pre:List aK) (m:Nat),l=pre++suf→suf.length<m→iy N t l m (pre.map (tr t)++suf) pre.length=some ((rO (l.map (tr t))).map toP):=by
  intro suf
  induction suf with
  | nil=>
   intro pre m h1 h2
   obtain⟨m,rfl⟩:∃k,m=k+1:=⟨m-1,by omega⟩
   rw[List.append_nil] at h1
   subst h1
   rw[iy.eq_2,if_neg (by simp),List.append_nil,CO hN (by simp;omega) (fun r hr=>by
    obtain⟨q,hq,rfl⟩:=List.mem_map.1 hr
    exact Vl ht (hok q hq))];rfl
  | cons r suf ih=>
   intro pre m h1 h2
   obtain⟨m,rfl⟩:∃k,m=k+1:=⟨m-1,by omega⟩
   have hpl:pre.length≤2000:=by rw[h1] at hl;simp at hl;omega
   have e0:(pre.length:Int)=((pre.map (tr t)).length:Int):=by simp
   have hid:idx (pre.map (tr t)++r::suf) (pre.length:Int)=some r:=by rw[e0];exact jw _ suf r
   have hset:sets (pre.map (tr t)++r::suf) (pre.length:Int) (tr t r)=some ((pre++[r]).map (tr t)++suf):=by
    unfold sets
    rw[if_pos ⟨by omega,by simp⟩]
    simp
   rw[iy.eq_2,if_pos (by rw[h1];exact M4 pre suf r),hid,ob,LP (by omega) ht (hok r (by rw[h1];simp)),ob,ob,hset,ob,Fb pre r (by omega)]
   exact ih (pre++[r]) m (by rw[h1];simp) (by simp at h2;omega)
 unfold mr
 rw[Ae hN (Bq (by omega)),ob,hr]
 exact loop l [] N rfl (by omega)
def uE(l:List aK)(t:iT):List aK×Int:=if lI l=0 then if SA t=true then if(l.map (tr t)).all lim=true then NV (rO (l.map (tr t))) else([],1) else([],1) else([],lI l)
theorem Ez{N:Nat}(hN:10000000000≤N)(l:List aK)(t:iT):mi N l t=some (uE l t):=by
 unfold mi uE
 rw[Ar hN,ob]
 by_cases h:lI l=0
 ·rw[if_neg (by simpa using h),if_pos h,CW,ob]
  cases hc:SA t
  ·simp
  ·obtain⟨_,hl,hok,hr⟩:=tu h
   have hsm:=Bq (l:=l.map (tr t)) (by simp;omega)
   rw[if_neg (by simp),CO hN (by omega) (fun r hr=>(hok r hr).r9),ob,NA hN hc h,ob,PM (by simp;omega) (fun r hr=>by
    obtain⟨q,hq,rfl⟩:=List.mem_map.1 hr
    have:=Vl hc (hok q hq)
    exact⟨this.x,this.y⟩),ob,if_pos rfl,U7 hN hsm.len (by have:=hsm.tot;omega),ob]
   cases(l.map (tr t)).all lim<;>simp
 ·rw[if_pos (by simpa using h),if_neg h]
def tS(t:iT)(x:aB):aB:=⟨x.Kind,x.Name,x.At,x.Points.map (tk t),x.NX,x.NY,x.Steps⟩
theorem KA{α:Type}(pre suf:List α)(x y:α):sets (pre++x::suf) (pre.length:Int) y=some (pre++y::suf):=by
 unfold sets
 rw[if_pos ⟨by omega,by simp⟩,Int.toNat_natCast,List.set_append_right _ _ (Nat.le_refl _)]
 simp
theorem Zc{α:Type}{l:List α}(h:l.length≤4294967296):wO ([]:List α) l=some l:=by
 rw[lm (by simpa using h)];simp
theorem WY{l:List ak}(h:l.length≤4000):mf l=some l:=by
 unfold mf
 rw[Zc (by omega)];rfl
theorem Tz.pts{x:aB}(h:Tz x):x.Points.length≤2000∧(∀q∈x.Points,(-1000000≤q.X∧q.X≤1000000)∧(-1000000≤q.Y∧q.Y≤1000000))∧(x.Kind==8)=false∧∃y,lM x.Kind=some y∧y.at_=false:=by
 rcases h with rfl|rfl|⟨l,rfl,hg,hl⟩
 ·exact⟨by simp[oq],fun q hq=>by simp[oq] at hq,rfl,_,rfl,rfl⟩
 ·exact⟨by simp[oq],fun q hq=>by simp[oq] at hq,rfl,_,rfl,rfl⟩
 ·exact⟨hl,hg.2.1,rfl,_,rfl,rfl⟩
theorem O7{m:List aB}{k:List aB→Option (List aB)}{x:aB}{l:List ak}(hl:l.length≤2000)(hr:∀q∈l,(-1000000≤q.X∧q.X≤1000000)∧(-1000000≤q.Y∧q.Y≤1000000)):∀(suf pre:List ak) (n:Nat),l=pre++suf→suf.length<n→mH ⟨0,0⟩ m k x l n l (pre.length:Int)=(wO m [⟨x.Kind,x.Name,x.At,l,x.NX,x.NY,x.Steps⟩]).bind k
 |[],pre,n+1,he,_=>by
  rw[mH.eq_2,if_neg (by rw[he];simp)]
 |q::suf,pre,n+1,he,hn=>by
  have hq:=hr q (by rw[he];simp)
  have hlen:l.length=pre.length+(suf.length+1):=by rw[he];simp
  have hi:idx l (pre.length:Int)=some q:=by rw[he];exact jw _ _ _
  have hs:sets l (pre.length:Int) q=some l:=by rw[he];exact KA _ _ _ _
  have w1:bF (q.X+0)=q.X:=by rw[Int.add_zero,bX (by omega) (by omega)]
  have w2:bF (q.Y+0)=q.Y:=by rw[Int.add_zero,bX (by omega) (by omega)]
  have hq':(⟨q.X,q.Y⟩:ak)=q:=rfl
  simp at hn
  rw[mH.eq_2,if_pos (by simp;omega)]
  simp only[hi,ob,w1,w2,hq',hs]
  rw[bX (by omega) (by omega),show(pre.length:Int)+1=((pre++[q]).length:Int) by simp]
  exact O7 hl hr suf (pre++[q]) n (by rw[he];simp) hn
theorem O8{N:Nat}(hN:3000≤N):∀(S:List aB) (i:Nat) (m:List aB),m.length+S.length≤4000→(∀x∈S,Tz x)→iK N ⟨0,0⟩ S i m=some (m++S)
 |[],i,m,_,_=>by rw[iK,List.append_nil]
 |x::S,i,m,hm,h=>by
  obtain⟨h1,h2,h3,y,h4,h5⟩:=(h x (by simp)).pts
  rw[List.length_cons] at hm
  rw[iK,h3,if_neg (by decide),h4,ob,h5,if_neg (by decide)]
  unfold qY
  rw[WY (by omega),ob]
  have:=O7 (m:=m) (k:=iK N ⟨0,0⟩ S (i+1)) (x:=x) h1 h2 x.Points [] N rfl (by omega)
  refine Eq.trans this ?_
  rw[lm (by simp;omega),ob,O8 hN S (i+1) _ (by simp;omega) (fun y hy=>h y (by simp[hy]))]
  simp
  cases x;rfl
section
variable {N:Nat} {t:iT} (ht:SA t=true)
include ht
theorem NT(hN:3000≤N){m:List aB}{k:List aB→Option (ed×Int)}{i:Nat}{x:aB}:∀(suf pre:List ak),(∀q∈suf,(-1000000≤q.X∧q.X≤1000000)∧(-1000000≤q.Y∧q.Y≤1000000))→iL N t t.At.X t.At.Y m k i x suf pre.length (pre++suf)=k (m.set i ⟨x.Kind,x.Name,x.At,pre++suf.map (tk t),x.NX,x.NY,x.Steps⟩)
 |[],pre,_=>by rw[iL.eq_1];simp
 |q::suf,pre,h=>by
  obtain⟨c1,c2,c3⟩:=CG.1 ht
  have hT:kw N q ⟨t.Flip,t.Quarters,⟨t.At.X,t.At.Y⟩⟩=some (tk t q):=Jc (t:=t) (by omega) c1 ⟨c2,c3⟩ (xU.2 (h q (by simp)))
  rw[iL.eq_2,jw,ob,hT,ob,ob,KA,ob]
  have ih:=NT hN (m:=m) (k:=k) (i:=i) (x:=x) suf (pre++[tk t q]) (fun y hy=>h y (by simp[hy]))
  rw[List.length_append,List.length_singleton,List.append_assoc,List.singleton_append] at ih
  rw[ih]
  simp
theorem NU(hN:3000≤N){p:ed}{T:List gU}:∀(suf pre:List aB),(∀x∈suf,Tz x)→dX N t p T t.At.X t.At.Y suf pre.length (pre++suf)=dX N t p T t.At.X t.At.Y [] (pre++suf).length (pre++suf.map (tS t))
 |[],pre,_=>by simp
 |x::suf,pre,h=>by
  obtain⟨h1,h2,h3,y,h4,h5⟩:=(h x (by simp)).pts
  rw[dX.eq_2,jw,ob,h4,ob,h5,if_neg (by decide)]
  unfold mI
  have:=NT ht hN (m:=pre++x::suf) (k:=dX N t p T t.At.X t.At.Y suf (pre.length+1)) (i:=pre.length) (x:=x) x.Points [] h2
  refine Eq.trans this ?_
  have ih:=NU hN (p:=p) (T:=T) suf (pre++[tS t x]) (fun y hy=>h y (by simp[hy]))
  rw[List.length_append,List.length_singleton,List.append_assoc,List.singleton_append] at ih
  rw[List.set_append_right _ _ (Nat.le_refl _),Nat.sub_self,List.set_cons_zero]
  refine Eq.trans ih ?_
  simp
theorem Ho(hN:5000≤N){S:List aB}(hl:S.length≤1000)(h:∀x∈S,Tz x)(h2:∀x∈S,Tz (tS t x)):oH N ⟨1,[],S⟩ t=some (⟨1,[],S.map (tS t)⟩,0):=by
 obtain⟨c1,c2,c3⟩:=CG.1 ht
 have hC:=AZ (N:=N) (by omega) h hl
 have hD:=AZ (N:=N) (S:=S.map (tS t)) (by omega) (fun x hx=>by
  obtain⟨y,hy,rfl⟩:=List.mem_map.1 hx
  exact h2 y hy) (by simpa using hl)
 obtain⟨M,rfl⟩:∃n,N=n+1:=⟨N-1,by omega⟩
 have hf:qy (M+1) ⟨1,[],S⟩=some ⟨1,[],S⟩:=by
  have h1:uU (M+1) S ⟨0,0⟩=some S:=O8 (by omega) S 0 [] (by simp;omega) h
  have h2:oo (M+1) [] (fun z0=>sj z0)=some []:=rfl
  unfold qy
  rw[h2,ob,h1];rfl
 have m1:∀z:Int,md z 1=some 0:=fun z=>by unfold md;rw[if_neg (by decide),Int.tmod_one]
 have d1:∀z:Int,-1000000≤z∧z≤1000000→dv z 1=some z:=fun z hz=>by unfold dv;rw[if_neg (by decide),Int.tdiv_one,bX (by omega) (by omega)]
 unfold oH
 rw[hC,ob,if_neg (by decide),CW,ht,ob,if_neg (by decide),m1,ob,if_neg (by decide),m1,ob,ob,if_neg (by decide),hf,ob]
 have h3:oo (M+1) [] (fun z0=>nI (M+1) z0 ⟨t.Flip,t.Quarters,⟨0,0⟩⟩)=some []:=rfl
 rw[h3,ob,d1 _ c2,ob,d1 _ c3,ob]
 have:=NU ht (N:=M+1) (by omega) (p:=⟨1,[],S⟩) (T:=[]) S [] h
 refine Eq.trans this ?_
 rw[dX.eq_1]
 unfold xz
 rw[List.nil_append,hD,ob,if_neg (by decide)]
 rfl
end
end Go.Proofs.YtblmajfbibbiaaaGreatDoor
