/- Rules of the walks, or plain laws about the plain functions. Conditions: none beyond each theorem's own. -/
import Derived.Test.YtkccbhbhdnobhaaGreatDoorJ2
import Derived.Test.YtkccbhbhdnobhaaGreatDoorXF
namespace Go.Proofs.YtkccbhbhdnobhaaGreatDoor
theorem eG{x:Int}(h1: -4611686018427387904≤x)(h2:x≤4611686018427387904):bJ x=x:=tu (by omega) (by omega)
theorem mg{α:Type}(pre suf:List α)(x:α):idx (pre++x::suf) (pre.length:Int)=some x:=by
 unfold idx
 rw[if_pos (by omega)]
 simp
theorem NV{α:Type}{l:List α}{i:Nat}(h:i<l.length):idx l (i:Int)=some l[i]:=by
 unfold idx
 rw[if_pos (by omega)]
 simp[h]
theorem HY{α:Type}(pre suf:List α)(x:α):decide ((pre.length:Int)<((pre++x::suf).length:Int))=true:=decide_eq_true (by simp;omega)
theorem Ew{α:Type}(pre:List α)(x:α)(h:pre.length≤4611686018427387903):bJ ((pre.length:Int)+1)=((pre++[x]).length:Int):=by
 rw[eG (by omega) (by omega)];simp
theorem kP{α:Type}{l m:List α}(h:l.length+m.length≤4294967296):vD l m=some (l++m):=if_pos h
def within(n lo hi:Int):Bool:=decide (lo≤n)&&decide (n≤hi)
theorem within_iff{n lo hi:Int}:within n lo hi=true↔lo≤n∧n≤hi:=by simp[within]
def Cs{α:Type}(g:α→Bool):List α→Int→Int
 |[],_=> -1
 |x::l,i=>if g x then i else Cs g l (i+1)
theorem F5{α:Type}(g:α→Bool):∀(l:List α) (i:Int),0≤i→decide (0≤Cs g l i)=l.any g
 |[],_,_=>by simp[Cs]
 |x::l,i,hi=>by
  unfold Cs
  rw[List.any_cons]
  cases g x
  ·simp[F5 g l (i+1) (by omega)]
  ·simp[hi]
theorem Gv(zs:List Int)(x:Int):x∈Lib.compact zs↔x∈zs:=by
 unfold Lib.compact Lib.compactUpTo
 constructor
 ·intro h
  obtain⟨j,hj,rfl⟩:=List.mem_map.1 h
  have hj:=List.mem_range.1 (List.mem_filter.1 hj).1
  show zs.toArray[j]! ∈zs
  rw[getElem!_pos zs.toArray j (by simpa using hj)]
  simp
 ·intro h
  have key:∀(j:Nat),(hj:j<zs.length)→∃i,i<zs.length∧Lib.keeps zs.toArray i=true∧zs.toArray[i]! =zs[j]:=by
   intro j
   induction j with
   |zero=>intro hj;exact⟨0,hj,Lib.keeps_lt_one _ 0 (by omega),by rw[getElem!_pos zs.toArray 0 (by simpa using hj)];simp⟩
   | succ j ih=>
    intro hj
    by_cases hk:Lib.keeps zs.toArray (j+1)=true
    ·exact⟨j+1,hj,hk,by rw[getElem!_pos zs.toArray (j+1) (by simpa using hj)];simp⟩
    ·have he:zs.toArray[j+1]! =zs.toArray[j]! :=by
      unfold Lib.keeps at hk
      simp at hk
      simpa using hk
     rw[getElem!_pos zs.toArray (j+1) (by simpa using hj),getElem!_pos zs.toArray j (by simp;omega)] at he
     simp at he
     obtain⟨i,h1,h2,h3⟩:=ih (by omega)
     exact⟨i,h1,h2,by rw[h3,he]⟩
  obtain⟨j,hj,rfl⟩:=List.mem_iff_getElem.1 h
  obtain⟨i,h1,h2,h3⟩:=key j hj
  exact List.mem_map.2 ⟨i,List.mem_filter.2 ⟨List.mem_range.2 h1,h2⟩,h3⟩
theorem CQ{zs:List Int}(h:zs.Pairwise fun x y=>x≤y):(Lib.compact zs).Pairwise fun x y=>x<y:=by
 unfold Lib.compact Lib.compactUpTo
 rw[List.pairwise_map]
 have hr:((List.range zs.length).filter (Lib.keeps zs.toArray)).Pairwise (fun i j=>i<j):=(List.pairwise_lt_range).filter _
 refine List.Pairwise.imp_of_mem (fun{i j} hi hj hij=>?_) hr
 have hj1:=List.mem_range.1 (List.mem_filter.1 hj).1
 have hj2:=(List.mem_filter.1 hj).2
 show zs.toArray[i]! <zs.toArray[j]!
 unfold Lib.keeps at hj2
 simp at hj2
 have hne:zs.toArray[j]! ≠zs.toArray[j-1]! :=by
  rcases hj2 with h0|h0
  ·omega
  ·simpa using h0
 rw[getElem!_pos zs.toArray j (by simpa using hj1),getElem!_pos zs.toArray (j-1) (by simp;omega)] at hne
 rw[getElem!_pos zs.toArray j (by simpa using hj1),getElem!_pos zs.toArray i (by simp;omega)]
 simp at hne ⊢
 rw[List.pairwise_iff_getElem] at h
 have a1:zs[j-1]≤zs[j]:=h (j-1) j (by omega) hj1 (by omega)
 have a2:zs[i]≤zs[j-1]:=by
  rcases Nat.lt_or_eq_of_le (show i≤j-1 by omega) with hlt|heq
  ·exact h i (j-1) (by omega) (by omega) hlt
  ·subst heq;exact Int.le_refl _
 omega
def uR(l:List Int):List Int:=Lib.compact (l.mergeSort fun x y=>decide (x≤y))
theorem uQ(l:List Int)(x:Int):x∈uR l↔x∈l:=by
 unfold uR
 rw[Gv]
 exact(List.mergeSort_perm l _).mem_iff
theorem uk(l:List Int):(uR l).Pairwise fun x y=>x<y:=by
 unfold uR
 refine CQ ?_
 have:=List.pairwise_mergeSort (le:=fun x y:Int=>decide (x≤y)) (fun a b c h1 h2=>by simp at*;omega) (fun a b=>by simp;omega) l
 exact this.imp (by simp)
theorem Nn{l:List Int}(h:l.length<4611686018427387904):((G7 l).bind fun y=>Re y)=some (uR l):=by
 unfold G7 Re uR
 rw[if_pos h];rfl
theorem IG{l:List Int}(h:l.length<4611686018427387904):G7 l=some (l.mergeSort fun x y=>decide (x≤y)):=if_pos h
def Can:Int→List (Int×Int)→Prop
 |_,[]=>True
 |lo,p::l=>lo<p.1∧p.1<p.2∧Can p.2 l
def pO(x:Int)(l:List (Int×Int)):Prop:=∃p∈l,p.1≤x∧x<p.2
theorem iM{x:Int}{p:Int×Int}{l:List (Int×Int)}:pO x (p::l)↔(p.1≤x∧x<p.2)∨pO x l:=by unfold pO;simp
theorem lc{x:Int}:¬pO x []:=by unfold pO;simp
theorem nN{x:Int}{l m:List (Int×Int)}:pO x (l++m)↔pO x l∨pO x m:=by
 unfold pO
 constructor
 ·rintro⟨p,hp,h⟩
  rcases List.mem_append.1 hp with hp|hp
  ·exact .inl ⟨p,hp,h⟩
  ·exact .inr ⟨p,hp,h⟩
 ·rintro(⟨p,hp,h⟩|⟨p,hp,h⟩)
  ·exact⟨p,List.mem_append_left _ hp,h⟩
  ·exact⟨p,List.mem_append_right _ hp,h⟩
theorem Can.lt:∀{l:List (Int×Int)} {lo x:Int},Can lo l→pO x l→lo<x
 |[],_,_,_,h=>absurd h lc
 |p::l,lo,x,h,hx=>by
  obtain⟨h1,h2,h3⟩:=h
  rcases iM.1 hx with hx|hx
  ·omega
  ·have:=h3.lt hx;omega
theorem Can.mono{l:List (Int×Int)}{lo lo':Int}(h:Can lo l)(hl:lo'≤lo):Can lo' l:=by
 cases l with
 |nil=>trivial
 |cons p l=>exact⟨by have:=h.1;omega,h.2⟩
theorem Can.uniq:∀{l m:List (Int×Int)} {lo lo':Int},Can lo l→Can lo' m→(∀x,pO x l↔pO x m)→l=m
 |[],[],_,_,_,_,_=>rfl
 |[],p::m,_,_,_,h2,h=>absurd ((h p.1).2 (iM.2 (.inl ⟨Int.le_refl _,h2.2.1⟩))) lc
 |p::l,[],_,_,h1,_,h=>absurd ((h p.1).1 (iM.2 (.inl ⟨Int.le_refl _,h1.2.1⟩))) lc
 | p::l,q::m,lo,lo',h1,h2,h=>by
  obtain⟨a1,a2,a3⟩:=h1
  obtain⟨b1,b2,b3⟩:=h2
  have c1:q.1≤p.1:=by
   rcases iM.1 ((h p.1).1 (iM.2 (.inl ⟨Int.le_refl _,a2⟩))) with hx|hx
   ·exact hx.1
   ·have:=b3.lt hx;omega
  have c2:p.1≤q.1:=by
   rcases iM.1 ((h q.1).2 (iM.2 (.inl ⟨Int.le_refl _,b2⟩))) with hx|hx
   ·exact hx.1
   ·have:=a3.lt hx;omega
  have c3:¬p.2<q.2:=fun hlt=>by
   rcases iM.1 ((h p.2).2 (iM.2 (.inl ⟨by omega,hlt⟩))) with hx|hx
   ·omega
   ·have:=a3.lt hx;omega
  have c4:¬q.2<p.2:=fun hlt=>by
   rcases iM.1 ((h q.2).1 (iM.2 (.inl ⟨by omega,hlt⟩))) with hx|hx
   ·omega
   ·have:=b3.lt hx;omega
  have hpq:p=q:=by obtain⟨a,b⟩:=p;obtain⟨c,d⟩:=q;simp only at*;congr 1<;>omega
  subst hpq
  have hlm:l=m:=a3.uniq b3 fun x=>by
   constructor
   ·intro hx
    have hlt:=a3.lt hx
    rcases iM.1 ((h x).1 (iM.2 (.inr hx))) with h'|h'
    ·omega
    ·exact h'
   ·intro hx
    have hlt:=b3.lt hx
    rcases iM.1 ((h x).2 (iM.2 (.inr hx))) with h'|h'
    ·omega
    ·exact h'
  rw[hlm]
theorem Can.snoc:∀{l:List (Int×Int)} {lo:Int} {p:Int×Int},Can lo l→(∀q∈l,q.2<p.1)→lo<p.1→p.1<p.2→Can lo (l++[p])
 |[],_,_,_,_,h1,h2=>⟨h1,h2,trivial⟩
 |q::l,lo,p,h,hq,h1,h2=>⟨h.1,h.2.1,h.2.2.snoc (fun r hr=>hq r (by simp[hr])) (hq q (by simp)) h2⟩
theorem Can.init:∀{l:List (Int×Int)} {lo:Int} {p:Int×Int},Can lo (l++[p])→Can lo l∧(∀q∈l,q.2<p.1)∧lo<p.1∧p.1<p.2
 |[],_,_,h=>⟨trivial,by simp,h.1,h.2.1⟩
 |q::l,lo,p,h=>by
  obtain⟨i1,i2,i3,i4⟩:=Can.init (l:=l) h.2.2
  have:=h.1;have:=h.2.1
  refine⟨⟨h.1,h.2.1,i1⟩,fun r hr=>?_,by omega,i4⟩
  rcases List.mem_cons.1 hr with rfl|hr
  ·exact i3
  ·exact i2 r hr
def dP(l:List (Int×Int)):List Int:=l.flatMap fun p=>[p.1,p.2]
theorem sW:dP []=[]:=rfl
theorem oG(p:Int×Int)(l:List (Int×Int)):dP (p::l)=p.1::p.2::dP l:=rfl
theorem qH(l m:List (Int×Int)):dP (l++m)=dP l++dP m:=by unfold dP;rw[List.flatMap_append]
theorem gu:∀l:List (Int×Int),(dP l).length=2*l.length
 |[]=>rfl
 |p::l=>by rw[oG,List.length_cons,List.length_cons,gu l,List.length_cons];omega
theorem D9:∀{l m:List (Int×Int)},dP l=dP m→l=m
 |[],[],_=>rfl
 |[],q::m,h=>by rw[sW,oG] at h;cases h
 |p::l,[],h=>by rw[sW,oG] at h;cases h
 |p::l,q::m,h=>by
  rw[oG,oG] at h
  injection h with h1 h
  injection h with h2 h
  rw[D9 h]
  congr 1
  obtain⟨a,b⟩:=p;obtain⟨c,d⟩:=q
  simp only at h1 h2
  rw[h1,h2]
def CJ(l:List (Int×Int))(p:Int×Int):List (Int×Int):=
 match l.getLast? with
 |none=>[p]
 |some q=>if p.1≤q.2 then l.dropLast++[(q.1,max q.2 p.2)] else l++[p]
theorem Gl(p:Int×Int):CJ [] p=[p]:=rfl
theorem Eb(l:List (Int×Int))(q p:Int×Int):CJ (l++[q]) p=if p.1≤q.2 then l++[(q.1,max q.2 p.2)] else l++[q]++[p]:=by
 unfold CJ
 simp
theorem Od{lo:Int}{l done:List (Int×Int)}{p:Int×Int}(hc:Can lo l)(hm:∀x,pO x l↔pO x done)(hlast:∀q∈l,q.1≤p.1)(hlo:lo<p.1)(hp:p.1<p.2):
  Can lo (CJ l p)∧(∀x,pO x (CJ l p)↔pO x (done++[p]))∧∀q∈CJ l p,q.1≤p.1:=by
 have hsplit:l=[]∨∃i q,l=i++[q]:=by
  rcases List.eq_nil_or_concat l with h|⟨i,q,h⟩
  ·exact .inl h
  ·exact .inr ⟨i,q,by simpa using h⟩
 rcases hsplit with rfl|⟨i,q,rfl⟩
 ·rw[Gl]
  refine⟨⟨hlo,hp,trivial⟩,fun x=>?_,by simp⟩
  rw[nN,←hm x]
  exact⟨fun h=>.inr h,fun h=>h.resolve_left lc⟩
 ·obtain⟨c1,c2,c3,c4⟩:=hc.init
  have hq:=hlast q (by simp)
  rw[Eb]
  by_cases hle:p.1≤q.2
  ·rw [if_pos hle]
   refine⟨c1.snoc (p:=(q.1,max q.2 p.2)) c2 c3 (by show q.1<max q.2 p.2;omega),fun x=>?_,fun r hr=>?_⟩
   ·rw[nN,nN (l:=done),←hm x,nN]
    have e1:pO x [(q.1,max q.2 p.2)]↔(q.1≤x∧x<max q.2 p.2):=by unfold pO;simp
    have e2:pO x [q]↔(q.1≤x∧x<q.2):=by unfold pO;simp
    have e3:pO x [p]↔(p.1≤x∧x<p.2):=by unfold pO;simp
    rw[e1,e2,e3]
    constructor
    ·rintro(h|h)
     ·exact .inl (.inl h)
     ·by_cases hx:x<q.2
      ·exact .inl (.inr ⟨h.1,hx⟩)
      ·exact .inr ⟨by omega,by omega⟩
    ·rintro((h|h)|h)
     ·exact .inl h
     ·exact .inr ⟨h.1,by omega⟩
     ·exact .inr ⟨by omega,by omega⟩
   ·rcases List.mem_append.1 hr with hr|hr
    ·have:=c2 r hr;exact hlast r (by simp[hr])
    ·simp at hr;subst hr;exact hq
  ·rw[if_neg hle]
   refine⟨hc.snoc (fun r hr=>?_) hlo hp,fun x=>?_,fun r hr=>?_⟩
   ·rcases List.mem_append.1 hr with hr|hr
    ·have:=c2 r hr;omega
    ·simp at hr;subst hr;omega
   ·rw[nN,nN (l:=done),hm x]
   ·rcases List.mem_append.1 hr with hr|hr
    ·exact hlast r hr
    ·simp at hr;subst hr;exact Int.le_refl _
theorem Jk{lo:Int}:∀(suf:List (Int×Int)) (l done:List (Int×Int)),Can lo l→(∀x,pO x l↔pO x done)→(∀p∈suf,∀q∈l,q.1≤p.1)→suf.Pairwise (fun p q=>p.1≤q.1)→(∀p∈suf,lo<p.1∧p.1<p.2)→
  Can lo (suf.foldl CJ l)∧∀x,pO x (suf.foldl CJ l)↔pO x (done++suf)
 |[],l,done,h1,h2,_,_,_=>⟨h1,by simpa using h2⟩
 |p::suf,l,done,h1,h2,h3,h4,h5=>by
  obtain⟨s1,s2,s3⟩:=Od h1 h2 (h3 p (by simp)) (h5 p (by simp)).1 (h5 p (by simp)).2
  rw[List.pairwise_cons] at h4
  have:=Jk suf (CJ l p) (done++[p]) s1 s2 (fun r hr q hq=>Int.le_trans (s3 q hq) (h4.1 r hr)) h4.2 (fun r hr=>h5 r (by simp[hr]))
  simpa using this
def vO:Int→Int→List (Int×Int)→List (Int×Int)
 |a,b,[]=>[(a,b)]
 |a,b,q::l=>if q.1≤b then vO (min a q.1) (max b q.2) l else(a,b)::q::l
def uV:List (Int×Int)→Int×Int→List (Int×Int)
 |[],p=>[p]
 |q::l,p=>if q.2<p.1 then q::uV l p else vO p.1 p.2 (q::l)
theorem DZ:∀{l:List (Int×Int)} {lo a b:Int},lo<a→a<b→(∀q∈l,lo<q.1)→(∀q∈l,a≤q.2)→(∃lo',Can lo' l)→Can lo (vO a b l)∧∀x,pO x (vO a b l)↔(a≤x∧x<b)∨pO x l
 |[],lo,a,b,h1,h2,_,_,_=>⟨⟨h1,h2,trivial⟩,fun x=>by unfold vO;rw[iM]⟩
 | q ::l,lo,a,b,h1,h2,h3,h5,⟨lo',h4⟩=>by
  have hq:=h3 q (by simp)
  have hov:=h5 q (by simp)
  have hq2:=h4.2.1
  unfold vO
  by_cases hle:q.1≤b
  ·rw[if_pos hle]
   obtain⟨i1,i2⟩:=DZ (l:=l) (lo:=lo) (a:=min a q.1) (b:=max b q.2) (by omega) (by omega) (fun r hr=>h3 r (by simp[hr])) (fun r hr=>by have:=h5 r (by simp[hr]);omega) ⟨q.2,h4.2.2⟩
   refine⟨i1,fun x=>?_⟩
   rw[i2,iM]
   constructor
   ·rintro(h|h)
    ·by_cases h':a≤x∧x<b
     ·exact .inl h'
     ·exact .inr (.inl ⟨by omega,by omega⟩)
    ·exact .inr (.inr h)
   ·rintro(h|h|h)
    ·exact .inl ⟨by omega,by omega⟩
    ·exact .inl ⟨by omega,by omega⟩
    ·exact .inr h
  ·rw[if_neg hle]
   refine⟨⟨h1,h2,by omega,hq2,h4.2.2⟩,fun x=>?_⟩
   rw[iM]
theorem Can.mem:∀{l:List (Int×Int)} {lo:Int},Can lo l→∀q∈l,lo<q.1∧q.1<q.2
 |[],_,_,q,h=>by simp at h
 | p::l,lo,h,q,hq=>by
  rcases List.mem_cons.1 hq with rfl|hq
  ·exact⟨h.1,h.2.1⟩
  ·have:=h.2.2.mem q hq
   have:=h.1;have:=h.2.1
   omega
theorem F4:∀{l:List (Int×Int)} {lo:Int} {p:Int×Int},Can lo l→lo<p.1→p.1<p.2→Can lo (uV l p)∧∀x,pO x (uV l p)↔pO x (l++[p])
 |[],lo,p,_,h1,h2=>⟨⟨h1,h2,trivial⟩,fun x=>Iff.rfl⟩
 | q::l,lo,p,h,h1,h2=>by
  unfold uV
  by_cases hlt:q.2<p.1
  ·rw[if_pos hlt]
   obtain⟨i1,i2⟩:=F4 (l:=l) (lo:=q.2) (p:=p) h.2.2 hlt h2
   refine⟨⟨h.1,h.2.1,i1⟩,fun x=>?_⟩
   rw[iM,i2,List.cons_append,iM]
  ·rw[if_neg hlt]
   obtain⟨i1,i2⟩:=DZ (l:=q::l) (lo:=lo) (a:=p.1) (b:=p.2) h1 h2 (fun r hr=>(h.mem r hr).1) (fun r hr=>by
    rcases List.mem_cons.1 hr with rfl|hr
    ·omega
    ·have:=h.2.2.mem r hr;omega) ⟨lo,h⟩
   refine⟨i1,fun x=>?_⟩
   rw[i2,nN]
   have e:pO x [p]↔(p.1≤x∧x<p.2):=by unfold pO;simp
   rw[e]
   exact or_comm
theorem FZ{lo:Int}:∀(suf:List (Int×Int)) (l done:List (Int×Int)),Can lo l→(∀x,pO x l↔pO x done)→(∀p∈suf,lo<p.1∧p.1<p.2)→
  Can lo (suf.foldl uV l)∧∀x,pO x (suf.foldl uV l)↔pO x (done++suf)
 |[],l,done,h1,h2,_=>⟨h1,by simpa using h2⟩
 |p::suf,l,done,h1,h2,h5=>by
  obtain⟨s1,s2⟩:=F4 h1 (h5 p (by simp)).1 (h5 p (by simp)).2
  have:=FZ suf (uV l p) (done++[p]) s1 (fun x=>by rw[s2,nN,nN,h2]) (fun r hr=>h5 r (by simp[hr]))
  simpa using this
def ym(l:List (Int×Int)):List (Int×Int):=l.foldl uV []
theorem BI{lo:Int}{l:List (Int×Int)}(h:∀p∈l,lo<p.1∧p.1<p.2):Can lo (ym l)∧∀x,pO x (ym l)↔pO x l:=by
 have:=FZ l [] [] (lo:=lo) trivial (fun x=>Iff.rfl) h
 rw[List.nil_append] at this
 exact this
theorem Oc{lo:Int}{l m:List (Int×Int)}(hp:m.Perm l)(hs:m.Pairwise (fun p q=>p.1≤q.1))(h:∀p∈l,lo<p.1∧p.1<p.2):m.foldl CJ []=ym l:=by
 obtain⟨a1,a2⟩:=Jk m [] [] (lo:=lo) trivial (fun x=>Iff.rfl) (by simp) hs (fun p hq=>h p (hp.subset hq))
 obtain⟨b1,b2⟩:=BI h
 refine a1.uniq b1 fun x=>?_
 rw[a2,b2,List.nil_append]
 unfold pO
 constructor
 ·rintro⟨p,hq,h⟩;exact⟨p,hp.subset hq,h⟩
 ·rintro⟨p,hq,h⟩;exact⟨p,hp.symm.subset hq,h⟩
theorem Ic{lo:Int}{l m:List (Int×Int)}(hl:∀p∈l,lo<p.1∧p.1<p.2)(hm:∀p∈m,lo<p.1∧p.1<p.2)(h:∀x,pO x l↔pO x m):ym l=ym m:=by
 obtain⟨a1,a2⟩:=BI hl
 obtain⟨b1,b2⟩:=BI hm
 exact a1.uniq b1 fun x=>by rw[a2,b2,h]
theorem Cq:∀(l:List (Int×Int)) (a b:Int),(vO a b l).length≤l.length+1
 |[],_,_=>by simp[vO]
 |q::l,a,b=>by
  unfold vO
  split
  ·have:=Cq l (min a q.1) (max b q.2);simp;omega
  ·simp
theorem D5:∀(l:List (Int×Int)) (p:Int×Int),(uV l p).length≤l.length+1
 |[],_=>by simp[uV]
 |q::l,p=>by
  unfold uV
  split
  ·have:=D5 l p;simp;omega
  ·exact Cq _ _ _
theorem Gu:∀(l m:List (Int×Int)),(l.foldl uV m).length≤m.length+l.length
 |[],m=>by simp
 |p::l,m=>by
  have:=Gu l (uV m p);have:=D5 m p
  rw[List.foldl_cons,List.length_cons];omega
abbrev Bd:=Int×Int×List (Int×Int)
def BK(r:au):Int×Int:=(r.X0,r.X1)
def tH(l:List au)(y:Int):List (Int×Int):=ym ((l.filter fun r=>decide (r.Y0≤y)&&decide (y<r.Y1)).map BK)
def pushB(l:List Bd)(b:Bd):List Bd:=
 if b.2.2=[] then l else
 match l.getLast? with
 |none=>l++[b]
 |some c=>if c.2.1=b.1∧c.2.2=b.2.2 then l.dropLast++[(c.1,b.2.1,c.2.2)] else l++[b]
theorem nK{l:List Bd}{b:Bd}(h:b.2.2=[]):pushB l b=l:=if_pos h
theorem xR{b:Bd}(h:b.2.2≠[]):pushB [] b=[b]:=by unfold pushB;rw[if_neg h];rfl
theorem qm{l:List Bd}{c b:Bd}(h:b.2.2≠[]):pushB (l++[c]) b=if c.2.1=b.1∧c.2.2=b.2.2 then l++[(c.1,b.2.1,c.2.2)] else l++[c]++[b]:=by
 unfold pushB
 rw[if_neg h]
 simp
def rF(l:List au):List Int→List Bd→List Bd
 |a::b::ys,out=>rF l (b::ys) (pushB out (a,b,tH l a))
 |_,out=>out
def rJ(l:List au):List Int:=l.flatMap fun r=>[r.Y0,r.Y1]
def lw(l:List au):List Bd:=rF l (uR (rJ l)) []
def qi(b:Bd):List au:=b.2.2.map fun s=>⟨s.1,b.1,s.2,b.2.1⟩
def aL(l:List Bd):List au:=l.flatMap qi
def toP(b:Bd):aQ:=⟨b.1,b.2.1,dP b.2.2⟩
structure vW (r:au):Prop where
 x0: -1000000≤r.X0∧r.X0≤1000000
 y0: -1000000≤r.Y0∧r.Y0≤1000000
 x1: -1000000≤r.X1∧r.X1≤1000000
 y1: -1000000≤r.Y1∧r.Y1≤1000000
 x:r.X0<r.X1
 y:r.Y0<r.Y1
structure R9 (r:au):Prop where
 x0: -2000000000≤r.X0∧r.X0≤2000000000
 y0: -2000000000≤r.Y0∧r.Y0≤2000000000
 x1: -2000000000≤r.X1∧r.X1≤2000000000
 y1: -2000000000≤r.Y1∧r.Y1≤2000000000
 x:r.X0<r.X1
 y:r.Y0<r.Y1
theorem vW.r9{r:au}(h:vW r):R9 r:=by
 have:=h.x0;have:=h.x1;have:=h.y0;have:=h.y1
 exact⟨by omega,by omega,by omega,by omega,h.x,h.y⟩
theorem Kt(l m:List Int):lW l m=some (decide (l=m)):=by
 have key:∀(suf pre rest:List Int),suf.length=rest.length→fP (pre++rest) suf pre.length=some (decide (suf=rest)):=by
  intro suf
  induction suf with
  |nil=>
   intro pre rest h
   have:rest=[]:=List.eq_nil_of_length_eq_zero h.symm
   subst this
   rw[fP.eq_1];rfl
  | cons x suf ih=>
   intro pre rest h
   cases rest with
   |nil=>simp at h
   | cons y rest=>
    rw[fP.eq_2,mg pre rest y,ob]
    have:=ih (pre++[y]) rest (by simpa using h)
    by_cases hxy:x=y
    ·subst hxy
     rw[if_neg (by simp)]
     simpa using this
    ·rw[if_pos (by simpa using hxy)]
     simp[hxy]
 unfold lW
 by_cases h:l.length=m.length
 ·rw[if_neg (by simp;omega)]
  exact key l [] m h
 ·rw[if_pos (by simp;omega)]
  have:l≠m:=fun e=>h (by rw[e])
  simp[this]
theorem Kr(l m:List au):∃b:Bool,ky l m=some b∧(b=true↔l=m):=by
 have key:∀(suf pre rest:List au),suf.length=rest.length→∃b:Bool,fF (pre++rest) suf pre.length=some b∧(b=true↔suf=rest):=by
  intro suf
  induction suf with
  |nil=>
   intro pre rest h
   have:rest=[]:=List.eq_nil_of_length_eq_zero h.symm
   subst this
   rw[fF.eq_1];exact⟨true,rfl,by simp⟩
  | cons x suf ih=>
   intro pre rest h
   cases rest with
   |nil=>simp at h
   | cons y rest=>
    rw[fF.eq_2,mg pre rest y,ob]
    obtain⟨b,h1,h2⟩:=ih (pre++[y]) rest (by simpa using h)
    by_cases hxy:x=y
    ·subst hxy
     rw[xn.2 rfl,if_neg (by simp)]
     exact⟨b,by simpa using h1,by simp[h2]⟩
    ·have:vS x y=false:=by rw[Bool.eq_false_iff];exact fun h=>hxy (xn.1 h)
     rw[this,if_pos (by simp)]
     exact⟨false,rfl,by simp[hxy]⟩
 unfold ky
 by_cases h:l.length=m.length
 ·rw[if_neg (by simp;omega)]
  exact key l [] m h
 ·rw[if_pos (by simp;omega)]
  exact⟨false,rfl,by simp;exact fun e=>h (by rw[e])⟩
theorem Fu{c:au→au→Option Int}{k:au→Int}{l:List au}(hl:l.length≤1000000000)(hc:∀x∈l,∀y∈l,c x y=some (k x-k y)):∃m,Dn l c=some m∧m.Perm l∧m.Pairwise fun x y=>k x≤k y:=by
 have hlt:∀x∈l,∀y∈l,Kz c x y=decide (k x<k y):=fun x hx y hy=>by
  unfold Kz
  rw[hc x hx y hy,Option.getD_some]
  exact decide_eq_decide.2 (by omega)
 have hs:yR c l:=⟨by omega,fun x hx y hy=>⟨_,hc x hx y hy⟩,fun x hx=>by rw[hlt x hx x hx];simp,fun x hx y hy z hz h1 h2=>by
  rw[hlt x hx y hy] at h1;rw[hlt y hy z hz] at h2;rw[hlt x hx z hz];simp at*;omega,fun x hx y hy z hz h1 h2=>by
  rw[hlt x hx y hy] at h1;rw[hlt y hy z hz] at h2;rw[hlt x hx z hz];simp at*;omega⟩
 obtain⟨m,hm⟩:=Np hs
 obtain⟨_,hp,hw⟩:=DF hm
 refine⟨m,hm,hp,hw.imp_of_mem fun{x y} hx hy h=>?_⟩
 rw[hlt y (hp.subset hy) x (hp.subset hx)] at h
 simp at h
 exact h
theorem qD(y:List au):∀(suf:List au) (i:Nat) (l:List (Int×Int)),l.length+suf.length≤1000000000→fI y suf i (dP l)=some (dP ((suf.map BK).foldl CJ l),y)
 |[],i,l,_=>by rw[fI.eq_1];rfl
 | r ::suf,i,l,h=>by
  simp only[List.length_cons] at h
  have hsplit:l=[]∨∃j q,l=j++[q]:=by
   rcases List.eq_nil_or_concat l with h|⟨j,q,h⟩
   ·exact .inl h
   ·exact .inr ⟨j,q,by simpa using h⟩
  rw[fI.eq_2,List.map_cons,List.foldl_cons]
  rcases hsplit with rfl|⟨j,q,rfl⟩
  ·rw[if_neg (by simp[sW,eG]),ob,if_neg (by simp),show vD (dP []) [r.X0,r.X1]=some (dP [BK r]) from rfl,ob,Gl]
   exact qD y suf (i+1) [BK r] (by simp;omega)
  ·have hfl:dP (j++[q])=(dP j++[q.1])++q.2::[]:=by rw[qH];simp[dP]
   have hlen:(dP (j++[q])).length=2*j.length+2:=by rw[gu];simp;omega
   simp only[List.length_append,List.length_singleton] at h
   have hw:bJ (((dP (j++[q])).length:Int)-1)=((dP j++[q.1]).length:Int):=by
    rw[eG (by omega) (by omega),hlen];simp[gu];omega
   have hid:idx (dP (j++[q])) ((dP j++[q.1]).length:Int)=some q.2:=by rw[hfl];exact mg _ [] q.2
   rw[hw,if_pos (decide_eq_true (by omega)),hid,ob,ob,Eb]
   by_cases hle:r.X0≤q.2
   ·rw[if_pos (by simpa using hle),if_pos (show(BK r).1≤q.2 from hle),ob]
    have hset:sets (dP (j++[q])) ((dP j++[q.1]).length:Int) (max q.2 r.X1)=some (dP (j++[(q.1,max q.2 (BK r).2)])):=by
     unfold sets
     rw[if_pos ⟨by omega,by rw[hlen];simp[gu]⟩,hfl,qH]
     simp[dP,BK]
    rw[ob,hset,ob]
    exact qD y suf (i+1) _ (by simp;omega)
   ·rw[if_neg (by simpa using hle),if_neg (show ¬(BK r).1≤q.2 from hle),kP (by rw[hlen];simp;omega),ob]
    have:dP (j++[q])++[r.X0,r.X1]=dP (j++[q]++[BK r]):=by rw[qH (j++[q])];rfl
    rw[this]
    exact qD y suf (i+1) _ (by simp;omega)
theorem zk{l:List au}(hl:l.length≤400000000)(h:∀r∈l,R9 r):∃m,m.Perm l∧mQ l=some (dP (ym (l.map BK)),m):=by
 obtain⟨m,h1,h2,h3⟩:=Fu (c:=fun z0 z1=>kz z0 z1) (k:=fun r=>r.X0) (l:=l) (by omega) (fun x hx y hy=>by
  have a:=(h x hx).x0;have b:=(h y hy).x0
  unfold kz
  rw[eG (by omega) (by omega)])
 refine⟨m,h2,?_⟩
 unfold mQ
 rw[h1,ob]
 have:=qD m m 0 [] (by have:=h2.length_eq;simp;omega)
 rw[sW] at this
 rw[this,Oc (lo:= -2000000001) (h2.map BK) (by rw[List.pairwise_map];exact h3) (fun p hp=>by
  obtain⟨r,hr,rfl⟩:=List.mem_map.1 hp
  have a:=h r hr
  exact⟨by have:=a.x0;show -2000000001<r.X0;omega,a.x⟩)]
theorem Ep{g:au→Bool}{f:au→Option Bool}:∀(l:List au) (i:Nat),(∀x∈l,f x=some (g x))→eX f l i=some (Cs g l i)
 |[],i,_=>rfl
 |x::l,i,h=>by
  rw[eX.eq_2,h x (by simp),ob,Ep l (i+1) (fun y hy=>h y (by simp[hy])),Cs,show((i+1:Nat):Int)=(i:Int)+1 by omega]
  cases g x<;>rfl
theorem xu{g:au→Bool}{f:au→Option Bool}:∀(rest k u:List au) (n:Nat),(∀x∈rest,f x=some (g x))→u≠[]→rest.length<n→(k++u++rest).length≤1000000000→
  dQ f n (k++u++rest) k.length (k++u).length=some (k++rest.filter fun x=> !g x)
 | [],k,u,n+1,_,hu,_,hl=>by
  have hc:cut (k++u++[]) (k.length:Int) ((k++u++[]).length:Int)=some u:=by
   unfold cut
   rw[if_pos ⟨by omega,by simp;omega,by omega⟩,List.append_nil,Int.toNat_natCast,Int.toNat_natCast,List.take_length,List.drop_left]
  rw[dQ.eq_2,if_neg (by simp),hc,ob]
  unfold MC pre
  rw[if_pos ⟨by omega,by simp;omega⟩]
  simp
 | x::rest,k,u,n+1,h,hu,hn,hl=>by
  obtain⟨u0,u',rfl⟩:∃u0 u',u=u0::u':=by cases u with|nil=>exact absurd rfl hu|cons a b=>exact⟨a,b,rfl⟩
  have hid:idx (k++(u0::u')++x::rest) ((k++(u0::u')).length:Int)=some x:=mg _ rest x
  simp only[List.length_append,List.length_cons] at hl hn
  rw[dQ.eq_2,if_pos (by simp;omega),hid,ob,h x (by simp),ob,Ew (k++(u0::u')) x (by simp;omega)]
  cases hg:g x
  ·have hid2:idx (k++(u0::u')++x::rest) (k.length:Int)=some u0:=by
    rw[List.append_assoc];exact mg k (u'++x::rest) u0
   have hset:sets (k++(u0::u')++x::rest) (k.length:Int) x=some ((k++[x])++(u'++[x])++rest):=by
    unfold sets
    rw[if_pos ⟨by omega,by simp⟩]
    simp
   rw[if_pos (by simp),hid2,ob,hset,ob,Ew k x (by omega)]
   have:=xu rest (k++[x]) (u'++[x]) n (fun y hy=>h y (by simp[hy])) (by simp) (by omega) (by simp;omega)
   have e:((k++(u0::u')++[x]).length:Int)=((k++[x]++(u'++[x])).length:Int):=by rw[List.length_append,List.length_append,List.length_append,List.length_append,List.length_append];simp;omega
   rw[e,this,List.filter_cons,hg]
   simp
  ·rw[if_neg (by simp)]
   have:=xu rest k (u0::u'++[x]) n (fun y hy=>h y (by simp[hy])) (by simp) (by omega) (by simp;omega)
   have e:k++(u0::u')++x::rest=k++(u0::u'++[x])++rest:=by simp
   have e2:((k++(u0::u')++[x]).length:Int)=((k++(u0::u'++[x])).length:Int):=by simp
   rw[e,e2,this,List.filter_cons,hg]
   simp
theorem Cr{α:Type}(g:α→Bool):∀(l:List α) (i:Int),0≤i→(Cs g l i= -1∧∀x∈l,g x=false)∨∃a x b,l=a++x::b∧(∀y∈a,g y=false)∧g x=true∧Cs g l i=i+a.length
 |[],i,_=>.inl ⟨rfl,by simp⟩
 | x::l,i,hi=>by
  unfold Cs
  cases hg:g x
  ·simp only[Bool.false_eq_true,if_false]
   rcases Cr g l (i+1) (by omega) with⟨h1,h2⟩|⟨a,z,b,h1,h2,h3,h4⟩
   ·exact .inl ⟨h1,fun y hy=>by rcases List.mem_cons.1 hy with rfl|hy;exact hg;exact h2 y hy⟩
   ·refine .inr ⟨x::a,z,b,by rw[h1];rfl,fun y hy=>?_,h3,by rw[h4];simp;omega⟩
    rcases List.mem_cons.1 hy with rfl|hy
    ·exact hg
    ·exact h2 y hy
  ·rw[if_pos rfl]
   exact .inr ⟨[],x,l,rfl,by simp,hg,by simp⟩
theorem Ku{N:Nat}{g:au→Bool}{f:au→Option Bool}{l:List au}(hN:1000000000<N)(hl:l.length≤1000000000)(h:∀x∈l,f x=some (g x)):jL N l f=some (l.filter fun x=> !g x):=by
 unfold jL il
 rw[Ep l 0 h,ob,show((0:Nat):Int)=0 from rfl]
 rcases Cr g l 0 (by omega) with⟨h1,h2⟩|⟨a,x,b,h1,h2,h3,h4⟩
 ·rw[h1,if_pos (by simp)]
  congr 1
  exact(List.filter_eq_self.2 fun y hy=>by simp[h2 y hy]).symm
 ·rw[h4,if_neg (by first|(simp;done)|(simp;omega))]
  subst h1
  simp only[List.length_append,List.length_cons] at hl
  have:=xu b a [x] N (fun y hy=>h y (by simp[hy])) (by simp) (by omega) (by simp;omega)
  have e:a++[x]++b=a++x::b:=by simp
  rw[e] at this
  rw[Int.zero_add,eG (by omega) (by omega),show((a.length:Int)+1)=((a++[x]).length:Int) by simp,this,List.filter_append,List.filter_cons,h3]
  have ha:a.filter (fun x=> !g x)=a:=List.filter_eq_self.2 fun y hy=>by simp[h2 y hy]
  simp[ha]
theorem EG{l:List Bd}{b:Bd}(hl:l.length≤1000000000)(hb:b.1<b.2.1):iB (l.map toP) (toP b)=some ((pushB l b).map toP):=by
 unfold iB
 have hfl:((toP b).Xs.length:Int)=2*(b.2.2.length:Int):=by show((dP b.2.2).length:Int)=_;rw[gu];omega
 by_cases he:b.2.2=[]
 ·rw[if_pos (by rw[hfl,he];simp),nK he]
 ·have hpos:0<b.2.2.length:=List.length_pos_iff.2 he
  rw[if_neg (by
   rw[hfl]
   show ¬((2*(b.2.2.length:Int)==0)||decide (b.2.1≤b.1))=true
   rw[Bool.or_eq_true,not_or]
   exact⟨by simp;exact he,by simp;exact hb⟩)]
  have hsplit:l=[]∨∃j q,l=j++[q]:=by
   rcases List.eq_nil_or_concat l with h|⟨j,q,h⟩
   ·exact .inl h
   ·exact .inr ⟨j,q,by simpa using h⟩
  rcases hsplit with rfl|⟨j,c,rfl⟩
  ·rw[xR he,if_neg (by simp[eG]),ob,if_neg (by simp),ob,if_neg (by simp)]
   rfl
  ·simp only[List.length_append,List.length_singleton] at hl
   have hm:(j++[c]).map toP=j.map toP++toP c::[]:=by simp
   have hw:bJ ((((j++[c]).map toP).length:Int)-1)=((j.map toP).length:Int):=by
    rw[eG (by first|(simp;done)|(simp;omega)) (by first|(simp;done)|(simp;omega))];simp
   have hid:idx ((j++[c]).map toP) ((j.map toP).length:Int)=some (toP c):=by rw[hm];exact mg _ [] _
   rw[qm he,hw,if_pos (by simp),hid,ob,ob,ob,Kt]
   have hxs:((toP c).Xs=(toP b).Xs)↔c.2.2=b.2.2:=⟨fun h=>D9 h,fun h=>by show dP c.2.2=dP b.2.2;rw[h]⟩
   by_cases h1:c.2.1=b.1
   ·have e1:((toP c).Y1==(toP b).Y0)=true:=by simpa[toP] using h1
    rw[e1,if_pos rfl,ob,ob]
    by_cases h2:c.2.2=b.2.2
    ·rw[decide_eq_true (hxs.2 h2),if_pos rfl,if_pos ⟨h1,h2⟩]
     have hset:sets ((j++[c]).map toP) ((j.map toP).length:Int) (aQ.mk (toP c).Y0 (toP b).Y1 (toP c).Xs)=some ((j++[(c.1,b.2.1,c.2.2)]).map toP):=by
      unfold sets
      rw[if_pos ⟨by omega,by simp⟩,hm]
      simp[toP]
     rw[ob,hset];rfl
    ·rw[decide_eq_false (fun h=>h2 (hxs.1 h)),if_neg (by simp),if_neg (fun h=>h2 h.2),kP (by simp;omega),ob]
     simp
   ·have e1:((toP c).Y1==(toP b).Y0)=false:=by simpa[toP] using h1
    rw[e1,if_neg (by simp),ob,if_neg (by simp),if_neg (fun h=>h1 h.1),kP (by simp;omega),ob]
    simp
theorem AY:∀{l m:List Int},l.Pairwise (fun x y=>x<y)→m.Pairwise (fun x y=>x<y)→(∀x,x∈l↔x∈m)→l=m
 |[],[],_,_,_=>rfl
 |[],y::m,_,_,h=>by have:=(h y).2 (by simp);simp at this
 |x::l,[],_,_,h=>by have:=(h x).1 (by simp);simp at this
 | x::l,y::m,h1,h2,h=>by
  rw[List.pairwise_cons] at h1 h2
  have hxy:x=y:=by
   have a:=(h x).1 (by simp)
   have b:=(h y).2 (by simp)
   rcases List.mem_cons.1 a with a|a
   ·exact a
   ·rcases List.mem_cons.1 b with b|b
    ·exact b.symm
    ·have:=h1.1 y b;have:=h2.1 x a;omega
  subst hxy
  rw[AY h1.2 h2.2 fun z=>by
   have hz:=h z
   simp only[List.mem_cons] at hz
   constructor
   ·intro hm
    have hne:z≠x:=by have:=h1.1 z hm;omega
    rcases hz.1 (.inr hm) with e|e
    ·exact absurd e hne
    ·exact e
   ·intro hm
    have hne:z≠x:=by have:=h2.1 z hm;omega
    rcases hz.2 (.inr hm) with e|e
    ·exact absurd e hne
    ·exact e]
theorem JH{l m:List Int}(h:∀x,x∈l↔x∈m):uR l=uR m:=AY (uk l) (uk m) fun x=>by rw[uQ,uQ,h]
theorem sV{l:List au}{y:Int}:y∈rJ l↔∃r∈l,y=r.Y0∨y=r.Y1:=by
 unfold rJ
 simp[List.mem_flatMap]
theorem Ab:∀l:List au,(rJ l).length=2*l.length
 |[]=>rfl
 |r::l=>by
  show([r.Y0,r.Y1]++rJ l).length=_
  rw[List.length_append,Ab l];simp;omega
theorem Fp(l:List Int):(uR l).length≤l.length:=by
 unfold uR
 exact Nat.le_trans (Jr _) (by rw[List.length_mergeSort];exact Nat.le_refl _)
theorem Ai(l:List Bd)(b:Bd):(pushB l b).length≤l.length+1:=by
 by_cases he:b.2.2=[]
 ·rw[nK he];omega
 ·rcases List.eq_nil_or_concat l with rfl|⟨j,c,h⟩
  ·rw[xR he];simp
  ·rw[List.concat_eq_append] at h
   subst h
   rw[qm he]
   split<;>simp
section
variable {N:Nat} {l M:List au} {ys:List Int} (hN:10000000000≤N) (hMl:M.length≤100000000) (hok:∀r∈M,R9 r) (hyl:ys.length≤200000000)
include hN hMl hok hyl
omit hN hyl in
theorem K5{k a b:Int}{bands:List Bd}(hbl:bands.length≤250000000)(hk0:0≤k∧k≤250000000)(ha:idx ys k=some a)(hb:idx ys (k+1)=some b)(hab:a<b){K:Int→List aQ→List au→Int→Option (List aQ)}:∀(suf pre now:List au) (m:Nat),M=pre++suf→suf.length<m→(∀r∈now,R9 r)→now.length+suf.length≤150000000→
  ∃t suf' now',suf=t++suf'∧(∀r∈t,r.Y0≤a)∧(∀r,suf'.head?=some r→a<r.Y0)∧now'.Perm (now++t)∧
   jo M ys k (bands.map toP) K m now pre.length=K (k+1) ((pushB bands (a,b,ym ((now++t).map BK))).map toP) now' (pre++t).length
 |suf,pre,now,0,_,h,_,_=>absurd h (Nat.not_lt_zero _)
 |[],pre,now,m+1,h1,_,h3,h4=>by
  obtain⟨now',p1,p2⟩:=zk (l:=now) (by simp at h4;omega) h3
  refine⟨[],[],now',rfl,by simp,by simp,by simpa using p1,?_⟩
  have hpush:=EG (l:=bands) (b:=(a,b,ym (now.map BK))) (by omega) hab
  rw[jo.eq_2,if_neg (by rw[h1];simp),ob,if_neg (by simp),ha,ob,eG (by omega) (by omega),hb,ob,p2,ob]
  show(iB (bands.map toP) (toP (a,b,ym (now.map BK)))).bind _=_
  rw[hpush,ob]
  simp
 | r::suf,pre,now,m+1,h1,h2,h3,h4=>by
  have hrM:r∈M:=by rw[h1];simp
  have hpl:pre.length≤100000000:=by rw[h1] at hMl;simp at hMl;omega
  have hid:idx M (pre.length:Int)=some r:=by rw[h1];exact mg pre suf r
  simp only[List.length_cons] at h2 h4
  by_cases hle:r.Y0≤a
  ·obtain⟨t,suf',now',e1,e2,e3,e4,e5⟩:=K5 hbl hk0 ha hb hab (K:=K) suf (pre++[r]) (now++[r]) m (by rw[h1];simp) (by omega) (fun x hx=>by
    rcases List.mem_append.1 hx with hx|hx
    ·exact h3 x hx
    ·simp at hx;subst hx;exact hok _ hrM) (by simp;omega)
   refine⟨r::t,suf',now',by rw[e1];rfl,fun x hx=>?_,e3,by simpa using e4,?_⟩
   ·rcases List.mem_cons.1 hx with rfl|hx
    ·exact hle
    ·exact e2 x hx
   ·rw[jo.eq_2,if_pos (by rw[h1];exact HY pre suf r),hid,ob,ha,ob,ob,if_pos (by simpa using hle),ob,kP (by simp;omega),ob,Ew pre r (by omega),e5]
    simp
  ·obtain⟨now',p1,p2⟩:=zk (l:=now) (by omega) h3
   refine⟨[],r::suf,now',rfl,by simp,fun x hx=>by simp at hx;subst hx;omega,by simpa using p1,?_⟩
   have hpush:=EG (l:=bands) (b:=(a,b,ym (now.map BK))) (by omega) hab
   rw[jo.eq_2,if_pos (by rw[h1];exact HY pre suf r),hid,ob,ha,ob,ob,if_neg (by simpa using hle),ob,eG (by omega) (by omega),hb,ob,p2,ob]
   show(iB (bands.map toP) (toP (a,b,ym (now.map BK)))).bind _=_
   rw[hpush,ob]
   simp
theorem IJ(hMs:M.Pairwise fun x y=>x.Y0≤y.Y0)(hys:ys.Pairwise fun x y=>x<y)(hmem:∀r∈M,r.Y0∈ys)(hl:∀r,r∈l↔r∈M):∀(hsuf hpre:List Int) (m:Nat) (bands:List Bd) (pre suf now:List au) (v:Int),ys=hpre++hsuf→M=pre++suf→hsuf.length<m→bands.length≤hpre.length→
  (∀r∈pre,r.Y0≤v)→(∀r∈suf,v<r.Y0)→now.Perm (pre.filter fun r=>decide (v<r.Y1))→(∀h∈hsuf,v<h)→(∀h∈hpre,h≤v)→
  fq N M ys m hpre.length (bands.map toP) now pre.length=some ((rF l hsuf bands).map toP)
 |[],hpre,m+1,bands,pre,suf,now,v,e1,e2,_,_,_,_,_,_,_=>by
  have hpl:hpre.length≤200000000:=by rw[e1] at hyl;simpa using hyl
  rw[fq.eq_2,if_neg (by rw[eG (by omega) (by omega),e1];simp;omega)]
  rfl
 |[a],hpre,m+1,bands,pre,suf,now,v,e1,e2,_,_,_,_,_,_,_=>by
  have hpl:hpre.length≤200000000:=by rw[e1] at hyl;simp at hyl;omega
  rw[fq.eq_2,if_neg (by rw[eG (by omega) (by omega),e1];simp)]
  rfl
 | a ::b::hsuf,hpre,m+1,bands,pre,suf,now,v,e1,e2,hm,hbl,i1,i2,i3,i4,i5=>by
  have hpl:hpre.length+2≤200000000:=by rw[e1] at hyl;simp at hyl;omega
  have hva:v<a:=i4 a (by simp)
  have hs2:(a::b::hsuf).Pairwise fun x y=>x<y:=by rw[e1] at hys;exact(List.pairwise_append.1 hys).2.1
  have hab:a<b:=(List.pairwise_cons.1 hs2).1 b (by simp)
  have ha:idx ys (hpre.length:Int)=some a:=by rw[e1];exact mg hpre _ a
  have hb:idx ys ((hpre.length:Int)+1)=some b:=by
   rw[e1,show hpre++a::b::hsuf=(hpre++[a])++b::hsuf by simp,show((hpre.length:Int)+1)=((hpre++[a]).length:Int) by simp]
   exact mg (hpre++[a]) _ b
  have hnl:now.length≤pre.length:=by rw[i3.length_eq];exact List.length_filter_le _ _
  have hMl2:pre.length+suf.length≤100000000:=by rw[e2] at hMl;simpa using hMl
  have hnok:∀r∈now,R9 r:=fun r hr=>hok r (by rw[e2];exact List.mem_append_left _ (List.mem_filter.1 (i3.subset hr)).1)
  have hdel:=Ku (N:=N) (g:=fun r=>decide (r.Y1≤a)) (f:=fun z0=>mH z0 ys hpre.length) (l:=now) (by omega) (by omega) (fun r _=>by unfold mH;rw[ha];rfl)
  obtain⟨t,suf',now',s1,s2,s3,s4,s5⟩:=K5 hMl hok (bands:=bands) (by omega) (k:=(hpre.length:Int)) ⟨by omega,by omega⟩ ha hb hab (K:=fq N M ys m) suf pre (now.filter fun x=> !decide (x.Y1≤a)) N e2 (by omega) (fun r hr=>hnok r (List.mem_filter.1 hr).1) (by
   have:=List.length_filter_le (fun x:au=> !decide (x.Y1≤a)) now
   omega)
  have hsM:suf.Pairwise fun x y=>x.Y0≤y.Y0:=by rw[e2] at hMs;exact(List.pairwise_append.1 hMs).2.1
  have hsuf':∀r∈suf',a<r.Y0:=fun r hr=>by
   cases suf' with
   |nil=>simp at hr
   | cons c cs=>
    have hc:=s3 c rfl
    rcases List.mem_cons.1 hr with rfl|hr
    ·exact hc
    ·rw[s1] at hsM
     have:=(List.pairwise_cons.1 (List.pairwise_append.1 hsM).2.1).1 r hr
     omega
  have ht:∀r∈t,r.Y0=a∧a<r.Y1:=fun r hr=>by
   have hrs:r∈suf:=by rw[s1];exact List.mem_append_left _ hr
   have hrM:r∈M:=by rw[e2];exact List.mem_append_right _ hrs
   have h1:=s2 r hr
   have h2:=i2 r hrs
   have h3:=hmem r hrM
   have hin:r.Y0∈a::b::hsuf:=by
    rw[e1] at h3
    rcases List.mem_append.1 h3 with h|h
    ·have:=i5 _ h;omega
    ·exact h
   have hle:a≤r.Y0:=by
    rcases List.mem_cons.1 hin with h|h
    ·omega
    ·have:=(List.pairwise_cons.1 hs2).1 _ h;omega
   have:=(hok r hrM).y
   omega
  have hperm:(now.filter (fun x=> !decide (x.Y1≤a))++t).Perm ((pre++t).filter fun r=>decide (a<r.Y1)):=by
   rw[List.filter_append]
   have p1:(now.filter fun x=> !decide (x.Y1≤a)).Perm (pre.filter fun r=>decide (a<r.Y1)):=by
    refine(i3.filter _).trans ?_
    rw[List.filter_filter]
    refine List.Perm.of_eq (List.filter_congr fun r _=>?_)
    rw[Bool.eq_iff_iff]
    simp
    omega
   have p2:t.filter (fun r=>decide (a<r.Y1))=t:=List.filter_eq_self.2 fun r hr=>by simpa using(ht r hr).2
   rw[p2]
   exact p1.append_right t
  have hcov:ym ((now.filter (fun x=> !decide (x.Y1≤a))++t).map BK)=tH l a:=by
   have hin:∀r,r∈(now.filter (fun x=> !decide (x.Y1≤a))++t)↔r∈l.filter fun r=>decide (r.Y0≤a)&&decide (a<r.Y1):=fun r=>by
    rw[hperm.mem_iff,List.mem_filter,List.mem_filter,hl,e2,s1]
    simp only[List.mem_append,Bool.and_eq_true,decide_eq_true_eq]
    constructor
    ·rintro⟨h|h,h2⟩
     ·exact⟨.inl h,by have:=i1 r h;omega,h2⟩
     ·exact⟨.inr (.inl h),by have:=(ht r h).1;omega,h2⟩
    ·rintro⟨h|h|h,h1,h2⟩
     ·exact⟨.inl h,h2⟩
     ·exact⟨.inr h,h2⟩
     ·have:=hsuf' r h;omega
   have hlim:∀r,r∈M→ -2000000001<(BK r).1∧(BK r).1<(BK r).2:=fun r hr=>by
    have:=hok r hr
    exact⟨by have:=this.x0;show -2000000001<r.X0;omega,this.x⟩
   have hMr:∀r,r∈(now.filter (fun x=> !decide (x.Y1≤a))++t)→r∈M:=fun r hr=>(hl r).1 (List.mem_filter.1 ((hin r).1 hr)).1
   unfold tH
   refine Ic (lo:= -2000000001) (fun p hp=>?_) (fun p hp=>?_) fun x=>?_
   ·obtain⟨r,hr,rfl⟩:=List.mem_map.1 hp;exact hlim r (hMr r hr)
   ·obtain⟨r,hr,rfl⟩:=List.mem_map.1 hp;exact hlim r ((hl r).1 (List.mem_filter.1 hr).1)
   ·unfold pO
    constructor
    ·rintro⟨p,hp,h⟩
     obtain⟨r,hr,rfl⟩:=List.mem_map.1 hp
     exact⟨_,List.mem_map.2 ⟨r,(hin r).1 hr,rfl⟩,h⟩
    ·rintro⟨p,hp,h⟩
     obtain⟨r,hr,rfl⟩:=List.mem_map.1 hp
     exact⟨_,List.mem_map.2 ⟨r,(hin r).2 hr,rfl⟩,h⟩
  rw[fq.eq_2,if_pos (by rw[eG (by omega) (by omega),e1];simp;omega),hdel,ob,s5,hcov]
  have hpb:=Ai bands (a,b,tH l a)
  have ih:=IJ hMs hys hmem hl (b::hsuf) (hpre++[a]) m (pushB bands (a,b,tH l a)) (pre++t) suf' now' a (by rw[e1];simp) (by rw[e2,s1];simp) (by simp at hm ⊢;omega) (by simp;omega) (fun r hr=>by
   rcases List.mem_append.1 hr with hr|hr
   ·have:=i1 r hr;omega
   ·have:=(ht r hr).1;omega) hsuf' (s4.trans hperm) (fun h hh=>(List.pairwise_cons.1 hs2).1 h hh) (fun h hh=>by
   rcases List.mem_append.1 hh with hh|hh
   ·have:=i5 h hh;omega
   ·simp at hh;omega)
  rw[show((hpre.length:Int)+1)=((hpre++[a]).length:Int) by simp,ih]
  rfl
end
theorem GX(r:au)(l:List au):rJ (r::l)=[r.Y0,r.Y1]++rJ l:=rfl
theorem qL{N:Nat}{l:List au}(hN:10000000000≤N)(hl:l.length≤100000000)(hok:∀r∈l,R9 r):fV N l=some ((lw l).map toP):=by
 obtain⟨M,m1,m2,m3⟩:=Fu (c:=fun z0 z1=>mI z0 z1) (k:=fun r=>r.Y0) (l:=l) (by omega) (fun x hx y hy=>by
  have a:=(hok x hx).y0;have b:=(hok y hy).y0
  unfold mI
  rw[eG (by omega) (by omega)])
 have hMl:M.length≤100000000:=by rw[m2.length_eq];exact hl
 have hMok:∀r∈M,R9 r:=fun r hr=>hok r (m2.subset hr)
 have hy:uR (rJ M)=uR (rJ l):=JH fun y=>by
  rw[sV,sV]
  exact⟨fun⟨r,hr,h⟩=>⟨r,m2.subset hr,h⟩,fun⟨r,hr,h⟩=>⟨r,m2.symm.subset hr,h⟩⟩
 have hyl:(uR (rJ l)).length≤200000000:=Nat.le_trans (Fp _) (by rw[Ab];omega)
 have L1:∀(suf:List au) (i:Nat) (out:List Int),out.length+2*suf.length≤250000000→jq N M suf i out=(fq N M (uR (out++rJ suf)) N 0 [] [] 0):=by
  intro suf
  induction suf with
  |nil=>
   intro i out ho
   rw[jq.eq_1]
   have:=Nn (l:=out) (by simp at ho;omega)
   rw[IG (by simp at ho;omega),ob]
   rw[IG (by simp at ho;omega),ob] at this
   rw[this,ob]
   show _=fq N M (uR (out++[])) N 0 [] [] 0
   rw[List.append_nil]
  |cons r suf ih=>
   intro i out ho
   simp only[List.length_cons] at ho
   rw[jq.eq_2,kP (by simp;omega),ob,ih (i+1) _ (by simp;omega),GX,List.append_assoc]
 unfold fV ny
 rw[kP (by simp;omega),ob,ob,List.nil_append,m1,ob,L1 M 0 [] (by simp;omega),List.nil_append,hy]
 have:=IJ (l:=l) hN hMl hMok hyl m3 (uk _) (fun r hr=>(uQ _ _).2 (sV.2 ⟨r,m2.subset hr,.inl rfl⟩)) (fun r=>⟨fun h=>m2.symm.subset h,fun h=>m2.subset h⟩) (uR (rJ l)) [] N [] [] M [] (-3000000000) rfl rfl (by omega) (by simp) (by simp) (fun r hr=>by have:=(hMok r hr).y0;omega) (by simp) (fun h hh=>by
  obtain⟨r,hr,e⟩:=sV.1 ((uQ _ _).1 hh)
  have a:=hok r hr
  have:=a.y0;have:=a.y1
  rcases e with rfl|rfl<;>omega) (by simp)
 exact this
theorem Li(l:List au)(y:Int):(tH l y).length≤l.length:=by
 unfold tH ym
 have:=Gu ((l.filter fun r=>decide (r.Y0≤y)&&decide (y<r.Y1)).map BK) []
 have h2:=List.length_filter_le (fun r:au=>decide (r.Y0≤y)&&decide (y<r.Y1)) l
 simp at this
 omega
structure Small (l:List Bd):Prop where
 len:l.length≤200000000
 row:∀b∈l,b.2.2.length≤100000000
 tot:(aL l).length≤4000000000
theorem mO(b:Bd)(l:List Bd):aL (b::l)=qi b++aL l:=rfl
theorem kV(b:Bd):(qi b).length=b.2.2.length:=by unfold qi;simp
theorem yM{l:List Bd}{R:Nat}(h:∀b∈l,b.2.2.length≤R):(aL l).length≤R*l.length:=by
 induction l with
 |nil=>simp[aL]
 |cons b l ih=>
  rw[mO,List.length_append,kV]
  have:=ih (fun c hc=>h c (by simp[hc]));have:=h b (by simp)
  rw[List.length_cons,Nat.mul_succ]
  omega
theorem pR(l m:List Bd):aL (l++m)=aL l++aL m:=by unfold aL;rw[List.flatMap_append]
theorem vI{l:List Bd}{b:Bd}(h:b∈l):b.2.2.length≤(aL l).length:=by
 obtain⟨s,t,rfl⟩:=List.append_of_mem h
 rw[pR,mO,List.length_append,List.length_append,kV]
 omega
theorem JQ{l:List Bd}{b:Bd}{R:Nat}(h:∀c∈l,c.2.2.length≤R)(hb:b.2.2.length≤R):∀c∈pushB l b,c.2.2.length≤R:=by
 by_cases he:b.2.2=[]
 ·rw[nK he];exact h
 ·rcases List.eq_nil_or_concat l with rfl|⟨j,c,hc⟩
  ·rw[xR he]
   intro c hc
   simp at hc
   subst hc
   exact hb
  ·rw[List.concat_eq_append] at hc
   subst hc
   rw[qm he]
   intro d hd
   split at hd
   ·rcases List.mem_append.1 hd with hd|hd
    ·exact h d (by simp[hd])
    ·simp at hd;subst hd;exact h c (by simp)
   ·rcases List.mem_append.1 hd with hd|hd
    ·exact h d hd
    ·simp at hd;subst hd;exact hb
theorem yF{l:List au}{R:Nat}(hl:l.length≤R):∀(ys:List Int) (out:List Bd),(∀c∈out,c.2.2.length≤R)→(rF l ys out).length≤out.length+ys.length∧∀c∈rF l ys out,c.2.2.length≤R
 |[],out,h=>⟨by simp[rF],h⟩
 |[a],out,h=>⟨by simp[rF],h⟩
 |a::b::ys,out,h=>by
  have hr:=Li l a
  have hp:=Ai out (a,b,tH l a)
  obtain⟨i1,i2⟩:=yF hl (b::ys) (pushB out (a,b,tH l a)) (JQ h (by show(tH l a).length≤R;omega))
  simp only[List.length_cons] at i1 ⊢
  exact⟨by show(rF l (b::ys) (pushB out (a,b,tH l a))).length≤_;omega,i2⟩
theorem tF(l:List au):(lw l).length≤2*l.length∧∀b∈lw l,b.2.2.length≤l.length:=by
 obtain⟨h1,h2⟩:=yF (Nat.le_refl l.length) (uR (rJ l)) [] (by simp)
 have:=Fp (rJ l)
 rw[Ab] at this
 exact⟨by show(rF l (uR (rJ l)) []).length≤_;simp at h1;omega,h2⟩
theorem Fy{l:List au}(hl:l.length≤100000000)(ht:(aL (lw l)).length≤4000000000):Small (lw l):=by
 obtain⟨h1,h2⟩:=tF l
 exact⟨by omega,fun b hb=>by have:=h2 b hb;omega,ht⟩
theorem BV{l:List au}(hl:l.length≤20000):Small (lw l):=by
 obtain⟨h1,h2⟩:=tF l
 refine Fy (by omega) ?_
 have:=yM (R:=20000) (l:=lw l) fun b hb=>by have:=h2 b hb;omega
 omega
section
variable {N:Nat} (hN:10000000000≤N)
include hN
omit hN in
theorem GL{b:Bd}{K:List au→Option (List au)}(hb:b.2.2.length≤100000000):∀(suf pre:List (Int×Int)) (m:Nat) (out:List au),b.2.2=pre++suf→suf.length<m→out.length+suf.length≤4294967296→
  fQ K (toP b) m out ((2*pre.length:Nat):Int)=K (out++suf.map fun s=>⟨s.1,b.1,s.2,b.2.1⟩)
 |[],pre,m+1,out,h1,_,_=>by
  rw[fQ.eq_2,if_neg (by show ¬decide (((2*pre.length:Nat):Int)<((dP b.2.2).length:Int))=true;rw[h1,gu];simp)]
  simp
 | s::suf,pre,m+1,out,h1,h2,h3=>by
  have hpl:pre.length≤100000000:=by rw[h1] at hb;simp at hb;omega
  have hfl:dP b.2.2=dP pre++s.1::s.2::dP suf:=by rw[h1,qH];rfl
  have hid:idx (dP b.2.2) ((2*pre.length:Nat):Int)=some s.1:=by rw[hfl,←gu];exact mg _ _ _
  have hid2:idx (dP b.2.2) (((2*pre.length:Nat):Int)+1)=some s.2:=by
   rw[hfl,show dP pre++s.1::s.2::dP suf=(dP pre++[s.1])++s.2::dP suf by simp,show(((2*pre.length:Nat):Int)+1)=((dP pre++[s.1]).length:Int) by simp[gu]]
   exact mg _ _ _
  simp only[List.length_cons] at h2 h3
  rw[fQ.eq_2,if_pos (by show decide (((2*pre.length:Nat):Int)<((dP b.2.2).length:Int))=true;rw[hfl];simp[gu];omega),eG (x:=((2*pre.length:Nat):Int)+1) (by omega) (by omega),eG (x:=((2*pre.length:Nat):Int)+2) (by omega) (by omega)]
  show((idx (dP b.2.2) _).bind fun S9=>(idx (dP b.2.2) _).bind fun SY=>_)=_
  rw[hid,ob,hid2,ob,kP (by simp;omega),ob]
  have:=GL (K:=K) hb suf (pre++[s]) m (out++[⟨s.1,b.1,s.2,b.2.1⟩]) (by rw[h1];simp) (by omega) (by simp;omega)
  rw[show((2*(pre++[s]).length:Nat):Int)=((2*pre.length:Nat):Int)+2 by simp;omega] at this
  show fQ K (toP b) m (out++[⟨s.1,b.1,s.2,b.2.1⟩]) _=_
  rw[this]
  simp
theorem vo{l:List Bd}(h:Small l):gQ N (l.map toP)=some (aL l):=by
 have key:∀(suf:List Bd) (i:Nat) (out:List au),(∀b∈suf,b.2.2.length≤100000000)→out.length+(aL suf).length≤4294967296→dR N (suf.map toP) i out=some (out++aL suf):=by
  intro suf
  induction suf with
  |nil=>intro i out _ _;rw[List.map_nil,dR.eq_1];simp[aL]
  |cons b suf ih=>
   intro i out hb ho
   have hb0:=hb b (by simp)
   rw[mO,List.length_append,kV] at ho
   rw[List.map_cons,dR.eq_2]
   have:=GL (K:=dR N (suf.map toP) (i+1)) hb0 b.2.2 [] N out rfl (by omega) (by omega)
   rw[show((2*([]:List (Int×Int)).length:Nat):Int)=0 from rfl] at this
   rw[this,ih (i+1) _ (fun c hc=>hb c (by simp[hc])) (by simp;omega),mO,List.append_assoc]
   rfl
 have:=key l 0 [] h.row (by have:=h.tot;simp;omega)
 rw[List.nil_append] at this
 exact this
omit hN in
theorem EX{l:List Bd}(h:(aL l).length≤1000000000000000000):lh (l.map toP)=some ((aL l).length:Int):=by
 have key:∀(suf:List Bd) (i:Nat) (c:Int),0≤c→c+(aL suf).length≤1000000000000000000→gI (suf.map toP) i c=some (c+((aL suf).length:Int)):=by
  intro suf
  induction suf with
  |nil=>intro i c _ _;rw[List.map_nil,gI.eq_1];simp[aL]
  | cons b suf ih=>
   intro i c h0 ho
   rw[mO,List.length_append,kV] at ho
   have e:Int.tdiv ((toP b).Xs.length:Int) 2=(b.2.2.length:Int):=by
    show Int.tdiv ((dP b.2.2).length:Int) 2=_
    rw[gu,Int.tdiv_eq_ediv_of_nonneg (by omega)];omega
   rw[List.map_cons,gI.eq_2,e,eG (x:=(b.2.2.length:Int)) (by omega) (by omega),eG (by omega) (by omega),ih (i+1) _ (by omega) (by omega),mO,List.length_append,kV]
   congr 1
   omega
 have:=key l 0 0 (by omega) (by omega)
 rw[Int.zero_add] at this
 exact this
def DD(l:List Bd):List au×Int:=if 2000<(aL l).length then([],2) else(aL l,0)
end
instance:DecidableEq au:=fun _ _=>decidable_of_iff _ xn
def EF(r:au):Int:=
 if(((within r.X0 (-1000000) 1000000&&within r.Y0 (-1000000) 1000000)&&within r.X1 (-1000000) 1000000)&&within r.Y1 (-1000000) 1000000)=false then 1
 else if(decide (r.X1≤r.X0)||decide (r.Y1≤r.Y0))=true then 13 else 0
def zq:List au→Int
 |[]=>0
 |r::l=>if EF r=0 then zq l else EF r
def oF(l:List au):Int:=if 2000<l.length then 2 else zq l
theorem Ny{r:au}(h:EF r=0):vW r:=by
 unfold EF at h
 split at h
 ·omega
 ·rename_i h1
  split at h
  ·omega
  ·rename_i h2
   rw[Bool.not_eq_false,Bool.and_eq_true,Bool.and_eq_true,Bool.and_eq_true,within_iff,within_iff,within_iff,within_iff] at h1
   rw[Bool.or_eq_true,not_or,decide_eq_true_eq,decide_eq_true_eq] at h2
   exact⟨h1.1.1.1,h1.1.1.2,h1.1.2,h1.2,by omega,by omega⟩
theorem Nz{r:au}(h:vW r):EF r=0:=by
 unfold EF
 have a:=h.x0;have b:=h.y0;have c:=h.x1;have d:=h.y1;have e:=h.x;have f:=h.y
 rw[if_neg (by rw[Bool.not_eq_false,Bool.and_eq_true,Bool.and_eq_true,Bool.and_eq_true,within_iff,within_iff,within_iff,within_iff];exact⟨⟨⟨a,b⟩,c⟩,d⟩),if_neg (by rw[Bool.or_eq_true,not_or,decide_eq_true_eq,decide_eq_true_eq];omega)]
theorem FL:∀{l:List au},zq l=0→∀r∈l,vW r
 |[],_,r,hr=>by simp at hr
 | a::l,h,r,hr=>by
  unfold zq at h
  split at h
  ·rename_i h1
   rcases List.mem_cons.1 hr with rfl|hr
   ·exact Ny h1
   ·exact FL h r hr
  ·rename_i h1;exact absurd h h1
theorem FM:∀{l:List au},(∀r∈l,vW r)→zq l=0
 |[],_=>rfl
 |a::l,h=>by
  unfold zq
  rw[if_pos (Nz (h a (by simp)))]
  exact FM fun r hr=>h r (by simp[hr])
theorem AZ{l:List au}(h:oF l=0):l.length≤2000∧∀r∈l,vW r:=by
 unfold oF at h
 split at h
 ·omega
 ·exact⟨by omega,FL h⟩
theorem D7(r:au):nE r=some (((within r.X0 (-1000000) 1000000&&within r.Y0 (-1000000) 1000000)&&within r.X1 (-1000000) 1000000)&&within r.Y1 (-1000000) 1000000):=by
 unfold nE kT lX within
 simp only[ob]
 cases decide (-1000000≤r.X0)&&decide (r.X0≤1000000)<;>cases decide (-1000000≤r.Y0)&&decide (r.Y0≤1000000)<;>cases decide (-1000000≤r.X1)&&decide (r.X1≤1000000)<;>rfl
theorem Dz(l:List au):lZ l=some (oF l):=by
 have key:∀(l:List au) (i:Nat),fT l i=some (zq l):=by
  intro l
  induction l with
  |nil=>intro i;rw[fT.eq_1];rfl
  |cons r l ih=>
   intro i
   rw[fT.eq_2,D7,ob,ih]
   show _=some (if EF r=0 then zq l else EF r)
   generalize zq l=z
   unfold EF
   cases(((within r.X0 (-1000000) 1000000&&within r.Y0 (-1000000) 1000000)&&within r.X1 (-1000000) 1000000)&&within r.Y1 (-1000000) 1000000)
   ·simp
   ·cases(decide (r.X1≤r.X0)||decide (r.Y1≤r.Y0))<;>simp
 unfold lZ oF
 by_cases h:2000<l.length
 ·rw[if_pos (by simp;omega),if_pos h]
 ·rw[if_neg (by simp;omega),if_neg h,key]
def HZ(a b:au):Bool:=decide (a.Y0<b.Y0)||(decide (a.Y0=b.Y0)&&decide (a.X0<b.X0))
def yl:List au→Bool
 |a::b::l=>HZ a b&&yl (b::l)
 |_=>true
def dB(l:List au):Int:=if oF l=0 then if yl l=true then if aL (lw l)=l then 0 else 3 else 8 else oF l
theorem oP{N:Nat}(hN:10000000000≤N)(l:List au):fZ N l=some (dB l):=by
 unfold fZ dB
 rw[Dz,ob]
 by_cases he:oF l=0
 ·obtain⟨hl,hok⟩:=AZ he
  rw[if_neg (by simpa using he),if_pos he]
  have hend:(fV N l).bind (fun Sa=>(gQ N Sa).bind fun R8=>(ky R8 l).bind fun R7=>if(!R7) then some 3 else some 0)=some (if aL (lw l)=l then(0:Int) else 3):=by
   rw[qL hN (by omega) (fun r hr=>(hok r hr).r9),ob,vo hN (BV (by omega)),ob]
   obtain⟨b,h1,h2⟩:=Kr (aL (lw l)) l
   rw[h1,ob]
   cases b
   ·rw[if_pos (by simp),if_neg (fun h=>by have:=h2.2 h;cases this)]
   ·rw[if_neg (by simp),if_pos (h2.1 rfl)]
  have key:∀(suf pre:List au) (a:au) (m:Nat),l=pre++a::suf→suf.length<m→dO N l m ((pre.length:Int)+1)=some (if yl (a::suf)=true then if aL (lw l)=l then 0 else 3 else 8):=by
   intro suf
   induction suf with
   |nil=>
    intro pre a m h1 h2
    obtain⟨m,rfl⟩:∃k,m=k+1:=⟨m-1,by omega⟩
    rw[dO.eq_2,if_neg (by rw[h1];simp),hend]
    rfl
   | cons b suf ih=>
    intro pre a m h1 h2
    obtain⟨m,rfl⟩:∃k,m=k+1:=⟨m-1,by omega⟩
    have hpl:pre.length≤2000:=by rw[h1] at hl;simp at hl;omega
    have ha:idx l (pre.length:Int)=some a:=by rw[h1];exact mg pre _ a
    have hb:idx l ((pre.length:Int)+1)=some b:=by
     rw[h1,show pre++a::b::suf=(pre++[a])++b::suf by simp,show((pre.length:Int)+1)=((pre++[a]).length:Int) by simp]
     exact mg (pre++[a]) _ b
    rw[dO.eq_2,if_pos (by rw[h1];simp;omega),eG (x:=(pre.length:Int)+1-1) (by omega) (by omega),show((pre.length:Int)+1-1)=(pre.length:Int) by omega,ha,ob,hb,ob,eG (by omega) (by omega)]
    have hlt:((decide (b.Y0<a.Y0))||((b.Y0==a.Y0)&&(decide (b.X0≤a.X0))))= !HZ a b:=by
     unfold HZ
     rw[Bool.eq_iff_iff]
     simp
     omega
    rw[hlt]
    have hor:yl (a::b::suf)=(HZ a b&&yl (b::suf)):=rfl
    rw[hor]
    cases HZ a b
    ·simp
    ·have:=ih (pre++[a]) b m (by rw[h1];simp) (by simp at h2;omega)
     rw[show(((pre++[a]).length:Int)+1)=(pre.length:Int)+1+1 by simp] at this
     rw[this]
     simp
  cases l with
  |nil=>
   obtain⟨m,hm⟩:∃k,N=k+1:=⟨N-1,by omega⟩
   have hf:dO N ([]:List au) N 1=dO N ([]:List au) (m+1) 1:=congrArg (fun z=>dO N ([]:List au) z 1) hm
   rw[hf,dO.eq_2,if_neg (by simp),hend]
   rfl
  |cons a suf=>
   exact key suf [] a N rfl (by simp at hl;omega)
 ·rw[if_pos (by simpa using he),if_neg he]
def rowAt:List Bd→Int→List (Int×Int)
 |[],_=>[]
 |b::l,y=>if b.1≤y∧y<b.2.1 then b.2.2 else rowAt l y
def nu:Int→List Bd→Prop
 |_,[]=>True
 |lo,b::l=>lo≤b.1∧b.1<b.2.1∧b.2.2≠[]∧(∀d,l.head?=some d→d.1=b.2.1→d.2.2≠b.2.2)∧nu b.2.1 l
theorem rO:∀{l:List Bd} {lo y:Int},nu lo l→y<lo→rowAt l y=[]
 |[],_,_,_,_=>rfl
 |b::l,lo,y,h,hy=>by
  unfold rowAt
  rw[if_neg (by have:=h.1;omega)]
  exact rO h.2.2.2.2 (by have:=h.1;have:=h.2.1;omega)
theorem nu.uniq:∀{l m:List Bd} {lo lo':Int},nu lo l→nu lo' m→(∀y,rowAt l y=rowAt m y)→l=m
 |[],[],_,_,_,_,_=>rfl
 |[],b::m,_,_,_,h2,h=>by
  have:=h b.1
  unfold rowAt at this
  rw[if_pos ⟨Int.le_refl _,h2.2.1⟩] at this
  exact absurd this.symm h2.2.2.1
 |b::l,[],_,_,h1,_,h=>by
  have:=h b.1
  unfold rowAt at this
  rw[if_pos ⟨Int.le_refl _,h1.2.1⟩] at this
  exact absurd this h1.2.2.1
 | b ::l,d::m,lo,lo',h1,h2,h=>by
  obtain⟨a1,a2,a3,a4,a5⟩:=h1
  obtain⟨b1,b2,b3,b4,b5⟩:=h2
  have fst:∀{l:List Bd} {b:Bd} {y:Int},b.1≤y→y<b.2.1→rowAt (b::l) y=b.2.2:=fun h1 h2=>by unfold rowAt;rw[if_pos ⟨h1,h2⟩]
  have low:∀{l:List Bd} {b:Bd} {y:Int},nu b.2.1 l→b.1<b.2.1→y<b.1→rowAt (b::l) y=[]:=fun h1 h2 h3=>by
   unfold rowAt
   rw[if_neg (by omega)]
   exact rO h1 (by omega)
  have e1:b.1=d.1:=by
   have hb:=h b.1
   have hd:=h d.1
   rw[fst (Int.le_refl _) a2] at hb
   rw[fst (l:=m) (b:=d) (Int.le_refl _) b2] at hd
   rcases Int.lt_trichotomy b.1 d.1 with hlt|heq|hgt
   ·rw[low b5 b2 hlt] at hb;exact absurd hb a3
   ·exact heq
   ·rw[low a5 a2 hgt] at hd;exact absurd hd.symm b3
  have e2:b.2.2=d.2.2:=by
   have hb:=h b.1
   rw[fst (Int.le_refl _) a2,e1,fst (Int.le_refl _) b2] at hb
   exact hb
  have past:∀{l:List Bd} {b:Bd},nu b.2.1 l→(∀d,l.head?=some d→d.1=b.2.1→d.2.2≠b.2.2)→b.2.2≠[]→rowAt (b::l) b.2.1≠b.2.2:=fun{l b} h1 h2 h3=>by
   unfold rowAt
   rw[if_neg (by omega)]
   cases l with
   |nil=>exact fun h=>h3 h.symm
   | cons e l=>
    unfold rowAt
    by_cases he:e.1=b.2.1
    ·rw[if_pos ⟨by omega,by have:=h1.2.1;omega⟩]
     exact h2 e rfl he
    ·have hlt:b.2.1<e.1:=by have:=h1.1;omega
     rw[if_neg (by omega),rO h1.2.2.2.2 (by have:=h1.2.1;omega)]
     exact fun h=>h3 h.symm
  have e3:b.2.1=d.2.1:=by
   rcases Int.lt_trichotomy b.2.1 d.2.1 with hlt|heq|hgt
   ·have:=h b.2.1
    rw[fst (l:=m) (b:=d) (by omega) hlt,←e2] at this
    exact absurd this (past a5 a4 a3)
   ·exact heq
   ·have:=h d.2.1
    rw[fst (l:=l) (b:=b) (by omega) hgt,e2] at this
    exact absurd this.symm (past b5 b4 b3)
  have hbd:b=d:=by
   obtain⟨x,y,z⟩:=b
   obtain⟨x',y',z'⟩:=d
   simp only at e1 e2 e3
   rw[e1,e2,e3]
  subst hbd
  rw[nu.uniq a5 b5 fun y=>by
   by_cases hy:y<b.2.1
   ·rw[rO a5 hy,rO b5 hy]
   ·have:=h y
    unfold rowAt at this
    rw[if_neg (by omega),if_neg (by omega)] at this
    exact this]
def mU(x y:Int)(l:List Bd):Prop:=pO x (rowAt l y)
def GR(x y:Int)(l:List au):Prop:=∃r∈l,(r.X0≤x∧x<r.X1)∧(r.Y0≤y∧y<r.Y1)
structure uC (l:List Bd):Prop where
 can:∃lo,nu lo l
 row:∀b∈l,∃lo,Can lo b.2.2
theorem sU:∀{l:List Bd} {y:Int},rowAt l y=[]∨∃b∈l,b.1≤y∧y<b.2.1∧rowAt l y=b.2.2
 |[],_=>.inl rfl
 | b::l,y=>by
  unfold rowAt
  by_cases h:b.1≤y∧y<b.2.1
  ·rw[if_pos h];exact .inr ⟨b,by simp,h.1,h.2,rfl⟩
  ·rw[if_neg h]
   rcases sU (l:=l) (y:=y) with h1|⟨c,h1,h2⟩
   ·exact .inl h1
   ·exact .inr ⟨c,by simp[h1],h2⟩
theorem uC.at{l:List Bd}(h:uC l)(y:Int):∃lo,Can lo (rowAt l y):=by
 rcases sU (l:=l) (y:=y) with h1|⟨b,h1,_,_,h2⟩
 ·rw[h1];exact⟨0,trivial⟩
 ·rw[h2];exact h.row b h1
theorem nu.mem:∀{l:List Bd} {lo:Int},nu lo l→∀b∈l,lo≤b.1∧b.1<b.2.1∧b.2.2≠[]
 |[],_,_,b,hb=>by simp at hb
 | c::l,lo,h,b,hb=>by
  rcases List.mem_cons.1 hb with rfl|hb
  ·exact⟨h.1,h.2.1,h.2.2.1⟩
  ·have hm:=h.2.2.2.2.mem b hb
   have:=h.1;have:=h.2.1
   exact⟨by omega,hm.2.1,hm.2.2⟩
theorem tJ:∀{l:List Bd} {lo y:Int} {b:Bd},nu lo l→b∈l→b.1≤y→y<b.2.1→rowAt l y=b.2.2
 |[],_,_,_,_,hb,_,_=>by simp at hb
 | c::l,lo,y,b,h,hb,h1,h2=>by
  unfold rowAt
  rcases List.mem_cons.1 hb with rfl|hb
  ·rw[if_pos ⟨h1,h2⟩]
  ·have:=h.2.2.2.2.mem b hb
   rw[if_neg (by omega)]
   exact tJ h.2.2.2.2 hb h1 h2
theorem uC.uniq{l m:List Bd}(h1:uC l)(h2:uC m)(h:∀x y,mU x y l↔mU x y m):l=m:=by
 obtain⟨lo,c1⟩:=h1.can
 obtain⟨lo',c2⟩:=h2.can
 refine c1.uniq c2 fun y=>?_
 obtain⟨a,ha⟩:=h1.at y
 obtain⟨b,hb⟩:=h2.at y
 exact ha.uniq hb fun x=>h x y
theorem LQ:∀(l:List (Int×Int)),∃lo,∀p∈l,lo<p.1
 |[]=>⟨0,by simp⟩
 |q::l=>by
  obtain⟨lo,h⟩:=LQ l
  refine⟨min lo (q.1-1),fun p hp=>?_⟩
  rcases List.mem_cons.1 hp with rfl|hp
  ·omega
  ·have:=h p hp;omega
theorem Qb{l:List (Int×Int)}(h:∀p∈l,p.1<p.2):(∃lo,Can lo (ym l))∧∀x,pO x (ym l)↔pO x l:=by
 obtain⟨lo,hlo⟩:=LQ l
 obtain⟨h1,h2⟩:=BI (lo:=lo) (l:=l) fun p hp=>⟨hlo p hp,h p hp⟩
 exact⟨⟨lo,h1⟩,h2⟩
theorem zt{l:List au}(h:∀r∈l,r.X0<r.X1)(y:Int):(∃lo,Can lo (tH l y))∧∀x,pO x (tH l y)↔GR x y l:=by
 obtain⟨h1,h2⟩:=Qb (l:=(l.filter fun r=>decide (r.Y0≤y)&&decide (y<r.Y1)).map BK) fun p hp=>by
  obtain⟨r,hr,rfl⟩:=List.mem_map.1 hp
  exact h r (List.mem_filter.1 hr).1
 refine⟨h1,fun x=>(h2 x).trans ?_⟩
 unfold pO GR
 constructor
 ·rintro⟨p,hp,hx⟩
  obtain⟨r,hr,rfl⟩:=List.mem_map.1 hp
  obtain⟨hr,hy⟩:=List.mem_filter.1 hr
  simp at hy
  exact⟨r,hr,hx,hy⟩
 ·rintro⟨r,hr,hx,hy⟩
  exact⟨BK r,List.mem_map.2 ⟨r,List.mem_filter.2 ⟨hr,by simp[hy]⟩,rfl⟩,hx⟩
theorem Ii{l m:List (Int×Int)}(h1:∃lo,Can lo l)(h2:∃lo,Can lo m)(h:∀x,pO x l↔pO x m):l=m:=by
 obtain⟨_,h1⟩:=h1
 obtain⟨_,h2⟩:=h2
 exact h1.uniq h2 h
theorem Ou{l:List (Int×Int)}(h1:∃lo,Can lo l)(h:∀x,¬pO x l):l=[]:=Ii h1 ⟨0,trivial⟩ fun x=>⟨fun hx=>absurd hx (h x),fun hx=>absurd hx lc⟩
theorem Cg{c:Bd}{l:List Bd}{b:Bd}(h:l≠[]):pushB (c::l) b=c::pushB l b:=by
 by_cases he:b.2.2=[]
 ·rw[nK he,nK he]
 ·rcases List.eq_nil_or_concat l with rfl|⟨j,d,hc⟩
  ·exact absurd rfl h
  ·rw[List.concat_eq_append] at hc
   subst hc
   rw[←List.cons_append,qm he,qm he]
   split<;>rfl
theorem Hu{c:Bd}{l:List Bd}{b:Bd}:∃e m,pushB (c::l) b=e::m∧e.1=c.1∧e.2.2=c.2.2:=by
 by_cases hl:l=[]
 ·subst hl
  by_cases he:b.2.2=[]
  ·rw[nK he];exact⟨c,[],rfl,rfl,rfl⟩
  ·have:=qm (l:=[]) (c:=c) he
   rw[List.nil_append] at this
   rw[this]
   split
   ·exact⟨_,_,rfl,rfl,rfl⟩
   ·exact⟨_,_,rfl,rfl,rfl⟩
 ·rw[Cg hl];exact⟨_,_,rfl,rfl,rfl⟩
theorem nu.push:∀{l:List Bd} {lo:Int} {b:Bd},nu lo l→(∀c∈l,c.2.1≤b.1)→lo≤b.1→b.1<b.2.1→
  nu lo (pushB l b)∧(∀c∈pushB l b,c.2.1≤b.2.1∧(c.2.2=b.2.2∨∃d∈l,c.2.2=d.2.2))∧∀y,rowAt (pushB l b) y=if b.1≤y∧y<b.2.1 then b.2.2 else rowAt l y
 | [],lo,b,h,h1,h2,h3=>by
  by_cases he:b.2.2=[]
  ·rw[nK he]
   exact⟨h,by simp,fun y=>by unfold rowAt;split<;>simp[he]⟩
  ·rw[xR he]
   exact⟨⟨h2,h3,he,by simp,trivial⟩,by simp,fun y=>by unfold rowAt;rfl⟩
 | [c],lo,b,h,h1,h2,h3=>by
  have hc:=h1 c (by simp)
  have h4:=h.2.1
  by_cases he:b.2.2=[]
  ·rw[nK he]
   refine⟨h,fun d hd=>⟨by have:=h1 d hd;omega,.inr ⟨d,hd,rfl⟩⟩,fun y=>?_⟩
   by_cases hy:b.1≤y∧y<b.2.1
   ·rw[if_pos hy,he];unfold rowAt;rw[if_neg (by omega)];rfl
   ·rw[if_neg hy]
  ·have hp:=qm (l:=[]) (c:=c) he
   rw[List.nil_append] at hp
   rw[hp]
   by_cases hj:c.2.1=b.1∧c.2.2=b.2.2
   ·rw[if_pos hj]
    refine⟨⟨h.1,by show c.1<b.2.1;omega,h.2.2.1,by simp,trivial⟩,fun d hd=>?_,fun y=>?_⟩
    ·simp at hd;subst hd;exact⟨Int.le_refl _,.inr ⟨c,by simp,rfl⟩⟩
    ·show(if c.1≤y∧y<b.2.1 then c.2.2 else[])=if b.1≤y∧y<b.2.1 then b.2.2 else if c.1≤y∧y<c.2.1 then c.2.2 else[]
     rw[hj.2]
     by_cases ha:b.1≤y∧y<b.2.1
     ·rw[if_pos ha,if_pos (by omega)]
     ·rw[if_neg ha]
      by_cases hb:c.1≤y∧y<c.2.1
      ·rw[if_pos hb,if_pos (by omega)]
      ·rw[if_neg hb,if_neg (by omega)]
   ·rw[if_neg hj]
    refine⟨⟨h.1,h.2.1,h.2.2.1,fun d hd e=>?_,⟨hc,h3,he,by simp,trivial⟩⟩,fun d hd=>?_,fun y=>?_⟩
    ·simp at hd;subst hd
     exact fun h'=>hj ⟨e.symm,h'.symm⟩
    ·simp at hd
     rcases hd with rfl|rfl
     ·exact⟨by omega,.inr ⟨d,by simp,rfl⟩⟩
     ·exact⟨Int.le_refl _,.inl rfl⟩
    ·show(if c.1≤y∧y<c.2.1 then c.2.2 else if b.1≤y∧y<b.2.1 then b.2.2 else[])=if b.1≤y∧y<b.2.1 then b.2.2 else if c.1≤y∧y<c.2.1 then c.2.2 else[]
     by_cases ha:b.1≤y∧y<b.2.1
     ·rw[if_pos ha,if_neg (by omega),if_pos ha]
     ·rw[if_neg ha,if_neg ha]
 | c::d::l,lo,b,h,h1,h2,h3=>by
  obtain⟨i1,i2,i3⟩:=nu.push (l:=d::l) (lo:=c.2.1) (b:=b) h.2.2.2.2 (fun e he=>h1 e (by simp[List.mem_cons.1 he])) (h1 c (by simp)) h3
  rw[Cg (by simp)]
  have hc:=h1 c (by simp)
  have h4:=h.2.1
  refine⟨⟨h.1,h.2.1,h.2.2.1,fun e he e1=>?_,i1⟩,fun e he=>?_,fun y=>?_⟩
  ·obtain⟨f,m,p1,p2,p3⟩:=Hu (c:=d) (l:=l) (b:=b)
   rw[p1] at he
   simp at he
   subst he
   rw[p3]
   exact h.2.2.2.1 d rfl (by omega)
  ·rcases List.mem_cons.1 he with rfl|he
   ·exact⟨by omega,.inr ⟨e,by simp,rfl⟩⟩
   ·obtain⟨j1,j2|⟨f,j2,j3⟩⟩:=i2 e he
    ·exact⟨j1,.inl j2⟩
    ·exact⟨j1,.inr ⟨f,by simp[List.mem_cons.1 j2],j3⟩⟩
  ·show(if c.1≤y∧y<c.2.1 then c.2.2 else rowAt (pushB (d::l) b) y)=if b.1≤y∧y<b.2.1 then b.2.2 else if c.1≤y∧y<c.2.1 then c.2.2 else rowAt (d::l) y
   rw[i3 y]
   by_cases ha:b.1≤y∧y<b.2.1
   ·rw[if_pos ha,if_pos ha,if_neg (by omega)]
   ·rw[if_neg ha,if_neg ha]
def xy(f:Int→List (Int×Int)):List Int→List Bd→List Bd
 |a::b::ys,out=>xy f (b::ys) (pushB out (a,b,f a))
 |_,out=>out
theorem Ei(l:List au):∀(ys:List Int) (out:List Bd),rF l ys out=xy (tH l) ys out
 |[],_=>rfl
 |[_],_=>rfl
 |a::b::ys,out=>Ei l (b::ys) (pushB out (a,b,tH l a))
def E5(f:Int→List (Int×Int)):List Int→Prop
 |a::b::ys=>(∀y,a≤y→y<b→f y=f a)∧E5 f (b::ys)
 |_=>True
theorem Js{f:Int→List (Int×Int)}{zs:List Int}(hc:∀a y,a≤y→(∀z∈zs,z≤a∨y<z)→f y=f a):∀{ys pre:List Int},zs=pre++ys→zs.Pairwise (fun x y=>x<y)→E5 f ys
 |[],_,_,_=>trivial
 |[_],_,_,_=>trivial
 | a::b::ys,pre,e,h=>by
  refine⟨fun y h1 h2=>hc a y h1 fun z hz=>?_,Js hc (ys:=b::ys) (pre:=pre++[a]) (by rw[e];simp) h⟩
  rw[e] at hz h
  obtain⟨_,k1,k2⟩:=List.pairwise_append.1 h
  rcases List.mem_append.1 hz with hz|hz
  ·have:=k2 z hz a (by simp);exact .inl (by omega)
  ·rcases List.mem_cons.1 hz with rfl|hz
   ·exact .inl (Int.le_refl _)
   ·rcases List.mem_cons.1 hz with rfl|hz
    ·exact .inr h2
    ·have:=(List.pairwise_cons.1 (List.pairwise_cons.1 k1).2).1 z hz;exact .inr (by omega)
theorem Gy{f:Int→List (Int×Int)}{lo:Int}(hf:∀y,∃lo,Can lo (f y)):∀(ys:List Int) (out:List Bd),ys.Pairwise (fun x y=>x<y)→E5 f ys→nu lo out→(∀b∈out,∃lo,Can lo b.2.2)→(∀a,ys.head?=some a→lo≤a∧(∀c∈out,c.2.1≤a))→
  nu lo (xy f ys out)∧(∀b∈xy f ys out,∃lo,Can lo b.2.2)∧∀y,rowAt (xy f ys out) y=if(∃a∈ys,a≤y)∧(∃z∈ys,y<z) then f y else rowAt out y
 |[],out,_,_,h1,h2,_=>⟨h1,h2,fun y=>by rw[if_neg (by simp)];rfl⟩
 |[a],out,_,_,h1,h2,_=>⟨h1,h2,fun y=>by rw[if_neg (by rintro⟨⟨c,hc,h1⟩,z,hz,h2⟩;simp at hc hz;omega)];rfl⟩
 | a ::b::ys,out,hs,hc,h1,h2,h3=>by
  have hab:a<b:=(List.pairwise_cons.1 hs).1 b (by simp)
  have hs2:=(List.pairwise_cons.1 hs).2
  obtain⟨h5,h6⟩:=h3 a rfl
  obtain⟨p1,p2,p3⟩:=h1.push (b:=(a,b,f a)) h6 h5 hab
  obtain⟨i1,i2,i3⟩:=Gy hf (b::ys) (pushB out (a,b,f a)) hs2 hc.2 p1 (fun c hc=>by
   rcases(p2 c hc).2 with e|⟨d,hd,e⟩
   ·rw[e];exact hf a
   ·rw[e];exact h2 d hd) (fun z hz=>by
   simp at hz;subst hz
   exact⟨by omega,fun c hc=>(p2 c hc).1⟩)
  refine⟨i1,i2,fun y=>?_⟩
  show rowAt (xy f (b::ys) (pushB out (a,b,f a))) y=_
  rw[i3 y,p3 y]
  show(if(∃c∈b::ys,c≤y)∧(∃z∈b::ys,y<z) then f y else if a≤y∧y<b then f a else rowAt out y)=_
  by_cases ya:y<a
  ·rw[if_neg (fun h=>by
    obtain⟨⟨c,hc,hcy⟩,_⟩:=h
    rcases List.mem_cons.1 hc with rfl|hc
    ·omega
    ·have:=(List.pairwise_cons.1 hs2).1 c hc;omega),if_neg (by omega),if_neg (fun h=>by
    obtain⟨⟨c,hc,hcy⟩,_⟩:=h
    rcases List.mem_cons.1 hc with rfl|hc
    ·omega
    ·have:=(List.pairwise_cons.1 hs).1 c hc;omega)]
  ·by_cases yb:y<b
   ·rw[if_neg (fun h=>by
     obtain⟨⟨c,hc,hcy⟩,_⟩:=h
     rcases List.mem_cons.1 hc with rfl|hc
     ·omega
     ·have:=(List.pairwise_cons.1 hs2).1 c hc;omega),if_pos (by omega),if_pos ⟨⟨a,by simp,by omega⟩,⟨b,by simp,yb⟩⟩]
    exact(hc.1 y (by omega) yb).symm
   ·by_cases hz:∃z∈b::ys,y<z
    ·obtain⟨z,hz,hyz⟩:=hz
     rw[if_pos ⟨⟨b,by simp,by omega⟩,z,hz,hyz⟩,if_pos ⟨⟨a,by simp,by omega⟩,z,List.mem_cons_of_mem _ hz,hyz⟩]
    ·rw[if_neg (fun h=>hz h.2),if_neg (by omega),if_neg (fun h=>by
      obtain⟨_,z,hm,hyz⟩:=h
      rcases List.mem_cons.1 hm with rfl|hm
      ·omega
      ·exact hz ⟨z,hm,hyz⟩)]
theorem Ij{f:Int→List (Int×Int)}{ys:List Int}(hs:ys.Pairwise fun x y=>x<y)(hf:∀y,∃lo,Can lo (f y))(hc:∀a y,a≤y→(∀z∈ys,z≤a∨y<z)→f y=f a)(h0:∀y,(∀a∈ys,y<a)→f y=[])(h1:∀y,(∀a∈ys,a≤y)→f y=[]):uC (xy f ys [])∧∀y,rowAt (xy f ys []) y=f y:=by
 obtain⟨lo,hlo⟩:∃lo:Int,∀z∈ys,lo≤z:=by
  have:∀m:List Int,∃lo:Int,∀z∈m,lo≤z:=by
   intro m
   induction m with
   |nil=>exact⟨0,by simp⟩
   |cons a m ih=>
    obtain⟨lo,h⟩:=ih
    refine⟨min lo a,fun z hz=>?_⟩
    rcases List.mem_cons.1 hz with rfl|hz
    ·omega
    ·have:=h z hz;omega
  exact this _
 obtain⟨i1,i2,i3⟩:=Gy (lo:=lo) hf ys [] hs (Js hc (ys:=ys) (pre:=[]) rfl hs) trivial (by simp) (fun a ha=>⟨hlo a (List.mem_of_mem_head? (by rw[ha];rfl)),by simp⟩)
 refine⟨⟨⟨lo,i1⟩,i2⟩,fun y=>?_⟩
 rw[i3 y]
 by_cases ha:∃a∈ys,a≤y
 ·by_cases hz:∃z∈ys,y<z
  ·rw[if_pos ⟨ha,hz⟩]
  ·rw[if_neg (fun h=>hz h.2),h1 y (fun a ham=>by
    rcases Int.lt_or_le y a with h|h
    ·exact absurd ⟨a,ham,h⟩ hz
    ·exact h)];rfl
 ·rw[if_neg (fun h=>ha h.1),h0 y (fun a ham=>by
   rcases Int.lt_or_le y a with h|h
   ·exact h
   ·exact absurd ⟨a,ham,h⟩ ha)];rfl
theorem FN{l:List au}(hl:∀r∈l,r.X0<r.X1){y:Int}(h:∀r∈l,¬(r.Y0≤y∧y<r.Y1)):tH l y=[]:=by
 obtain⟨c1,c2⟩:=zt hl y
 exact Ou c1 fun x hx=>by
  obtain⟨r,hr,_,hy⟩:=(c2 x).1 hx
  exact h r hr hy
theorem Hl{l:List au}(hl:∀r∈l,r.X0<r.X1){a y:Int}(h:∀r∈l,(r.Y0≤y∧y<r.Y1)↔(r.Y0≤a∧a<r.Y1)):tH l y=tH l a:=by
 obtain⟨c1,c2⟩:=zt hl y
 obtain⟨c3,c4⟩:=zt hl a
 refine Ii c1 c3 fun x=>(c2 x).trans (Iff.trans ?_ (c4 x).symm)
 unfold GR
 constructor
 ·rintro⟨r,hr,hx,hy⟩;exact⟨r,hr,hx,(h r hr).1 hy⟩
 ·rintro⟨r,hr,hx,hy⟩;exact⟨r,hr,hx,(h r hr).2 hy⟩
theorem FO{l:List au}{ys:List Int}(hl:∀r∈l,r.X0<r.X1∧r.Y0<r.Y1)(hy:∀r∈l,r.Y0∈ys∧r.Y1∈ys):(∀a y,a≤y→(∀z∈ys,z≤a∨y<z)→tH l y=tH l a)∧(∀y,(∀a∈ys,y<a)→tH l y=[])∧(∀y,(∀a∈ys,a≤y)→tH l y=[]):=by
 have hx:∀r∈l,r.X0<r.X1:=fun r hr=>(hl r hr).1
 refine⟨fun a y hay h=>Hl hx fun r hr=>?_,fun y h=>FN hx fun r hr hh=>?_,fun y h=>FN hx fun r hr hh=>?_⟩
 ·have:=h _ (hy r hr).1;have:=h _ (hy r hr).2;omega
 ·have:=h _ (hy r hr).1;omega
 ·have:=h _ (hy r hr).2;omega
theorem K6{l:List au}(hl:∀r∈l,r.X0<r.X1∧r.Y0<r.Y1):uC (lw l)∧∀y,rowAt (lw l) y=tH l y:=by
 obtain⟨h1,h2,h3⟩:=FO (ys:=uR (rJ l)) hl fun r hr=>⟨(uQ _ _).2 (sV.2 ⟨r,hr,.inl rfl⟩),(uQ _ _).2 (sV.2 ⟨r,hr,.inr rfl⟩)⟩
 have:=Ij (uk (rJ l)) (fun y=>(zt (fun r hr=>(hl r hr).1) y).1) h1 h2 h3
 unfold lw
 rw[Ei]
 exact this
theorem kZ{l:List au}(hl:∀r∈l,r.X0<r.X1∧r.Y0<r.Y1):uC (lw l)∧∀x y,mU x y (lw l)↔GR x y l:=by
 obtain⟨h1,h2⟩:=K6 hl
 refine⟨h1,fun x y=>?_⟩
 unfold mU
 rw[h2]
 exact(zt (fun r hr=>(hl r hr).1) y).2 x
theorem qp{l:List Bd}{r:au}:r∈aL l↔∃b∈l,∃s∈b.2.2,r=⟨s.1,b.1,s.2,b.2.1⟩:=by
 unfold aL qi
 simp only[List.mem_flatMap,List.mem_map]
 constructor
 ·rintro⟨b,hb,s,hs,rfl⟩;exact⟨b,hb,s,hs,rfl⟩
 ·rintro⟨b,hb,s,hs,rfl⟩;exact⟨b,hb,s,hs,rfl⟩
theorem oJ{l:List Bd}(h:uC l)(x y:Int):GR x y (aL l)↔mU x y l:=by
 obtain⟨lo,hc⟩:=h.can
 unfold GR mU
 constructor
 ·rintro⟨r,hr,hx,hy⟩
  obtain⟨b,hb,s,hs,rfl⟩:=qp.1 hr
  rw[tJ hc hb hy.1 hy.2]
  exact⟨s,hs,hx⟩
 ·intro hx
  rcases sU (l:=l) (y:=y) with h1|⟨b,hb,h1,h2,h3⟩
  ·rw[h1] at hx;exact absurd hx lc
  ·rw[h3] at hx
   obtain⟨s,hs,hx⟩:=hx
   exact⟨_,qp.2 ⟨b,hb,s,hs,rfl⟩,hx,h1,h2⟩
theorem oU{l:List Bd}(h:uC l):∀r∈aL l,r.X0<r.X1∧r.Y0<r.Y1:=fun r hr=>by
 obtain⟨lo,hc⟩:=h.can
 obtain⟨b,hb,s,hs,rfl⟩:=qp.1 hr
 obtain⟨lo',hr⟩:=h.row b hb
 exact⟨(hr.mem s hs).2,(hc.mem b hb).2.1⟩
theorem Fz{l:List Bd}(h:uC l):lw (aL l)=l:=by
 obtain⟨a1,a2⟩:=kZ (oU h)
 exact a1.uniq h fun x y=>by rw[a2,oJ h]
theorem vJ{l:List Bd}(h:uC l)(hx:∀x y,mU x y l→(-1000000≤x∧x<1000000)∧(-1000000≤y∧y<1000000)):∀r∈aL l,vW r:=fun r hr=>by
 have hne:=oU h r hr
 have h1:=hx r.X0 r.Y0 ((oJ h _ _).1 ⟨r,hr,⟨Int.le_refl _,hne.1⟩,⟨Int.le_refl _,hne.2⟩⟩)
 have h2:=hx (r.X1-1) (r.Y1-1) ((oJ h _ _).1 ⟨r,hr,⟨by omega,by omega⟩,⟨by omega,by omega⟩⟩)
 exact⟨by omega,by omega,by omega,by omega,hne.1,hne.2⟩
theorem Ba:∀{l m:List au},yl l=true→yl m=true→(∀a∈l,∀b∈m,HZ a b=true)→yl (l++m)=true
 |[],_,_,h,_=>h
 |[a],[],_,_,_=>rfl
 |[a],b::m,_,h2,h3=>by
  show(HZ a b&&yl (b::m))=true
  rw[h3 a (by simp) b (by simp),h2];rfl
 |a::c::l,m,h1,h2,h3=>by
  have h1:(HZ a c&&yl (c::l))=true:=h1
  rw[Bool.and_eq_true] at h1
  show(HZ a c&&yl (c::l++m))=true
  rw[h1.1,Ba h1.2 h2 fun x hx y hy=>h3 x (by simp[List.mem_cons.1 hx]) y hy];rfl
theorem zz{b:Bd}:∀{l:List (Int×Int)} {lo:Int},Can lo l→yl (l.map fun s=>(⟨s.1,b.1,s.2,b.2.1⟩:au))=true
 |[],_,_=>rfl
 |[p],_,_=>rfl
 |p::q::l,lo,h=>by
  show(HZ _ _&&yl (List.map (fun s=>(⟨s.1,b.1,s.2,b.2.1⟩:au)) (q::l)))=true
  rw[zz h.2.2,Bool.and_true]
  unfold HZ
  have:=h.2.1;have:=h.2.2.1
  simp
  omega
theorem ul:∀{l:List Bd} {lo:Int},nu lo l→(∀b∈l,∃lo,Can lo b.2.2)→yl (aL l)=true
 |[],_,_,_=>rfl
 |b::l,lo,h,hr=>by
  rw[mO]
  obtain⟨lo',h1⟩:=hr b (by simp)
  refine Ba (zz h1) (ul h.2.2.2.2 fun c hc=>hr c (by simp[hc])) fun x hx y hy=>?_
  obtain⟨s,hs,rfl⟩:=List.mem_map.1 hx
  obtain⟨c,hc,t,ht,rfl⟩:=qp.1 hy
  have:=h.2.2.2.2.mem c hc
  have:=h.2.1
  unfold HZ
  simp
  omega
theorem nu.mono{l:List Bd}{lo lo':Int}(h:nu lo l)(hl:lo'≤lo):nu lo' l:=by
 cases l with
 |nil=>trivial
 |cons b l=>exact⟨by have:=h.1;omega,h.2⟩
theorem JM{l:List Bd}(h:uC l)(hx:∀x y,mU x y l→(-1000000≤x∧x<1000000)∧(-1000000≤y∧y<1000000))(hn:(aL l).length≤2000):dB (aL l)=0:=by
 unfold dB
 have h1:oF (aL l)=0:=by
  unfold oF
  rw[if_neg (by omega)]
  exact FM (vJ h hx)
 obtain⟨lo,hc⟩:=h.can
 rw[if_pos h1,if_pos (ul hc h.row),if_pos (by rw[Fz h])]
theorem oQ{l:List au}(h:dB l=0):oF l=0∧l.length≤2000∧(∀r∈l,vW r)∧aL (lw l)=l:=by
 unfold dB at h
 by_cases h1:oF l=0
 ·obtain⟨h2,h3⟩:=AZ h1
  rw[if_pos h1] at h
  split at h
  ·split at h
   ·rename_i h4;exact⟨h1,h2,h3,h4⟩
   ·omega
  ·omega
 ·rw[if_neg h1] at h;exact absurd h h1
theorem vW.ne{l:List au}(h:∀r∈l,vW r):∀r∈l,r.X0<r.X1∧r.Y0<r.Y1:=fun r hr=>⟨(h r hr).x,(h r hr).y⟩
theorem EY{l:List au}(h:∀r∈l,vW r){x y:Int}(hx:GR x y l):(-1000000≤x∧x<1000000)∧(-1000000≤y∧y<1000000):=by
 obtain⟨r,hr,h1,h2⟩:=hx
 have a:=h r hr
 have:=a.x0;have:=a.x1;have:=a.y0;have:=a.y1
 omega
def par(x:Int):List Int→Bool
 |[]=>false
 |a::l=>xor (decide (a≤x)) (par x l)
theorem yN(x:Int):∀l m:List Int,par x (l++m)=xor (par x l) (par x m)
 |[],m=>by simp[par]
 |a::l,m=>by rw[List.cons_append,par,yN x l m,par,Bool.xor_assoc]
theorem vK{x:Int}:∀{l:List Int},(∀a∈l,x<a)→par x l=false
 |[],_=>rfl
 |a::l,h=>by
  rw[par,vK fun b hb=>h b (by simp[hb]),decide_eq_false (by have:=h a (by simp);omega)];rfl
theorem zA(n:Nat):((n+1)%2==1)= !(n%2==1):=by
 rcases Nat.mod_two_eq_zero_or_one n with h|h
 ·have:(n+1)%2=1:=by omega
  rw[h,this];rfl
 ·have:(n+1)%2=0:=by omega
  rw[h,this];rfl
theorem Aj{x:Int}:∀{l:List Int},(∀a∈l,a≤x)→par x l=(l.length%2==1)
 |[],_=>rfl
 |a::l,h=>by
  rw[par,Aj fun b hb=>h b (by simp[hb]),decide_eq_true (h a (by simp)),List.length_cons,zA,Bool.true_xor]
theorem yj:∀{l:List (Int×Int)} {lo x:Int},Can lo l→(pO x l↔par x (dP l)=true)
 |[],_,_,_=>by simp[lc,sW,par]
 | p::l,lo,x,h=>by
  obtain⟨h1,h2,h3⟩:=h
  have ih:=yj (x:=x) h3
  have hl:=fun hx:pO x l=>h3.lt hx
  rw[iM,oG,par,par]
  cases hp:par x (dP l)
  ·rw[hp] at ih
   have:¬pO x l:=fun hx=>by have:=ih.1 hx;cases this
   by_cases a:p.1≤x<;>by_cases b:p.2≤x<;>simp[a,b,this]<;>omega
  ·rw[hp] at ih
   have h4:=ih.2 rfl
   have:=hl h4
   have a:p.1≤x:=by omega
   have b:p.2≤x:=by omega
   simp[a,b,h4]
theorem Can.strict:∀{l:List (Int×Int)} {lo:Int},Can lo l→(dP l).Pairwise (fun x y=>x<y)∧∀z∈dP l,lo<z
 |[],_,_=>⟨List.Pairwise.nil,by simp[sW]⟩
 | p::l,lo,h=>by
  obtain⟨h1,h2,h3⟩:=h
  obtain⟨i1,i2⟩:=h3.strict
  rw[oG]
  refine⟨List.pairwise_cons.2 ⟨fun z hz=>?_,List.pairwise_cons.2 ⟨i2,i1⟩⟩,fun z hz=>?_⟩
  ·rcases List.mem_cons.1 hz with rfl|hz
   ·exact h2
   ·have:=i2 z hz;omega
  ·rcases List.mem_cons.1 hz with rfl|hz
   ·exact h1
   ·rcases List.mem_cons.1 hz with rfl|hz
    ·omega
    ·have:=i2 z hz;omega
theorem BQ:∀(l:List Int) (lo:Int),l.Pairwise (fun x y=>x<y)→(∀z∈l,lo<z)→(l.length%2==1)=false→∃C,Can lo C∧dP C=l
 |[],_,_,_,_=>⟨[],trivial,rfl⟩
 |[a],_,_,_,h=>by simp at h
 |a::b::l,lo,h1,h2,h3=>by
  have k:=List.pairwise_cons.1 h1
  have k2:=List.pairwise_cons.1 k.2
  obtain⟨C,c1,c2⟩:=BQ l b k2.2 k2.1 (by rw[List.length_cons,List.length_cons,zA,zA,Bool.not_not] at h3;exact h3)
  exact⟨(a,b)::C,⟨h2 a (by simp),k.1 b (by simp),c1⟩,by rw[oG,c2]⟩
theorem tK{α:Type}(x:α)(l:List α):cut (x::l) 1 ((x::l).length:Int)=some l:=by
 unfold cut
 rw[if_pos ⟨by omega,by simp;omega,by omega⟩]
 simp
structure Iu (k:Bool→Bool→Bool) (a b out:List Int) (inA zZ:Bool) (r:List Int):Prop where
 strict:r.Pairwise fun x y=>x<y
 mem:∀z∈r,z∈out∨z∈a∨z∈b
 len:r.length≤out.length+a.length+b.length
 hi:∀z,(∀o∈out,o≤z)→par z r=k (xor inA (par z a)) (xor zZ (par z b))
 lo:∀z,(∃o∈out,z<o)→par z r=par z out
theorem uU{k:Bool→Bool→Bool}{f:Bool→Bool→Option Bool}(hf:∀a b,f a b=some (k a b)){m:Nat}{a b a1 b1 out:List Int}{inA zZ inA1 inB1 is:Bool}{X:Int}
  (ih:∀(out:List Int) (is:Bool),out.Pairwise (fun x y=>x<y)→(∀o∈out,(∀x∈a1,o<x)∧∀x∈b1,o<x)→is=k inA1 inB1→is=(out.length%2==1)→out.length+a1.length+b1.length≤4000000000→∃r,dM f m a1 b1 out inA1 inB1 is=some r∧Iu k a1 b1 out inA1 inB1 r)
  (hs:out.Pairwise fun x y=>x<y) (ho:∀o∈out,o<X) (ha1:∀x∈a1,X<x) (hb1:∀x∈b1,X<x) (hi:is=k inA zZ) (hp:is=(out.length%2==1)) (hl:out.length+a1.length+b1.length+1≤out.length+a.length+b.length) (hl2:out.length+a.length+b.length≤4000000000)
  (pa:∀z,X≤z→xor inA (par z a)=xor inA1 (par z a1)) (pb:∀z,X≤z→xor zZ (par z b)=xor inB1 (par z b1)) (pa0:∀z,z<X→par z a=false) (pb0:∀z,z<X→par z b=false)
  (hm:∀z,z∈a1→z∈a) (hm2:∀z,z∈b1→z∈b) (hX:X∈a∨X∈b):
  ∃r,lu f out is (dM f m) X a1 inA1 b1 inB1=some r∧Iu k a b out inA zZ r:=by
 unfold lu
 rw[hf,ob]
 by_cases hk:k inA1 inB1=is
 ·rw[if_neg (by simp[hk])]
  obtain⟨r,h1,h2⟩:=ih out is hs (fun o h=>⟨fun x hx=>by have:=ho o h;have:=ha1 x hx;omega,fun x hx=>by have:=ho o h;have:=hb1 x hx;omega⟩) hk.symm hp (by omega)
  refine⟨r,h1,h2.strict,fun z hz=>?_,by have:=h2.len;omega,fun z hz=>?_,h2.lo⟩
  ·rcases h2.mem z hz with h|h|h
   ·exact .inl h
   ·exact .inr (.inl (hm z h))
   ·exact .inr (.inr (hm2 z h))
  ·rw[h2.hi z hz]
   by_cases hxz:X≤z
   ·rw[pa z hxz,pb z hxz]
   ·rw[pa0 z (by omega),pb0 z (by omega),vK fun x hx=>by have:=ha1 x hx;omega,vK fun x hx=>by have:=hb1 x hx;omega,Bool.xor_false,Bool.xor_false,Bool.xor_false,Bool.xor_false,hk,hi]
 ·rw [if_pos (by simpa using hk),kP (by simp;omega),ob]
  obtain⟨r,h1,h2⟩:=ih (out++[X]) (k inA1 inB1) (List.pairwise_append.2 ⟨hs,List.pairwise_singleton _ _,fun o h x hx=>by simp at hx;subst hx;exact ho o h⟩) (fun o h=>by
   rcases List.mem_append.1 h with h|h
   ·exact⟨fun x hx=>by have:=ho o h;have:=ha1 x hx;omega,fun x hx=>by have:=ho o h;have:=hb1 x hx;omega⟩
   ·simp at h;subst h;exact⟨ha1,hb1⟩) rfl (by
   rw[List.length_append,List.length_singleton,zA,←hp]
   cases hv:k inA1 inB1<;>cases is<;>simp_all) (by simp;omega)
  refine⟨r,h1,h2.strict,fun z hz=>?_,by have:=h2.len;simp at this;omega,fun z hz=>?_,fun z hz=>?_⟩
  ·rcases h2.mem z hz with h|h|h
   ·rcases List.mem_append.1 h with h|h
    ·exact .inl h
    ·simp at h;subst h
     rcases hX with h|h
     ·exact .inr (.inl h)
     ·exact .inr (.inr h)
   ·exact .inr (.inl (hm z h))
   ·exact .inr (.inr (hm2 z h))
  ·by_cases hxz:X≤z
   ·rw[h2.hi z (fun o h=>by
     rcases List.mem_append.1 h with h|h
     ·exact hz o h
     ·simp at h;omega),pa z hxz,pb z hxz]
   ·rw[h2.lo z ⟨X,by simp,by omega⟩,yN,pa0 z (by omega),pb0 z (by omega),Bool.xor_false,Bool.xor_false,Aj hz,←hp,hi,vK (l:=[X]) (fun x hx=>by simp at hx;omega),Bool.xor_false]
  ·obtain⟨o,h,hzo⟩:=hz
   rw[h2.lo z ⟨o,by simp[h],hzo⟩,yN,vK (l:=[X]) (fun x hx=>by simp at hx;have:=ho o h;omega),Bool.xor_false]
theorem xV{k:Bool→Bool→Bool}{f:Bool→Bool→Option Bool}(hf:∀a b,f a b=some (k a b)):∀(m:Nat) (a b out:List Int) (inA zZ is:Bool),a.length+b.length<m→a.Pairwise (fun x y=>x<y)→b.Pairwise (fun x y=>x<y)→out.Pairwise (fun x y=>x<y)→(∀o∈out,(∀x∈a,o<x)∧∀x∈b,o<x)→is=k inA zZ→is=(out.length%2==1)→out.length+a.length+b.length≤4000000000→
  ∃r,dM f m a b out inA zZ is=some r∧Iu k a b out inA zZ r
 |0,_,_,_,_,_,_,h,_,_,_,_,_,_,_=>absurd h (Nat.not_lt_zero _)
 |m+1,[],[],out,inA,zZ,is,_,_,_,hs,_,hi,hp,_=>by
  rw[dM.eq_2,if_neg (by simp)]
  exact⟨out,rfl,hs,fun z hz=>.inl hz,by simp,fun z hz=>by rw[Aj hz,←hp,hi];simp[par],fun _ _=>rfl⟩
 | m+1,x::a,[],out,inA,zZ,is,hm,sa,sb,hs,ho,hi,hp,hl=>by
  have ha:=List.pairwise_cons.1 sa
  rw[dM.eq_2,if_pos (by simp),if_pos (by simp),ob,if_pos rfl,show idx (x::a) 0=some x from rfl,ob]
  unfold jl
  rw[if_pos (by simp),show idx (x::a) 0=some x from rfl,ob,ob,if_pos (by simp),tK,ob]
  unfold jM
  rw[if_neg (by simp),ob,if_neg (by simp)]
  simp only[List.length_cons,List.length_nil] at hm hl
  refine uU (m:=m) (a:=x::a) (b:=[]) hf (fun o i k1 k2 k3 k4 k5=>xV hf m a [] o (!inA) zZ i (by simp;omega) ha.2 sb k1 k2 k3 k4 k5) hs (fun o h=>(ho o h).1 x (by simp)) ha.1 (by simp) hi hp (by simp;omega) (by simp;omega) (fun z hz=>?_) (fun _ _=>rfl) (fun z hz=>vK fun y hy=>?_) (fun _ _=>rfl) (fun z h=>by simp[h]) (fun z h=>h) (.inl (by simp))
  ·rw[par,decide_eq_true hz];cases inA<;>cases par z a<;>rfl
  ·rcases List.mem_cons.1 hy with rfl|hy
   ·exact hz
   ·have:=ha.1 y hy;omega
 | m+1,[],y::b,out,inA,zZ,is,hm,sa,sb,hs,ho,hi,hp,hl=>by
  have hb:=List.pairwise_cons.1 sb
  rw[dM.eq_2,if_pos (by simp),if_neg (by simp;omega),if_neg (by simp),ob,ob,if_neg (by simp),show idx (y::b) 0=some y from rfl,ob]
  unfold jl
  rw[if_neg (by simp),ob,if_neg (by simp)]
  unfold jM
  rw[if_pos (by simp),show idx (y::b) 0=some y from rfl,ob,ob,if_pos (by simp),tK,ob]
  simp only[List.length_cons,List.length_nil] at hm hl
  refine uU (m:=m) (a:=[]) (b:=y::b) hf (fun o i k1 k2 k3 k4 k5=>xV hf m [] b o inA (!zZ) i (by simp;omega) sa hb.2 k1 k2 k3 k4 k5) hs (fun o h=>(ho o h).2 y (by simp)) (by simp) hb.1 hi hp (by simp;omega) (by simp;omega) (fun _ _=>rfl) (fun z hz=>?_) (fun _ _=>rfl) (fun z hz=>vK fun x hx=>?_) (fun z h=>h) (fun z h=>by simp[h]) (.inr (by simp))
  ·rw[par,decide_eq_true hz];cases zZ<;>cases par z b<;>rfl
  ·rcases List.mem_cons.1 hx with rfl|hx
   ·exact hz
   ·have:=hb.1 x hx;omega
 | m +1,x::a,y::b,out,inA,zZ,is,hm,sa,sb,hs,ho,hi,hp,hl=>by
  have ha:=List.pairwise_cons.1 sa
  have hb:=List.pairwise_cons.1 sb
  have e1:idx (x::a) 0=some x:=rfl
  have e2:idx (y::b) 0=some y:=rfl
  simp only[List.length_cons] at hm hl
  rw[dM.eq_2,if_pos (by simp),if_neg (by simp;omega),if_pos (by simp),e1,ob,e2,ob,ob,ob]
  simp only[ob]
  have hxa:∀z,x≤z→xor inA (par z (x::a))=xor (!inA) (par z a):=fun z hz=>by rw[par,decide_eq_true hz];cases inA<;>cases par z a<;>rfl
  have hyb:∀z,y≤z→xor zZ (par z (y::b))=xor (!zZ) (par z b):=fun z hz=>by rw[par,decide_eq_true hz];cases zZ<;>cases par z b<;>rfl
  have hax:∀z,z<x→par z (x::a)=false:=fun z hz=>vK fun v hv=>by
   rcases List.mem_cons.1 hv with rfl|hv
   ·exact hz
   ·have:=ha.1 v hv;omega
  have hby:∀z,z<y→par z (y::b)=false:=fun z hz=>vK fun v hv=>by
   rcases List.mem_cons.1 hv with rfl|hv
   ·exact hz
   ·have:=hb.1 v hv;omega
  by_cases hxy:x≤y
  ·rw[if_pos (by simpa using hxy)]
   unfold jl
   rw[if_pos (by simp),e1,ob,ob,if_pos (by simp),tK,ob]
   unfold jM
   rw[if_pos (by simp),e2,ob,ob]
   by_cases he:y=x
   ·subst he
    rw[if_pos (by simp),tK,ob]
    exact uU (m:=m) (a:=y::a) (b:=y::b) hf (fun o i k1 k2 k3 k4 k5=>xV hf m a b o (!inA) (!zZ) i (by omega) ha.2 hb.2 k1 k2 k3 k4 k5) hs (fun o h=>(ho o h).1 y (by simp)) ha.1 hb.1 hi hp (by simp;omega) (by simp;omega) hxa hyb hax hby (fun z h=>by simp[h]) (fun z h=>by simp[h]) (.inl (by simp))
   ·rw[if_neg (by simpa using he)]
    exact uU (m:=m) (a:=x::a) (b:=y::b) hf (fun o i k1 k2 k3 k4 k5=>xV hf m a (y::b) o (!inA) zZ i (by simp;omega) ha.2 sb k1 k2 k3 k4 k5) hs (fun o h=>(ho o h).1 x (by simp)) ha.1 (fun v hv=>by
     rcases List.mem_cons.1 hv with rfl|hv
     ·omega
     ·have:=hb.1 v hv;omega) hi hp (by simp;omega) (by simp;omega) hxa (fun _ _=>rfl) hax (fun z hz=>hby z (by omega)) (fun z h=>by simp[h]) (fun z h=>h) (.inl (by simp))
  ·rw[if_neg (by simpa using hxy)]
   unfold jl
   rw[if_pos (by simp),e1,ob,ob,if_neg (by simp;omega)]
   unfold jM
   rw[if_pos (by simp),e2,ob,ob,if_pos (by simp),tK,ob]
   exact uU (m:=m) (a:=x::a) (b:=y::b) hf (fun o i k1 k2 k3 k4 k5=>xV hf m (x::a) b o inA (!zZ) i (by simp;omega) sa hb.2 k1 k2 k3 k4 k5) hs (fun o h=>(ho o h).2 y (by simp)) (fun v hv=>by
     rcases List.mem_cons.1 hv with rfl|hv
     ·omega
     ·have:=ha.1 v hv;omega) hb.1 hi hp (by simp;omega) (by simp;omega) (fun _ _=>rfl) hyb (fun z hz=>hax z (by omega)) hby (fun z h=>h) (fun z h=>by simp[h]) (.inr (by simp))
theorem OV:∀l:List Int,∃z,∀a∈l,a≤z
 |[]=>⟨0,by simp⟩
 |b::l=>by
  obtain⟨z,h⟩:=OV l
  refine⟨max z b,fun a ha=>?_⟩
  rcases List.mem_cons.1 ha with rfl|ha
  ·omega
  ·have:=h a ha;omega
theorem O5:∀l:List Int,∃z,∀a∈l,z<a
 |[]=>⟨0,by simp⟩
 |b::l=>by
  obtain⟨z,h⟩:=O5 l
  refine⟨min z (b-1),fun a ha=>?_⟩
  rcases List.mem_cons.1 ha with rfl|ha
  ·omega
  ·have:=h a ha;omega
theorem Gm(n:Nat):(2*n%2==1)=false:=by
 have:2*n%2=0:=by omega
 rw[this];rfl
theorem NN{k:Bool→Bool→Bool}{f:Bool→Bool→Option Bool}(hf:∀a b,f a b=some (k a b))(hk:k false false=false){N:Nat}{l m:List (Int×Int)}(hl:∃lo,Can lo l)(hm:∃lo,Can lo m)(hlen:2*l.length+2*m.length<N)(hlen2:2*l.length+2*m.length≤4000000000):
  ∃C,qN N (dP l) (dP m) f=some (dP C)∧(∃lo,Can lo C)∧C.length≤l.length+m.length∧∀x,pO x C↔∃p q,(p=true↔pO x l)∧(q=true↔pO x m)∧k p q=true:=by
 obtain⟨lo1,c1⟩:=hl
 obtain⟨lo2,c2⟩:=hm
 obtain⟨r,h1,h2⟩:=xV hf N (dP l) (dP m) [] false false false (by rw[gu,gu];exact hlen) c1.strict.1 c2.strict.1 List.Pairwise.nil (by simp) hk.symm rfl (by rw[gu,gu];simpa using hlen2)
 have hpar:∀z,par z r=k (par z (dP l)) (par z (dP m)):=fun z=>by
  have:=h2.hi z (by simp)
  rw[Bool.false_xor,Bool.false_xor] at this
  exact this
 have hodd:(r.length%2==1)=false:=by
  obtain⟨z,hz⟩:=OV (r++dP l++dP m)
  rw[←Aj (x:=z) (l:=r) (fun a ha=>hz a (by simp[ha])),hpar z,Aj (x:=z) (l:=dP l) (fun a ha=>hz a (by simp[ha])),Aj (x:=z) (l:=dP m) (fun a ha=>hz a (by simp[ha])),gu,gu,Gm,Gm,hk]
 obtain⟨lo,hlo⟩:=O5 r
 obtain⟨C,d1,d2⟩:=BQ r lo h2.strict hlo hodd
 refine⟨C,by rw[d2];exact h1,⟨lo,d1⟩,?_,fun x=>?_⟩
 ·have:=h2.len
  rw[←d2,gu,gu,gu] at this
  simp at this
  omega
 ·rw[yj d1,d2,hpar]
  constructor
  ·intro h
   exact⟨_,_,(yj c1).symm,(yj c2).symm,h⟩
  ·rintro⟨p,q,hp,hq,h⟩
   have e1:p=par x (dP l):=by rw[Bool.eq_iff_iff,hp,yj c1]
   have e2:q=par x (dP m):=by rw[Bool.eq_iff_iff,hq,yj c2]
   rw[←e1,←e2];exact h
def nC(y:Int):List Bd→List Bd
 |[]=>[]
 |b::l=>if b.2.1≤y then nC y l else b::l
theorem Aq(y:Int):∀l:List Bd,∀b∈nC y l,b∈l
 |[],b,h=>h
 |c::l,b,h=>by
  unfold nC at h
  split at h
  ·exact List.mem_cons_of_mem _ (Aq y l b h)
  ·exact h
theorem Ar(y:Int):∀l:List Bd,(nC y l).length≤l.length
 |[]=>by simp[nC]
 |c::l=>by
  unfold nC
  split
  ·have:=Ar y l;simp;omega
  ·simp
theorem Au(y:Int):∀{l:List Bd} {lo:Int},nu lo l→∃lo,nu lo (nC y l)
 |[],lo,h=>⟨lo,h⟩
 |c::l,lo,h=>by
  unfold nC
  split
  ·exact Au y h.2.2.2.2
  ·exact⟨lo,h⟩
theorem uY{y z:Int}(hz:y≤z):∀l:List Bd,rowAt (nC y l) z=rowAt l z
 |[]=>rfl
 | c::l=>by
  unfold nC
  split
  ·rw[uY hz l]
   show _=if c.1≤z∧z<c.2.1 then c.2.2 else rowAt l z
   rw[if_neg (by omega)]
  ·rfl
theorem yP{y:Int}:∀{l:List Bd} {b:Bd},(nC y l).head?=some b→y<b.2.1
 |[],b,h=>by simp[nC] at h
 |c::l,b,h=>by
  unfold nC at h
  split at h
  ·exact yP h
  ·simp at h;subst h;omega
def EE:List Bd→Int→List (Int×Int)
 |[],_=>[]
 |b::_,y=>if y<b.1 then[] else b.2.2
def pU(e:Int):List Bd→Int→Int
 |[],_=>e
 |b::_,y=>if y<b.1 then min e b.1 else min e b.2.1
theorem Jt(l:List Bd)(y e:Int):mG (l.map toP) y e=some (dP (EE l y),pU e l y):=by
 unfold mG
 cases l with
 |nil=>rfl
 |cons b l=>
  rw[if_neg (by simp;omega),List.map_cons,show idx (toP b::l.map toP) 0=some (toP b) from rfl,ob]
  simp only[EE,pU]
  by_cases h:y<b.1
  ·rw[if_pos (decide_eq_true (show y<(toP b).Y0 from h)),if_pos h,if_pos h,ob];rfl
  ·rw[if_neg (show ¬decide (y<(toP b).Y0)=true from by rw[decide_eq_true_eq];exact h),if_neg h,if_neg h,ob,ob];rfl
theorem IM{l:List Bd}{lo y e:Int}(h:nu lo l)(hh:∀b,l.head?=some b→y<b.2.1)(hy:y<e):y<pU e l y∧pU e l y≤e∧(∀z,y≤z→z<pU e l y→rowAt l z=EE l y)∧(pU e l y=e∨∃b∈l,pU e l y=b.1∨pU e l y=b.2.1):=by
 cases l with
 |nil=>exact⟨hy,Int.le_refl _,fun _ _ _=>rfl,.inl rfl⟩
 | cons b l=>
  have hb:=hh b rfl
  simp only[EE,pU]
  by_cases h1:y<b.1
  ·rw[if_pos h1,if_pos h1]
   refine⟨by omega,by omega,fun z k1 k2=>?_,?_⟩
   ·show(if b.1≤z∧z<b.2.1 then b.2.2 else rowAt l z)=[]
    rw[if_neg (by omega)]
    exact rO h.2.2.2.2 (by have:=h.2.1;omega)
   ·by_cases k:e≤b.1
    ·exact .inl (by omega)
    ·exact .inr ⟨b,by simp,.inl (by omega)⟩
  ·rw[if_neg h1,if_neg h1]
   refine⟨by omega,by omega,fun z k1 k2=>?_,?_⟩
   ·show(if b.1≤z∧z<b.2.1 then b.2.2 else rowAt l z)=b.2.2
    rw[if_pos (by omega)]
   ·by_cases k:e≤b.2.1
    ·exact .inl (by omega)
    ·exact .inr ⟨b,by simp,.inr (by omega)⟩
section
variable {N:Nat} {f:Bool→Bool→Option Bool} {e:Int} {out:List aQ} {y:Int} {K:List aQ→List aQ→List aQ→Int→Option (List aQ)}
def MH(N:Nat)(f:Bool→Bool→Option Bool)(e:Int)(out:List aQ)(y:Int)(K:List aQ→List aQ→List aQ→Int→Option (List aQ))(a b:List Bd):Option (List aQ):=
 (qN N (dP (EE a y)) (dP (EE b y)) f).bind fun R4=>
 (iB out (aQ.mk y (min (pU e a y) (pU e b y)) R4)).bind fun R3=>
 K (a.map toP) (b.map toP) R3 (min (pU e a y) (pU e b y))
theorem Iw(a:List Bd):∀(b:List Bd) (m:Nat),b.length<m→jE N f e out y K (a.map toP) m (b.map toP)=MH N f e out y K a (nC y b)
 |b,0,h=>absurd h (Nat.not_lt_zero _)
 |[],m+1,h=>by
  rw[jE.eq_2,if_neg (by simp),ob,if_neg (by simp),Jt,ob,Jt,ob];rfl
 | c::b,m+1,h=>by
  simp only[List.length_cons] at h
  rw[jE.eq_2,if_pos (by simp),List.map_cons,show idx (toP c::b.map toP) 0=some (toP c) from rfl,ob,ob]
  unfold nC
  by_cases hc:c.2.1≤y
  ·rw[if_pos (decide_eq_true (show(toP c).Y1≤y from hc)),if_pos hc,tK,ob]
   exact Iw a b m (by omega)
  ·rw[if_neg (show ¬decide ((toP c).Y1≤y)=true from by rw[decide_eq_true_eq];exact hc),if_neg hc,←List.map_cons,Jt,ob,Jt,ob];rfl
theorem M7{b:List Bd}(hb:b.length<N):∀(a:List Bd) (m:Nat),a.length<m→jF N f e (b.map toP) out y K m (a.map toP)=MH N f e out y K (nC y a) (nC y b)
 |a,0,h=>absurd h (Nat.not_lt_zero _)
 |[],m+1,h=>by
  rw[jF.eq_2,if_neg (by simp),ob,if_neg (by simp)]
  exact Iw [] b N hb
 | c::a,m+1,h=>by
  simp only[List.length_cons] at h
  rw[jF.eq_2,if_pos (by simp),List.map_cons,show idx (toP c::a.map toP) 0=some (toP c) from rfl,ob,ob]
  have hd:nC y (c::a)=if c.2.1≤y then nC y a else c::a:=rfl
  rw[hd]
  by_cases hc:c.2.1≤y
  ·rw[if_pos (decide_eq_true (show(toP c).Y1≤y from hc)),if_pos hc,tK,ob]
   exact M7 hb a m (by omega)
  ·rw[if_neg (show ¬decide ((toP c).Y1≤y)=true from by rw[decide_eq_true_eq];exact hc),if_neg hc,←List.map_cons]
   exact Iw (c::a) b N hb
end
def MP(ev:List Int)(y:Int):Nat:=(ev.filter fun z=>decide (y<z)).length
theorem Qm{y z:Int}(hyz:y<z):∀{ev:List Int},z∈ev→MP ev z<MP ev y:=by
 have mono:∀ev:List Int,MP ev z≤MP ev y:=by
  intro ev
  induction ev with
  |nil=>simp[MP]
  | cons a ev ih=>
   unfold MP at*
   rw[List.filter_cons,List.filter_cons]
   by_cases h1:z<a
   ·rw[if_pos (by simpa using h1),if_pos (by simp;omega)];simp;exact ih
   ·rw[if_neg (by simpa using h1)]
    split
    ·simp;omega
    ·exact ih
 intro ev
 induction ev with
 |nil=>intro h;simp at h
 | cons a ev ih=>
  intro h
  have hm:=mono ev
  unfold MP at*
  rw[List.filter_cons,List.filter_cons]
  rcases List.mem_cons.1 h with rfl|h
  ·rw[if_neg (by simp),if_pos (by simpa using hyz)]
   simp;omega
  ·have:=ih h
   by_cases h1:z<a
   ·rw[if_pos (by simpa using h1),if_pos (by simp;omega)];simp;exact this
   ·rw[if_neg (by simpa using h1)]
    split
    ·simp;omega
    ·exact this
theorem Ow(ev:List Int)(y:Int):MP ev y≤ev.length:=List.length_filter_le _ _
def Kept(k:Bool→Bool→Bool)(A B:List Bd)(x y:Int):Prop:=∃p q,(p=true↔mU x y A)∧(q=true↔mU x y B)∧k p q=true
theorem FX{k:Bool→Bool→Bool}{f:Bool→Bool→Option Bool}(hf:∀a b,f a b=some (k a b))(hk:k false false=false){N:Nat}(hN:10000000000≤N){A B:List Bd}{R1 R2:Nat}(hrA:∀b∈A,(∃lo,Can lo b.2.2)∧b.2.2.length≤R1)(hrB:∀b∈B,(∃lo,Can lo b.2.2)∧b.2.2.length≤R2)(hR:R1+R2≤500000000)(hAl:A.length≤500000000)(hBl:B.length≤500000000){ev:List Int}{e lo:Int}(hev:e∈ev)(hevA:∀b∈A,b.1∈ev∧b.2.1∈ev)(hevB:∀b∈B,b.1∈ev∧b.2.1∈ev):
  ∀(m:Nat) (a b out:List Bd) (y:Int),(∃lo,nu lo a)→(∃lo,nu lo b)→(∀c∈a,c∈A)→(∀c∈b,c∈B)→a.length≤A.length→b.length≤B.length→(∀z,y≤z→rowAt a z=rowAt A z)→(∀z,y≤z→rowAt b z=rowAt B z)→nu lo out→lo≤y→(∀c∈out,c.2.1≤y∧(∃lo,Can lo c.2.2)∧c.2.2.length≤R1+R2)→(∀x z,mU x z out↔z<y∧Kept k A B x z)→MP ev y<m→out.length+MP ev y≤900000000→(∀x z,e≤z→¬Kept k A B x z)→
  ∃C,fK N f e m (a.map toP) (b.map toP) (out.map toP) y=some (C.map toP)∧uC C∧(∀x z,mU x z C↔Kept k A B x z)∧C.length≤out.length+MP ev y∧∀c∈C,c.2.2.length≤R1+R2
 |0,_,_,_,_,_,_,_,_,_,_,_,_,_,_,_,_,h,_,_=>absurd h (Nat.not_lt_zero _)
 | m +1,a,b,out,y,⟨la,ca⟩,⟨lb,cb⟩,sa,sb,hal,hbl,ra,rb,co,hlo,ho,hin,hm,hl,hend=>by
  by_cases hye:y<e
  ·rw[fK.eq_2,if_pos (by simpa using hye),M7 (by omega) a N (by omega)]
   obtain⟨la',ca'⟩:=Au y ca
   obtain⟨lb',cb'⟩:=Au y cb
   have sa':∀c∈nC y a,c∈A:=fun c hc=>sa c (Aq y a c hc)
   have sb':∀c∈nC y b,c∈B:=fun c hc=>sb c (Aq y b c hc)
   obtain⟨na,na2,wa,va⟩:=IM (e:=e) ca' (fun c hc=>yP hc) hye
   obtain⟨nb,nb2,wb,vb⟩:=IM (e:=e) cb' (fun c hc=>yP hc) hye
   have rowcan:∀{l:List Bd} {L:List Bd} {R:Nat},(∀b∈L,(∃lo,Can lo b.2.2)∧b.2.2.length≤R)→(∀c∈l,c∈L)→(∃lo,Can lo (EE l y))∧(EE l y).length≤R:=fun{l L R} h1 h2=>by
    cases l with
    |nil=>exact⟨⟨0,trivial⟩,Nat.zero_le _⟩
    |cons c l=>
     simp only[EE]
     split
     ·exact⟨⟨0,trivial⟩,Nat.zero_le _⟩
     ·exact h1 c (h2 c (by simp))
   obtain⟨ra1,ra2⟩:=rowcan hrA sa'
   obtain⟨rb1,rb2⟩:=rowcan hrB sb'
   obtain⟨C0,k1,k2,k3,k4⟩:=NN hf hk (N:=N) ra1 rb1 (by omega) (by omega)
   unfold MH
   rw[k1,ob]
   generalize hn:min (pU e (nC y a) y) (pU e (nC y b) y)=n
   have hyn:y<n:=by omega
   have hne:n≤e:=by omega
   have hnev:n∈ev:=by
    have key:∀{l L:List Bd},(∀c∈l,c∈L)→(∀b∈L,b.1∈ev∧b.2.1∈ev)→(pU e l y=e∨∃b∈l,pU e l y=b.1∨pU e l y=b.2.1)→pU e l y∈ev:=fun h1 h2 h3=>by
     rcases h3 with h|⟨c,hc,h|h⟩
     ·rw[h];exact hev
     ·rw[h];exact(h2 c (h1 c hc)).1
     ·rw[h];exact(h2 c (h1 c hc)).2
    have e1:=key sa' hevA va
    have e2:=key sb' hevB vb
    rcases Int.le_total (pU e (nC y a) y) (pU e (nC y b) y) with h|h
    ·rw[←hn,Int.min_eq_left h];exact e1
    ·rw[←hn,Int.min_eq_right h];exact e2
   have haft:=Qm hyn hnev
   have hp:iB (out.map toP) (aQ.mk y n (dP C0))=some ((pushB out (y,n,C0)).map toP):=EG (l:=out) (b:=(y,n,C0)) (by omega) hyn
   rw[hp,ob]
   obtain⟨p1,p2,p3⟩:=co.push (b:=(y,n,C0)) (fun c hc=>(ho c hc).1) hlo hyn
   have hpl:=Ai out (y,n,C0)
   have hkept:∀x z,y≤z→z<n→(pO x C0↔Kept k A B x z):=fun x z z1 z2=>by
    rw[k4 x,←wa z z1 (by omega),←wb z z1 (by omega),uY z1,uY z1,ra z z1,rb z z1]
    exact Iff.rfl
   obtain⟨C,i1,i2,i3,i4,i5⟩:=FX hf hk hN hrA hrB hR hAl hBl hev hevA hevB m (nC y a) (nC y b) (pushB out (y,n,C0)) n ⟨la',ca'⟩ ⟨lb',cb'⟩ sa' sb' (Nat.le_trans (Ar y a) hal) (Nat.le_trans (Ar y b) hbl) (fun z hz=>by rw[uY (by omega),ra z (by omega)]) (fun z hz=>by rw[uY (by omega),rb z (by omega)]) p1 (by omega) (fun c hc=>by
    obtain⟨q1,q2|⟨d,q2,q3⟩⟩:=p2 c hc
    ·exact⟨q1,by rw[q2];exact k2,by rw[q2];show C0.length≤_;omega⟩
    ·exact⟨q1,by rw[q3];exact(ho d q2).2.1,by rw[q3];exact(ho d q2).2.2⟩) (fun x z=>by
    have h1:mU x z (pushB out (y,n,C0))↔pO x (if y≤z∧z<n then C0 else rowAt out z):=by
     unfold mU
     rw[p3 z]
    rw[h1]
    by_cases hz:y≤z∧z<n
    ·rw[if_pos hz,hkept x z hz.1 hz.2]
     exact⟨fun h=>⟨hz.2,h⟩,fun h=>h.2⟩
    ·rw[if_neg hz]
     refine(hin x z).trans ⟨fun h=>⟨by omega,h.2⟩,fun h=>⟨by omega,h.2⟩⟩) (by omega) (by omega) hend
   exact⟨C,i1,i2,i3,by omega,i5⟩
  ·rw[fK.eq_2,if_neg (by simpa using hye)]
   refine⟨out,rfl,⟨⟨lo,co⟩,fun c hc=>(ho c hc).2.1⟩,fun x z=>?_,by omega,fun c hc=>(ho c hc).2.2⟩
   rw[hin]
   exact⟨fun h=>h.2,fun h=>⟨by
    rcases Int.lt_or_le z y with hz|hz
    ·exact hz
    ·exact absurd h (hend x z (by omega)),h⟩⟩
theorem GN{k:Bool→Bool→Bool}{f:Bool→Bool→Option Bool}(hf:∀a b,f a b=some (k a b))(hk:k false false=false){N:Nat}(hN:10000000000≤N){A B:List Bd}{R1 R2:Nat}(hA:uC A)(hB:uC B)(hrA:∀b∈A,b.2.2.length≤R1)(hrB:∀b∈B,b.2.2.length≤R2)(hR:R1+R2≤500000000)(hl:A.length+B.length≤200000000):
  ∃C,mZ N (A.map toP) (B.map toP) f=some (C.map toP)∧uC C∧(∀x z,mU x z C↔Kept k A B x z)∧C.length≤2*A.length+2*B.length+1∧∀c∈C,c.2.2.length≤R1+R2:=by
 have hnot:∀{A B:List Bd} {x z:Int},¬mU x z A→¬mU x z B→¬Kept k A B x z:=fun h1 h2 ⟨p,q,hp,hq,h⟩=>by
  have e1:p=false:=by rw[Bool.eq_false_iff];exact fun h=>h1 (hp.1 h)
  have e2:q=false:=by rw[Bool.eq_false_iff];exact fun h=>h2 (hq.1 h)
  rw[e1,e2,hk] at h;cases h
 have inlo:∀{l:List Bd} {lo x z:Int},nu lo l→mU x z l→lo≤z:=fun{l lo x z} h hx=>by
  rcases Int.lt_or_le z lo with hz|hz
  ·unfold mU at hx
   rw[rO h hz] at hx
   exact absurd hx lc
  ·exact hz
 have inhi:∀{l:List Bd} {b:Bd} {lo x z:Int},nu lo (l++[b])→mU x z (l++[b])→z<b.2.1:=by
  intro l
  induction l with
  | nil=>
   intro b lo x z h hx
   unfold mU at hx
   by_cases hz:b.1≤z∧z<b.2.1
   ·exact hz.2
   ·have:rowAt ([]++[b]) z=[]:=by show(if b.1≤z∧z<b.2.1 then b.2.2 else[])=[];rw[if_neg hz]
    rw[this] at hx;exact absurd hx lc
  | cons c l ih=>
   intro b lo x z h hx
   have hcan:nu c.2.1 (l++[b]):=h.2.2.2.2
   by_cases hz:c.1≤z∧z<c.2.1
   ·have:=hcan.mem b (by simp)
    omega
   ·refine ih hcan (x:=x) ?_
    unfold mU at hx ⊢
    have:rowAt (c::l++[b]) z=rowAt (l++[b]) z:=by show(if c.1≤z∧z<c.2.1 then c.2.2 else rowAt (l++[b]) z)=_;rw[if_neg hz]
    rw[←this];exact hx
 obtain⟨la,ca⟩:=hA.can
 obtain⟨lb,cb⟩:=hB.can
 have go:∀(y e:Int),(∀x z,mU x z A→y≤z∧z<e)→(∀x z,mU x z B→y≤z∧z<e)→∃C,fK N f e N (A.map toP) (B.map toP) ([]:List aQ) y=some (C.map toP)∧uC C∧(∀x z,mU x z C↔Kept k A B x z)∧C.length≤2*A.length+2*B.length+1∧∀c∈C,c.2.2.length≤R1+R2:=fun y e h1 h2=>by
  have hlen:(e::(A.flatMap (fun b=>[b.1,b.2.1])++B.flatMap fun b=>[b.1,b.2.1])).length=2*A.length+2*B.length+1:=by
   have:∀l:List Bd,(l.flatMap fun b=>[b.1,b.2.1]).length=2*l.length:=by
    intro l
    induction l with
    |nil=>rfl
    |cons b l ih=>rw[List.flatMap_cons,List.length_append,ih];simp;omega
   rw[List.length_cons,List.length_append,this,this]
  have haf:=Ow (e::(A.flatMap (fun b=>[b.1,b.2.1])++B.flatMap fun b=>[b.1,b.2.1])) y
  rw[hlen] at haf
  have hmem:∀l:List Bd,∀b∈l,b.1∈l.flatMap (fun b=>[b.1,b.2.1])∧b.2.1∈l.flatMap (fun b=>[b.1,b.2.1]):=fun l b hb=>⟨List.mem_flatMap.2 ⟨b,hb,by simp⟩,List.mem_flatMap.2 ⟨b,hb,by simp⟩⟩
  obtain⟨C,c1,c2,c3,c4,c5⟩:=FX hf hk hN (A:=A) (B:=B) (R1:=R1) (R2:=R2) (fun b hb=>⟨hA.row b hb,hrA b hb⟩) (fun b hb=>⟨hB.row b hb,hrB b hb⟩) hR (by omega) (by omega) (ev:=e::(A.flatMap (fun b=>[b.1,b.2.1])++B.flatMap fun b=>[b.1,b.2.1])) (e:=e) (lo:=y) (by simp) (fun b hb=>⟨List.mem_cons_of_mem _ (List.mem_append_left _ (hmem A b hb).1),List.mem_cons_of_mem _ (List.mem_append_left _ (hmem A b hb).2)⟩) (fun b hb=>⟨List.mem_cons_of_mem _ (List.mem_append_right _ (hmem B b hb).1),List.mem_cons_of_mem _ (List.mem_append_right _ (hmem B b hb).2)⟩)
   N A B [] y hA.can hB.can (fun _ h=>h) (fun _ h=>h) (Nat.le_refl _) (Nat.le_refl _) (fun _ _=>rfl) (fun _ _=>rfl) trivial (Int.le_refl _) (by simp) (fun x z=>by
    constructor
    ·intro h;unfold mU at h;exact absurd h lc
    ·rintro⟨hz,h⟩
     exact absurd h (hnot (fun h=>by have:=h1 x z h;omega) (fun h=>by have:=h2 x z h;omega))) (by omega) (by simp;omega) (fun x z hz=>hnot (fun h=>by have:=h1 x z h;omega) (fun h=>by have:=h2 x z h;omega))
  exact⟨C,c1,c2,c3,by simp at c4;omega,c5⟩
 have two:∀{l:List Bd},l≠[]→uC l→l.length≤200000000→∃b c,idx (l.map toP) 0=some (toP b)∧idx (l.map toP) (bJ (((l.map toP).length:Int)-1))=some (toP c)∧∀x z,mU x z l→b.1≤z∧z<c.2.1:=fun{l} hne hok hlen=>by
  obtain⟨lo,hc⟩:=hok.can
  have h1:∃b,idx (l.map toP) 0=some (toP b)∧∀x z,mU x z l→b.1≤z:=by
   cases l with
   |nil=>exact absurd rfl hne
   |cons b l=>exact⟨b,rfl,fun x z h=>inlo (l:=b::l) (lo:=b.1) (show nu b.1 (b::l) from⟨Int.le_refl _,hc.2⟩) h⟩
  have h2:∃c,idx (l.map toP) (bJ (((l.map toP).length:Int)-1))=some (toP c)∧∀x z,mU x z l→z<c.2.1:=by
   rcases List.eq_nil_or_concat l with h|⟨j,c,h⟩
   ·exact absurd h hne
   ·rw[List.concat_eq_append] at h
    subst h
    refine⟨c,?_,fun x z h=>inhi hc h⟩
    have e1:bJ ((((j++[c]).map toP).length:Int)-1)=((j.map toP).length:Int):=by
     rw[eG (by first|(simp;done)|(simp;omega)) (by simp at hlen ⊢;omega)];simp
    rw[e1,List.map_append]
    exact mg _ [] _
  obtain⟨b,b1,b2⟩:=h1
  obtain⟨c,c1,c2⟩:=h2
  exact⟨b,c,b1,c1,fun x z h=>⟨b2 x z h,c2 x z h⟩⟩
 unfold mZ
 have hz:bJ (((A.map toP).length:Int)+((B.map toP).length:Int))=(A.length:Int)+(B.length:Int):=by rw[eG (by simp;omega) (by simp;omega)];simp
 rw[hz]
 by_cases h0:A.length+B.length=0
 ·have eA:A=[]:=List.eq_nil_of_length_eq_zero (by omega)
  have eB:B=[]:=List.eq_nil_of_length_eq_zero (by omega)
  subst eA eB
  rw[if_pos (by simp)]
  exact⟨[],rfl,⟨⟨0,trivial⟩,by simp⟩,fun x z=>⟨fun h=>absurd h lc,fun h=>absurd h (hnot lc lc)⟩,by simp,by simp⟩
 ·rw[if_neg (by simp;omega)]
  obtain⟨m,hm⟩:∃k,N=k+3:=⟨N-3,by omega⟩
  have hfu:dH N (A.map toP) (B.map toP) f N 0 0 [A.map toP,B.map toP] 0=dH N (A.map toP) (B.map toP) f (m+3) 0 0 [A.map toP,B.map toP] 0:=congrArg (fun z=>dH N (A.map toP) (B.map toP) f z 0 0 [A.map toP,B.map toP] 0) hm
  rw[hfu,dH.eq_2,if_pos (by decide),show idx [A.map toP,B.map toP] 0=some (A.map toP) from rfl,ob,show bJ (0+1)=1 from rfl]
  by_cases hA0:A=[]
  ·have hB0:B≠[]:=fun h=>h0 (by rw[hA0,h];rfl)
   obtain⟨b,c,b1,b2,b3⟩:=two hB0 hB (by omega)
   rw[if_neg (by rw[hA0];simp),dH.eq_2,if_pos (by decide),show idx [A.map toP,B.map toP] 1=some (B.map toP) from rfl,ob,if_pos (by have:=List.length_pos_iff.2 hB0;simp;omega),if_pos (by rw[hA0];rfl),b1,ob,b2,ob]
   unfold jP
   rw[b1,ob,b2,ob,show bJ (1+1)=2 from rfl,dH.eq_2,if_neg (by decide)]
   exact go _ _ (fun x z h=>by rw[hA0] at h;exact absurd h lc) (fun x z h=>by have:=b3 x z h;show min b.1 b.1≤z∧z<max c.2.1 c.2.1;omega)
  ·obtain⟨b,c,b1,b2,b3⟩:=two hA0 hA (by omega)
   rw[if_pos (by have:=List.length_pos_iff.2 hA0;simp;omega),if_pos (by rfl),b1,ob,b2,ob]
   unfold jP
   rw[b1,ob,b2,ob,show bJ (0+1)=1 from rfl,dH.eq_2,if_pos (by decide),show idx [A.map toP,B.map toP] 1=some (B.map toP) from rfl,ob]
   by_cases hB0:B=[]
   ·rw[if_neg (by rw[hB0];simp),show bJ (1+1)=2 from rfl,dH.eq_2,if_neg (by decide)]
    exact go _ _ (fun x z h=>by have:=b3 x z h;show min b.1 b.1≤z∧z<max c.2.1 c.2.1;omega) (fun x z h=>by rw[hB0] at h;exact absurd h lc)
   ·obtain⟨d,g,d1,d2,d3⟩:=two hB0 hB (by omega)
    have hAl:=List.length_pos_iff.2 hA0
    rw[if_pos (by have:=List.length_pos_iff.2 hB0;simp;omega),if_neg (by simp;exact hA0)]
    unfold jP
    rw[d1,ob,d2,ob,show bJ (1+1)=2 from rfl,dH.eq_2,if_neg (by decide)]
    exact go _ _ (fun x z h=>by have:=b3 x z h;show min (min b.1 b.1) d.1≤z∧z<max (max c.2.1 c.2.1) g.2.1;omega) (fun x z h=>by have:=d3 x z h;show min (min b.1 b.1) d.1≤z∧z<max (max c.2.1 c.2.1) g.2.1;omega)
section
variable {N:Nat} (hN:10000000000≤N)
include hN
theorem OA{l:List Bd}(hl:l.length≤200000000)(h:(aL l).length≤1000000000000000000):lg N (l.map toP)=some (DD l):=by
 unfold lg DD
 rw[EX h,ob]
 by_cases h2:2000<(aL l).length
 ·rw[if_pos (by simp;omega),if_pos h2]
 ·rw[if_neg (by simp;omega),if_neg h2,vo hN ⟨hl,fun b hb=>by have:=vI hb;omega,by omega⟩,ob]
end
structure Jy (S:Int→Int→Prop) (r:au):Prop where
 all:∀x y,S x y→(r.X0≤x∧x<r.X1)∧(r.Y0≤y∧y<r.Y1)
 x0:∃y,S r.X0 y
 x1:∃y,S (r.X1-1) y
 y0:∃x,S x r.Y0
 y1:∃x,S x (r.Y1-1)
theorem Jy.uniq{S T:Int→Int→Prop}{r q:au}(h1:Jy S r)(h2:Jy T q)(h:∀x y,S x y↔T x y):r=q:=by
 obtain⟨a,ha⟩:=h1.x0
 obtain⟨b,hb⟩:=h1.x1
 obtain⟨c,hc⟩:=h1.y0
 obtain⟨d,hd⟩:=h1.y1
 obtain⟨a',ha'⟩:=h2.x0
 obtain⟨b',hb'⟩:=h2.x1
 obtain⟨c',hc'⟩:=h2.y0
 obtain⟨d',hd'⟩:=h2.y1
 have e1:=h2.all _ _ ((h _ _).1 ha)
 have e2:=h2.all _ _ ((h _ _).1 hb)
 have e3:=h2.all _ _ ((h _ _).1 hc)
 have e4:=h2.all _ _ ((h _ _).1 hd)
 have f1:=h1.all _ _ ((h _ _).2 ha')
 have f2:=h1.all _ _ ((h _ _).2 hb')
 have f3:=h1.all _ _ ((h _ _).2 hc')
 have f4:=h1.all _ _ ((h _ _).2 hd')
 obtain⟨x0,y0,x1,y1⟩:=r
 obtain⟨x0',y0',x1',y1'⟩:=q
 simp only at*
 congr 1<;>omega
theorem nu.init:∀{l:List Bd} {b:Bd} {lo:Int},nu lo (l++[b])→∀c∈l,c.2.1≤b.1
 |[],_,_,_,c,hc=>by simp at hc
 |d::l,b,lo,h,c,hc=>by
  have h':nu d.2.1 (l++[b]):=h.2.2.2.2
  rcases List.mem_cons.1 hc with rfl|hc
  ·exact(h'.mem b (by simp)).1
  ·exact h'.init c hc
theorem H8{l:List (Int×Int)}{q:Int×Int}(hl:l.length≤1000000000):idx (dP (l++[q])) (bJ (((dP (l++[q])).length:Int)-1))=some q.2:=by
 have e:dP (l++[q])=(dP l++[q.1])++q.2::[]:=by rw[qH];simp[dP]
 have e2:bJ (((dP (l++[q])).length:Int)-1)=((dP l++[q.1]).length:Int):=by
  rw[eG (by rw[gu];simp;omega) (by rw[gu];simp;omega),gu];simp[gu];omega
 rw[e2,e]
 exact mg _ [] _
theorem Kw{l:List Bd}(h:uC l)(hne:l≠[])(hl:l.length≤1000000000)(hr:∀b∈l,b.2.2.length≤1000000000):∃r,lF (l.map toP)=some r∧Jy (fun x y=>mU x y l) r:=by
 obtain⟨lo,hc⟩:=h.can
 have loop:∀(f g:aQ) (suf:List Bd) (i:Nat) (u v:Int),(∀b∈suf,b∈l)→∃u' v',gJ f g (suf.map toP) i u v=some ⟨u',f.Y0,v',g.Y1⟩∧u'≤u∧v≤v'∧(u'=u∨∃b∈suf,∃p∈b.2.2,u'=p.1)∧(v'=v∨∃b∈suf,∃p∈b.2.2,v'=p.2)∧∀b∈suf,∀p∈b.2.2,u'≤p.1∧p.2≤v':=by
  intro f g suf
  induction suf with
  |nil=>intro i u v _;exact⟨u,v,rfl,Int.le_refl _,Int.le_refl _,.inl rfl,.inl rfl,by simp⟩
  | cons b suf ih=>
   intro i u v hb
   have hbl:=hb b (by simp)
   have hbne:=(hc.mem b hbl).2.2
   obtain⟨lo',hcan⟩:=h.row b hbl
   have hlen:=hr b hbl
   obtain⟨p,t,hp⟩:∃p t,b.2.2=p::t:=by cases hx:b.2.2 with|nil=>exact absurd hx hbne|cons p t=>exact⟨p,t,rfl⟩
   obtain⟨j,q,hq⟩:∃j q,b.2.2=j++[q]:=by
    rcases List.eq_nil_or_concat b.2.2 with hx|⟨j,q,hx⟩
    ·exact absurd hx hbne
    ·exact⟨j,q,by simpa using hx⟩
   have e1:idx (toP b).Xs 0=some p.1:=by show idx (dP b.2.2) 0=_;rw[hp];rfl
   have e2:idx (toP b).Xs (bJ (((toP b).Xs.length:Int)-1))=some q.2:=by
    show idx (dP b.2.2) (bJ (((dP b.2.2).length:Int)-1))=_
    rw[hq]
    exact H8 (by rw[hq] at hlen;simp at hlen;omega)
   obtain⟨u',v',i1,i2,i3,i4,i5,i6⟩:=ih (i+1) (min u p.1) (max v q.2) (fun c hc=>hb c (by simp[hc]))
   have hfirst:∀r∈b.2.2,p.1≤r.1:=fun r hr=>by
    rw[hp] at hr hcan
    rcases List.mem_cons.1 hr with rfl|hr
    ·exact Int.le_refl _
    ·have:=hcan.2.2.mem r hr;have:=hcan.2.1;omega
   have hlast:∀r∈b.2.2,r.2≤q.2:=fun r hr=>by
    rw[hq] at hr hcan
    obtain⟨_,c2,c3,c4⟩:=hcan.init
    rcases List.mem_append.1 hr with hr|hr
    ·have:=c2 r hr;omega
    ·simp at hr;subst hr;exact Int.le_refl _
   refine⟨u',v',?_,Int.le_trans i2 (Int.min_le_left _ _),Int.le_trans (Int.le_max_left _ _) i3,?_,?_,fun c hcm r hrm=>?_⟩
   ·rw[List.map_cons,gJ.eq_2,e1,ob,e2,ob];exact i1
   ·rcases i4 with k|⟨c,hc1,r,hr1,k⟩
    ·by_cases hu:u≤p.1
     ·exact .inl (k.trans (Int.min_eq_left hu))
     ·exact .inr ⟨b,by simp,p,by rw[hp];simp,k.trans (Int.min_eq_right (by omega))⟩
    ·exact .inr ⟨c,by simp[hc1],r,hr1,k⟩
   ·rcases i5 with k|⟨c,hc1,r,hr1,k⟩
    ·by_cases hv:q.2≤v
     ·exact .inl (k.trans (Int.max_eq_left hv))
     ·exact .inr ⟨b,by simp,q,by rw[hq];simp,k.trans (Int.max_eq_right (by omega))⟩
    ·exact .inr ⟨c,by simp[hc1],r,hr1,k⟩
   ·rcases List.mem_cons.1 hcm with rfl|hcm
    ·exact⟨Int.le_trans i2 (Int.le_trans (Int.min_le_right _ _) (hfirst r hrm)),Int.le_trans (hlast r hrm) (Int.le_trans (Int.le_max_right _ _) i3)⟩
    ·exact i6 c hcm r hrm
 obtain⟨b,t,hbt⟩:∃b t,l=b::t:=by cases l with|nil=>exact absurd rfl hne|cons b t=>exact⟨b,t,rfl⟩
 obtain⟨j,c,hjc⟩:∃j c,l=j++[c]:=by
  rcases List.eq_nil_or_concat l with hx|⟨j,q,hx⟩
  ·exact absurd hx hne
  ·exact⟨j,q,by simpa using hx⟩
 have hbl:b∈l:=by rw[hbt];simp
 have hcl:c∈l:=by rw[hjc];simp
 have hbm:=hc.mem b hbl
 have hcm:=hc.mem c hcl
 obtain⟨p,s,hp⟩:∃p s,b.2.2=p::s:=by cases hx:b.2.2 with|nil=>exact absurd hx hbm.2.2|cons p t=>exact⟨p,t,rfl⟩
 obtain⟨p2,s2,hp2⟩:∃p s,c.2.2=p::s:=by cases hx:c.2.2 with|nil=>exact absurd hx hcm.2.2|cons p t=>exact⟨p,t,rfl⟩
 have e0:idx (l.map toP) 0=some (toP b):=by rw[hbt];rfl
 have e1:idx (toP b).Xs 0=some p.1:=by show idx (dP b.2.2) 0=_;rw[hp];rfl
 have e2:idx (toP b).Xs 1=some p.2:=by show idx (dP b.2.2) 1=_;rw[hp];rfl
 have e3:idx (l.map toP) (bJ (((l.map toP).length:Int)-1))=some (toP c):=by
  have:bJ (((l.map toP).length:Int)-1)=((j.map toP).length:Int):=by
   rw[eG (by simp;omega) (by simp;omega),hjc];simp
  rw[this,hjc,List.map_append]
  exact mg _ [] _
 obtain⟨u,v,k1,k2,k3,k4,k5,k6⟩:=loop (toP b) (toP c) l 0 p.1 p.2 (fun _ h=>h)
 have inb:∀d∈l,∀r∈d.2.2,mU r.1 d.1 l∧mU (r.2-1) d.1 l∧mU r.1 (d.2.1-1) l:=fun d hd r hr=>by
  have hdm:=hc.mem d hd
  obtain⟨_,hcan⟩:=h.row d hd
  have hrm:=hcan.mem r hr
  unfold mU
  rw[tJ hc hd (Int.le_refl _) hdm.2.1,tJ hc hd (y:=d.2.1-1) (by omega) (by omega)]
  exact⟨⟨r,hr,Int.le_refl _,hrm.2⟩,⟨r,hr,by omega,by omega⟩,⟨r,hr,Int.le_refl _,hrm.2⟩⟩
 refine⟨⟨u,b.1,v,c.2.1⟩,?_,fun x y hxy=>?_,?_,?_,?_,?_⟩
 ·unfold lF
  rw[e0,ob,e1,ob,ob,ob,e2,ob,e3,ob]
  exact k1
 ·have hxy:mU x y l:=hxy
  unfold mU at hxy
  rcases sU (l:=l) (y:=y) with h1|⟨d,hd,h1,h2,h3⟩
  ·rw[h1] at hxy;exact absurd hxy lc
  ·rw[h3] at hxy
   obtain⟨r,hr,hx⟩:=hxy
   have:=k6 d hd r hr
   have hlo:b.1≤d.1:=by
    have hc':=hc
    rw[hbt] at hd hc'
    rcases List.mem_cons.1 hd with rfl|hd
    ·exact Int.le_refl _
    ·have:=hc'.2.2.2.2.mem d hd;have:=hc'.2.1;omega
   have hhi:d.2.1≤c.2.1:=by
    have hc':=hc
    rw[hjc] at hd hc'
    rcases List.mem_append.1 hd with hd|hd
    ·have:=hc'.init d hd;omega
    ·simp at hd;subst hd;exact Int.le_refl _
   show(u≤x∧x<v)∧(b.1≤y∧y<c.2.1)
   omega
 ·rcases k4 with k|⟨d,hd,r,hr,k⟩
  ·rw[k];exact⟨b.1,(inb b hbl p (by rw[hp];simp)).1⟩
  ·rw[k];exact⟨d.1,(inb d hd r hr).1⟩
 ·rcases k5 with k|⟨d,hd,r,hr,k⟩
  ·show ∃y,mU (v-1) y l
   rw[k];exact⟨b.1,(inb b hbl p (by rw[hp];simp)).2.1⟩
  ·show ∃y,mU (v-1) y l
   rw[k];exact⟨d.1,(inb d hd r hr).2.1⟩
 ·exact⟨p.1,(inb b hbl p (by rw[hp];simp)).1⟩
 ·exact⟨p2.1,(inb c hcl p2 (by rw[hp2];simp)).2.2⟩
def lim(r:au):Bool:=((within r.X0 (-1000000) 1000000&&within r.Y0 (-1000000) 1000000)&&within r.X1 (-1000000) 1000000)&&within r.Y1 (-1000000) 1000000
theorem vM{r:au}:lim r=true↔((((-1000000≤r.X0∧r.X0≤1000000)∧(-1000000≤r.Y0∧r.Y0≤1000000))∧(-1000000≤r.X1∧r.X1≤1000000))∧(-1000000≤r.Y1∧r.Y1≤1000000)):=by
 unfold lim
 rw[Bool.and_eq_true,Bool.and_eq_true,Bool.and_eq_true,within_iff,within_iff,within_iff,within_iff]
theorem JA{L:List au}(hL:L.length≤100000000)(hne:∀r∈L,r.X0<r.X1∧r.Y0<r.Y1):lm ((lw L).map toP)=some (L.all lim):=by
 unfold lm
 obtain⟨c1,c2⟩:=kZ hne
 obtain⟨s1,s2⟩:=tF L
 by_cases h:lw L=[]
 ·have hnil:L=[]:=by
   cases L with
   |nil=>rfl
   |cons a l=>
    have ha:=hne a (by simp)
    have:=(c2 a.X0 a.Y0).2 ⟨a,by simp,⟨by omega,by omega⟩,by omega,by omega⟩
    rw[h] at this
    exact absurd this lc
  subst hnil
  rw[h];rfl
 ·have hlen:=List.length_pos_iff.2 h
  obtain⟨b,b1,b2⟩:=Kw c1 h (by omega) (fun c hc=>by have:=s2 c hc;omega)
  rw[if_neg (by simp;exact h),b1,ob,D7,ob,ob]
  congr 1
  show lim b=L.all lim
  rw[Bool.eq_iff_iff,List.all_eq_true]
  constructor
  ·intro hb r hr
   have hr':=hne r hr
   have k1:=b2.all _ _ ((c2 r.X0 r.Y0).2 ⟨r,hr,⟨by omega,by omega⟩,by omega,by omega⟩)
   have k2:=b2.all _ _ ((c2 (r.X1-1) (r.Y1-1)).2 ⟨r,hr,⟨by omega,by omega⟩,by omega,by omega⟩)
   rw[vM] at hb ⊢
   omega
  ·intro hall
   obtain⟨y,hx0⟩:=b2.x0
   obtain⟨y',hx1⟩:=b2.x1
   obtain⟨x,hy0⟩:=b2.y0
   obtain⟨x',hy1⟩:=b2.y1
   obtain⟨r1,m1,e1⟩:=(c2 _ _).1 hx0
   obtain⟨r2,m2,e2⟩:=(c2 _ _).1 hx1
   obtain⟨r3,m3,e3⟩:=(c2 _ _).1 hy0
   obtain⟨r4,m4,e4⟩:=(c2 _ _).1 hy1
   have l1:=vM.1 (hall r1 m1)
   have l2:=vM.1 (hall r2 m2)
   have l3:=vM.1 (hall r3 m3)
   have l4:=vM.1 (hall r4 m4)
   rw[vM]
   omega
def Nr(n:Int)(S:Int→Int→Prop)(x y:Int):Prop:=∃u v,S u v∧(x-n≤u∧u≤x+n)∧(y-n≤v∧v≤y+n)
def Deep(n:Int)(S:Int→Int→Prop)(x y:Int):Prop:=∀u v,(x-n≤u∧u≤x+n)→(y-n≤v∧v≤y+n)→S u v
def widen(n:Int)(r:au):au:=⟨r.X0-n,r.Y0-n,r.X1+n,r.Y1+n⟩
theorem Fa{n:Int}(hn:0≤n){l:List au}(h:∀r∈l,r.X0<r.X1∧r.Y0<r.Y1):∀r∈l.map (widen n),r.X0<r.X1∧r.Y0<r.Y1:=fun r hr=>by
 obtain⟨q,hq,rfl⟩:=List.mem_map.1 hr
 have:=h q hq
 show q.X0-n<q.X1+n∧q.Y0-n<q.Y1+n
 omega
theorem Ko{n:Int}(hn:0≤n){l:List au}(h:∀r∈l,r.X0<r.X1∧r.Y0<r.Y1)(x y:Int):GR x y (l.map (widen n))↔Nr n (fun u v=>GR u v l) x y:=by
 unfold GR Nr
 constructor
 ·rintro⟨r,hr,hx,hy⟩
  obtain⟨q,hq,rfl⟩:=List.mem_map.1 hr
  have:=h q hq
  have hx:q.X0-n≤x∧x<q.X1+n:=hx
  have hy:q.Y0-n≤y∧y<q.Y1+n:=hy
  refine⟨max q.X0 (min x (q.X1-1)),max q.Y0 (min y (q.Y1-1)),⟨q,hq,⟨by omega,by omega⟩,by omega,by omega⟩,⟨by omega,by omega⟩,by omega,by omega⟩
 ·rintro⟨u,v,⟨q,hq,hu,hv⟩,h1,h2⟩
  refine⟨widen n q,List.mem_map.2 ⟨q,hq,rfl⟩,?_,?_⟩
  ·show q.X0-n≤x∧x<q.X1+n;omega
  ·show q.Y0-n≤y∧y<q.Y1+n;omega
theorem GM{n:Int}{S T:Int→Int→Prop}(h:∀x y,S x y↔T x y)(x y:Int):Nr n S x y↔Nr n T x y:=by
 unfold Nr
 constructor
 ·rintro⟨u,v,h1,h2⟩;exact⟨u,v,(h u v).1 h1,h2⟩
 ·rintro⟨u,v,h1,h2⟩;exact⟨u,v,(h u v).2 h1,h2⟩
theorem MI{C:List Bd}(h:∀b∈C,b.2.2≠[]):C.length≤(aL C).length:=by
 induction C with
 |nil=>simp
 |cons b l ih=>
  rw[mO,List.length_append,kV,List.length_cons]
  have:=ih fun c hc=>h c (by simp[hc])
  have:=List.length_pos_iff.2 (h b (by simp))
  omega
theorem uC.le{C:List Bd}(h:uC C):C.length≤(aL C).length:=by
 obtain⟨lo,hc⟩:=h.can
 exact MI fun b hb=>(hc.mem b hb).2.2
theorem KI{n:Int}(hn:0≤n∧n≤100000){l:List au}(h:∀r∈l,(-1900000000≤r.X0∧r.X0<r.X1∧r.X1≤1900000000)∧(-1900000000≤r.Y0∧r.Y0<r.Y1∧r.Y1≤1900000000)):∀r∈l.map (widen n),R9 r:=fun r hr=>by
 obtain⟨q,hq,rfl⟩:=List.mem_map.1 hr
 have:=h q hq
 constructor<;>simp only[widen]<;>omega
theorem JX{l:List au}(h:∀r∈l,vW r):∀r∈l,(-1900000000≤r.X0∧r.X0<r.X1∧r.X1≤1900000000)∧(-1900000000≤r.Y0∧r.Y0<r.Y1∧r.Y1≤1900000000):=fun r hr=>by
 have k:=h r hr
 have:=k.x0;have:=k.x1;have:=k.y0;have:=k.y1;have h1:=k.x;have h2:=k.y
 omega
section
variable {N:Nat} (hN:10000000000≤N) {n:Int} (hn:0≤n∧n≤100000)
include hN hn
theorem Kk{S:List Bd}(hS:uC S)(ht:(aL S).length≤100000000)(hlim:∀r∈aL S,(-1900000000≤r.X0∧r.X0<r.X1∧r.X1≤1900000000)∧(-1900000000≤r.Y0∧r.Y0<r.Y1∧r.Y1≤1900000000)):lC N (S.map toP) n n n n=some ((lw ((aL S).map (widen n))).map toP):=by
 have hle:=hS.le
 have loop:∀(suf pre:List au) (m:Nat),aL S=pre++suf→suf.length<m→gH N n n n n (aL S) m (pre.map (widen n)++suf) pre.length=some ((lw ((aL S).map (widen n))).map toP):=by
  intro suf
  induction suf with
  |nil=>
   intro pre m h1 h2
   obtain⟨m,rfl⟩:∃k,m=k+1:=⟨m-1,by omega⟩
   rw[List.append_nil] at h1
   rw[gH.eq_2,if_neg (by rw[h1];simp),List.append_nil,←h1,qL hN (by simp;omega) (KI hn hlim)];rfl
  | cons r suf ih=>
   intro pre m h1 h2
   obtain⟨m,rfl⟩:∃k,m=k+1:=⟨m-1,by omega⟩
   have hpl:pre.length≤100000000:=by rw[h1] at ht;simp at ht;omega
   have hr:=hlim r (by rw[h1];simp)
   have e0:(pre.length:Int)=((pre.map (widen n)).length:Int):=by simp
   have hid:idx (pre.map (widen n)++r::suf) (pre.length:Int)=some r:=by rw[e0];exact mg _ suf r
   have hset:sets (pre.map (widen n)++r::suf) (pre.length:Int) (widen n r)=some ((pre++[r]).map (widen n)++suf):=by
    unfold sets
    rw[if_pos ⟨by omega,by simp⟩]
    simp
   have hw:au.mk (bJ (r.X0-n)) (bJ (r.Y0-n)) (bJ (r.X1+n)) (bJ (r.Y1+n))=widen n r:=by
    rw[eG (by omega) (by omega),eG (by omega) (by omega),eG (by omega) (by omega),eG (by omega) (by omega)];rfl
   rw[gH.eq_2,if_pos (by rw[h1];exact HY pre suf r),hid,ob,ob,hw,hset,ob,Ew pre r (by omega)]
   exact ih (pre++[r]) m (by rw[h1];simp) (by simp at h2;omega)
 unfold lC
 rw[vo hN ⟨by omega,fun b hb=>by have:=vI hb;omega,by omega⟩,ob]
 exact loop (aL S) [] N rfl (by omega)
end
def GV(p q:Int×Int):Prop:=(p.1=q.1∧(q.2=p.2+1∨p.2=q.2+1))∨(p.2=q.2∧(q.1=p.1+1∨p.1=q.1+1))
theorem GV.symm{p q:Int×Int}(h:GV p q):GV q p:=by
 unfold GV at*;omega
inductive pM (S:Int→Int→Prop):Int×Int→Int×Int→Prop
 |refl {p:Int×Int}:S p.1 p.2→pM S p p
 |step {p q r:Int×Int}:pM S p q→GV q r→S r.1 r.2→pM S p r
section
variable {S T:Int→Int→Prop} {p q r:Int×Int}
theorem pM.left(h:pM S p q):S p.1 p.2:=by
 induction h with
 |refl h=>exact h
 |step _ _ _ ih=>exact ih
theorem pM.right(h:pM S p q):S q.1 q.2:=by
 cases h with
 |refl h=>exact h
 |step _ _ h=>exact h
theorem pM.trans(h:pM S p q)(k:pM S q r):pM S p r:=by
 induction k with
 |refl _=>exact h
 |step _ a s ih=>exact .step ih a s
theorem pM.symm(h:pM S p q):pM S q p:=by
 induction h with
 |refl h=>exact .refl h
 |step c a s ih=>exact(pM.step (.refl s) a.symm c.right).trans ih
theorem pM.mono(h:pM S p q)(hm:∀x y,S x y→T x y):pM T p q:=by
 induction h with
 |refl h=>exact .refl (hm _ _ h)
 |step _ a s ih=>exact .step ih a (hm _ _ s)
theorem pM.closed{Q:Int→Int→Prop}(h:pM S p q)(hq:Q p.1 p.2)(hc:∀a b:Int×Int,Q a.1 a.2→GV a b→S b.1 b.2→Q b.1 b.2):Q q.1 q.2∧pM (fun x y=>S x y∧Q x y) p q:=by
 induction h with
 |refl h=>exact⟨hq,.refl ⟨h,hq⟩⟩
 |step _ a s ih=>exact⟨hc _ _ ih.1 a s,.step ih.2 a ⟨s,hc _ _ ih.1 a s⟩⟩
end
def Bc(p q:Int×Int):Prop:=p.2<q.2∨(p.2=q.2∧p.1<q.1)
theorem Bc.trans{p q r:Int×Int}(h:Bc p q)(k:Bc q r):Bc p r:=by unfold Bc at*;omega
theorem Bc.irrefl{p:Int×Int}:¬Bc p p:=by unfold Bc;omega
def fst:List Bd→Int×Int
 |b::_=>match b.2.2 with
  |s::_=>(s.1,b.1)
  |[]=>(0,0)
 |[]=>(0,0)
theorem nu.low{l:List Bd}{lo:Int}(h:nu lo l){x y:Int}(hx:mU x y l):lo≤y:=by
 by_cases hy:y<lo
 ·unfold mU at hx;rw[rO h hy] at hx;exact absurd hx lc
 ·omega
theorem Mh{l:List Bd}(h:uC l)(hne:l≠[]):mU (fst l).1 (fst l).2 l∧∀x y,mU x y l→fst l=(x,y)∨Bc (fst l) (x,y):=by
 obtain⟨lo,hc⟩:=h.can
 match l,hne,h,hc with
 | b ::l,_,h,hc=>
  obtain⟨lo',hb⟩:=h.row b (by simp)
  obtain⟨c1,c2,c3,_,c5⟩:=hc
  obtain⟨b0,b1,b2⟩:=b
  match b2,hb,c3,c2,c5,c1 with
  | s ::t,hb,_,c2,c5,c1=>
   obtain⟨k1,k2,k3⟩:=hb
   have e:fst ((b0,b1,s::t)::l)=(s.1,b0):=rfl
   rw[e]
   have c2:b0<b1:=c2
   have c5:nu b1 l:=c5
   refine⟨?_,fun x y hx=>?_⟩
   ·unfold mU rowAt
    rw[if_pos ⟨Int.le_refl _,c2⟩]
    exact⟨s,by simp,Int.le_refl _,k2⟩
   ·unfold mU rowAt at hx
    by_cases hy:b0≤y∧y<b1
    ·rw[if_pos hy] at hx
     obtain⟨u,hu,hx⟩:=hx
     have hs:s.1≤u.1:=by
      rcases List.mem_cons.1 hu with rfl|hu
      ·exact Int.le_refl _
      ·have:=(k3.mem u hu).1;omega
     unfold Bc
     simp only[Prod.mk.injEq]
     omega
    ·rw[if_neg hy] at hx
     have:=c5.low hx
     right;left
     show b0<y
     omega
theorem DY{α:Type}{R:α→α→Prop}(hi:∀a,¬R a a)(ht:∀a b c,R a b→R b c→R a c):∀{l m:List α},l.Pairwise R→m.Pairwise R→(∀x,x∈l↔x∈m)→l=m
 |[],[],_,_,_=>rfl
 |[],b::m,_,_,h=>by have:=(h b).2 (by simp);simp at this
 |a::l,[],_,_,h=>by have:=(h a).1 (by simp);simp at this
 | a::l,b::m,h1,h2,h=>by
  obtain⟨p1,p2⟩:=List.pairwise_cons.1 h1
  obtain⟨q1,q2⟩:=List.pairwise_cons.1 h2
  have hab:a=b:=by
   rcases List.mem_cons.1 ((h a).1 (by simp)) with e|ha
   ·exact e
   ·rcases List.mem_cons.1 ((h b).2 (by simp)) with e|hb
    ·exact e.symm
    ·exact absurd (ht _ _ _ (p1 b hb) (q1 a ha)) (hi _)
  subst hab
  rw[DY hi ht p2 q2 fun x=>by
   constructor
   ·intro hx
    rcases List.mem_cons.1 ((h x).1 (by simp[hx])) with e|hx'
    ·subst e;exact absurd (p1 _ hx) (hi _)
    ·exact hx'
   ·intro hx
    rcases List.mem_cons.1 ((h x).2 (by simp[hx])) with e|hx'
    ·subst e;exact absurd (q1 _ hx) (hi _)
    ·exact hx']
structure PS (S:Int→Int→Prop) (L:List (List Bd)):Prop where
 ok:∀P∈L,uC P∧P≠[]
 cov:∀x y,S x y↔∃P∈L,mU x y P
 con:∀P∈L,∀p q:Int×Int,mU p.1 p.2 P→mU q.1 q.2 P→pM S p q
 cl:∀P∈L,∀p q:Int×Int,mU p.1 p.2 P→GV p q→S q.1 q.2→mU q.1 q.2 P
 ord:L.Pairwise fun P Q=>Bc (fst P) (fst Q)
section
variable {S T:Int→Int→Prop} {L M:List (List Bd)}
theorem PS.sub(h:PS S L){P:List Bd}(hP:P∈L){x y:Int}(hx:mU x y P):S x y:=(h.cov x y).2 ⟨P,hP,hx⟩
theorem PS.reach(h:PS S L){P:List Bd}(hP:P∈L){p:Int×Int}(hp:mU p.1 p.2 P)(q:Int×Int):mU q.1 q.2 P↔pM S p q:=
 ⟨fun hq=>h.con P hP p q hp hq,fun hc=>(hc.closed (Q:=fun x y=>mU x y P) hp fun a b ha hab hb=>h.cl P hP a b ha hab hb).1⟩
theorem PS.mem(h:PS S L)(k:PS S M){P:List Bd}(hP:P∈L):P∈M:=by
 obtain⟨o1,o2⟩:=h.ok P hP
 have hf:=(Mh o1 o2).1
 obtain⟨Q,hQ,hq⟩:=(k.cov _ _).1 (h.sub hP hf)
 have:P=Q:=o1.uniq (k.ok Q hQ).1 fun x y=>(h.reach hP hf (x,y)).trans (k.reach hQ hq (x,y)).symm
 rw[this];exact hQ
theorem PS.uniq(h:PS S L)(k:PS S M):L=M:=
 DY (R:=fun P Q=>Bc (fst P) (fst Q)) (fun _=>Bc.irrefl) (fun _ _ _=>Bc.trans) h.ord k.ord fun _=>⟨fun hp=>h.mem k hp,fun hp=>k.mem h hp⟩
theorem PS.congr(h:PS S L)(he:∀x y,S x y↔T x y):PS T L where
 ok:=h.ok
 cov x y:=(he x y).symm.trans (h.cov x y)
 con P hP p q hp hq:=(h.con P hP p q hp hq).mono fun x y=>(he x y).1
 cl P hP p q hp ha hs:=h.cl P hP p q hp ha ((he _ _).2 hs)
 ord:=h.ord
theorem PS.one(h:PS S L){P:List Bd}(hP:P∈L):PS (fun x y=>mU x y P) [P] where
 ok Q hQ:=by rw[List.mem_singleton] at hQ;subst hQ;exact h.ok _ hP
 cov x y:=by simp
 con Q hQ p q hp hq:=by
  rw[List.mem_singleton] at hQ;subst hQ
  exact((h.con _ hP p q hp hq).closed (Q:=fun x y=>mU x y Q) hp fun a b ha hab hb=>h.cl _ hP a b ha hab hb).2.mono fun x y hx=>hx.2
 cl Q hQ p q _ _ hs:=by rw[List.mem_singleton] at hQ;subst hQ;exact hs
 ord:=by simp
theorem PS.mX(h:PS S L){P Q:List Bd}(hP:P∈L)(hQ:Q∈L){x y:Int}(hp:mU x y P)(hq:mU x y Q):P=Q:=
 (h.ok P hP).1.uniq (h.ok Q hQ).1 fun a b=>(h.reach hP (p:=(x,y)) hp (a,b)).trans (h.reach hQ (p:=(x,y)) hq (a,b)).symm
theorem PS.nil(h:∀x y,¬S x y):PS S []:=⟨by simp,fun x y=>by simp[h x y],by simp,by simp,by simp⟩
end
def Dm(a b:au):Prop:=(max a.X0 b.X0<min a.X1 b.X1∧max a.Y0 b.Y0≤min a.Y1 b.Y1)∨(max a.X0 b.X0≤min a.X1 b.X1∧max a.Y0 b.Y0<min a.Y1 b.Y1)
theorem Dm.symm{a b:au}(h:Dm a b):Dm b a:=by unfold Dm at*;omega
def InT(p:Int×Int)(r:au):Prop:=(r.X0≤p.1∧p.1<r.X1)∧(r.Y0≤p.2∧p.2<r.Y1)
theorem PK{a b:au}{p q:Int×Int}(ha:InT p a)(hb:InT q b)(h:p=q∨GV p q):Dm a b:=by
 obtain⟨x,y⟩:=p
 obtain⟨u,v⟩:=q
 unfold Dm InT GV at*
 simp only[Prod.mk.injEq] at*
 omega
theorem PI{a b:au}(ha:a.X0<a.X1∧a.Y0<a.Y1)(hb:b.X0<b.X1∧b.Y0<b.Y1)(h:Dm a b):∃p q:Int×Int,InT p a∧InT q b∧(p=q∨GV p q):=by
 have key:∀c d e f:Int,c<d→e<f→max c e≤min d f→∃u v:Int,(c≤u∧u<d)∧(e≤v∧v<f)∧(u=v∨v=u+1∨u=v+1):=by
  intro c d e f h1 h2 h3
  by_cases h:max c e<min d f
  ·exact⟨max c e,max c e,by omega,by omega,by omega⟩
  ·by_cases h4:d≤e
   ·exact⟨d-1,e,by omega,by omega,by omega⟩
   ·exact⟨c,f-1,by omega,by omega,by omega⟩
 have key2:∀c d e f:Int,max c e<min d f→∃u:Int,(c≤u∧u<d)∧(e≤u∧u<f):=fun c d e f h=>⟨max c e,by omega,by omega⟩
 rcases h with⟨h1,h2⟩|⟨h1,h2⟩
 ·obtain⟨u,k1,k2⟩:=key2 _ _ _ _ h1
  obtain⟨y,v,k3,k4,k5⟩:=key _ _ _ _ ha.2 hb.2 h2
  refine⟨(u,y),(u,v),⟨k1,k3⟩,⟨k2,k4⟩,?_⟩
  rcases k5 with rfl|k5|k5
  ·exact .inl rfl
  ·exact .inr (.inl ⟨rfl,.inl k5⟩)
  ·exact .inr (.inl ⟨rfl,.inr k5⟩)
 ·obtain⟨u,k1,k2⟩:=key2 _ _ _ _ h2
  obtain⟨y,v,k3,k4,k5⟩:=key _ _ _ _ ha.1 hb.1 h1
  refine⟨(y,u),(v,u),⟨k3,k1⟩,⟨k4,k2⟩,?_⟩
  rcases k5 with rfl|k5|k5
  ·exact .inl rfl
  ·exact .inr (.inr ⟨rfl,.inl k5⟩)
  ·exact .inr (.inr ⟨rfl,.inr k5⟩)
inductive qZ (r:List au):au→au→Prop
 |refl {a:au}:a∈r→qZ r a a
 |step {a b c:au}:qZ r a b→Dm b c→c∈r→qZ r a c
theorem qZ.left{r:List au}{a b:au}(h:qZ r a b):a∈r:=by
 induction h with
 |refl h=>exact h
 |step _ _ _ ih=>exact ih
theorem qZ.right{r:List au}{a b:au}(h:qZ r a b):b∈r:=by
 cases h with
 |refl h=>exact h
 |step _ _ h=>exact h
theorem qZ.trans{r:List au}{a b c:au}(h:qZ r a b)(k:qZ r b c):qZ r a c:=by
 induction k with
 |refl _=>exact h
 |step _ t s ih=>exact .step ih t s
theorem qZ.symm{r:List au}{a b:au}(h:qZ r a b):qZ r b a:=by
 induction h with
 |refl h=>exact .refl h
 |step c t s ih=>exact(qZ.step (.refl s) t.symm c.right).trans ih
theorem DV{S:Int→Int→Prop}{a:au}(hs:∀x y,InT (x,y) a→S x y){p q:Int×Int}(hp:InT p a)(hq:InT q a):pM S p q:=by
 have hor:∀(n:Nat) (x y:Int),InT (x,y) a→InT (x+n,y) a→pM S (x,y) (x+n,y):=by
  intro n
  induction n with
  |zero=>intro x y h _;simpa using pM.refl (S:=S) (p:=(x,y)) (hs _ _ h)
  |succ n ih=>
   intro x y h h'
   have hm:InT (x+n,y) a:=by unfold InT at*;simp only at*;omega
   refine .step (ih x y h hm) ?_ (hs _ _ h')
   unfold GV;simp;omega
 have ver:∀(n:Nat) (x y:Int),InT (x,y) a→InT (x,y+n) a→pM S (x,y) (x,y+n):=by
  intro n
  induction n with
  |zero=>intro x y h _;simpa using pM.refl (S:=S) (p:=(x,y)) (hs _ _ h)
  |succ n ih=>
   intro x y h h'
   have hm:InT (x,y+n) a:=by unfold InT at*;simp only at*;omega
   refine .step (ih x y h hm) ?_ (hs _ _ h')
   unfold GV;simp;omega
 have hor':∀(x u y:Int),InT (x,y) a→InT (u,y) a→pM S (x,y) (u,y):=by
  intro x u y h h'
  rcases Int.le_total x u with hle|hle
  ·have e:u=x+((u-x).toNat:Int):=by omega
   rw[e];exact hor _ _ _ h (by rw[←e];exact h')
  ·have e:x=u+((x-u).toNat:Int):=by omega
   rw[e];exact(hor _ _ _ h' (by rw[←e];exact h)).symm
 have ver':∀(x y v:Int),InT (x,y) a→InT (x,v) a→pM S (x,y) (x,v):=by
  intro x u y h h'
  rcases Int.le_total u y with hle|hle
  ·have e:y=u+((y-u).toNat:Int):=by omega
   rw[e];exact ver _ _ _ h (by rw[←e];exact h')
  ·have e:u=y+((u-y).toNat:Int):=by omega
   rw[e];exact(ver _ _ _ h' (by rw[←e];exact h)).symm
 obtain⟨x,y⟩:=p
 obtain⟨u,v⟩:=q
 have hm:InT (u,y) a:=by unfold InT at*;simp only at*;omega
 exact(hor' x u y hp hm).trans (ver' u y v hm hq)
theorem Ho{r:List au}(hr:∀a∈r,a.X0<a.X1∧a.Y0<a.Y1){a b:au}(h:qZ r a b):∀{p q:Int×Int},InT p a→InT q b→pM (fun x y=>GR x y r) p q:=by
 induction h with
 |refl h=>intro p q hp hq;exact DV (fun x y hx=>⟨_,h,hx⟩) hp hq
 |@step b c hab ht hc ih=>
  intro p q hp hq
  obtain⟨u,v,hu,hv,huv⟩:=PI (hr b hab.right) (hr c hc) ht
  have h1:=ih hp hu
  have h2:pM (fun x y=>GR x y r) v q:=DV (fun x y hx=>⟨c,hc,hx⟩) hv hq
  rcases huv with rfl|huv
  ·exact h1.trans h2
  ·exact(pM.step h1 huv h2.left).trans h2
structure RS (r:List au) (L:List (List au)):Prop where
 ne:∀l∈L,l≠[]
 cov:∀a,a∈r↔∃l∈L,a∈l
 con:∀l∈L,∀a∈l,∀b∈l,qZ r a b
 cl:∀l∈L,∀a∈l,∀b∈r,Dm a b→b∈l
 ord:L.Pairwise fun l m=>Bc (fst (lw l)) (fst (lw m))
theorem FB{l:List au}(hr:∀a∈l,a.X0<a.X1∧a.Y0<a.Y1)(h:l≠[]):lw l≠[]:=by
 match l,h with
 |a::l,_=>
  have:=hr a (by simp)
  have hx:=((kZ hr).2 a.X0 a.Y0).2 ⟨a,by simp,by omega,by omega⟩
  intro e
  rw[e] at hx
  exact absurd hx lc
theorem RS.ps{r:List au}{L:List (List au)}(h:RS r L)(hr:∀a∈r,a.X0<a.X1∧a.Y0<a.Y1):PS (fun x y=>GR x y r) (L.map lw):=by
 have hl:∀l∈L,∀a∈l,a.X0<a.X1∧a.Y0<a.Y1:=fun l hl a ha=>hr a ((h.cov a).2 ⟨l,hl,ha⟩)
 refine⟨fun P hP=>?_,fun x y=>?_,fun P hP p q hp hq=>?_,fun P hP p q hp ha hs=>?_,?_⟩
 ·obtain⟨l,hm,rfl⟩:=List.mem_map.1 hP
  exact⟨(kZ (hl l hm)).1,FB (hl l hm) (h.ne l hm)⟩
 ·constructor
  ·rintro⟨a,ha,hx⟩
   obtain⟨l,hm,hal⟩:=(h.cov a).1 ha
   exact⟨lw l,List.mem_map.2 ⟨l,hm,rfl⟩,((kZ (hl l hm)).2 x y).2 ⟨a,hal,hx⟩⟩
  ·rintro⟨P,hP,hx⟩
   obtain⟨l,hm,rfl⟩:=List.mem_map.1 hP
   obtain⟨a,ha,hx⟩:=((kZ (hl l hm)).2 x y).1 hx
   exact⟨a,(h.cov a).2 ⟨l,hm,ha⟩,hx⟩
 ·obtain⟨l,hm,rfl⟩:=List.mem_map.1 hP
  obtain⟨a,ha,hx⟩:=((kZ (hl l hm)).2 _ _).1 hp
  obtain⟨b,hb,hy⟩:=((kZ (hl l hm)).2 _ _).1 hq
  exact Ho hr (h.con l hm a ha b hb) hx hy
 ·obtain⟨l,hm,rfl⟩:=List.mem_map.1 hP
  obtain⟨a,hal,hx⟩:=((kZ (hl l hm)).2 _ _).1 hp
  obtain⟨b,hb,hy⟩:=hs
  exact((kZ (hl l hm)).2 _ _).2 ⟨b,h.cl l hm a hal b hb (PK (p:=p) (q:=q) hx hy (.inr ha)),hy⟩
 ·exact List.pairwise_map.2 h.ord
theorem F8{a:au}{l:List au}(hr:∀b∈a::l,b.X0<b.X1∧b.Y0<b.Y1)(h:∀b∈l,Bc (a.X0,a.Y0) (b.X0,b.Y0)):fst (lw (a::l))=(a.X0,a.Y0):=by
 obtain⟨h1,h2⟩:=Mh (kZ hr).1 (FB hr (by simp))
 have ha:=hr a (by simp)
 have h3:=h2 a.X0 a.Y0 (((kZ hr).2 _ _).2 ⟨a,by simp,by omega,by omega⟩)
 obtain⟨b,hb,hx,hy⟩:=((kZ hr).2 _ _).1 h1
 rcases h3 with h3|h3
 ·exact h3
 ·exfalso
  rcases List.mem_cons.1 hb with rfl|hb
  ·unfold Bc at h3;simp only at h3;omega
  ·have:=h b hb
   unfold Bc at h3 this;simp only at h3 this;omega
def yI(u:List Int)(ρ:Nat→Nat):Prop:=∀i,i<u.length→∃v:Nat,u[i]?=some (v:Int)∧v≤i∧ρ i≤v∧ρ v=ρ i∧(v=i→ρ i=i)
section
variable {u:List Int} {ρ:Nat→Nat}
theorem yI.le(h:yI u ρ){i:Nat}(hi:i<u.length):ρ i≤i:=by
 obtain⟨v,_,h1,h2,_⟩:=h i hi
 omega
theorem yI.H6(h:yI u ρ):∀{i:Nat},i<u.length→ρ (ρ i)=ρ i:=by
 intro i
 induction i using Nat.strongRecOn with
 |_ i ih=>
  intro hi
  obtain⟨v,h0,h1,h2,h3,h4⟩:=h i hi
  by_cases e:v=i
  ·rw[h4 e,h4 e]
  ·rw[←h3];exact ih v (by omega) (by omega)
theorem yI.short(h:yI u ρ){i v w:Nat}(hi:i<u.length)(h1:u[i]?=some (v:Int))(hv:v≠i)(h2:u[v]?=some (w:Int)):yI (u.set i (w:Int)) ρ∧w<i∧ρ w=ρ i:=by
 obtain⟨v',a0,a1,a2,a3,a4⟩:=h i hi
 rw[a0] at h1
 have:v'=v:=Int.ofNat.inj (Option.some.inj h1)
 subst this
 obtain⟨w',b0,b1,b2,b3,b4⟩:=h v' (by omega)
 rw[b0] at h2
 have:w'=w:=Int.ofNat.inj (Option.some.inj h2)
 subst this
 refine⟨fun j hj=>?_,by omega,by rw[b3,a3]⟩
 rw[List.length_set] at hj
 by_cases e:i=j
 ·subst e
  exact⟨w',by rw[List.getElem?_set_self hi],by omega,by rw[←a3];exact b2,by rw[b3,a3],fun e=>by omega⟩
 ·obtain⟨z,c0,c1⟩:=h j hj
  exact⟨z,by rw[List.getElem?_set_ne e];exact c0,c1⟩
theorem yI.O6(h:yI u ρ){hi lo:Nat}(hl:lo≤hi)(hh:hi<u.length)(e1:ρ hi=hi)(e2:ρ lo=lo):yI (u.set hi (lo:Int)) fun i=>if ρ i=hi then lo else ρ i:=by
 intro j hj
 rw[List.length_set] at hj
 obtain⟨z,c0,c1,c2,c3,c4⟩:=h j hj
 by_cases e:hi=j
 ·subst e
  refine⟨lo,by rw[List.getElem?_set_self hj],hl,?_,?_,fun e=>?_⟩
  ·show(if _ then _ else _)≤_
   rw[if_pos e1];exact Nat.le_refl _
  ·show(if ρ lo=hi then lo else ρ lo)=(if ρ hi=hi then lo else ρ hi)
   rw[if_pos e1,e2];split<;>rfl
  ·show(if _ then _ else _)=_
   rw[if_pos e1];exact e
 ·refine⟨z,by rw[List.getElem?_set_ne e];exact c0,c1,?_,?_,fun e=>?_⟩
  ·show(if _ then _ else _)≤_
   split<;>omega
  ·show(if ρ z=_ then _ else _)=(if _ then _ else _)
   rw[c3]
  ·show(if _ then _ else _)=_
   have:=c4 e
   rw[this,if_neg (by omega)]
theorem yI.join(h:yI u ρ){x y:Nat}(hx:x<u.length)(hy:y<u.length)(ex:ρ x=x)(ey:ρ y=y):yI (u.set (max x y) ((min x y:Nat):Int)) fun i=>if ρ i=max x y then min x y else ρ i:=by
 rcases Nat.le_total x y with hle|hle
 ·rw[Nat.max_eq_right hle,Nat.min_eq_left hle];exact h.O6 hle hy ey ex
 ·rw[Nat.max_eq_left hle,Nat.min_eq_right hle];exact h.O6 hle hx ex ey
end
theorem PU(n:Nat):yI ((List.range n).map (fun i:Nat=>(i:Int))) id:=fun i hi=>by
 rw[List.length_map,List.length_range] at hi
 exact⟨i,by simp[hi],Nat.le_refl _,Nat.le_refl _,rfl,fun _=>rfl⟩
theorem zD{ρ:Nat→Nat}{hi lo a b:Nat}(hab2:(ρ a=hi∧ρ b=lo)∨(ρ a=lo∧ρ b=hi)){R:Nat→Nat→Prop}(hs:∀i j,R i j→R j i)(ht:∀i j k,R i j→R j k→R i k)(hR:∀i j,ρ i=ρ j→R i j)(hab:R a b):
  (∀i j,(if ρ i=hi then lo else ρ i)=(if ρ j=hi then lo else ρ j)→R i j)∧(if ρ a=hi then lo else ρ a)=(if ρ b=hi then lo else ρ b)∧∀i j,ρ i=ρ j→(if ρ i=hi then lo else ρ i)=(if ρ j=hi then lo else ρ j):=by
 have cls:∀i,(ρ i=hi∨ρ i=lo)→R i a:=by
  intro i h
  rcases hab2 with⟨h1,h2⟩|⟨h1,h2⟩<;>rcases h with h|h
  ·exact hR i a (by rw[h,h1])
  ·exact ht _ _ _ (hR i b (by rw[h,h2])) (hs _ _ hab)
  ·exact ht _ _ _ (hR i b (by rw[h,h2])) (hs _ _ hab)
  ·exact hR i a (by rw[h,h1])
 refine⟨fun i j e=>?_,?_,fun i j e=>by rw[e]⟩
 ·by_cases h1:ρ i=hi<;>by_cases h2:ρ j=hi
  ·exact ht _ _ _ (cls i (.inl h1)) (hs _ _ (cls j (.inl h2)))
  ·rw[if_pos h1,if_neg h2] at e
   exact ht _ _ _ (cls i (.inl h1)) (hs _ _ (cls j (.inr e.symm)))
  ·rw[if_neg h1,if_pos h2] at e
   exact ht _ _ _ (cls i (.inr e)) (hs _ _ (cls j (.inl h2)))
  ·rw[if_neg h1,if_neg h2] at e
   exact hR i j e
 ·rcases hab2 with⟨h1,h2⟩|⟨h1,h2⟩
  ·rw[h1,h2,if_pos rfl];split<;>rfl
  ·rw[h1,h2,if_pos rfl];split<;>rfl
theorem FY{ρ:Nat→Nat}{x y a b:Nat}(ha:ρ a=x)(hb:ρ b=y){R:Nat→Nat→Prop}(hs:∀i j,R i j→R j i)(ht:∀i j k,R i j→R j k→R i k)(hR:∀i j,ρ i=ρ j→R i j)(hab:R a b):
  (∀i j,(if ρ i=max x y then min x y else ρ i)=(if ρ j=max x y then min x y else ρ j)→R i j)∧(if ρ a=max x y then min x y else ρ a)=(if ρ b=max x y then min x y else ρ b)∧∀i j,ρ i=ρ j→(if ρ i=max x y then min x y else ρ i)=(if ρ j=max x y then min x y else ρ j):=by
 rcases Nat.le_total x y with hle|hle
 ·rw[Nat.max_eq_right hle,Nat.min_eq_left hle];exact zD (.inr ⟨ha,hb⟩) hs ht hR hab
 ·rw[Nat.max_eq_left hle,Nat.min_eq_right hle];exact zD (.inl ⟨ha,hb⟩) hs ht hR hab
theorem yx{α:Type}:∀{l m:List α},l.Nodup→(∀x∈l,x∈m)→l.length≤m.length
 |[],_,_,_=>Nat.zero_le _
 |a::l,m,h,hs=>by
  classical
  obtain⟨h1,h2⟩:=List.nodup_cons.1 h
  have ha:a∈m:=hs a (by simp)
  have:=yx (l:=l) (m:=m.erase a) h2 fun x hx=>(List.mem_erase_of_ne (fun e=>by subst e;exact h1 hx)).2 (hs x (by simp[hx]))
  rw[List.length_erase_of_mem ha] at this
  have:0<m.length:=List.length_pos_of_mem ha
  simp only[List.length_cons]
  omega
theorem NM{a b:au}:HZ a b=true↔Bc (a.X0,a.Y0) (b.X0,b.Y0):=by
 unfold HZ Bc
 simp
theorem Ak:∀{l:List au},yl l=true→l.Pairwise fun a b=>Bc (a.X0,a.Y0) (b.X0,b.Y0)
 |[],_=>.nil
 |[a],_=>by simp
 |a::b::l,h=>by
  have h:(HZ a b&&yl (b::l))=true:=h
  rw[Bool.and_eq_true] at h
  have ih:=Ak h.2
  refine List.pairwise_cons.2 ⟨fun x hx=>?_,ih⟩
  have hab:=NM.1 h.1
  rcases List.mem_cons.1 hx with rfl|hx
  ·exact hab
  ·exact hab.trans ((List.pairwise_cons.1 ih).1 x hx)
theorem ET{C:List Bd}(h:uC C):((aL C).map fun r=>(r.X0,r.Y0)).Nodup:=by
 obtain⟨lo,hc⟩:=h.can
 refine List.pairwise_map.2 ((Ak (ul hc h.row)).imp ?_)
 intro a b hab e
 rw[e] at hab
 exact Bc.irrefl hab
theorem Can.gap:∀{l:List (Int×Int)} {lo:Int},Can lo l→∀s∈l,¬pO (s.1-1) l
 |[],_,_,s,hs=>by simp at hs
 | p::l,lo,h,s,hs=>by
  obtain⟨h1,h2,h3⟩:=h
  intro hx
  rcases List.mem_cons.1 hs with rfl|hs
  ·rcases iM.1 hx with hx|hx
   ·omega
   ·have:=h3.lt hx;omega
  ·have:=(h3.mem s hs).1
   rcases iM.1 hx with hx|hx
   ·omega
   ·exact h3.gap s hs hx
theorem Can.Q9:∀{l:List (Int×Int)} {lo:Int},Can lo l→∀s∈l,¬pO s.2 l
 |[],_,_,s,hs=>by simp at hs
 | p::l,lo,h,s,hs=>by
  obtain⟨h1,h2,h3⟩:=h
  intro hx
  rcases List.mem_cons.1 hs with rfl|hs
  ·rcases iM.1 hx with hx|hx
   ·omega
   ·have:=h3.lt hx;omega
  ·have h4:=h3.mem s hs
   rcases iM.1 hx with hx|hx
   ·omega
   ·exact h3.Q9 s hs hx
theorem nu.next:∀{l:List Bd} {lo:Int},nu lo l→∀d∈l,∀b∈l,d.2.1=b.1→b.2.2≠d.2.2
 |[],_,_,d,hd,_,_,_=>by simp at hd
 | c ::l,lo,h,d,hd,b,hb,e=>by
  obtain⟨h1,h2,h3,h4,h5⟩:=h
  rcases List.mem_cons.1 hd with rfl|hd
  ·rcases List.mem_cons.1 hb with rfl|hb
   ·omega
   ·match l,h4,h5,hb with
    |f::l,h4,h5,hb=>
     rcases List.mem_cons.1 hb with rfl|hb
     ·exact h4 _ rfl e.symm
     ·have:=h5.1;have:=h5.2.1;have:=(h5.2.2.2.2.mem b hb).1;omega
  ·have hd':=h5.mem d hd
   rcases List.mem_cons.1 hb with rfl|hb
   ·omega
   ·exact h5.next d hd b hb e
theorem PR{C:List Bd}(h:uC C){y z:Int}(he:∀u,mU u y C↔mU u z C):rowAt C y=rowAt C z:=Ii (h.at y) (h.at z) he
def SV(S:Int→Int→Prop)(y:Int):Prop:=¬∀u,S u (y-1)↔S u y
theorem J7{C:List Bd}(h:uC C){r:au}(hr:r∈aL C):mU r.X0 r.Y0 C∧¬mU (r.X0-1) r.Y0 C∧mU (r.X1-1) r.Y0 C∧¬mU r.X1 r.Y0 C∧SV (fun x y=>mU x y C) r.Y0:=by
 obtain⟨lo,hc⟩:=h.can
 obtain⟨b,hb,s,hs,rfl⟩:=qp.1 hr
 have hm:=hc.mem b hb
 have e:=tJ hc hb (Int.le_refl _) hm.2.1
 obtain⟨lo',hcr⟩:=h.row b hb
 have hs2:=hcr.mem s hs
 refine⟨?_,?_,?_,?_,fun hall=>?_⟩
 ·show pO _ _;rw[e];exact⟨s,hs,Int.le_refl _,hs2.2⟩
 ·show ¬pO _ _;rw[e];exact hcr.gap s hs
 ·show pO _ _;rw[e];exact⟨s,hs,by show s.1≤s.2-1;omega,by show s.2-1<s.2;omega⟩
 ·show ¬pO _ _;rw[e];exact hcr.Q9 s hs
 ·have e2:=PR h hall
  have e3:rowAt C b.1=b.2.2:=e
  rcases sU (l:=C) (y:=b.1-1) with h1|⟨d,hd,h1,h2,h3⟩
  ·have e2:rowAt C (b.1-1)=rowAt C b.1:=e2
   rw[h1,e3] at e2;exact hm.2.2 e2.symm
  ·have e2:rowAt C (b.1-1)=rowAt C b.1:=e2
   rw[h3,e3] at e2
   have hd2:d.2.1=b.1:=by
    by_cases hlt:d.2.1≤b.1
    ·omega
    ·have:=tJ hc hd (y:=b.1) (by omega) (by omega)
     have hdb:∀{l:List Bd} {lo:Int},nu lo l→d∈l→b∈l→d.1<b.1→d.2.1≤b.1:=by
      intro l
      induction l with
      |nil=>intro lo _ hd;simp at hd
      | cons c l ih=>
       intro lo h hd hb hlt
       rcases List.mem_cons.1 hd with e1|h1
       ·rcases List.mem_cons.1 hb with e2|h2
        ·rw[e1,e2] at hlt;omega
        ·rw[e1];exact(h.2.2.2.2.mem b h2).1
       ·rcases List.mem_cons.1 hb with e2|h2
        ·rw[e2] at hlt;have:=(h.2.2.2.2.mem d h1).1;have:=h.2.1;omega
        ·exact ih h.2.2.2.2 h1 h2 hlt
     have:=hdb hc hd hb (by omega)
     omega
   exact hc.next d hd b hb hd2 e2.symm
theorem J8{C:List Bd}(h:uC C){x y:Int}(h1:mU x y C)(h2:¬mU (x-1) y C)(h3:SV (fun x y=>mU x y C) y):∃r∈aL C,r.X0=x∧r.Y0=y:=by
 obtain⟨lo,hc⟩:=h.can
 rcases sU (l:=C) (y:=y) with e|⟨b,hb,k1,k2,k3⟩
 ·unfold mU at h1;rw[e] at h1;exact absurd h1 lc
 ·have hy:b.1=y:=by
   by_cases hlt:b.1=y
   ·exact hlt
   ·exfalso
    refine h3 fun u=>?_
    have:=tJ hc hb (y:=y-1) (by omega) (by omega)
    show pO u _↔pO u _
    rw[this,k3]
  unfold mU at h1 h2
  rw[k3] at h1 h2
  obtain⟨s,hs,hx⟩:=h1
  refine⟨_,qp.2 ⟨b,hb,s,hs,rfl⟩,?_,hy⟩
  show s.1=x
  by_cases hlt:s.1=x
  ·exact hlt
  ·exact absurd ⟨s,hs,by omega,by omega⟩ h2
theorem FT{B P:List Bd}(hB:uC B)(hk:uC P)(sub:∀x y,mU x y P→mU x y B)(cl:∀p q:Int×Int,mU p.1 p.2 P→GV p q→mU q.1 q.2 B→mU q.1 q.2 P){r:au}(hr:r∈aL P):(r.X0,r.Y0)∈(aL B).map fun r=>(r.X0,r.Y0):=by
 obtain⟨a1,a2,_,_,a5⟩:=J7 hk hr
 have b1:=sub _ _ a1
 have b2:¬mU (r.X0-1) r.Y0 B:=fun hx=>a2 (cl (r.X0,r.Y0) (r.X0-1,r.Y0) a1 (by unfold GV;simp<;>omega) hx)
 obtain⟨q,hq,q1,q2⟩:=J8 hB b1 b2 fun hall=>a5 fun u=>by
  constructor
  ·intro hu;exact cl (u,r.Y0-1) (u,r.Y0) hu (by unfold GV;simp) ((hall u).1 (sub _ _ hu))
  ·intro hu;exact cl (u,r.Y0) (u,r.Y0-1) hu (by unfold GV;simp) ((hall u).2 (sub _ _ hu))
 exact List.mem_map.2 ⟨q,hq,by rw[q1,q2]⟩
theorem PS.Qc{B P:List Bd}{L:List (List Bd)}(hB:uC B)(h:PS (fun x y=>mU x y B) L)(hP:P∈L){r:au}(hr:r∈aL P):(r.X0,r.Y0)∈(aL B).map fun r=>(r.X0,r.Y0):=
 FT hB (h.ok P hP).1 (fun _ _ hx=>h.sub hP hx) (h.cl P hP) hr
theorem PS.len{B P:List Bd}{L:List (List Bd)}(hB:uC B)(h:PS (fun x y=>mU x y B) L)(hP:P∈L):(aL P).length≤(aL B).length:=by
 have:=yx (ET (h.ok P hP).1) (m:=(aL B).map fun r=>(r.X0,r.Y0)) fun c hc=>by
  obtain⟨r,hr,rfl⟩:=List.mem_map.1 hc
  exact h.Qc hB hP hr
 simpa using this
structure SX (B:List Bd) (x0 y0 x1 y1:Int):Prop where
 lim:∀x y,mU x y B→(x0<x∧x+1<x1)∧(y0<y∧y+1<y1)
 ne:x0+1<x1∧y0+1<y1
def Ring(x0 y0 x1 y1:Int)(x y:Int):Prop:=((x0≤x∧x<x1)∧(y0≤y∧y<y1))∧(x=x0∨x+1=x1∨y=y0∨y+1=y1)
section
variable {B:List Bd} {x0 y0 x1 y1:Int} {L:List (List Bd)}
end
theorem qw{α:Type}(l:List α)(i:Nat):idx l (i:Int)=l[i]?:=by
 unfold idx;rw[if_pos (Int.natCast_nonneg i),Int.toNat_natCast]
theorem xc{α:Type}{l:List α}{i:Nat}(x:α)(h:i<l.length):sets l (i:Int) x=some (l.set i x):=by
 unfold sets;rw[Int.toNat_natCast,if_pos ⟨Int.natCast_nonneg i,h⟩]
theorem KY:∀(m:Nat) (u:List Int) (ρ:Nat→Nat) (i:Nat),yI u ρ→i<u.length→i<m→∃u',fe m u (i:Int)=some ((ρ i:Int),u')∧yI u' ρ∧u'.length=u.length:=by
 intro m
 induction m with
 |zero=>intro u ρ i _ _ h;omega
 | succ m ih=>
  intro u ρ i hr hi him
  obtain⟨v,h0,h1,h2,h3,h4⟩:=hr i hi
  unfold fe
  rw[qw,h0,ob]
  by_cases e:v=i
  ·subst e
   rw[if_neg (by simp)]
   exact⟨u,by rw[h4 rfl],hr,rfl⟩
  ·rw[if_pos (by simp;omega),ob,qw]
   obtain⟨z,k0,k1,k2,k3,k4⟩:=hr v (by omega)
   obtain⟨r1,r2,r3⟩:=hr.short hi h0 e k0
   rw[k0,ob,ob,xc _ hi,ob,qw,List.getElem?_set_self hi,ob]
   obtain⟨u',q1,q2,q3⟩:=ih (u.set i (z:Int)) ρ z r1 (by rw[List.length_set];omega) (by omega)
   exact⟨u',by rw[q1,r3],q2,by rw[q3,List.length_set]⟩
theorem Ex{N:Nat}{u:List Int}{ρ:Nat→Nat}{i:Nat}(hN:u.length≤N)(h:yI u ρ)(hi:i<u.length):∃u',iC N (i:Int) u=some ((ρ i:Int),u')∧yI u' ρ∧u'.length=u.length:=
 KY N u ρ i h hi (by omega)
def RI(rs:List au)(i j:Nat):Prop:=i=j∨∃a b,rs[i]?=some a∧rs[j]?=some b∧qZ rs a b
theorem RI.symm{rs:List au}{i j:Nat}(h:RI rs i j):RI rs j i:=by
 rcases h with h|⟨a,b,h1,h2,h3⟩
 ·exact .inl h.symm
 ·exact .inr ⟨b,a,h2,h1,h3.symm⟩
theorem RI.trans{rs:List au}{i j k:Nat}(h:RI rs i j)(h':RI rs j k):RI rs i k:=by
 rcases h with rfl|⟨a,b,h1,h2,h3⟩
 ·exact h'
 ·rcases h' with rfl|⟨c,d,k1,k2,k3⟩
  ·exact .inr ⟨a,b,h1,h2,h3⟩
  ·rw[h2] at k1
   cases k1
   exact .inr ⟨a,d,h1,k2,h3.trans k3⟩
structure zR (rs:List au) (u:List Int) (ρ:Nat→Nat):Prop where
 Nh:yI u ρ
 len:u.length=rs.length
 snd:∀i j,ρ i=ρ j→RI rs i j
section
variable {N:Nat} {rs:List au}
theorem zR.lt{u:List Int}{ρ:Nat→Nat}(h:zR rs u ρ){i:Nat}(hi:i<rs.length):ρ i<u.length:=by
 have:=h.Nh.le (i:=i) (by rw[h.len];exact hi)
 rw[h.len];omega
theorem NP{β:Type}(hN:rs.length≤N){u:List Int}{ρ:Nat→Nat}{i j:Nat}{a b:au}(h:zR rs u ρ)(ha:rs[i]?=some a)(hb:rs[j]?=some b)(ht:Dm a b):
  ∃u' ρ',(∀K:List Int→Option β,((iC N (i:Int) u).bind fun Nl=>(iC N (j:Int) Nl.2).bind fun KH=>(idx KH.2 (max Nl.1 KH.1)).bind fun _=>(sets KH.2 (max Nl.1 KH.1) (min Nl.1 KH.1)).bind fun Sq=>K Sq)=K u')∧
   zR rs u' ρ'∧(∀x y,ρ x=ρ y→ρ' x=ρ' y)∧ρ' i=ρ' j:=by
 have hi:i<rs.length:=(List.getElem?_eq_some_iff.1 ha).1
 have hj:j<rs.length:=(List.getElem?_eq_some_iff.1 hb).1
 obtain⟨u1,p1,p2,p3⟩:=Ex (N:=N) (by rw[h.len];exact hN) h.Nh (i:=i) (by rw[h.len];exact hi)
 obtain⟨u2,q1,q2,q3⟩:=Ex (N:=N) (by rw[p3,h.len];exact hN) p2 (i:=j) (by rw[p3,h.len];exact hj)
 have hl2:u2.length=rs.length:=by rw[q3,p3,h.len]
 have hx:=h.lt hi
 have hy:=h.lt hj
 have hlu:u.length=rs.length:=h.len
 have e1:max (ρ i:Int) (ρ j:Int)=((max (ρ i) (ρ j):Nat):Int):=by omega
 have e2:min (ρ i:Int) (ρ j:Int)=((min (ρ i) (ρ j):Nat):Int):=by omega
 have hm:max (ρ i) (ρ j)<u2.length:=by omega
 obtain⟨k1,k2,k3⟩:=FY (a:=i) (b:=j) rfl rfl (R:=RI rs) (fun _ _=>RI.symm) (fun _ _ _=>RI.trans) h.snd (.inr ⟨a,b,ha,hb,.step (.refl (List.mem_of_getElem? ha)) ht (List.mem_of_getElem? hb)⟩)
 refine⟨u2.set (max (ρ i) (ρ j)) ((min (ρ i) (ρ j):Nat):Int),_,fun K=>?_,⟨q2.join (by omega) (by omega) (h.Nh.H6 (by rw[h.len];exact hi)) (h.Nh.H6 (by rw[h.len];exact hj)),by rw[List.length_set,hl2],k1⟩,k3,k2⟩
 rw[p1,ob]
 simp only
 rw[q1,ob]
 simp only
 rw[e1,e2,qw,List.getElem?_eq_getElem hm,ob,xc _ hm,ob]
theorem Lj(hN:rs.length≤N)(hn:rs.length≤1000000000){below fr nb:Nat}{kF:List Int→Int→Int→Option (List (List aQ))}{x:aQ}(hx:x.Xs.length=2*nb)(hfr:fr+nb≤rs.length)
  (hA:∀i1 i2 a1 a2,below≤i1→i1<i2→i2<fr→rs[i1]?=some a1→rs[i2]?=some a2→a1.X1<a2.X0)
  (hB:∀i1 i2 a1 a2,fr≤i1→i1<i2→i2<fr+nb→rs[i1]?=some a1→rs[i2]?=some a2→a1.X1<a2.X0)
  (hT:∀i j a b,below≤i→i<fr→fr≤j→j<fr+nb→rs[i]?=some a→rs[j]?=some b→a.X0<b.X1→b.X0<a.X1→Dm a b):
  ∀ (m:Nat) (u:List Int) (ρ:Nat→Nat) (i j:Nat),zR rs u ρ→below≤i→i≤fr→fr≤j→j≤fr+nb→(fr-i)+(fr+nb-j)<m→
   ∃u' ρ',dZ N rs (fr:Int) kF x m u (i:Int) (j:Int)=fG (fr:Int) kF x u'∧zR rs u' ρ'∧(∀a b,ρ a=ρ b→ρ' a=ρ' b)∧
    ∀i' j' a b,i≤i'→i'<fr→j≤j'→j'<fr+nb→rs[i']?=some a→rs[j']?=some b→a.X0<b.X1→b.X0<a.X1→ρ' i'=ρ' j':=by
 intro m
 induction m with
 |zero=>intro u ρ i j _ _ _ _ _ h;omega
 | succ m ih=>
  intro u ρ i j hI h1 h2 h3 h4 h5
  have ew:bJ ((fr:Int)+bJ (Int.tdiv (x.Xs.length:Int) 2))=((fr+nb:Nat):Int):=by
   have e:Int.tdiv (x.Xs.length:Int) 2=(nb:Int):=by rw[hx,Int.tdiv_eq_ediv_of_nonneg (by omega)];omega
   rw[e,tu (x:=(nb:Int)) (by omega) (by omega),tu (by omega) (by omega)];omega
  unfold dZ
  rw[ew]
  by_cases hc:i<fr∧j<fr+nb
  ·obtain⟨hc1,hc2⟩:=hc
   rw[if_pos (by simp;omega)]
   obtain⟨a,ha⟩:∃a,rs[i]?=some a:=⟨_,List.getElem?_eq_getElem (by omega)⟩
   obtain⟨b,hb⟩:∃b,rs[j]?=some b:=⟨_,List.getElem?_eq_getElem (by omega)⟩
   have hJ:∀u1 ρ1,zR rs u1 ρ1→(a.X0<b.X1→b.X0<a.X1→ρ1 i=ρ1 j)→∃u' ρ',iI rs (i:Int) (j:Int) (dZ N rs (fr:Int) kF x m) u1=fG (fr:Int) kF x u'∧zR rs u' ρ'∧(∀a b,ρ1 a=ρ1 b→ρ' a=ρ' b)∧
     ∀i' j' a b,i≤i'→i'<fr→j≤j'→j'<fr+nb→rs[i']?=some a→rs[j']?=some b→a.X0<b.X1→b.X0<a.X1→ρ' i'=ρ' j':=by
    intro u1 ρ1 hI1 hl
    unfold iI
    rw[qw,ha,ob,qw,hb,ob]
    by_cases hlt:a.X1<b.X1
    ·rw[if_pos (by simpa using hlt),tu (by omega) (by omega)]
     obtain⟨u',ρ',r1,r2,r3,r4⟩:=ih u1 ρ1 (i+1) j hI1 (by omega) (by omega) h3 h4 (by omega)
     refine⟨u',ρ',r1,r2,r3,fun i' j' a' b' k1 k2 k3 k4 k5 k6 k7 k8=>?_⟩
     by_cases hi':i'=i
     ·subst hi'
      rw[ha] at k5
      cases k5
      by_cases hj':j'=j
      ·subst hj'
       rw[hb] at k6
       cases k6
       exact r3 _ _ (hl k7 k8)
      ·have:=hB j j' b b' h3 (by omega) k4 hb k6
       omega
     ·exact r4 i' j' a' b' (by omega) k2 k3 k4 k5 k6 k7 k8
    ·rw[if_neg (by simpa using hlt),tu (by omega) (by omega)]
     obtain⟨u',ρ',r1,r2,r3,r4⟩:=ih u1 ρ1 i (j+1) hI1 h1 h2 (by omega) (by omega) (by omega)
     refine⟨u',ρ',r1,r2,r3,fun i' j' a' b' k1 k2 k3 k4 k5 k6 k7 k8=>?_⟩
     by_cases hj':j'=j
     ·subst hj'
      rw[hb] at k6
      cases k6
      by_cases hi':i'=i
      ·subst hi'
       rw[ha] at k5
       cases k5
       exact r3 _ _ (hl k7 k8)
      ·have:=hA i i' a a' h1 (by omega) k2 ha k5
       omega
     ·exact r4 i' j' a' b' k1 k2 (by omega) k4 k5 k6 k7 k8
   rw[qw,ha,ob,qw,hb,ob]
   by_cases o1:a.X0<b.X1
   ·rw[if_pos (by simpa using o1),ob,ob]
    by_cases o2:b.X0<a.X1
    ·rw[ob,if_pos (by simpa using o2)]
     obtain⟨u1,ρ1,q1,q2,q3,q4⟩:=NP (β:=List (List aQ)) hN hI ha hb (hT i j a b h1 hc1 h3 hc2 ha hb o1 o2)
     obtain⟨u',ρ',r1,r2,r3,r4⟩:=hJ u1 ρ1 q2 fun _ _=>q4
     exact⟨u',ρ',by rw[q1];exact r1,r2,fun x y e=>r3 _ _ (q3 _ _ e),r4⟩
    ·rw[ob,if_neg (by simpa using o2)]
     exact hJ u ρ hI fun _ h=>absurd h o2
   ·rw[if_neg (by simpa using o1),ob,if_neg (by simp)]
    exact hJ u ρ hI fun h _=>absurd h o1
  ·rw[if_neg (by simp;omega)]
   exact⟨u,ρ,rfl,hI,fun _ _ e=>e,fun i' j' a b k1 k2 k3 k4=>by omega⟩
end
end Go.Proofs.YtkccbhbhdnobhaaGreatDoor
