/- Rules of the walks, or plain laws about the plain functions. Conditions: none beyond each theorem's own. -/
import Derived.Test.YtkccbhbhdnobhaaGreatDoorJ4
namespace Go.Proofs.YtkccbhbhdnobhaaGreatDoor
theorem NK{α:Type}{l1 l2 l3:List α}{i:Nat}(h1:l1.length≤i)(h2:i<l1.length+l2.length):(l1++l2++l3)[i]?=l2[i-l1.length]?:=by
 rw[List.append_assoc,List.getElem?_append_right h1,List.getElem?_append_left (by omega)]
theorem Can.pair:∀{l:List (Int×Int)} {lo:Int},Can lo l→l.Pairwise fun p q=>p.2<q.1
 |[],_,_=>.nil
 |p::l,lo,h=>List.pairwise_cons.2 ⟨fun q hq=>(h.2.2.mem q hq).1,h.2.2.pair⟩
theorem zw{b:Bd}(h:∃lo,Can lo b.2.2):(qi b).Pairwise fun a c=>a.X1<c.X0:=by
 obtain⟨lo,h⟩:=h
 exact List.pairwise_map.2 h.pair
theorem yQ:∀{l:List Bd} {lo:Int} {d:Bd} {m:List Bd},nu lo (l++d::m)→(∀e∈l,e.2.1≤d.1)∧d.1<d.2.1∧∀e∈m,d.2.1≤e.1
 |[],lo,d,m,h=>⟨by simp,h.2.1,fun e he=>(h.2.2.2.2.mem e he).1⟩
 |c::l,lo,d,m,h=>by
  obtain⟨h1,h2,h3⟩:=yQ (l:=l) h.2.2.2.2
  refine⟨fun e he=>?_,h2,h3⟩
  rcases List.mem_cons.1 he with rfl|he
  ·exact(h.2.2.2.2.mem d (by simp)).1
  ·exact h1 e he
theorem yL(b:Bd):aL [b]=qi b:=by unfold aL;simp
theorem Bb{b:Bd}{r:au}(h:r∈qi b):r.Y0=b.1∧r.Y1=b.2.1∧(r.X0,r.X1)∈b.2.2:=by
 obtain⟨s,hs,rfl⟩:=List.mem_map.1 h
 exact⟨rfl,rfl,hs⟩
section
variable {N:Nat} {B:List Bd}
def Lk(rs:List au)(ρ:Nat→Nat)(n:Nat):Prop:=∀i j a b,i<n→j<n→rs[i]?=some a→rs[j]?=some b→Dm a b→ρ i=ρ j
theorem CW(hB:uC B)(hN:(aL B).length≤N)(hN2:2000000004≤N)(hn:(aL B).length≤1000000000)(hl:B.length≤1000000000):∀(rest pre:List Bd) (u:List Int) (ρ:Nat→Nat),B=pre++rest→zR (aL B) u ρ→Lk (aL B) ρ (aL pre).length→
  ∃u' ρ',bI N (B.map toP) (aL B) (rest.map toP) pre.length u ((aL pre).length:Int) ((aL pre.dropLast).length:Int)=bQ N (aL B) 0 [] [] u'∧zR (aL B) u' ρ'∧Lk (aL B) ρ' (aL B).length
 |[],pre,u,ρ,hp,hI,hL=>by
  rw[List.append_nil] at hp
  subst hp
  exact⟨u,ρ,by rw[List.map_nil,bI.eq_1],hI,hL⟩
 | b ::rest,pre,u,ρ,hp,hI,hL=>by
  obtain⟨lo,hc⟩:=hB.can
  have hrs:aL B=aL pre++qi b++aL rest:=by rw[hp,pR,mO];simp
  have hlen:(aL B).length=(aL pre).length+b.2.2.length+(aL rest).length:=by rw[hrs,List.length_append,List.length_append,kV]
  have hbB:b∈B:=by rw[hp];simp
  have hpB:∀e∈pre,e∈B:=fun e he=>by rw[hp];exact List.mem_append_left _ he
  have hc':=hc
  rw[hp] at hc'
  obtain⟨c1,c2,c3⟩:=yQ hc'
  have hpl:pre.length≤1000000000:=by rw[hp] at hl;simp at hl;omega
  have step:∀u1 ρ1,zR (aL B) u1 ρ1→Lk (aL B) ρ1 ((aL pre).length+b.2.2.length)→∃u' ρ',fG ((aL pre).length:Int) (bI N (B.map toP) (aL B) (rest.map toP) (pre.length+1)) (toP b) u1=bQ N (aL B) 0 [] [] u'∧zR (aL B) u' ρ'∧Lk (aL B) ρ' (aL B).length:=by
   intro u1 ρ1 h1 h2
   have:=CW hB hN hN2 hn hl rest (pre++[b]) u1 ρ1 (by rw[hp];simp) h1 (by rw[pR,List.length_append,yL,kV];exact h2)
   unfold fG
   have e:Int.tdiv (((toP b).Xs.length:Nat):Int) 2=(b.2.2.length:Int):=by
    show Int.tdiv (((dP b.2.2).length:Nat):Int) 2=_
    rw[gu,Int.tdiv_eq_ediv_of_nonneg (by omega)];omega
   rw[e,tu (x:=(b.2.2.length:Int)) (by omega) (by omega),tu (by omega) (by omega)]
   have e2:((aL (pre++[b])).length:Int)=(aL pre).length+b.2.2.length:=by rw[pR,yL,List.length_append,kV];omega
   rw[e2,List.dropLast_concat,show(pre++[b]).length=pre.length+1 by simp] at this
   exact this
  have zZ:∀i a,(aL pre).length≤i→i<(aL pre).length+b.2.2.length→(aL B)[i]?=some a→(qi b)[i-(aL pre).length]?=some a:=fun i a h1 h2 h3=>by
   rw[hrs,NK h1 (by rw[kV];exact h2)] at h3;exact h3
  have inP:∀i a,i<(aL pre).length→(aL B)[i]?=some a→(aL pre)[i]?=some a:=fun i a h1 h2=>by
   rw[hrs,List.append_assoc,List.getElem?_append_left h1] at h2;exact h2
  have pB:=zw (hB.row b hbB)
  have hXB:∀i1 i2 a1 a2,(aL pre).length≤i1→i1<i2→i2<(aL pre).length+b.2.2.length→(aL B)[i1]?=some a1→(aL B)[i2]?=some a2→a1.X1<a2.X0:=fun i1 i2 a1 a2 h1 h2 h3 h4 h5=>by
   have k1:=zZ i1 a1 h1 (by omega) h4
   have k2:=zZ i2 a2 (by omega) h3 h5
   obtain⟨e1,e2⟩:=List.getElem?_eq_some_iff.1 k1
   obtain⟨e3,e4⟩:=List.getElem?_eq_some_iff.1 k2
   have:=(List.pairwise_iff_getElem.1 pB) _ _ e1 e3 (by omega)
   rw[e2,e4] at this;exact this
  have same:∀ρ':Nat→Nat,∀i j a c,(aL pre).length≤i→i<(aL pre).length+b.2.2.length→(aL pre).length≤j→j<(aL pre).length+b.2.2.length→(aL B)[i]?=some a→(aL B)[j]?=some c→Dm a c→ρ' i=ρ' j:=fun ρ' i j a c h1 h2 h3 h4 h5 h6 h7=>by
   rcases Nat.lt_trichotomy i j with hlt|rfl|hgt
   ·have:=hXB i j a c h1 hlt h4 h5 h6
    unfold Dm at h7;omega
   ·rfl
   ·have:=hXB j i c a h3 hgt h2 h6 h5
    unfold Dm at h7;omega
  have lk:∀ρ':Nat→Nat,(∀x y,ρ x=ρ y→ρ' x=ρ' y)→(∀i j a c,i<(aL pre).length→(aL pre).length≤j→j<(aL pre).length+b.2.2.length→(aL B)[i]?=some a→(aL B)[j]?=some c→Dm a c→ρ' i=ρ' j)→Lk (aL B) ρ' ((aL pre).length+b.2.2.length):=fun ρ' hr hx i j a c h1 h2 h3 h4 h5=>by
   by_cases hi:i<(aL pre).length
   ·by_cases hj:j<(aL pre).length
    ·exact hr _ _ (hL i j a c hi hj h3 h4 h5)
    ·exact hx i j a c hi (by omega) h2 h3 h4 h5
   ·by_cases hj:j<(aL pre).length
    ·exact(hx j i c a hj (by omega) h1 h4 h3 h5.symm).symm
    ·exact same ρ' i j a c (by omega) h1 (by omega) h2 h3 h4 h5
  have yB:∀j c,(aL pre).length≤j→j<(aL pre).length+b.2.2.length→(aL B)[j]?=some c→c.Y0=b.1∧c.Y1=b.2.1:=fun j c h1 h2 h3=>by
   have:=Bb (List.mem_of_getElem? (zZ j c h1 h2 h3))
   exact⟨this.1,this.2.1⟩
  rw[List.map_cons,bI.eq_2]
  rcases List.eq_nil_or_concat pre with rfl|⟨pre',d,hcn⟩
  ·rw[if_neg (by simp),ob,if_neg (by simp)]
   exact step u ρ hI (lk ρ (fun _ _ e=>e) fun i j a c h1=>by simp[aL] at h1)
  ·rw [List.concat_eq_append] at hcn
   have hpos:0<pre.length:=by rw[hcn];simp
   have hd:d∈pre:=by rw[hcn];simp
   have hget:(B.map toP)[pre.length-1]?=some (toP d):=by
    rw[hp,hcn]
    simp
   have hw:bJ ((pre.length:Int)-1)=((pre.length-1:Nat):Int):=by rw[tu (by omega) (by omega)];omega
   rw[if_pos (by simpa using hpos),hw,qw,hget,ob,ob]
   have hdl:pre.dropLast=pre':=by rw[hcn,List.dropLast_concat]
   have hrp:aL pre=aL pre'++qi d:=by rw[hcn,pR,yL]
   have hrpl:(aL pre).length=(aL pre').length+d.2.2.length:=by rw[hrp,List.length_append,kV]
   have hc2:=hc
   rw[hp,hcn,List.append_assoc] at hc2
   obtain⟨d1,d2,d3⟩:=yQ hc2
   have inD:∀i a,(aL pre').length≤i→i<(aL pre).length→(aL B)[i]?=some a→(qi d)[i-(aL pre').length]?=some a:=fun i a h1 h2 h3=>by
    have:=inP i a h2 h3
    rw[hrp,List.getElem?_append_right h1] at this
    exact this
   have yD:∀i a,(aL pre').length≤i→i<(aL pre).length→(aL B)[i]?=some a→a.Y0=d.1∧a.Y1=d.2.1:=fun i a h1 h2 h3=>by
    have:=Bb (List.mem_of_getElem? (inD i a h1 h2 h3))
    exact⟨this.1,this.2.1⟩
   have yO:∀i a,i<(aL pre').length→(aL B)[i]?=some a→a.Y1≤d.1:=fun i a h1 h2=>by
    have:=inP i a (by omega) h2
    rw[hrp,List.getElem?_append_left h1] at this
    obtain⟨e,he,s,hs,rfl⟩:=qp.1 (List.mem_of_getElem? this)
    exact d1 e he
   have hdb:d.2.1≤b.1:=c1 d hd
   by_cases hg:d.2.1=b.1
   ·rw[if_pos (by show((toP d).Y1==(toP b).Y0)=true;simp[toP,hg])]
    rw[hdl]
    have pD:=zw (hB.row d (hpB d hd))
    have hneR:=oU hB
    obtain⟨u1,ρ1,q1,q2,q3,q4⟩:=Lj (rs:=aL B) hN hn (below:=(aL pre').length) (fr:=(aL pre).length) (nb:=b.2.2.length) (kF:=bI N (B.map toP) (aL B) (rest.map toP) (pre.length+1)) (x:=toP b) (gu _) (by omega)
     (fun i1 i2 a1 a2 h1 h2 h3 h4 h5=>by
      have k1:=inD i1 a1 h1 (by omega) h4
      have k2:=inD i2 a2 (by omega) h3 h5
      obtain⟨e1,e2⟩:=List.getElem?_eq_some_iff.1 k1
      obtain⟨e3,e4⟩:=List.getElem?_eq_some_iff.1 k2
      have:=(List.pairwise_iff_getElem.1 pD) _ _ e1 e3 (by omega)
      rw[e2,e4] at this;exact this) hXB
     (fun i j a c h1 h2 h3 h4 h5 h6 h7 h8=>by
      have k1:=yD i a h1 h2 h5
      have k2:=yB j c h3 h4 h6
      have k3:=hneR a (List.mem_of_getElem? h5)
      have k4:=hneR c (List.mem_of_getElem? h6)
      unfold Dm;left;omega)
     N u ρ (aL pre').length (aL pre).length hI (Nat.le_refl _) (by omega) (Nat.le_refl _) (by omega) (by omega)
    obtain⟨u',ρ',r1,r2,r3⟩:=step u1 ρ1 q2 (lk ρ1 q3 fun i j a c h1 h2 h3 h4 h5 h6=>by
     by_cases hi:i<(aL pre').length
     ·have:=yO i a hi h4
      have:=yB j c h2 h3 h5
      have k3:=hneR a (List.mem_of_getElem? h4)
      unfold Dm at h6;omega
     ·have k1:=yD i a (by omega) h1 h4
      have k2:=yB j c h2 h3 h5
      refine q4 i j a c (by omega) h1 h2 h3 h4 h5 ?_ ?_<;>(unfold Dm at h6;omega))
    exact⟨u',ρ',by rw[q1];exact r1,r2,r3⟩
   ·rw[if_neg (by show ¬((toP d).Y1==(toP b).Y0)=true;simpa[toP] using hg)]
    refine step u ρ hI (lk ρ (fun _ _ e=>e) fun i j a c h1 h2 h3 h4 h5 h6=>?_)
    exfalso
    have k2:=yB j c h2 h3 h5
    by_cases hi:i<(aL pre').length
    ·have:=yO i a hi h4
     unfold Dm at h6;omega
    ·have k1:=yD i a (by omega) h1 h4
     unfold Dm at h6;omega
end
def gr(ρ:Nat→Nat):Nat→List au→Nat→List au
 |_,[],_=>[]
 |i,a::l,t=>if ρ i=t then a::gr ρ (i+1) l t else gr ρ (i+1) l t
theorem I7(ρ:Nat→Nat)(t:Nat)(a:au):∀(l:List au) (i:Nat),gr ρ i (l++[a]) t=gr ρ i l t++if ρ (i+l.length)=t then[a] else[]
 |[],i=>by
  show(if ρ i=t then[a] else[])=_
  simp[gr]
 |b::l,i=>by
  show(if ρ i=t then b::gr ρ (i+1) (l++[a]) t else gr ρ (i+1) (l++[a]) t)=(if ρ i=t then b::gr ρ (i+1) l t else gr ρ (i+1) l t)++_
  rw[I7 ρ t a l (i+1),show i+(b::l).length=i+1+l.length by simp;omega]
  split<;>simp
theorem vQ{ρ:Nat→Nat}{t:Nat}{a:au}:∀{l:List au} {i:Nat},a∈gr ρ i l t↔∃j,l[j]?=some a∧ρ (i+j)=t
 |[],i=>by simp[gr]
 | b ::l,i=>by
  have ih:=vQ (ρ:=ρ) (t:=t) (a:=a) (l:=l) (i:=i+1)
  unfold gr
  constructor
  ·intro h
   split at h
   ·rename_i e
    rcases List.mem_cons.1 h with rfl|h
    ·exact⟨0,rfl,e⟩
    ·obtain⟨j,h1,h2⟩:=ih.1 h
     exact⟨j+1,by simpa using h1,by rw[←h2];congr 1;omega⟩
   ·obtain⟨j,h1,h2⟩:=ih.1 h
    exact⟨j+1,by simpa using h1,by rw[←h2];congr 1;omega⟩
  ·rintro⟨j,h1,h2⟩
   cases j with
   |zero=>
    simp at h1
    subst h1
    rw[if_pos (by simpa using h2)];simp
   |succ j=>
    have:=ih.2 ⟨j,by simpa using h1,by rw[←h2];congr 1;omega⟩
    split
    ·exact List.mem_cons_of_mem _ this
    ·exact this
theorem vP(ρ:Nat→Nat)(t:Nat):∀(l:List au) (i:Nat),(gr ρ i l t).Sublist l
 |[],_=>.slnil
 |b::l,i=>by
  unfold gr
  split
  ·exact(vP ρ t l (i+1)).cons_cons b
  ·exact(vP ρ t l (i+1)).cons b
def rts(ρ:Nat→Nat)(n:Nat):List Nat:=(List.range n).filter fun i=>decide (ρ i=i)
theorem FJ(ρ:Nat→Nat)(n:Nat):rts ρ (n+1)=rts ρ n++if ρ n=n then[n] else[]:=by
 unfold rts
 rw[List.range_succ,List.filter_append]
 congr 1
 by_cases h:ρ n=n
 ·rw[if_pos h];simp[h]
 ·rw[if_neg h];simp[h]
theorem rC{ρ:Nat→Nat}{n t:Nat}:t∈rts ρ n↔t<n∧ρ t=t:=by unfold rts;simp
theorem FK(ρ:Nat→Nat)(n:Nat):(rts ρ n).Pairwise (· < ·):=List.Pairwise.filter _ List.pairwise_lt_range
structure Po (m:List (Int×Int)) (ks:List Nat):Prop where
 there:∀k t:Nat,ks[k]?=some t→wJ m (t:Int)=some (k:Int)
 none:∀t:Nat,t∉ks→wJ m (t:Int)=none
theorem Cv(m:List (Int×Int))(k v k':Int):wJ (Bq m k v) k'=if k'=k then some v else wJ m k':=by
 induction m with
 |nil=>
  unfold Bq wJ
  by_cases h:k'=k
  ·rw[if_pos h,if_pos h.symm]
  ·rw[if_neg h,if_neg (fun e=>h e.symm)];rfl
 | cons p m ih=>
  unfold Bq
  by_cases h:p.1=k
  ·rw[if_pos h]
   unfold wJ
   by_cases h':k'=k
   ·rw[if_pos h',if_pos h'.symm]
   ·rw[if_neg h',if_neg (fun e=>h' e.symm),if_neg (by rw[h];exact fun e=>h' e.symm)]
  ·rw[if_neg h]
   unfold wJ
   rw[ih]
   by_cases h':p.1=k'
   ·rw[if_pos h',if_pos h',if_neg (by rw[←h'];exact h)]
   ·rw[if_neg h',if_neg h']
theorem zF{k:Nat}(h:k≤1000000000):Nj (k:Int)=true:=by
 unfold Nj;simp;omega
section
variable {N:Nat} {rs:List au}
theorem Cm(hN:10000000000≤N)(hn:rs.length≤100000000)(h9:∀r∈rs,R9 r)(ρ:Nat→Nat):∀(rest pre:List au) (u:List Int) (m:List (Int×Int)),rs=pre++rest→yI u ρ→u.length=rs.length→Po m (rts ρ pre.length)→
  bQ N rest pre.length m ((rts ρ pre.length).map (gr ρ 0 pre)) u=dN N ((rts ρ rs.length).map (gr ρ 0 rs)) 0 []
 |[],pre,u,m,hp,hr,hu,hm=>by
  rw[List.append_nil] at hp
  subst hp
  rw[bQ.eq_1]
 | a ::rest,pre,u,m,hp,hr,hu,hm=>by
  have hlt:pre.length<rs.length:=by rw[hp];simp
  have hrl:(rts ρ pre.length).length≤pre.length:=by
   unfold rts
   exact Nat.le_trans (List.length_filter_le _ _) (by simp)
  obtain⟨u',q1,q2,q3⟩:=Ex (N:=N) (by omega) hr (i:=pre.length) (by omega)
  have ht:ρ pre.length≤pre.length:=hr.le (by omega)
  have hid:ρ (ρ pre.length)=ρ pre.length:=hr.H6 (by omega)
  rw[bQ.eq_2,q1,ob]
  have hgl:∀t,(gr ρ 0 pre t).length≤pre.length:=fun t=>(vP ρ t pre 0).length_le
  have next:∀m',Po m' (rts ρ (pre.length+1))→bQ N rest (pre.length+1) m' ((rts ρ (pre.length+1)).map (gr ρ 0 (pre++[a]))) u'=dN N ((rts ρ rs.length).map (gr ρ 0 rs)) 0 []:=fun m' hm'=>by
   have:=Cm hN hn h9 ρ rest (pre++[a]) u' m' (by rw[hp];simp) q2 (by omega) (by simpa using hm')
   simpa using this
  have hself:∀t,gr ρ 0 (pre++[a]) t=gr ρ 0 pre t++if ρ pre.length=t then[a] else[]:=fun t=>by
   rw[I7,Nat.zero_add]
  by_cases hnew:ρ pre.length=pre.length
  · -- a root
   have hno:pre.length∉rts ρ pre.length:=fun h=>by have:=(rC.1 h).1;omega
   have hg:=hm.none pre.length hno
   have hgo:Cw m (ρ pre.length:Int)=some (0,false):=by
    unfold Cw
    rw[hnew,if_pos (zF (by omega)),hg];rfl
   simp only
   rw[hgo,ob,if_pos (show(!((0:Int),false).2)=true from rfl)]
   have hpo:Cu m (ρ pre.length:Int) ((((rts ρ pre.length).map (gr ρ 0 pre)).length:Nat):Int)=some (Bq m (ρ pre.length:Int) ((((rts ρ pre.length).map (gr ρ 0 pre)).length:Nat):Int)):=by
    unfold Cu
    rw[hnew,if_pos (zF (by omega))]
   rw[hpo,ob,kP (by simp;omega),ob]
   unfold iJ
   have hk:((rts ρ pre.length).map (gr ρ 0 pre)).length=(rts ρ pre.length).length:=by simp
   rw[hk,qw,List.getElem?_append_right (by rw[hk];exact Nat.le_refl _),hk,Nat.sub_self]
   rw[show([[]]:List (List au))[0]?=some [] from rfl,ob,kP (by simp),ob,List.nil_append,xc _ (by simp),ob]
   have hrs:rts ρ (pre.length+1)=rts ρ pre.length++[pre.length]:=by rw[FJ,if_pos hnew]
   have hset:((rts ρ pre.length).map (gr ρ 0 pre)++[[]]).set (rts ρ pre.length).length [a]=(rts ρ (pre.length+1)).map (gr ρ 0 (pre++[a])):=by
    rw[List.set_append_right _ _ (by rw[hk];exact Nat.le_refl _),hk,Nat.sub_self,hrs,List.map_append]
    congr 1
    ·refine List.map_congr_left fun t htm=>?_
     rw[hself,if_neg (by rw[hnew];intro e;rw[←e] at htm;exact hno htm),List.append_nil]
    ·show[[a]]=[gr ρ 0 (pre++[a]) pre.length]
     rw[hself,if_pos hnew]
     have:gr ρ 0 pre pre.length=[]:=by
      refine List.eq_nil_iff_forall_not_mem.2 fun x hx=>?_
      obtain⟨j,h1,h2⟩:=vQ.1 hx
      have hj:=(List.getElem?_eq_some_iff.1 h1).1
      rw[Nat.zero_add] at h2
      have:=hr.le (i:=j) (by omega)
      omega
     rw[this];rfl
   rw[hset]
   refine next _ ⟨fun k t hkt=>?_,fun t hnt=>?_⟩
   ·rw[Cv,hnew]
    rw[hrs] at hkt
    by_cases hk':k<(rts ρ pre.length).length
    ·rw[List.getElem?_append_left hk'] at hkt
     have htm:=List.mem_of_getElem? hkt
     rw[if_neg (by have:=(rC.1 htm).1;omega)]
     exact hm.there k t hkt
    ·rw[List.getElem?_append_right (by omega)] at hkt
     have hk0:k-(rts ρ pre.length).length=0:=by
      have:=(List.getElem?_eq_some_iff.1 hkt).1
      simp at this;omega
     rw[hk0] at hkt
     simp at hkt
     subst hkt
     rw[if_pos rfl]
     congr 1
     omega
   ·rw[Cv,hnew]
    rw[hrs] at hnt
    rw[if_neg (by intro e;apply hnt;rw[show t=pre.length by omega];simp)]
    exact hm.none t fun h=>hnt (List.mem_append_left _ h)
  · -- a root that is known
   have hin:ρ pre.length∈rts ρ pre.length:=rC.2 ⟨by omega,hid⟩
   obtain⟨k,hk⟩:=List.getElem?_of_mem hin
   have hkl:=(List.getElem?_eq_some_iff.1 hk).1
   have hgo:Cw m (ρ pre.length:Int)=some ((k:Int),true):=by
    unfold Cw
    rw[if_pos (zF (by omega)),hm.there k _ hk];rfl
   simp only
   rw[hgo,ob,if_neg (by simp)]
   unfold iJ
   have hget:((rts ρ pre.length).map (gr ρ 0 pre))[k]?=some (gr ρ 0 pre (ρ pre.length)):=by rw[List.getElem?_map,hk];rfl
   rw[qw,hget,ob,kP (by have:=hgl (ρ pre.length);simp;omega),ob,xc _ (by simpa using hkl),ob]
   have hrs:rts ρ (pre.length+1)=rts ρ pre.length:=by rw[FJ,if_neg hnew,List.append_nil]
   have hset:((rts ρ pre.length).map (gr ρ 0 pre)).set k (gr ρ 0 pre (ρ pre.length)++[a])=(rts ρ (pre.length+1)).map (gr ρ 0 (pre++[a])):=by
    rw[hrs]
    apply List.ext_getElem?
    intro j
    by_cases hj:k=j
    ·subst hj
     rw[List.getElem?_set_self (by simpa using hkl),List.getElem?_map,hk,Option.map_some,hself,if_pos rfl]
    ·rw[List.getElem?_set_ne hj,List.getElem?_map,List.getElem?_map]
     cases hjt:(rts ρ pre.length)[j]? with
     |none=>rfl
     |some t=>
      rw[Option.map_some,Option.map_some,hself,if_neg,List.append_nil]
      intro e
      subst e
      have hnd:(rts ρ pre.length).Nodup:=(FK ρ _).imp fun h=>by omega
      exact hj ((List.getElem?_inj hkl hnd).1 (by rw[hk,hjt]))
   rw[hset]
   exact next m (by rw[hrs];exact hm)
theorem DL(hN:10000000000≤N):∀(L:List (List au)) (i:Nat) (out:List (List aQ)),(∀l∈L,l.length≤100000000∧∀r∈l,R9 r)→out.length+L.length≤4294967296→dN N L i out=some (out++L.map fun l=>(lw l).map toP)
 |[],i,out,_,_=>by rw[dN.eq_1];simp
 |l::L,i,out,h,ho=>by
  simp only[List.length_cons] at ho
  rw[dN.eq_2,qL hN (h l (by simp)).1 (h l (by simp)).2,ob,kP (by simp;omega),ob,DL hN L (i+1) _ (fun m hm=>h m (by simp[hm])) (by simp;omega)]
  simp
theorem QV{B:List Bd}(hB:uC B){u:List Int}{ρ:Nat→Nat}(hI:zR (aL B) u ρ)(hL:Lk (aL B) ρ (aL B).length):RS (aL B) ((rts ρ (aL B).length).map (gr ρ 0 (aL B))):=by
 obtain⟨lo,hc⟩:=hB.can
 have hord:=Ak (ul hc hB.row)
 have hne:=oU hB
 have hle:∀i,i<(aL B).length→ρ i≤i:=fun i hi=>hI.Nh.le (by rw[hI.len];exact hi)
 have hidx:∀(i j:Nat) (a b:au),(aL B)[i]?=some a→(aL B)[j]?=some b→Bc (a.X0,a.Y0) (b.X0,b.Y0)→i<j:=fun i j a b h1 h2 h3=>by
  obtain⟨e1,e2⟩:=List.getElem?_eq_some_iff.1 h1
  obtain⟨e3,e4⟩:=List.getElem?_eq_some_iff.1 h2
  rcases Nat.lt_trichotomy i j with h|h|h
  ·exact h
  ·subst h
   rw[e2] at e4
   subst e4
   exact absurd h3 Bc.irrefl
  ·have:=(List.pairwise_iff_getElem.1 hord) j i e3 e1 h
   rw[e2,e4] at this
   exact absurd (this.trans h3) Bc.irrefl
 have hhead:∀t,t<(aL B).length→ρ t=t→∃a l,gr ρ 0 (aL B) t=a::l∧(aL B)[t]?=some a∧∀b∈l,Bc (a.X0,a.Y0) (b.X0,b.Y0):=fun t ht hr=>by
  have hp:=hord.sublist (vP ρ t (aL B) 0)
  have htm:(aL B)[t]∈gr ρ 0 (aL B) t:=vQ.2 ⟨t,List.getElem?_eq_getElem ht,by rw[Nat.zero_add];exact hr⟩
  match hgr:gr ρ 0 (aL B) t with
  |[]=>rw[hgr] at htm;simp at htm
  | a::l=>
   rw[hgr] at hp htm
   obtain⟨p1,_⟩:=List.pairwise_cons.1 hp
   refine⟨a,l,rfl,?_,p1⟩
   have ham:a∈gr ρ 0 (aL B) t:=by rw[hgr];simp
   obtain⟨i,h1,h2⟩:=vQ.1 ham
   rw[Nat.zero_add] at h2
   have hi:=(List.getElem?_eq_some_iff.1 h1).1
   have:=hle i hi
   rcases List.mem_cons.1 htm with e|hm
   ·rw[←e];exact List.getElem?_eq_getElem ht
   ·have:=hidx i t a _ h1 (List.getElem?_eq_getElem ht) (p1 _ hm)
    omega
 refine⟨fun l hl=>?_,fun a=>?_,fun l hl a ha b hb=>?_,fun l hl a ha b hb htc=>?_,?_⟩
 ·obtain⟨t,ht,rfl⟩:=List.mem_map.1 hl
  obtain⟨a,l,h1,_⟩:=hhead t (rC.1 ht).1 (rC.1 ht).2
  rw[h1];simp
 ·constructor
  ·intro ha
   obtain⟨i,hi⟩:=List.getElem?_of_mem ha
   have hil:=(List.getElem?_eq_some_iff.1 hi).1
   refine⟨gr ρ 0 (aL B) (ρ i),List.mem_map.2 ⟨ρ i,rC.2 ⟨?_,hI.Nh.H6 (by rw[hI.len];exact hil)⟩,rfl⟩,vQ.2 ⟨i,hi,by rw[Nat.zero_add]⟩⟩
   have:=hle i hil;omega
  ·rintro⟨l,hl,ha⟩
   obtain⟨t,ht,rfl⟩:=List.mem_map.1 hl
   exact(vP ρ t (aL B) 0).subset ha
 ·obtain⟨t,ht,rfl⟩:=List.mem_map.1 hl
  obtain⟨i,h1,h2⟩:=vQ.1 ha
  obtain⟨j,h3,h4⟩:=vQ.1 hb
  rw[Nat.zero_add] at h2 h4
  rcases hI.snd i j (h2.trans h4.symm) with rfl|⟨a',b',k1,k2,k3⟩
  ·rw[h1] at h3
   cases h3
   exact .refl (List.mem_of_getElem? h1)
  ·rw[h1] at k1
   rw[h3] at k2
   cases k1;cases k2
   exact k3
 ·obtain⟨t,ht,rfl⟩:=List.mem_map.1 hl
  obtain⟨i,h1,h2⟩:=vQ.1 ha
  obtain⟨j,h3⟩:=List.getElem?_of_mem hb
  rw[Nat.zero_add] at h2
  refine vQ.2 ⟨j,h3,?_⟩
  rw[Nat.zero_add,←h2]
  exact(hL i j a b (List.getElem?_eq_some_iff.1 h1).1 (List.getElem?_eq_some_iff.1 h3).1 h1 h3 htc).symm
 ·refine List.pairwise_map.2 ((FK ρ _).imp_of_mem ?_)
  intro s t hs ht hst
  obtain⟨a,l,h1,h2,h3⟩:=hhead s (rC.1 hs).1 (rC.1 hs).2
  obtain⟨b,l',k1,k2,k3⟩:=hhead t (rC.1 ht).1 (rC.1 ht).2
  have ha:∀c∈gr ρ 0 (aL B) s,c.X0<c.X1∧c.Y0<c.Y1:=fun c hc=>hne c ((vP ρ s (aL B) 0).subset hc)
  have hb:∀c∈gr ρ 0 (aL B) t,c.X0<c.X1∧c.Y0<c.Y1:=fun c hc=>hne c ((vP ρ t (aL B) 0).subset hc)
  rw[h1] at ha ⊢
  rw[k1] at hb ⊢
  rw[F8 ha h3,F8 hb k3]
  obtain⟨e1,e2⟩:=List.getElem?_eq_some_iff.1 h2
  obtain⟨e3,e4⟩:=List.getElem?_eq_some_iff.1 k2
  have:=(List.pairwise_iff_getElem.1 hord) s t e1 e3 hst
  rw[e2,e4] at this;exact this
theorem J3(p0:List aQ)(y:List au)(l0:List Int)(hl:l0.length≤1000000000):∀(m:Nat) (l:List Int) (k:Nat),l.length=l0.length→k≤l0.length→(∀i,i<k→l[i]?=some (i:Int))→l0.length-k<m→
  gX N p0 y l0 m l (k:Int)=bI N p0 y p0 0 ((List.range l0.length).map fun i:Nat=>(i:Int)) 0 0:=by
 intro m
 induction m with
 |zero=>intro l k _ _ _ h;omega
 | succ m ih=>
  intro l k h1 h2 h3 h4
  unfold gX
  by_cases hk:k<l0.length
  ·rw[if_pos (by simpa using hk),qw,List.getElem?_eq_getElem (by omega),ob,xc _ (by omega),ob,tu (by omega) (by omega)]
   refine ih _ (k+1) (by rw[List.length_set];exact h1) (by omega) (fun i hi=>?_) (by omega)
   by_cases e:k=i
   ·subst e;rw[List.getElem?_set_self (by omega)]
   ·rw[List.getElem?_set_ne e];exact h3 i (by omega)
  ·rw[if_neg (by simpa using hk)]
   have e:k=l0.length:=by omega
   have:l=(List.range l0.length).map (fun i:Nat=>(i:Int)):=by
    apply List.ext_getElem?
    intro i
    by_cases hi:i<l0.length
    ·rw[h3 i (by omega)];simp[hi]
    ·rw[List.getElem?_eq_none (by omega),List.getElem?_eq_none (by simp;omega)]
   rw[this]
theorem M4(hN:10000000000≤N){B:List Bd}(hB:uC B)(hs:Small B)(hn:(aL B).length≤100000000)(hl:B.length≤1000000000)(h9:∀r∈aL B,R9 r):
  ∃L,kQ N (B.map toP)=some (L.map fun l=>(lw l).map toP)∧RS (aL B) L∧L.length≤(aL B).length∧∀l∈L,l.length≤(aL B).length:=by
 have hI0:zR (aL B) ((List.range (aL B).length).map fun i:Nat=>(i:Int)) id:=⟨PU _,by simp,fun i j h=>.inl h⟩
 obtain⟨u,ρ,h1,h2,h3⟩:=CW (N:=N) hB (by omega) (by omega) (by omega) hl B [] _ id rfl hI0 (fun i j a b h=>by simp[aL] at h)
 have hrl:(rts ρ (aL B).length).length≤(aL B).length:=by
  unfold rts
  exact Nat.le_trans (List.length_filter_le _ _) (by simp)
 refine⟨(rts ρ (aL B).length).map (gr ρ 0 (aL B)),?_,QV hB h2 h3,by simpa using hrl,fun l hl=>?_⟩
 rotate_left
 ·obtain⟨t,_,rfl⟩:=List.mem_map.1 hl
  exact(vP ρ t (aL B) 0).length_le
 unfold kQ
 have hmk:I1 (0:Int) ((aL B).length:Int)=some (List.replicate (aL B).length 0):=by
  unfold I1
  rw[if_pos (by omega),Int.toNat_natCast]
 rw[vo hN hs,ob,hmk,ob]
 have hf:=J3 (N:=N) (B.map toP) (aL B) (List.replicate (aL B).length 0) (by simp;omega) N (List.replicate (aL B).length 0) 0 rfl (by omega) (fun i h=>by omega) (by simp;omega)
 rw[List.length_replicate] at hf
 have hf':gX N (B.map toP) (aL B) (List.replicate (aL B).length 0) N (List.replicate (aL B).length 0) 0=_:=hf
 rw[hf']
 have h1':bI N (B.map toP) (aL B) (B.map toP) 0 ((List.range (aL B).length).map fun i:Nat=>(i:Int)) 0 0=bQ N (aL B) 0 [] [] u:=h1
 rw[h1']
 have h4:=Cm (N:=N) hN hn h9 ρ (aL B) [] u [] rfl h2.Nh h2.len ⟨fun k t h=>by simp[rts] at h,fun _ _=>rfl⟩
 have h4':bQ N (aL B) 0 [] [] u=dN N ((rts ρ (aL B).length).map (gr ρ 0 (aL B))) 0 []:=h4
 rw[h4',DL hN _ 0 [] (fun l hl=>?_) (by simp;omega)]
 ·simp
 ·obtain⟨t,_,rfl⟩:=List.mem_map.1 hl
  have hsub:=vP ρ t (aL B) 0
  exact⟨by have:=hsub.length_le;omega,fun r hr=>h9 r (hsub.subset hr)⟩
end
def bt(a0 a1 b0 b1:Int):Int:=max (max 0 (b0-a1+1)) (a0-b1+1)
def far(r q:au):Int:=max (bt r.X0 r.X1 q.X0 q.X1) (bt r.Y0 r.Y1 q.Y0 q.Y1)
structure R2 (r:au):Prop where
 x0: -3000000≤r.X0∧r.X0≤3000000
 y0: -3000000≤r.Y0∧r.Y0≤3000000
 x1: -3000000≤r.X1∧r.X1≤3000000
 y1: -3000000≤r.Y1∧r.Y1≤3000000
 x:r.X0<r.X1
 y:r.Y0<r.Y1
theorem vW.r2{r:au}(h:vW r):R2 r:=by
 have:=h.x0;have:=h.x1;have:=h.y0;have:=h.y1
 exact⟨by omega,by omega,by omega,by omega,h.x,h.y⟩
theorem EQ{r q:au}(h:R2 r)(k:R2 q):0≤far r q∧far r q≤6000001:=by
 have:=h.x0;have:=h.x1;have:=h.y0;have:=h.y1;have:=k.x0;have:=k.x1;have:=k.y0;have:=k.y1
 unfold far bt
 omega
theorem Nc{r q:au}(h:R2 r)(k:R2 q):lN r q=some (far r q):=by
 have:=h.x0;have:=h.x1;have:=h.y0;have:=h.y1;have:=k.x0;have:=k.x1;have:=k.y0;have:=k.y1
 unfold lN mF far bt
 simp only[ob]
 rw[eG (x:=q.X0-r.X1) (by omega) (by omega),eG (x:=q.X0-r.X1+1) (by omega) (by omega),eG (x:=r.X0-q.X1) (by omega) (by omega),eG (x:=r.X0-q.X1+1) (by omega) (by omega),
  eG (x:=q.Y0-r.Y1) (by omega) (by omega),eG (x:=q.Y0-r.Y1+1) (by omega) (by omega),eG (x:=r.Y0-q.Y1) (by omega) (by omega),eG (x:=r.Y0-q.Y1+1) (by omega) (by omega)]
def EH(a b:List au):List (au×au):=a.flatMap fun x=>b.map fun y=>(x,y)
theorem Ch(x:au)(a b:List au):EH (x::a) b=(b.map fun y=>(x,y))++EH a b:=rfl
theorem xS{a b:List au}{p:au×au}:p∈EH a b↔p.1∈a∧p.2∈b:=by
 unfold EH
 simp only[List.mem_flatMap,List.mem_map]
 constructor
 ·rintro⟨x,hx,y,hy,rfl⟩;exact⟨hx,hy⟩
 ·rintro⟨h1,h2⟩;exact⟨p.1,h1,p.2,h2,rfl⟩
def mn(m:Int)(p:au×au):Int:=min m (far p.1 p.2)
def pg(m:Int)(p:au×au):Int:=if m<0∨far p.1 p.2<m then far p.1 p.2 else m
def least(a b:List au):Int:=match a,b with
 |x::a,y::b=>(EH (x::a) (y::b)).foldl mn (far x y)
 |_,_=>0
theorem O4:∀(l:List (au×au)) (m:Int),l.foldl mn m≤m∧(∀p∈l,l.foldl mn m≤far p.1 p.2)∧(l.foldl mn m=m∨∃p∈l,l.foldl mn m=far p.1 p.2)
 |[],m=>⟨Int.le_refl _,by simp,.inl rfl⟩
 | p::l,m=>by
  obtain⟨h1,h2,h3⟩:=O4 l (mn m p)
  rw[List.foldl_cons]
  have e1:mn m p≤m:=Int.min_le_left _ _
  have e2:mn m p≤far p.1 p.2:=Int.min_le_right _ _
  refine⟨by omega,fun q hq=>?_,?_⟩
  ·rcases List.mem_cons.1 hq with rfl|hq
   ·omega
   ·exact h2 q hq
  ·rcases h3 with h3|⟨q,hq,h3⟩
   ·rcases Int.le_total m (far p.1 p.2) with k|k
    ·exact .inl (h3.trans (Int.min_eq_left k))
    ·exact .inr ⟨p,by simp,h3.trans (Int.min_eq_right k)⟩
   ·exact .inr ⟨q,by simp[hq],h3⟩
theorem O1:∀(l:List (au×au)) (m:Int),0≤m→(∀p∈l,0≤far p.1 p.2)→l.foldl pg m=l.foldl mn m
 |[],_,_,_=>rfl
 | p::l,m,h,hp=>by
  have h1:=hp p (by simp)
  have e:pg m p=mn m p:=by
   unfold pg mn
   split<;>omega
  rw[List.foldl_cons,List.foldl_cons,e]
  exact O1 l _ (by unfold mn;omega) fun q hq=>hp q (by simp[hq])
theorem LW{a b:List au}(ha:a≠[])(hb:b≠[])(h:∀p∈EH a b,0≤far p.1 p.2):(EH a b).foldl pg (-1)=least a b:=by
 cases a with
 |nil=>exact absurd rfl ha
 | cons x a=>
  cases b with
  |nil=>exact absurd rfl hb
  |cons y b=>
   have h0:=h (x,y) (xS.2 ⟨by simp,by simp⟩)
   have hl:least (x::a) (y::b)=(EH (x::a) (y::b)).foldl mn (far x y):=rfl
   rw[hl]
   rw[Ch] at h ⊢
   rw[List.map_cons,List.cons_append,List.foldl_cons,List.foldl_cons]
   have e1:pg (-1) (x,y)=far x y:=by unfold pg;rw[if_pos (.inl (by omega))]
   have e2:mn (far x y) (x,y)=far x y:=by unfold mn;exact Int.min_self _
   rw[e1,e2]
   exact O1 _ _ h0 fun p hp=>h p (by rw[List.map_cons,List.cons_append];exact List.mem_cons_of_mem _ hp)
theorem Cn{a b:List au}(ha:a≠[])(hb:b≠[]):(∀p∈EH a b,least a b≤far p.1 p.2)∧∃p∈EH a b,least a b=far p.1 p.2:=by
 cases a with
 |nil=>exact absurd rfl ha
 | cons x a=>
  cases b with
  |nil=>exact absurd rfl hb
  |cons y b=>
   obtain⟨h1,h2,h3⟩:=O4 (EH (x::a) (y::b)) (far x y)
   refine⟨h2,?_⟩
   rcases h3 with h3|h3
   ·exact⟨(x,y),xS.2 ⟨by simp,by simp⟩,h3⟩
   ·exact h3
def wE(p:au×au)(n:Int):fC:=⟨max p.1.X0 (p.2.X0-n),max p.1.Y0 (p.2.Y0-n)⟩
def LV(p q:fC):Bool:=decide (p.Y<q.Y)||((p.Y==q.Y)&&decide (p.X<q.X))
def upd(n:Int)(s:Int×Int×Bool)(p:au×au):Int×Int×Bool:=
 if((far p.1 p.2==n)&&(!s.2.2||LV (wE p n) ⟨s.1,s.2.1⟩))=true then((wE p n).X,(wE p n).Y,true) else s
theorem NJ{r q:au}{n:Int}(k:R2 q)(hn:0≤n∧n≤6000001):nP r q n=some (wE (r,q) n):=by
 have:=k.x0;have:=k.y0
 unfold nP wE
 rw[eG (by omega) (by omega),eG (by omega) (by omega)]
theorem DX{n:Int}{r q:au}(h:R2 r)(k:R2 q)(hn:0≤n∧n≤6000001){u v:Int}{ok:Bool}{R:Type}{K:Int→Int→Bool→Option R}:
  ((nP r q n).bind fun PG=>(lN r q).bind fun RZ=>(if(RZ==n) then(if(!ok) then some true else(pq PG (fC.mk u v)).bind fun RY=>some RY).bind fun Sr=>some Sr else some false).bind fun Su=>if Su then K PG.X PG.Y true else K u v ok)=K (upd n (u,v,ok) (r,q)).1 (upd n (u,v,ok) (r,q)).2.1 (upd n (u,v,ok) (r,q)).2.2:=by
 rw[NJ k hn,Nc h k]
 simp only[ob]
 have hl:pq (wE (r,q) n) ⟨u,v⟩=some (LV (wE (r,q) n) ⟨u,v⟩):=rfl
 rw[hl]
 unfold upd
 cases(far r q==n)<;>cases ok<;>cases LV (wE (r,q) n) ⟨u,v⟩<;>rfl
theorem Pq{n x y:Int}(hn:0≤n∧n≤6000001)(hxy:(-3000000≤x∧x≤2000000)∧(-3000000≤y∧y≤2000000)):∀(l:List au) (i:Nat) (u v:Int) (ok:Bool),(∀r∈l,R2 r)→
  gD n x y l i u v ok=some ⟨0,0,n-1,⟨x,y⟩,⟨((EH l [⟨x,y,x+1,y+1⟩]).foldl (upd n) (u,v,ok)).1,((EH l [⟨x,y,x+1,y+1⟩]).foldl (upd n) (u,v,ok)).2.1⟩⟩
 |[],i,u,v,ok,_=>by rw[gD.eq_1,eG (by omega) (by omega)];rfl
 |r::l,i,u,v,ok,h=>by
  have hu:R2 ⟨x,y,x+1,y+1⟩:=⟨⟨by show -3000000≤x;omega,by show x≤3000000;omega⟩,⟨by show -3000000≤y;omega,by show y≤3000000;omega⟩,⟨by show _≤x+1;omega,by show x+1≤_;omega⟩,⟨by show _≤y+1;omega,by show y+1≤_;omega⟩,by show x<x+1;omega,by show y<y+1;omega⟩
  rw[gD.eq_2,eG (x:=x+1) (by omega) (by omega),eG (x:=y+1) (by omega) (by omega),DX (K:=fun a b c=>gD n x y l (i+1) a b c) (h r (by simp)) hu hn,Pq hn hxy l (i+1) _ _ _ fun q hq=>h q (by simp[hq])]
  rfl
theorem Pp{n:Int}(hn:0≤n∧n≤6000001){r:au}(hr:R2 r){K:Int→Int→Bool→Option AB}:∀(l:List au) (i:Nat) (u v:Int) (ok:Bool),(∀q∈l,R2 q)→
  iR n K r l i u v ok=K ((l.map fun q=>(r,q)).foldl (upd n) (u,v,ok)).1 ((l.map fun q=>(r,q)).foldl (upd n) (u,v,ok)).2.1 ((l.map fun q=>(r,q)).foldl (upd n) (u,v,ok)).2.2
 |[],i,u,v,ok,_=>rfl
 |q::l,i,u,v,ok,h=>by
  rw[iR.eq_2,DX (K:=fun a b c=>iR n K r l (i+1) a b c) hr (h q (by simp)) hn,Pp hn hr l (i+1) _ _ _ fun q hq=>h q (by simp[hq])]
  rfl
theorem Ps{n:Int}(hn:0≤n∧n≤6000001){b:List au}(hb:∀q∈b,R2 q):∀(l:List au) (i:Nat) (u v:Int) (ok:Bool),(∀q∈l,R2 q)→
  iq b n l i u v ok=gD n ((EH l b).foldl (upd n) (u,v,ok)).1 ((EH l b).foldl (upd n) (u,v,ok)).2.1 b 0 0 0 false
 |[],i,u,v,ok,_=>rfl
 |r::l,i,u,v,ok,h=>by
  rw[iq.eq_2,Pp hn (h r (by simp)) b 0 _ _ _ hb,Ps hn hb l (i+1) _ _ _ fun q hq=>h q (by simp[hq]),Ch,List.foldl_append]
theorem M6{r:au}(hr:R2 r){K:Int→Option AB}:∀(l:List au) (i:Nat) (m:Int),(∀q∈l,R2 q)→jr K r l i m=K ((l.map fun q=>(r,q)).foldl pg m)
 |[],i,m,_=>rfl
 |q::l,i,m,h=>by
  rw[jr.eq_2,Nc hr (h q (by simp)),ob,M6 hr l _ _ fun q hq=>h q (by simp[hq]),M6 hr l _ _ fun q hq=>h q (by simp[hq]),List.map_cons,List.foldl_cons]
  unfold pg
  by_cases hc:m<0∨far r q<m
  ·rw[if_pos (by simpa using hc),if_pos hc]
  ·rw[if_neg (by simpa using hc),if_neg hc]
theorem Pt{a b:List au}(hb:∀q∈b,R2 q):∀(l:List au) (i:Nat) (m:Int),(∀q∈l,R2 q)→iT a b l i m=iq b ((EH l b).foldl pg m) a 0 0 0 false
 |[],i,m,_=>rfl
 |r::l,i,m,h=>by
  rw[iT.eq_2,M6 (h r (by simp)) b 0 _ hb,Pt hb l (i+1) _ fun q hq=>h q (by simp[hq]),Ch,List.foldl_append]
def fromV(a b:List au):Int×Int×Bool:=(EH a b).foldl (upd (least a b)) (0,0,false)
def SE(a b:List au):Int×Int×Bool:=(EH b [⟨(fromV a b).1,(fromV a b).2.1,(fromV a b).1+1,(fromV a b).2.1+1⟩]).foldl (upd (least a b)) (0,0,false)
def Mg(a b:List au):AB:=⟨0,0,least a b-1,⟨(fromV a b).1,(fromV a b).2.1⟩,⟨(SE a b).1,(SE a b).2.1⟩⟩
theorem Fb(n:Int):∀(l:List (au×au)) (s:Int×Int×Bool),(l.foldl (upd n) s=s∨∃p∈l,far p.1 p.2=n∧l.foldl (upd n) s=((wE p n).X,(wE p n).Y,true))∧((∃p∈l,far p.1 p.2=n)→(l.foldl (upd n) s).2.2=true)
 |[],s=>⟨.inl rfl,by simp⟩
 | p ::l,s=>by
  obtain⟨h1,h2⟩:=Fb n l (upd n s p)
  have hu:upd n s p=s∨(far p.1 p.2=n∧upd n s p=((wE p n).X,(wE p n).Y,true)):=by
   unfold upd
   split
   ·rename_i h
    rw[Bool.and_eq_true] at h
    exact .inr ⟨by simpa using h.1,rfl⟩
   ·exact .inl rfl
  have hok:s.2.2=true→(upd n s p).2.2=true:=fun h=>by
   rcases hu with e|⟨_,e⟩
   ·rw[e];exact h
   ·rw[e]
  have hkeep:∀(l:List (au×au)) (s:Int×Int×Bool),s.2.2=true→(l.foldl (upd n) s).2.2=true:=by
   intro l
   induction l with
   |nil=>intro s h;exact h
   |cons q l ih=>
    intro s h
    refine ih _ ?_
    unfold upd
    split
    ·rfl
    ·exact h
  rw[List.foldl_cons]
  refine⟨?_,?_⟩
  ·rcases h1 with h1|⟨q,hq,h3,h4⟩
   ·rcases hu with e|⟨e1,e2⟩
    ·exact .inl (h1.trans e)
    ·exact .inr ⟨p,by simp,e1,h1.trans e2⟩
   ·exact .inr ⟨q,by simp[hq],h3,h4⟩
  ·rintro⟨q,hq,h3⟩
   rcases List.mem_cons.1 hq with rfl|hq
   ·refine hkeep l _ ?_
    unfold upd
    cases hs:s.2.2
    ·rw[if_pos (by simp[h3])]
    ·split
     ·rfl
     ·exact hs
   ·exact h2 ⟨q,hq,h3⟩
theorem Lt{r q:au}(h:R2 r)(k:R2 q){n:Int}(hn:0≤n):far r q≤n↔(max r.X0 (q.X0-n)≤min r.X1 (q.X1+n)-1∧max r.Y0 (q.Y0-n)≤min r.Y1 (q.Y1+n)-1):=by
 have:=h.x;have:=h.y;have:=k.x;have:=k.y
 unfold far bt
 omega
theorem NZ{a b:List au}(ha:a≠[])(hb:b≠[])(h1:∀r∈a,R2 r)(h2:∀r∈b,R2 r):∃r∈a,(r.X0≤(fromV a b).1∧(fromV a b).1<r.X1)∧(r.Y0≤(fromV a b).2.1∧(fromV a b).2.1<r.Y1):=by
 obtain⟨l1,p,hp,l2⟩:=Cn ha hb
 obtain⟨u1,u2⟩:=Fb (least a b) (EH a b) (0,0,false)
 have hok:=u2 ⟨p,hp,l2.symm⟩
 unfold fromV
 rcases u1 with e|⟨q,hq,e1,e2⟩
 ·rw[e] at hok;cases hok
 ·rw[e2]
  obtain⟨q1,q2⟩:=xS.1 hq
  have k1:=h1 _ q1
  have k2:=h2 _ q2
  have hn:=(EQ k1 k2).1
  have:=(Lt k1 k2 (n:=least a b) (by omega)).1 (by omega)
  refine⟨q.1,q1,?_⟩
  show(q.1.X0≤max q.1.X0 (q.2.X0-least a b)∧max q.1.X0 (q.2.X0-least a b)<q.1.X1)∧(q.1.Y0≤max q.1.Y0 (q.2.Y0-least a b)∧max q.1.Y0 (q.2.Y0-least a b)<q.1.Y1)
  omega
theorem JZ{a b:List au}(ha:a≠[])(hb:b≠[])(h1:∀r∈a,R2 r)(h2:∀r∈b,R2 r):0≤least a b∧least a b≤6000001:=by
 obtain⟨_,p,hp,l2⟩:=Cn ha hb
 obtain⟨q1,q2⟩:=xS.1 hp
 rw[l2]
 exact EQ (h1 _ q1) (h2 _ q2)
theorem Na{a b:List au}(ha:a≠[])(hb:b≠[])(h1:∀r∈a,vW r)(h2:∀r∈b,vW r):qf a b=some (Mg a b):=by
 have k1:∀r∈a,R2 r:=fun r hr=>(h1 r hr).r2
 have k2:∀r∈b,R2 r:=fun r hr=>(h2 r hr).r2
 have hn:=JZ ha hb k1 k2
 obtain⟨r,hr,hf⟩:=NZ ha hb k1 k2
 have hrl:=h1 r hr
 have:=hrl.x0;have:=hrl.x1;have:=hrl.y0;have:=hrl.y1
 unfold qf
 rw[Pt k2 a 0 _ k1,LW ha hb (fun p hp=>by obtain⟨q1,q2⟩:=xS.1 hp;exact(EQ (k1 _ q1) (k2 _ q2)).1),Ps hn k2 a 0 _ _ _ k1]
 have:=Pq hn (x:=(fromV a b).1) (y:=(fromV a b).2.1) ⟨by omega,by omega⟩ b 0 0 0 false k2
 exact this
section
variable {N:Nat} (hN:10000000000≤N) {n:Int} (hn:0≤n∧n≤100000)
def rR(S:List Bd)(n:Int):List Bd×Int:=
 if((aL S).map (widen n)).all lim=true then if 2000<(aL (lw ((aL S).map (widen n)))).length then([],2) else(lw ((aL S).map (widen n)),0) else([],1)
include hN hn
theorem Mf{S:List Bd}(hS:uC S)(ht:(aL S).length≤2000)(hok:∀r∈aL S,vW r):nZ N (S.map toP) n=some ((rR S n).1.map toP,(rR S n).2):=by
 unfold nZ oo
 have hsm:=BV (l:=(aL S).map (widen n)) (by simp;omega)
 rw[Kk hN hn hS (by omega) (JX hok),ob,ob,JA (by simp;omega) (Fa hn.1 (oU hS)),ob,EX (by have:=hsm.tot;omega)]
 unfold rR
 cases((aL S).map (widen n)).all lim
 ·rfl
 ·rw[if_neg (by simp),if_pos rfl,ob]
  by_cases h2:2000<(aL (lw ((aL S).map (widen n)))).length
  ·rw[if_pos (by simp;omega),if_pos h2];rfl
  ·rw[if_neg (by simp;omega),if_neg h2]
end
structure Good (S:List Bd):Prop where
 ok:uC S
 tot:(aL S).length≤2000
 rok:∀r∈aL S,vW r
theorem Good.region{S:List Bd}(h:Good S):dB (aL S)=0:=JM h.ok (fun x y hx=>EY h.rok ((oJ h.ok x y).2 hx)) h.tot
theorem Good.of{r:List au}(h:dB r=0):Good (lw r)∧aL (lw r)=r:=by
 obtain⟨_,hl,hok,hr⟩:=oQ h
 exact⟨⟨(kZ (vW.ne hok)).1,by rw[hr];exact hl,by rw[hr];exact hok⟩,hr⟩
theorem Good.small{S:List Bd}(h:Good S):Small S:=by
 have:=h.ok.le;have:=h.tot
 exact⟨by omega,fun b hb=>by have:=vI hb;omega,by omega⟩
theorem I5{r:au}(h:lim r=true)(hx:r.X0<r.X1∧r.Y0<r.Y1):vW r:=by
 have:=vM.1 h
 exact⟨by omega,by omega,by omega,by omega,hx.1,hx.2⟩
theorem F7{S:List Bd}(hS:Good S){n:Int}(hn:0≤n){W:List Bd}(h:rR S n=(W,0)):Good W∧∀x y,mU x y W↔Nr n (fun u v=>mU u v S) x y:=by
 unfold rR at h
 split at h
 ·rename_i h1
  split at h
  ·injection h with _ e;cases e
  ·rename_i h2
   injection h with e _
   subst e
   have hne:=Fa hn (oU hS.ok)
   obtain⟨b1,b2⟩:=kZ hne
   rw[List.all_eq_true] at h1
   have hrk:∀r∈(aL S).map (widen n),vW r:=fun r hr=>I5 (h1 r hr) (hne r hr)
   have hp:∀x y,mU x y (lw ((aL S).map (widen n)))↔Nr n (fun u v=>mU u v S) x y:=fun x y=>by
    rw[b2,Ko hn (oU hS.ok)]
    exact GM (fun u v=>oJ hS.ok u v) x y
   exact⟨⟨b1,by omega,vJ b1 fun x y hx=>EY hrk ((b2 x y).1 hx)⟩,hp⟩
 ·injection h with _ e;cases e
def P5(n:Int):Prop:=0≤n∧n≤100000
instance (n:Int):Decidable (P5 n):=inferInstanceAs (Decidable (_∧_))
section
variable {N:Nat} (hN:10000000000≤N) {n:Int} (hn:0≤n∧n≤100000)
include hN hn
theorem stepG{S:List Bd}(hS:Good S)(rest:List Nat)(i:Nat):gB N n (21::rest) i (S.map toP)=if(rR S n).2=0 then gB N n rest (i+1) ((rR S n).1.map toP) else some ([],(rR S n).2):=by
 have e:tq N 21 (S.map toP) n=nZ N (S.map toP) n:=if_pos rfl
 rw[gB.eq_2,e,Mf hN hn hS.ok hS.tot hS.rok,ob]
 by_cases h:(rR S n).2=0
 ·rw[if_neg (by simpa using h),if_pos h]
 ·rw[if_pos (by simpa using h),if_neg h]
omit hn in
theorem QR{S:List Bd}(hS:Good S)(i:Nat):gB N n [] i (S.map toP)=some (aL S,0):=by
 rw[gB.eq_1,vo hN hS.small];rfl
end
theorem K3{N:Nat}(hN:10000000000≤N)(r:List au)(n:Int)(l:List Nat):qd N r n l=if dB r=0 then if P5 n then gB N n l 0 ((lw r).map toP) else some ([],1) else some ([],dB r):=by
 unfold qd
 rw[oP hN,ob]
 by_cases h:dB r=0
 ·obtain⟨_,hl,hok,hr⟩:=oQ h
  have hw:lX n 0 100000=some (within n 0 100000):=rfl
  rw[if_neg (by simpa using h),if_pos h,hw,ob,qL hN (by omega) (fun r hr=>(hok r hr).r9)]
  by_cases hi:P5 n
  ·rw[if_neg (by rw[Bool.not_eq_true',Bool.not_eq_false];exact within_iff.2 hi),if_pos hi,ob]
  ·rw[if_pos (by rw[Bool.not_eq_true',Bool.eq_false_iff];exact fun h=>hi (within_iff.1 h)),if_neg hi]
 ·rw[if_pos (by simpa using h),if_neg h]
def NB(v:List Bd×Int):List au×Int:=if v.2=0 then(aL v.1,0) else([],v.2)
theorem OL{N:Nat}(hN:10000000000≤N)(r:List au)(n:Int):nR N r n=some (if dB r=0 then if P5 n then NB (rR (lw r) n) else([],1) else([],dB r)):=by
 unfold nR
 rw[K3 hN]
 by_cases h:dB r=0
 ·rw[if_pos h,if_pos h]
  by_cases hi:P5 n
  ·obtain⟨hg,_⟩:=Good.of h
   rw[if_pos hi,if_pos hi,stepG hN hi hg]
   unfold NB
   by_cases h0:(rR (lw r) n).2=0
   ·have e:rR (lw r) n=((rR (lw r) n).1,0):=by rw[←h0]
    rw[if_pos h0,if_pos h0,QR hN (F7 hg hi.1 e).1];rfl
   ·rw[if_neg h0,if_neg h0];rfl
  ·rw[if_neg hi,if_neg hi];rfl
 ·rw[if_neg h,if_neg h];rfl
def M8(k:Bool→Bool→Bool)(a b:List au)(x y:Int):Prop:=∃p q,(p=true↔GR x y a)∧(q=true↔GR x y b)∧k p q=true
structure Rx (k:Bool→Bool→Bool) (a b:List au) (v:List au×Int):Prop where
 e1:dB a≠0→v=([],dB a)
 e2:dB a=0→dB b≠0→v=([],dB b)
 ok:dB a=0→dB b=0→∃C,uC C∧(∀x y,mU x y C↔M8 k a b x y)∧v=DD C
theorem KU{N:Nat}(hN:10000000000≤N){k:Bool→Bool→Bool}{f:Bool→Bool→Option Bool}(hf:∀a b,f a b=some (k a b))(hk:k false false=false){a b:List au}(ha:dB a=0)(hb:dB b=0):
  ∃C,fV N a=some ((lw a).map toP)∧fV N b=some ((lw b).map toP)∧mZ N ((lw a).map toP) ((lw b).map toP) f=some (C.map toP)∧lg N (C.map toP)=some (DD C)∧uC C∧∀x y,mU x y C↔M8 k a b x y:=by
 obtain⟨_,hal,haok,_⟩:=oQ ha
 obtain⟨_,hbl,hbok,_⟩:=oQ hb
 obtain⟨sa,sa2⟩:=tF a
 obtain⟨sb,sb2⟩:=tF b
 obtain⟨ba,ia⟩:=kZ (vW.ne haok)
 obtain⟨bb,ib⟩:=kZ (vW.ne hbok)
 obtain⟨C,c1,c2,c3,c4,c5⟩:=GN hf hk hN (R1:=2000) (R2:=2000) ba bb (fun c hc=>by have:=sa2 c hc;omega) (fun c hc=>by have:=sb2 c hc;omega) (by omega) (by omega)
 have ht:=yM (R:=4000) (l:=C) fun c hc=>by have:=c5 c hc;omega
 refine⟨C,qL hN (by omega) (fun r hr=>(haok r hr).r9),qL hN (by omega) (fun r hr=>(hbok r hr).r9),c1,OA hN (by omega) (by omega),c2,fun x y=>?_⟩
 rw[c3]
 unfold Kept M8
 rw[ia,ib]
section
variable {N:Nat} (hN:10000000000≤N)
include hN
theorem OO(a b:List au):∃v,pz N a b=some v∧Rx (fun p q=>p&&q) a b v:=by
 unfold pz oZ
 rw[oP hN,ob]
 by_cases ha:dB a=0
 ·rw[if_neg (by simpa using ha),oP hN,ob]
  by_cases hb:dB b=0
  ·obtain⟨C,c1,c2,c3,c4,c5,c6⟩:=KU hN (k:=fun p q=>p&&q) (f:=fun z0 z1=>lY z0 z1) (fun _ _=>rfl) rfl ha hb
   unfold pu
   rw[if_neg (by simpa using hb),c1,ob,c2,ob,c3,ob,ob,c4]
   exact⟨DD C,rfl,fun h=>absurd ha h,fun _ h=>absurd hb h,fun _ _=>⟨C,c5,c6,rfl⟩⟩
  ·rw[if_pos (by simpa using hb)]
   exact⟨_,rfl,fun h=>absurd ha h,fun _ _=>rfl,fun _ h=>absurd h hb⟩
 ·rw[if_pos (by simpa using ha)]
  exact⟨_,rfl,fun _=>rfl,fun h=>absurd h ha,fun h=>absurd h ha⟩
end
theorem Fv{B:List Bd}(h:uC B)(hn:(aL B).length≤100000000):Small B:=
 ⟨by have:=h.le;omega,fun b hb=>by have:=vI hb;omega,by omega⟩
section
variable {N:Nat} (hN:10000000000≤N)
include hN
theorem Kn{B:List Bd}(hB:uC B)(hn:(aL B).length≤100000000)(h9:∀r∈aL B,R9 r):
  ∃P,kQ N (B.map toP)=some (P.map fun b=>b.map toP)∧PS (fun x y=>mU x y B) P∧(∀b∈P,Small b)∧P.length≤(aL B).length:=by
 obtain⟨L,h1,h2,h3,h4⟩:=M4 hN hB (Fv hB hn) (by omega) (by have:=hB.le;omega) h9
 have hps:=(h2.ps (oU hB)).congr (T:=fun x y=>mU x y B) fun x y=>oJ hB x y
 refine⟨L.map lw,by rw[h1,List.map_map];rfl,hps,fun b hb=>?_,by simpa using h3⟩
 have:=hps.len hB hb
 exact Fv (hps.ok b hb).1 (by omega)
end
theorem Nb{l:List Bd}(h:uC l)(hne:l≠[]):nQ (l.map toP)=some ⟨(fst l).1,(fst l).2⟩:=by
 obtain⟨lo,hc⟩:=h.can
 match l,hne,hc with
 |b::l,_,hc=>
  obtain⟨_,_,c3,_,_⟩:=hc
  obtain⟨b0,b1,b2⟩:=b
  match b2,c3 with
  |s::t,_=>rfl
theorem Bo:∀(l:List au) (i:Nat) (x:Int),∃a,jG l i x=some a
 |[],_,_=>⟨_,rfl⟩
 |r::l,i,x=>by rw[jG.eq_2];exact Bo l (i+1) _
theorem P8{c:Int}(hc:0≤c){a b:List au}{x y:Int}(h1:Nr c (fun u v=>GR u v a) x y)(h2:GR x y b):∃r∈a,∃q∈b,far r q≤c:=by
 obtain⟨u,v,⟨r,hr,hx,hy⟩,k1,k2⟩:=h1
 obtain⟨q,hq,gx,gy⟩:=h2
 exact⟨r,hr,q,hq,by unfold far bt;omega⟩
theorem Mm(r q:au):far r q=far q r:=by unfold far bt;omega
theorem I4{N:Nat}(hN:10000000000≤N)(a b:List au)(c:Int):∃g,nR N a c=some g∧∃v,pz N g.1 b=some v∧(g.2=0→v.2=0→0<v.1.length→∃r∈a,∃q∈b,far r q≤c):=by
 obtain⟨v,hv,ht⟩:=OO hN (if dB a=0 then if P5 c then NB (rR (lw a) c) else([],1) else([],dB a)).1 b
 refine⟨_,OL hN a c,v,hv,fun hg h0 hl=>?_⟩
 by_cases ha:dB a=0
 ·rw [if_pos ha] at hg ht
  by_cases hi:P5 c
  ·rw [if_pos hi] at hg ht
   obtain⟨hG,_⟩:=Good.of ha
   unfold NB at hg ht
   by_cases h2:(rR (lw a) c).2=0
   ·rw[if_pos h2] at ht
    have e:rR (lw a) c=((rR (lw a) c).1,0):=by rw[←h2]
    obtain⟨hW,hp⟩:=F7 hG hi.1 e
    have hr:=hW.region
    have hb:dB b=0:=by
     by_cases hb:dB b=0
     ·exact hb
     ·have:=ht.e2 hr hb
      rw[this] at h0
      exact absurd h0 hb
    obtain⟨C,c1,c2,c3⟩:=ht.ok hr hb
    have hC:aL C≠[]:=by
     intro hn
     rw[c3] at hl
     unfold DD at hl
     rw[hn] at hl
     simp at hl
    obtain⟨s,hs⟩:=List.exists_mem_of_ne_nil _ hC
    have hne:=oU c1 s hs
    have hin:mU s.X0 s.Y0 C:=(oJ c1 _ _).1 ⟨s,hs,⟨by omega,hne.1⟩,⟨by omega,hne.2⟩⟩
    obtain⟨p,q,k1,k2,k3⟩:=(c2 _ _).1 hin
    simp only[Bool.and_eq_true] at k3
    have j1:=(oJ hW.ok _ _).1 (k1.1 k3.1)
    have hok:=(oQ ha).2.2.1
    exact P8 hi.1 ((GM (fun u v=>(kZ (vW.ne hok)).2 u v) _ _).1 ((hp _ _).1 j1)) (k2.1 k3.2)
   ·rw[if_neg h2] at hg
    exact absurd hg h2
  ·rw[if_neg hi] at hg
   cases hg
 ·rw[if_neg ha] at hg
  exact absurd hg ha
theorem KZ{s:ByteArray}{i:Int}(h0:0≤i)(h:i<s.size):∃c,Fj s i=some c:=by
 unfold Fj
 rw[if_pos h0]
 have:i.toNat<s.size:=by omega
 exact⟨_,by rw[getElem?_pos s i.toNat this];rfl⟩
theorem Bl(s:ByteArray)(hs:s.size≤9223372036854775807):∀(r m:Nat) (x:Int),0≤x→x≤s.size→(s.size:Int)-x=r→r<m→∃b,iV s m x=some b∧(b=true→s.size≤40)
 |0,m+1,x,h0,h1,h2,_=>by
  have:x=s.size:=by omega
  subst this
  refine⟨_,by rw[iV.eq_2,if_neg (by simp)],fun hb=>?_⟩
  simp at hb;omega
 | r+1,m+1,x,h0,h1,h2,h3=>by
  have hlt:x<s.size:=by omega
  obtain⟨c,hc⟩:=KZ h0 hlt
  obtain⟨b,hb,hb'⟩:=Bl s hs r m (x+1) (by omega) (by omega) (by omega) (by omega)
  have hw:bJ (x+1)=x+1:=tu (by omega) (by omega)
  rw[iV.eq_2,if_pos (by simpa using hlt),hc,ob,hw,hb]
  have:∃g,(if((((decide (c<65))||(decide (90<c)))&&((decide (c<97))||(decide (122<c))))&&((decide (c<48))||(decide (57<c)))) then
    (NQ (⟨#[95,43,45,35]⟩) c).bind fun y115=>some (decide (y115<0)) else some false)=some g:=by
   split
   ·exact⟨_,rfl⟩
   ·exact⟨_,rfl⟩
  obtain⟨g,hg⟩:=this
  rw[hg,ob]
  cases g
  ·exact⟨b,rfl,hb'⟩
  ·exact⟨false,rfl,fun h=>by cases h⟩
theorem En{s:ByteArray}{N:Nat}(hs:s.size≤9223372036854775807)(hN:s.size<N):∃b,nJ N s=some b∧(b=true→s.size≤40):=
 Bl s hs s.size N 0 (by omega) (by omega) (by omega) hN
theorem DK(sep:ByteArray)(save:Nat):∀(k:Nat) (s:ByteArray),∀x∈Lib.splitB sep save k s,x.size≤s.size
 |0,s,x,hx=>by
  rw[Lib.splitB_zero] at hx
  simp at hx;subst hx;exact Nat.le_refl _
 | k+1,s,x,hx=>by
  unfold Lib.splitB at hx
  split at hx
  ·simp at hx;subst hx;exact Nat.le_refl _
  ·rcases List.mem_cons.1 hx with h|h
   ·subst h;rw[ByteArray.size_extract];omega
   ·have:=DK sep save k _ x h
    rw[ByteArray.size_extract] at this;omega
theorem NU{α:Type}{g:Bool}{a b:Option α}{P:α→Prop}(ha:∃x,a=some x∧P x)(hb:∃x,b=some x∧P x):∃x,(if g=true then a else b)=some x∧P x:=by
 cases g
 ·exact hb
 ·exact ha
def Nm(N:Nat)(s:ByteArray):Prop:=s.size≤9223372036854775807∧s.size<N
theorem Ov{α:Type}{f:α→Option Bool}{L:List α→Nat→Option Int}(h0:∀i,L [] i=some (-1))(h1:∀x l i,L (x::l) i=(f x).bind fun y=>if y=true then some (i:Int) else L l (i+1)){l:List α}(h:∀x∈l,∃b,f x=some b):
  ((L l 0).bind fun y=>some (decide (0≤y)))=some (l.any fun x=>(f x).getD false):=by
 have key:∀(l:List α) (i:Nat),(∀x∈l,∃b,f x=some b)→L l i=some (Cs (fun x=>(f x).getD false) l i):=by
  intro l
  induction l with
  |nil=>intro i _;rw[h0];rfl
  |cons x l ih=>
   intro i h
   obtain⟨b,hb⟩:=h x (by simp)
   rw[h1,ih (i+1) fun y hy=>h y (by simp[hy]),hb,Cs,hb,show((i+1:Nat):Int)=(i:Int)+1 by omega]
   cases b<;>rfl
 rw[key l 0 h,ob,show((0:Nat):Int)=0 from rfl,F5 _ l 0 (by omega)]
theorem Eo{s:ByteArray}{N:Nat}(hN:1000≤N):∃b,lQ N s=some b∧(b=true→s.size≤200):=by
 unfold lQ
 by_cases hs:(s.size:Int)≤200
 ·rw[if_pos (by simpa using hs)]
  have h1:Ac s ⟨#[47]⟩=some (Lib.splitB ⟨#[47]⟩ 0 (Lib.countB s ⟨#[47]⟩) s):=by
   unfold Ac
   rw[if_pos ⟨by omega,by decide⟩]
  rw[h1,ob]
  unfold fA jC
  rw[Ov (f:=fun z0=>jO N z0) (fun _=>rfl) (fun _ _ _=>rfl) fun x hx=>by
   have hsz:=DK _ _ _ _ x hx
   obtain⟨b,hb,_⟩:=En (s:=x) (N:=N) (by omega) (by omega)
   exact⟨!b,by show jO N x=_;unfold jO;rw[hb];rfl⟩]
  exact⟨_,rfl,fun _=>by omega⟩
 ·rw[if_neg (by simpa using hs)];exact⟨_,rfl,fun h=>by cases h⟩
theorem QX{α:Type}{l ps suf:List α}{x:α}(h:l=ps++x::suf)(hl:l.length≤1000000){f:α→Option Bool}(hf:∀y,∃g,f y=some g):∃g,(if(decide (0<((ps.length:Nat):Int)))=true then(idx l (bJ ((ps.length:Int)-1))).bind f else some false)=some g:=by
 by_cases h0:0<ps.length
 ·rw[if_pos (by simpa using h0)]
  have hlen:ps.length≤l.length:=by rw[h];simp
  have e1:bJ ((ps.length:Int)-1)=((ps.length-1:Nat):Int):=by rw[eG (by omega) (by omega)];omega
  have hlt:ps.length-1<l.length:=by rw[h];simp;omega
  rw[e1,NV hlt]
  exact hf _
 ·rw[if_neg (by simpa using h0)];exact⟨_,rfl⟩
theorem QY(a b:Bool):(if a=true then some true else some b)=some (a||b):=by cases a<;>rfl
theorem EA{α:Type}{g:Bool}{a b:Option α}(ha:∃x,a=some x)(hb:∃x,b=some x):∃x,(if g=true then a else b)=some x:=by
 cases g
 ·exact hb
 ·exact ha
theorem Rb(a b:Bool):(if a=true then some b else some false)=some (a&&b):=by cases a<;>rfl
theorem LZ{s:ByteArray}{N:Nat}(hN:1000≤N):∃b,qh N s=some b:=by
 obtain⟨b,hb,_⟩:=Eo (s:=s) hN
 unfold qh
 rw[hb]
 cases DN s ⟨#[]⟩<;>exact⟨_,rfl⟩
theorem Kc{l:List ByteArray}{N:Nat}(hN:1000≤N):∃b,fA l (fun z0=>kW N z0)=some b:=by
 unfold fA jC
 refine⟨_,Ov (f:=fun z0=>kW N z0) (fun _=>rfl) (fun _ _ _=>rfl) fun x _=>?_⟩
 obtain⟨b,hb⟩:=LZ (s:=x) hN
 exact⟨!b,by show kW N x=_;unfold kW;rw[hb];rfl⟩
theorem JL(N:Nat)(c:Int):∃e,kS N ⟨c,0,0,0,0,[],[]⟩=some e∧(e=0→0≤c∧c≤100000):=by
 have h0:ed 0=some false:=rfl
 have hc:ed c=some (!((decide (0≤c))&&(decide (c≤100000)))):=rfl
 unfold kS kE lM
 by_cases h:0≤c∧c≤100000
 ·have hc':ed c=some false:=by rw[hc];simp[h]
  have:df (fun z0=>ed z0) [c,0,0,0,0] 0=some (-1):=by
   simp only[df,hc',h0,ob,Bool.false_eq_true,if_false]
  exact⟨0,by show((df (fun z0=>ed z0) [c,0,0,0,0] 0).bind _).bind _=_;rw[this];rfl,fun _=>h⟩
 ·have hc':ed c=some true:=by rw[hc];simp;omega
  have:df (fun z0=>ed z0) [c,0,0,0,0] 0=some 0:=by
   simp only[df,hc',ob,if_true];rfl
  exact⟨1,by show((df (fun z0=>ed z0) [c,0,0,0,0] 0).bind _).bind _=_;rw[this];rfl,fun h=>by cases h⟩
def G8(b:gP):au:=(au.mk (bJ (b.At.X-(bJ (Int.tdiv b.Size 2)))) (bJ (b.At.Y-(bJ (Int.tdiv b.Size 2)))) (bJ ((bJ (b.At.X-(bJ (Int.tdiv b.Size 2))))+b.Size)) (bJ ((bJ (b.At.Y-(bJ (Int.tdiv b.Size 2))))+b.Size)))
theorem BR(b:gP):iY b=some (G8 b):=rfl
theorem Bn(p:fC):mJ p=some (within p.X (-1000000) 1000000&&within p.Y (-1000000) 1000000):=by
 unfold mJ kT lX
 simp only[ob,Rb];rfl
theorem Kj{N:Nat}(hN:10000000000≤N)(b:gP):∃v,nW N b=some v∧(v.2=0→vW (G8 b)):=by
 unfold nW iO
 simp only[ob,Bn,QY]
 by_cases h:(1≤b.Size∧b.Size≤10000)∧(-1000000≤b.At.X∧b.At.X≤1000000)∧(-1000000≤b.At.Y∧b.At.Y≤1000000)
 ·obtain⟨h1,h2,h3⟩:=h
  have hw2:within b.At.X (-1000000) 1000000=true:=within_iff.2 h2
  have hw3:within b.At.Y (-1000000) 1000000=true:=within_iff.2 h3
  have ht:Int.tdiv b.Size 2=b.Size / 2:=Int.tdiv_eq_ediv_of_nonneg (by omega)
  have e:G8 b=⟨b.At.X-b.Size / 2,b.At.Y-b.Size / 2,b.At.X-b.Size / 2+b.Size,b.At.Y-b.Size / 2+b.Size⟩:=by
   unfold G8
   rw[ht,eG (x:=b.Size / 2) (by omega) (by omega),eG (x:=b.At.X-b.Size / 2) (by omega) (by omega),eG (x:=b.At.Y-b.Size / 2) (by omega) (by omega),eG (by omega) (by omega),eG (by omega) (by omega)]
  rw[if_neg (by rw[hw2,hw3];simp;omega),BR,ob]
  have h9:∀q∈[G8 b],R9 q:=fun q hq=>by
   rw[List.mem_singleton] at hq
   subst hq
   rw[e]
   constructor<;>simp only<;>omega
  have hne:∀q∈[G8 b],q.X0<q.X1∧q.Y0<q.Y1:=fun q hq=>⟨(h9 q hq).x,(h9 q hq).y⟩
  rw[qL hN (by simp) h9,ob,JA (by simp) hne,ob]
  by_cases hl:([G8 b].all lim)=true
  ·rw[if_neg (by rw[hl];simp)]
   exact⟨_,rfl,fun _=>I5 (by simpa using hl) (hne _ (by simp))⟩
  ·rw[if_pos (by simpa using hl)]
   exact⟨_,rfl,fun h=>by cases h⟩
 ·rw [if_pos (by
   by_cases h1:1≤b.Size∧b.Size≤10000
   ·by_cases h2:within b.At.X (-1000000) 1000000=true
    ·by_cases h3:within b.At.Y (-1000000) 1000000=true
     ·exact absurd ⟨h1,within_iff.1 h2,within_iff.1 h3⟩ h
     ·simp[h3]
    ·simp[h2]
   ·simp;omega)]
  exact⟨_,rfl,fun h=>by cases h⟩
theorem yE{N:Nat}(hN:10000000000≤N)(a:nU):∀(l:List gP) (i:Nat),∃e,gL N a l i=some e∧(e=0→∀b∈l,vW (G8 b))
 |[],i=>⟨_,rfl,fun _ b hb=>by cases hb⟩
 | x::l,i=>by
  obtain⟨v,hv,hv'⟩:=Kj hN x
  obtain⟨e,he,he'⟩:=yE hN a l (i+1)
  rw[gL.eq_2,hv,ob]
  by_cases h:v.2=0
  ·rw[if_neg (by simpa using h)]
   unfold iO
   simp only[ob,QY]
   refine NU ⟨_,rfl,fun h=>by cases h⟩ ⟨e,he,fun h0 b hb=>?_⟩
   rcases List.mem_cons.1 hb with rfl|hb
   ·exact hv' h
   ·exact he' h0 b hb
  ·rw[if_pos (by simpa using h)]
   exact⟨_,rfl,fun h'=>absurd h' h⟩
theorem Dw{N:Nat}(hN:10000000000≤N)(a:nU):∃e,lJ N a=some e∧(e=0→a.Bores.length≤500∧∀b∈a.Bores,vW (G8 b)):=by
 obtain⟨e,he,he'⟩:=yE hN a a.Bores 0
 unfold lJ
 by_cases h:(500:Int)<(a.Bores.length:Int)
 ·rw[if_pos (by simpa using h)];exact⟨_,rfl,fun h=>by cases h⟩
 ·rw[if_neg (by simpa using h)];exact⟨e,he,fun h0=>⟨by omega,he' h0⟩⟩
theorem yC{N:Nat}(hN:10000000000≤N){a:nU}(hl:a.Lands.length≤1000)(hn:∀x∈a.Lands,Nm N x.Pin):∀(suf ps:List pG),a.Lands=ps++suf→∃e,gK N a suf ps.length=some e
 |[],ps,_=>⟨_,rfl⟩
 | x::suf,ps,h=>by
  have ih:=yC hN hl hn suf (ps++[x]) (by rw[h];simp)
  rw[List.length_append] at ih
  obtain⟨b1,hb1,_⟩:=Eo (s:=x.Part) (N:=N) (by omega)
  obtain⟨b2,hb2,_⟩:=En (s:=x.Pin) (N:=N) (hn x (by rw[h];simp)).1 (hn x (by rw[h];simp)).2
  obtain⟨g,hg⟩:=QX h (by omega) (f:=fun Sb=>(ku Sb).bind fun QC=>(kI (wK.mk x.Part x.Pin) (wK.mk QC.Part QC.Pin)).bind fun R6=>some (decide (R6≤0))) fun y=>by
   unfold ku kI MB
   simp only[ob]
   split<;>exact⟨_,rfl⟩
  rw[gK.eq_2,hb1,ob,hb2]
  simp only[ob,QY]
  refine EA ⟨_,rfl⟩ ?_
  unfold iO
  simp only[ob,Bn,QY]
  refine EA ⟨_,rfl⟩ ?_
  rw[show ku x=some ⟨x.Part,x.Pin⟩ from rfl]
  simp only[ob]
  rw[hg,ob]
  exact EA ⟨_,rfl⟩ ih
theorem Dv{N:Nat}(hN:10000000000≤N){a:nU}(hn:∀x∈a.Lands,Nm N x.Pin):∃e,lI N a=some e∧(e=0→a.Lands.length≤1000):=by
 unfold lI
 by_cases h:(1000:Int)<(a.Lands.length:Int)
 ·rw[if_pos (by simpa using h)];exact⟨_,rfl,fun h=>by cases h⟩
 ·rw[if_neg (by simpa using h)]
  obtain⟨e,he⟩:=yC hN (by omega) hn a.Lands [] rfl
  exact⟨e,he,fun _=>by omega⟩
def Km(p:eQ):Prop:=∃S:List Bd,uC S∧S≠[]∧p.Set=S.map toP∧p.Rects=aL S∧∀r∈aL S,vW r
structure Kv (i:Nat) (ds:List (List aQ)) (ps:List eQ) (g:Bool):Prop where
 ds:ds.length=i
 many:ps.length≤25010000*i
 ok:∀p∈ps,Km p∧p.Layer<(i:Int)
 few:g=true→∀p∈ps,p.Rects.length≤2000
 ord:ps.Pairwise fun p q=>p.Layer≤q.Layer
section
variable {N:Nat} (hN:10000000000≤N)
include hN
theorem Gp{K:List (List aQ)→List eQ→Bool→Option (Bool×(List (List aQ))×(List eQ))}{i:Nat}{g:Bool}{ds:List (List aQ)}:∀(P:List (List Bd)) (j:Nat) (acc:List eQ),(∀S∈P,Small S)→acc.length+P.length≤4294967296→
  eU N K i g ds (P.map fun b=>b.map toP) j acc=K ds (acc++P.map fun S=>⟨(i:Int),S.map toP,aL S⟩) g
 |[],j,acc,_,_=>by rw[List.map_nil,eU.eq_1];simp
 |S::P,j,acc,h,hl=>by
  simp only[List.length_cons] at hl
  rw[List.map_cons,eU.eq_2,vo hN (h S (by simp)),ob,kP (by simp;omega),ob,Gp P (j+1) _ (fun T hT=>h T (by simp[hT])) (by simp;omega)]
  simp
theorem J5{K:List (List aQ)→List eQ→Bool→Option (Bool×(List (List aQ))×(List eQ))}{Q:Bool×(List (List aQ))×(List eQ)→Prop}{i:Nat}(hi:i≤16){g:Bool}{ds:List (List aQ)}{ps:List eQ}(hD:Kv i ds ps g)
  (hK:∀ds' ps' g',Kv (i+1) ds' ps' g'→∃r,K ds' ps' g'=some r∧Q r) {c sq:List au} (hc:dB c=0) (hs:sq.length≤500) (hsq:∀r∈sq,vW r) (j:Nat):
  ∃r,dK N ds ps g K c i [] j sq=some r∧Q r:=by
 obtain⟨_,hcl,hcok,_⟩:=oQ hc
 obtain⟨sa,sa2⟩:=tF c
 obtain⟨sb,sb2⟩:=tF sq
 obtain⟨ba,ia⟩:=kZ (vW.ne hcok)
 obtain⟨bb,ib⟩:=kZ (vW.ne hsq)
 obtain⟨C,c1,c2,c3,c4,c5⟩:=GN (k:=fun p q=>p&& !q) (f:=fun z0 z1=>lD z0 z1) (fun _ _=>rfl) rfl hN (R1:=2000) (R2:=500) ba bb (fun b hb=>by have:=sa2 b hb;omega) (fun b hb=>by have:=sb2 b hb;omega) (by omega) (by omega)
 have ht:=yM (R:=2500) (l:=C) fun b hb=>by have:=c5 b hb;omega
 have hin:∀x y,mU x y C→(-1000000≤x∧x<1000000)∧(-1000000≤y∧y<1000000):=fun x y hx=>by
  obtain⟨p,q,k1,_,k3⟩:=(c3 x y).1 hx
  simp only[Bool.and_eq_true] at k3
  exact EY hcok ((ia x y).1 (k1.1 k3.1))
 have hrok:=vJ c2 hin
 obtain⟨P,p1,p2,p3,p4⟩:=Kn hN c2 (by omega) fun r hr=>(hrok r hr).r9
 have hm:=EX (l:=C) (by omega)
 rw[dK.eq_1,qL hN (by omega) (fun r hr=>(hcok r hr).r9),ob,qL hN (by omega) (fun r hr=>(hsq r hr).r9),ob]
 unfold oq
 rw[c1,ob,ob,hm]
 have hg:(if g=true then((some ((aL C).length:Int)).bind fun R5=>some (decide (R5≤2000))) else some false)=some (g&&decide (((aL C).length:Int)≤2000)):=by cases g<;>rfl
 have hmany:=hD.many
 have hds:=hD.ds
 rw[hg,ob,kP (by simp;omega),ob,p1,ob,Gp hN P 0 ps p3 (by omega)]
 refine hK _ _ _ ⟨by simp;exact hds,by simp;omega,fun p hp=>?_,fun h p hp=>?_,?_⟩
 ·rcases List.mem_append.1 hp with hp|hp
  ·have:=hD.ok p hp
   exact⟨this.1,by have:=this.2;omega⟩
  ·obtain⟨S,hS,rfl⟩:=List.mem_map.1 hp
   refine⟨⟨S,(p2.ok S hS).1,(p2.ok S hS).2,rfl,rfl,?_⟩,by show(i:Int)<_;omega⟩
   exact vJ (p2.ok S hS).1 fun x y hx=>hin x y (p2.sub hS hx)
 ·simp only[Bool.and_eq_true,decide_eq_true_eq] at h
  rcases List.mem_append.1 hp with hp|hp
  ·exact hD.few h.1 p hp
  ·obtain⟨S,hS,rfl⟩:=List.mem_map.1 hp
   have:=p2.len c2 hS
   show(aL S).length≤2000
   omega
 ·rw[List.pairwise_append]
  refine⟨hD.ord,?_,fun p hp q hq=>?_⟩
  ·rw[List.pairwise_map]
   exact List.Pairwise.imp (fun _=>Int.le_refl _) (List.pairwise_of_forall (R:=fun _ _=>True) fun _ _=>trivial)
  ·obtain⟨S,hS,rfl⟩:=List.mem_map.1 hq
   have:=(hD.ok p hp).2
   show p.Layer≤(i:Int)
   omega
theorem CO{K:List (List aQ)→List eQ→Bool→Option (Bool×(List (List aQ))×(List eQ))}{Q:Bool×(List (List aQ))×(List eQ)→Prop}{i:Nat}(hi:i≤16){g:Bool}{ds:List (List aQ)}{ps:List eQ}(hD:Kv i ds ps g)
  (hK:∀ds' ps' g',Kv (i+1) ds' ps' g'→∃r,K ds' ps' g'=some r∧Q r) {c:List au} (hc:dB c=0):∀(bs:List gP) (j:Nat) (sq:List au),sq.length+bs.length≤500→(∀r∈sq,vW r)→(∀b∈bs,vW (G8 b))→
  ∃r,dK N ds ps g K c i bs j sq=some r∧Q r
 |[],j,sq,hl,hsq,_=>J5 hN hi hD hK hc (by simpa using hl) hsq j
 | b::bs,j,sq,hl,hsq,hb=>by
  simp only[List.length_cons] at hl
  rw[dK.eq_2]
  unfold jS
  rw[ob]
  refine NU ?_ (CO hi hD hK hc bs (j+1) sq (by omega) hsq fun x hx=>hb x (by simp[hx]))
  rw[BR,ob,kP (by simp;omega),ob]
  refine CO hi hD hK hc bs (j+1) _ (by simp;omega) (fun r hr=>?_) fun x hx=>hb x (by simp[hx])
  rcases List.mem_append.1 hr with hr|hr
  ·exact hsq r hr
  ·rw[List.mem_singleton] at hr
   subst hr
   exact hb b (by simp)
theorem Gq{B:dD}(hb:B.Art.Bores.length≤500)(hbs:∀b∈B.Art.Bores,vW (G8 b)):∀(cs:List (List au)) (i:Nat) (ds:List (List aQ)) (ps:List eQ) (g:Bool),i+cs.length≤16→(∀c∈cs,dB c=0)→Kv i ds ps g→
  ∃r,dx N B cs i ds ps g=some r∧∃g',Kv (i+cs.length) r.2.1 r.2.2 g'∧r.1=(g'&&decide ((r.2.2.length:Int)≤2000))
 |[],i,ds,ps,g,_,_,hD=>⟨_,rfl,g,hD,rfl⟩
 |c::cs,i,ds,ps,g,hl,hc,hD=>by
  simp only[List.length_cons] at hl
  rw[dx.eq_2]
  refine CO hN (by omega) hD (fun ds' ps' g' hD'=>?_) (hc c (by simp)) B.Art.Bores 0 [] (by simpa using hb) (fun r hr=>by cases hr) hbs
  have:=Gq hb hbs cs (i+1) ds' ps' g' (by omega) (fun x hx=>hc x (by simp[hx])) hD'
  rw[List.length_cons,←Nat.add_assoc,Nat.add_right_comm]
  exact this
theorem Ms{B:dD}(hb:B.Art.Bores.length≤500)(hbs:∀b∈B.Art.Bores,vW (G8 b))(hl:B.Art.Coppers.length≤16)(hc:∀c∈B.Art.Coppers,dB c=0)(h1:B.Drilled=[])(h2:B.Pieces=[]):
  ∃r,kK N B=some r∧(r.1=true→r.2.2.length≤2000∧(∀p∈r.2.2,Km p∧p.Rects.length≤2000)∧r.2.2.Pairwise fun p q=>p.Layer≤q.Layer):=by
 obtain⟨r,e,g,hD,hr⟩:=Gq hN hb hbs B.Art.Coppers 0 [] [] true (by omega) hc ⟨rfl,by simp,by simp,by simp,.nil⟩
 refine⟨r,?_,fun h=>?_⟩
 ·unfold kK
  rw[h1,h2];exact e
 ·rw[hr] at h
  simp only[Bool.and_eq_true,decide_eq_true_eq] at h
  exact⟨by omega,fun p hp=>⟨(hD.ok p hp).1,hD.few h.1 p hp⟩,hD.ord⟩
end
theorem JF(l:List au)(b:gP):∃y,fO l (fun z0=>ja z0 b)=some y:=by
 unfold fO il
 exact⟨_,Ov (f:=fun z0=>ja z0 b) (fun _=>rfl) (fun _ _ _=>rfl) fun x _=>⟨_,rfl⟩⟩
def Pv(n:Nat)(l:List Int):Prop:=∀x∈l,∃k:Nat,x=(k:Int)∧k<n
theorem BO{out:List (List Int)}{K:List (List Int)→Option (List (List Int))}{Q:List (List Int)→Prop}{b:gP}{n:Nat}(hn:n≤2000)(ho:out.length≤500)(hK:∀t,Pv n t→∃r,K (out++[t])=some r∧Q r):∀(ps:List eQ) (i:Nat) (acc:List Int),i+ps.length=n→acc.length≤i→Pv n acc→
  ∃r,dV out K b ps i acc=some r∧Q r
 |[],i,acc,_,hl,ha=>by
  rw[dV.eq_1,kP (by simp;omega),ob]
  exact hK acc ha
 | p::ps,i,acc,h,hl,ha=>by
  simp only[List.length_cons] at h
  obtain⟨y,hy⟩:=JF p.Rects b
  rw[dV.eq_2]
  unfold jS
  rw[hy]
  simp only[ob]
  have e1:∀(a c:Bool),(if a=true then some c else some false)=some (a&&c):=Rb
  rw[e1,ob,e1,ob]
  refine NU ?_ (BO hn ho hK ps (i+1) acc (by omega) (by omega) ha)
  rw[kP (by simp;omega),ob]
  refine BO hn ho hK ps (i+1) _ (by omega) (by simp;omega) fun x hx=>?_
  rcases List.mem_append.1 hx with hx|hx
  ·exact ha x hx
  ·rw[List.mem_singleton] at hx
   exact⟨i,hx,by omega⟩
theorem Fg{B:dD}{n:Nat}(hn:B.Pieces.length=n)(hn2:n≤2000):∀(bs:List gP) (i:Nat) (out:List (List Int)),out.length+bs.length≤500→(∀t∈out,Pv n t)→
  ∃r,dW B bs i out=some r∧r.length=out.length+bs.length∧∀t∈r,Pv n t
 |[],i,out,_,h=>⟨out,rfl,by simp,h⟩
 | b::bs,i,out,hl,h=>by
  simp only[List.length_cons] at hl
  rw[dW.eq_2]
  refine BO hn2 (by omega) (fun t ht=>?_) B.Pieces 0 [] (by omega) (by simp) fun x hx=>by cases hx
  obtain⟨r,r1,r2,r3⟩:=Fg hn hn2 bs (i+1) (out++[t]) (by simp;omega) fun u hu=>by
   rcases List.mem_append.1 hu with hu|hu
   ·exact h u hu
   ·rw[List.mem_singleton] at hu;subst hu;exact ht
  exact⟨r,r1,by rw[r2];simp;omega,r3⟩
theorem KX{B:dD}(hn:B.Pieces.length≤2000)(hb:B.Art.Bores.length≤500)(h0:B.Touched=[]):∃r,kJ B=some r∧r.length=B.Art.Bores.length∧∀t∈r,Pv B.Pieces.length t:=by
 obtain⟨r,r1,r2,r3⟩:=Fg (B:=B) rfl hn B.Art.Bores 0 [] (by simpa using hb) fun t ht=>by cases ht
 unfold kJ
 rw[h0]
 exact⟨r,r1,by simpa using r2,r3⟩
theorem QG:∀(m:Nat) (u:List Int) (x:Int),fU m u x=fe m u x
 |0,_,_=>rfl
 |m+1,u,x=>by unfold fU fe;simp only[QG m]
theorem Ey{N:Nat}{u:List Int}{ρ:Nat→Nat}{i:Nat}(hN:u.length≤N)(h:yI u ρ)(hi:i<u.length):∃u',jR N ⟨u⟩ (i:Int)=some ((ρ i:Int),u')∧yI u' ρ∧u'.length=u.length:=by
 obtain⟨u',h1,h2⟩:=Ex hN h hi
 exact⟨u',by show fU N u (i:Int)=_;rw[QG];exact h1,h2⟩
theorem PT{u:List Int}(h:∀i,i<u.length→u[i]?=some (i:Int)):yI u id:=fun i hi=>⟨i,h i hi,Nat.le_refl _,Nat.le_refl _,rfl,fun _=>rfl⟩
theorem IZ:∀(l:List Int) (i:Nat) (u:List Int),i+l.length=u.length→(∀j,j<i→u[j]?=some (j:Int))→∃v,gY l i u=some ⟨v⟩∧v.length=u.length∧yI v id
 |[],i,u,h,hu=>⟨u,rfl,rfl,PT fun j hj=>hu j (by simp at h;omega)⟩
 | x::l,i,u,h,hu=>by
  simp only[List.length_cons] at h
  rw[gY.eq_2,qw,List.getElem?_eq_getElem (by omega),ob,xc _ (by omega),ob]
  obtain⟨v,h1,h2,h3⟩:=IZ l (i+1) (u.set i (i:Int)) (by rw[List.length_set];omega) fun j hj=>by
   by_cases e:i=j
   ·subst e;rw[List.getElem?_set_self (by omega)]
   ·rw[List.getElem?_set_ne e];exact hu j (by omega)
  exact⟨v,h1,by rw[h2,List.length_set],h3⟩
theorem NI{n:Nat}(hn:n≤1000000):∃v,ma (n:Int)=some ⟨v⟩∧v.length=n∧yI v id:=by
 have hm:I1 (0:Int) (n:Int)=some (List.replicate n 0):=by
  unfold I1
  rw[if_pos (by omega),Int.toNat_natCast]
 obtain⟨v,h1,h2,h3⟩:=IZ (List.replicate n 0) 0 (List.replicate n 0) (by simp) fun j hj=>by omega
 unfold ma
 rw[hm]
 exact⟨v,h1,by simpa using h2,h3⟩
theorem OJ{N:Nat}{u:List Int}{ρ:Nat→Nat}{i j:Nat}(hN:u.length≤N)(h:yI u ρ)(hi:i<u.length)(hj:j<u.length):∃u' ρ',kH N ⟨u⟩ (i:Int) (j:Int)=some u'∧yI u' ρ'∧u'.length=u.length:=by
 obtain⟨u1,a1,a2,a3⟩:=Ey hN h hi
 obtain⟨u2,b1,b2,b3⟩:=Ey (N:=N) (by omega) a2 (i:=j) (by omega)
 have hri:=h.le hi
 have hrj:=h.le hj
 have e1:max (ρ i:Int) (ρ j:Int)=((max (ρ i) (ρ j):Nat):Int):=by omega
 have e2:min (ρ i:Int) (ρ j:Int)=((min (ρ i) (ρ j):Nat):Int):=by omega
 unfold kH
 have hlt:max (ρ i) (ρ j)<u2.length:=by omega
 rw[a1,ob,b1,ob]
 dsimp only
 rw[e1,e2,qw,List.getElem?_eq_getElem hlt,ob,xc _ hlt,ob]
 exact⟨_,_,rfl,b2.join (by omega) (by omega) (h.H6 hi) (h.H6 hj),by rw[List.length_set];omega⟩
theorem Bf{α:Type}(x:α):∀{L:List (List α)} {g:Nat} {l:List α},L[g]?=some l→(L.set g (l++[x])).flatten.Perm (L.flatten++[x])
 |[],_,_,h=>by simp at h
 |a::L,0,l,h=>by
  simp at h;subst h
  simp only[List.set_cons_zero,List.flatten_cons,List.append_assoc]
  exact List.Perm.append_left _ (List.perm_append_comm (l₁:=[x]))
 |a::L,g+1,l,h=>by
  simp at h
  simp only[List.set_cons_succ,List.flatten_cons,List.append_assoc]
  exact List.Perm.append_left _ (Bf x h)
theorem AX{α:Type}:∀{L:List (List α)} {g:Nat} {l:List α},L[g]?=some l→l.length≤L.flatten.length
 |[],_,_,h=>by simp at h
 |a::L,0,l,h=>by simp at h;subst h;simp
 |a::L,g+1,l,h=>by
  simp at h
  have:=AX h
  rw[List.flatten_cons,List.length_append];omega
structure RF (ρ:Nat→Nat) (i:Nat) (L:List (List Int)) (m:List (Int×Int)):Prop where
 perm:L.flatten.Perm ((List.range i).map fun k:Nat=>(k:Int))
 len:L.length≤i
 map:∀r,r<i→ρ r=r→∃g:Nat,wJ m (r:Int)=some (g:Int)∧g<L.length
theorem Hq(i:Nat):(List.range (i+1)).map (fun k:Nat=>(k:Int))=(List.range i).map (fun k:Nat=>(k:Int))++[(i:Int)]:=by rw[List.range_succ,List.map_append];rfl
theorem II{ρ:Nat→Nat}{i:Nat}(hi:i≤1000000){L:List (List Int)}{m:List (Int×Int)}{y:Int×List Int}{K:List (List Int)→List (Int×Int)→List Int→Option (List (List Int)×List Int)}{Q:List (List Int)×List Int→Prop}
  (hp:L.flatten.Perm ((List.range i).map fun k:Nat=>(k:Int))) (hl:L.length≤i+1) (hm:∀r,r<i+1→ρ r=r→∃g:Nat,wJ m (r:Int)=some (g:Int)∧g<L.length) {t:Nat} (ht:t≤i) (ht2:ρ t=t) (hy:y.1=(t:Int)) (hK:∀L',RF ρ (i+1) L' m→∃r,K L' m y.2=some r∧Q r):
  ∃r,gT K i y L m=some r∧Q r:=by
 obtain⟨g,h1,h2⟩:=hm t (by omega) ht2
 have hz:F6 m (t:Int)=some (g:Int):=by
  unfold F6
  rw[zF (by omega),if_pos rfl,h1];rfl
 obtain⟨l,hlg⟩:∃l,L[g]?=some l:=⟨_,List.getElem?_eq_getElem h2⟩
 have hll:=AX hlg
 have hpl:=hp.length_eq
 simp only[List.length_map,List.length_range] at hpl
 unfold gT
 rw[hy,hz,ob,qw,hlg,ob,kP (by simp;omega),ob,xc _ h2,ob]
 refine hK _ ⟨?_,by rw[List.length_set];exact hl,fun r hr hr2=>?_⟩
 ·rw[Hq]
  exact(Bf _ hlg).trans (List.Perm.append_right _ hp)
 ·rw[List.length_set];exact hm r hr hr2
theorem EB{N:Nat}{ρ:Nat→Nat}{n:Nat}(hn:n≤1000000)(hN:n≤N):∀(l:List Int) (i:Nat) (L:List (List Int)) (m:List (Int×Int)) (u:List Int),i+l.length=n→u.length=n→yI u ρ→RF ρ i L m→
  ∃r,dJ N l i L m u=some r∧(r.1.length≤n∧r.1.flatten.Perm ((List.range n).map fun k:Nat=>(k:Int)))
 |[],i,L,m,u,h,_,_,hS=>by
  have e:i=n:=by simpa using h
  subst e
  exact⟨_,rfl,hS.len,hS.perm⟩
 | x::l,i,L,m,u,h,hu,hR,hS=>by
  simp only[List.length_cons] at h
  obtain⟨u',a1,a2,a3⟩:=Ey (N:=N) (by omega) hR (i:=i) (by omega)
  have hle:=hR.le (i:=i) (by omega)
  have hid:=hR.H6 (i:=i) (by omega)
  have hsl:=hS.len
  rw[dJ.eq_2,a1,ob]
  by_cases e:ρ i=i
  ·rw[if_pos (by rw[e];simp)]
   unfold Cu
   rw[zF (by omega),if_pos rfl,ob,kP (by simp;omega),ob]
   refine II (ρ:=ρ) (t:=ρ i) (by omega) (by simpa using hS.perm) (by simp;omega) (fun r hr hr2=>?_) hle hid rfl fun L' hL'=>EB hn hN l (i+1) L' _ u' (by omega) (by omega) a2 hL'
   rw[Cv]
   by_cases er:(r:Int)=(i:Int)
   ·rw[if_pos er];exact⟨L.length,rfl,by simp⟩
   ·rw[if_neg er]
    obtain⟨g,g1,g2⟩:=hS.map r (by omega) hr2
    exact⟨g,g1,by simp;omega⟩
  ·rw[if_neg (by simp;omega)]
   refine II (ρ:=ρ) (t:=ρ i) (by omega) hS.perm (by omega) (fun r hr hr2=>?_) hle hid rfl fun L' hL'=>EB hn hN l (i+1) L' _ u' (by omega) (by omega) a2 hL'
   have:r≠i:=fun er=>e (by rw[←er];exact hr2)
   exact hS.map r (by omega) hr2
theorem OD{N:Nat}{u:List Int}{ρ:Nat→Nat}(hn:u.length≤1000000)(hN:u.length≤N)(h:yI u ρ):∃r,mq N ⟨u⟩=some r∧(r.1.length≤u.length∧r.1.flatten.Perm ((List.range u.length).map fun k:Nat=>(k:Int))):=
 EB hn hN u 0 [] [] u (by omega) rfl h ⟨by simp,by simp,fun r hr=>by omega⟩
theorem xE(l:List au)(p:fC):∃b,kr l p=some b:=by
 unfold kr fO il
 rw[Ov (f:=fun z0=>lG z0 p) (fun _=>rfl) (fun _ _ _=>rfl) fun x _=>⟨_,rfl⟩]
 exact⟨_,rfl⟩
def M9(bl:List gP)(n:Nat)(r:oC×Bool):Prop:=r.2=true→(r.1.Bore=true∧∃(b:Nat) (bo:gP),r.1.Number=(b:Int)∧bl[b]?=some bo∧bo.Plated=true)∨(r.1.Bore=false∧∃i:Nat,r.1.Number=(i:Int)∧i<n)
theorem L9{bl:List gP}{n:Nat}(x:pG):∀(l:List eQ) (i:Nat),i+l.length=n→∃r,fJ x l i=some r∧M9 bl n r
 |[],_,_=>⟨_,rfl,fun h=>by cases h⟩
 |p::l,i,h=>by
  simp only[List.length_cons] at h
  obtain⟨b,hb⟩:=xE p.Rects x.At
  rw[fJ.eq_2,hb,ob,Rb,ob]
  exact NU ⟨_,rfl,fun _=>.inr ⟨rfl,i,rfl,by omega⟩⟩ (L9 x l (i+1) (by omega))
theorem Ma(B:dD)(x:pG):∀(suf ps:List gP),B.Art.Bores=ps++suf→∃r,eT B x suf ps.length=some r∧M9 B.Art.Bores B.Pieces.length r
 |[],_,_=>L9 x B.Pieces 0 (by omega)
 | b::suf,ps,h=>by
  have ih:=Ma B x suf (ps++[b]) (by rw[h];simp)
  rw[List.length_append] at ih
  obtain⟨y,hy⟩:=xE [G8 b] x.At
  rw[eT.eq_2]
  unfold jS
  rw[ob,Rb,ob]
  cases hp:b.Plated
  ·exact ih
  ·refine NU ?_ ih
   rw[BR,ob,hy,ob]
   exact NU ⟨_,rfl,fun _=>.inl ⟨rfl,ps.length,b,rfl,by rw[h];simp,hp⟩⟩ ih
theorem Mc(B:dD)(x:pG):∃r,mr B x=some r∧M9 B.Art.Bores B.Pieces.length r:=Ma B x B.Art.Bores [] rfl
structure GInv (n:Nat) (bl:List gP) (Gs:List dz) (OP OB:List Int):Prop where
 at_:∀i:Nat,i<n→∃g:Nat,OP[i]?=some (g:Int)∧∃G,Gs[g]?=some G∧(i:Int)∈G.Pieces
 only:∀(g:Nat) (G:dz),Gs[g]?=some G→∀x∈G.Pieces,∃i:Nat,x=(i:Int)∧i<n∧OP[i]?=some (g:Int)
 bore:∀(b:Nat) (bo:gP),bl[b]?=some bo→bo.Plated=true→∃g:Nat,OB[b]?=some (g:Int)∧g<Gs.length
 len:Gs.length≤1000000
theorem GInv.set{n:Nat}{bl:List gP}{Gs:List dz}{OP OB:List Int}(h:GInv n bl Gs OP OB){g:Nat}{x:dz}(hx:Gs[g]?=some x)(q:List wK):GInv n bl (Gs.set g ⟨x.Pieces,x.Bores,q⟩) OP OB:=by
 have hg:g<Gs.length:=(List.getElem?_eq_some_iff.1 hx).1
 refine⟨fun i hi=>?_,fun g' G hG y hy=>?_,fun b bo hb hp=>?_,by rw[List.length_set];exact h.len⟩
 ·obtain⟨g',h1,G,h2,h3⟩:=h.at_ i hi
  refine⟨g',h1,?_⟩
  by_cases e:g=g'
  ·subst e
   rw[hx] at h2
   obtain rfl:=Option.some.inj h2
   exact⟨_,List.getElem?_set_self hg,h3⟩
  ·exact⟨G,by rw[List.getElem?_set_ne e];exact h2,h3⟩
 ·by_cases e:g=g'
  ·subst e
   rw[List.getElem?_set_self hg] at hG
   obtain rfl:=Option.some.inj hG
   exact h.only g x hx y hy
  ·rw[List.getElem?_set_ne e] at hG
   exact h.only g' G hG y hy
 ·rw[List.length_set]
  exact h.bore b bo hb hp
def Dk(B:dD)(r:List dz×List Int×List Int×List Int×List oC):Prop:=GInv B.Pieces.length B.Art.Bores r.1 r.2.1 r.2.2.1
theorem I6{B:dD}{OP OB:List Int}:∀(l:List pG) (i:Nat) (Gs:List dz) (ol:List Int) (al:List oC),i+l.length≤1000→ol.length=i→al.length=i→(∀G∈Gs,G.Pins.length≤i)→GInv B.Pieces.length B.Art.Bores Gs OP OB→
  ∃r,cK B OP OB l i Gs ol al=some r∧Dk B r
 |[],_,_,_,_,_,_,_,_,hG=>⟨_,rfl,hG⟩
 | x ::l,i,Gs,ol,al,hl,h1,h2,hp,hG=>by
  simp only[List.length_cons] at hl
  obtain⟨r,hr,hr'⟩:=Mc (dD.mk B.Art B.Drilled B.Pieces B.Touched Gs OP OB ol al) x
  have hJ:∀(Gs':List dz) (z:Int),(∀G∈Gs',G.Pins.length≤i+1)→GInv B.Pieces.length B.Art.Bores Gs' OP OB→∃r',fH ol al (cK B OP OB l (i+1)) r Gs' z=some r'∧Dk B r':=fun Gs' z k1 k2=>by
   unfold fH
   rw[kP (by simp;omega),ob,kP (by simp;omega),ob]
   exact I6 l (i+1) Gs' _ _ (by omega) (by simp;omega) (by simp;omega) k1 k2
  rw[cK.eq_2,hr,ob]
  by_cases h:r.2=true
  ·rw[if_pos h]
   have hg:∃g:Nat,je (dD.mk B.Art B.Drilled B.Pieces B.Touched Gs OP OB ol al) r.1=some (g:Int)∧g<Gs.length:=by
    unfold je
    rcases hr' h with⟨e,b,bo,k1,k2,k3⟩|⟨e,j,k1,k2⟩
    ·obtain⟨g,g1,g2⟩:=hG.bore b bo k2 k3
     rw[if_pos e,k1,qw]
     exact⟨g,by dsimp only;rw[g1];rfl,g2⟩
    ·obtain⟨g,g1,G,g2,_⟩:=hG.at_ j k2
     rw[if_neg (by simp[e]),k1,qw]
     exact⟨g,by dsimp only;rw[g1];rfl,(List.getElem?_eq_some_iff.1 g2).1⟩
   obtain⟨g,g1,g2⟩:=hg
   obtain⟨G,hGg⟩:∃G,Gs[g]?=some G:=⟨_,List.getElem?_eq_getElem g2⟩
   have hpG:=hp G (List.mem_of_getElem? hGg)
   rw[g1,ob,qw,hGg,ob,show ku x=some ⟨x.Part,x.Pin⟩ from rfl,ob,kP (by simp;omega),ob,Int.toNat_natCast]
   refine hJ _ _ (fun G' hG'=>?_) (hG.set hGg _)
   rcases List.mem_or_eq_of_mem_set hG' with h'|h'
   ·have:=hp G' h';omega
   ·subst h';simp;omega
  ·rw[if_neg h]
   exact hJ _ _ (fun G hG'=>by have:=hp G hG';omega) hG
structure OM (n:Nat) (bl:List gP) (done:List Int) (Gs:List dz) (OP OB:List Int):Prop where
 lp:OP.length=n
 lb:OB.length=bl.length
 gl:Gs.length≤done.length
 pins:∀G∈Gs,G.Pins.length≤0
 at_:∀i:Nat,i<n→(i:Int)∈done→∃g:Nat,OP[i]?=some (g:Int)∧∃G,Gs[g]?=some G∧(i:Int)∈G.Pieces
 only:∀(g:Nat) (G:dz),Gs[g]?=some G→∀x∈G.Pieces,∃i:Nat,x=(i:Int)∧i<n∧(i:Int)∈done∧OP[i]?=some (g:Int)
 bore:∀(b:Nat) (bo:gP),bl[b]?=some bo→bo.Plated=true→((n+b:Nat):Int)∈done→∃g:Nat,OB[b]?=some (g:Int)∧g<Gs.length
structure SC (n:Nat) (bl:List gP) (k:Nat) (s:List Int) (OP OB ps bs:List Int):Prop where
 pl:ps.length≤s.length
 bsl:bs.length≤s.length
 pcs:∀x∈ps,∃i:Nat,x=(i:Int)∧i<n∧(i:Int)∈s∧OP[i]?=some (k:Int)
 cov:∀i:Nat,i<n→(i:Int)∈s→OP[i]?=some (k:Int)∧(i:Int)∈ps
 bore:∀(b:Nat) (bo:gP),bl[b]?=some bo→bo.Plated=true→((n+b:Nat):Int)∈s→OB[b]?=some (k:Int)∧bs≠[]
theorem Ns{α:Type}{l:List α}{i j:Nat}{x y:α}(hj:l[j]?=some y)(hi:i<l.length):(l.set i x)[j]?=some (if i=j then x else y):=by
 by_cases e:i=j
 ·subst e;rw[List.getElem?_set_self hi,if_pos rfl]
 ·rw[List.getElem?_set_ne e,hj,if_neg e]
theorem Ef{B:dD}{n:Nat}(hn:B.Pieces.length=n)(hn2:n≤2000)(hb:B.Art.Bores.length≤500){done:List Int}{Gs:List dz}{K:List dz→List Int→List Int→Option (List dz×List Int×List Int×List Int×List oC)}{all:List Int}(hal:all.length≤1000000)(hdl:done.length≤1000000)
  (hnew:∀x∈all,x∉done) (hrg:∀x∈all,∃k:Nat,x=(k:Int)∧k<n+B.Art.Bores.length) (hK:∀Gs' OP' OB',OM n B.Art.Bores (done++all) Gs' OP' OB'→∃r,K Gs' OP' OB'=some r∧Dk B r):
  ∀(suf s:List Int) (j:Nat) (OP OB ps bs:List Int),all=s++suf→OM n B.Art.Bores done Gs OP OB→SC n B.Art.Bores Gs.length s OP OB ps bs→∃r,cZ B Gs K suf j OP OB ps bs=some r∧Dk B r
 | [],s,j,OP,OB,ps,bs,e,hC,hL=>by
  rw[List.append_nil] at e
  have hpl:=hL.pl
  have hbl:=hL.bsl
  have hgl:=hC.gl
  have hal':s.length≤1000000:=by rw[←e];exact hal
  rw[cZ.eq_1,eG (by omega) (by omega)]
  by_cases h:(0:Int)<(ps.length:Int)+(bs.length:Int)
  ·rw [if_pos (by simpa using h),kP (by simp;omega),ob]
   have hs1:1≤s.length:=by omega
   refine hK _ _ _ ⟨hC.lp,hC.lb,by rw[e];simp;omega,fun G hG=>?_,fun i hi hd=>?_,fun g G hG x hx=>?_,fun b bo hbo hp hd=>?_⟩
   ·rcases List.mem_append.1 hG with hG|hG
    ·exact hC.pins G hG
    ·rw[List.mem_singleton] at hG;subst hG;exact Nat.le_refl _
   ·rcases List.mem_append.1 hd with hd|hd
    ·obtain⟨g,h1,G,h2,h3⟩:=hC.at_ i hi hd
     exact⟨g,h1,G,by rw[List.getElem?_append_left (List.getElem?_eq_some_iff.1 h2).1];exact h2,h3⟩
    ·obtain⟨h1,h2⟩:=hL.cov i hi (by rw[←e];exact hd)
     exact⟨Gs.length,h1,⟨ps,bs,[]⟩,by simp,h2⟩
   ·by_cases hg:g<Gs.length
    ·rw[List.getElem?_append_left hg] at hG
     obtain⟨i,h1,h2,h3,h4⟩:=hC.only g G hG x hx
     exact⟨i,h1,h2,List.mem_append_left _ h3,h4⟩
    ·have hg':g=Gs.length:=by
      have:=(List.getElem?_eq_some_iff.1 hG).1
      simp at this;omega
     subst hg'
     rw[List.getElem?_append_right (Nat.le_refl _),Nat.sub_self] at hG
     simp at hG
     subst hG
     obtain⟨i,h1,h2,h3,h4⟩:=hL.pcs x hx
     exact⟨i,h1,h2,List.mem_append_right _ (by rw[e];exact h3),h4⟩
   ·rcases List.mem_append.1 hd with hd|hd
    ·obtain⟨g,h1,h2⟩:=hC.bore b bo hbo hp hd
     exact⟨g,h1,by simp;omega⟩
    ·obtain⟨h1,_⟩:=hL.bore b bo hbo hp (by rw[←e];exact hd)
     exact⟨Gs.length,h1,by simp⟩
  ·rw[if_neg (by simpa using h)]
   have hp0:ps=[]:=List.eq_nil_of_length_eq_zero (by omega)
   have hb0:bs=[]:=List.eq_nil_of_length_eq_zero (by omega)
   refine hK _ _ _ ⟨hC.lp,hC.lb,by rw[e];simp;omega,hC.pins,fun i hi hd=>?_,fun g G hG x hx=>?_,fun b bo hbo hp hd=>?_⟩
   ·rcases List.mem_append.1 hd with hd|hd
    ·exact hC.at_ i hi hd
    ·obtain⟨_,h2⟩:=hL.cov i hi (by rw[←e];exact hd)
     rw[hp0] at h2;cases h2
   ·obtain⟨i,h1,h2,h3,h4⟩:=hC.only g G hG x hx
    exact⟨i,h1,h2,List.mem_append_left _ h3,h4⟩
   ·rcases List.mem_append.1 hd with hd|hd
    ·exact hC.bore b bo hbo hp hd
    ·exact absurd hb0 (hL.bore b bo hbo hp (by rw[←e];exact hd)).2
 | x ::suf,s,j,OP,OB,ps,bs,e,hC,hL=>by
  have hx:x∈all:=by rw[e];simp
  obtain⟨k,rfl,hk⟩:=hrg x hx
  have hnd:=hnew _ hx
  have hlp:=hC.lp
  have hlb:=hC.lb
  have hpl:=hL.pl
  have hbl:=hL.bsl
  have hsl:s.length+1≤1000000:=by have:=congrArg List.length e;simp at this;omega
  have ih:=Ef (Gs:=Gs) hn hn2 hb hal hdl hnew hrg hK suf (s++[(k:Int)]) (j+1)
  rw[cZ.eq_2,hn]
  by_cases hkn:k<n
  ·rw [if_pos (by simpa using hkn),qw,List.getElem?_eq_getElem (by omega),ob,xc _ (by omega),ob,kP (by simp;omega),ob]
   refine ih _ _ _ _ (by rw[e];simp) ⟨by rw[List.length_set];exact hlp,hlb,hC.gl,hC.pins,fun i hi hd=>?_,fun g G hG y hy=>?_,hC.bore⟩ ⟨by simp;omega,by simp;omega,fun y hy=>?_,fun i hi hd=>?_,fun b bo hbo hp hd=>?_⟩
   ·obtain⟨g,h1,h2⟩:=hC.at_ i hi hd
    have hne:k≠i:=fun e=>hnd (by rw[e];exact hd)
    exact⟨g,by rw[List.getElem?_set_ne hne];exact h1,h2⟩
   ·obtain⟨i,h1,h2,h3,h4⟩:=hC.only g G hG y hy
    have hne:k≠i:=fun e=>hnd (by rw[e];exact h3)
    exact⟨i,h1,h2,h3,by rw[List.getElem?_set_ne hne];exact h4⟩
   ·rcases List.mem_append.1 hy with hy|hy
    ·obtain⟨i,h1,h2,h3,h4⟩:=hL.pcs y hy
     exact⟨i,h1,h2,List.mem_append_left _ h3,by rw[Ns h4 (by omega)];simp⟩
    ·rw[List.mem_singleton] at hy
     exact⟨k,hy,hkn,by simp,List.getElem?_set_self (by omega)⟩
   ·by_cases hik:k=i
    ·subst hik
     exact⟨List.getElem?_set_self (by omega),by simp⟩
    ·rcases List.mem_append.1 hd with hd|hd
     ·obtain⟨h1,h2⟩:=hL.cov i hi hd
      exact⟨by rw[List.getElem?_set_ne hik];exact h1,List.mem_append_left _ h2⟩
     ·rw[List.mem_singleton] at hd;omega
   ·rcases List.mem_append.1 hd with hd|hd
    ·exact hL.bore b bo hbo hp hd
    ·rw[List.mem_singleton] at hd;omega
  ·have ek:bJ ((k:Int)-(n:Int))=((k-n:Nat):Int):=by rw[eG (by omega) (by omega)];omega
   have hkb:k-n<B.Art.Bores.length:=by omega
   obtain⟨bo,hbo⟩:∃bo,B.Art.Bores[k-n]?=some bo:=⟨_,List.getElem?_eq_getElem hkb⟩
   rw[if_neg (by simp;omega),ek,qw,hbo,ob]
   have hbC:∀v:Int,OM n B.Art.Bores done Gs OP (OB.set (k-n) v):=fun v=>⟨hlp,by rw[List.length_set];exact hlb,hC.gl,hC.pins,hC.at_,hC.only,fun b bo' h1 h2 h3=>by
    obtain⟨g,g1,g2⟩:=hC.bore b bo' h1 h2 h3
    have hne:k-n≠b:=fun e=>hnd (by rw[show k=n+b by omega];exact h3)
    exact⟨g,by rw[List.getElem?_set_ne hne];exact g1,g2⟩⟩
   by_cases hp:bo.Plated=true
   ·rw[if_pos hp,qw,List.getElem?_eq_getElem (by omega),ob,xc _ (by omega),ob,kP (by simp;omega),ob]
    refine ih _ _ _ _ (by rw[e];simp) (hbC _) ⟨by simp;omega,by simp;omega,fun y hy=>?_,fun i hi hd=>?_,fun b bo' h1 h2 hd=>?_⟩
    ·obtain⟨i,h1,h2,h3,h4⟩:=hL.pcs y hy
     exact⟨i,h1,h2,List.mem_append_left _ h3,h4⟩
    ·rcases List.mem_append.1 hd with hd|hd
     ·exact hL.cov i hi hd
     ·rw[List.mem_singleton] at hd;omega
    ·refine⟨?_,by simp⟩
     by_cases hbk:k-n=b
     ·subst hbk;exact List.getElem?_set_self (by omega)
     ·rw[List.getElem?_set_ne hbk]
      rcases List.mem_append.1 hd with hd|hd
      ·exact(hL.bore b bo' h1 h2 hd).1
      ·rw[List.mem_singleton] at hd;omega
   ·rw[if_neg hp,qw,List.getElem?_eq_getElem (by omega),ob,xc _ (by omega),ob]
    refine ih _ _ _ _ (by rw[e];simp) (hbC _) ⟨by simp;omega,by simp;omega,fun y hy=>?_,fun i hi hd=>?_,fun b bo' h1 h2 hd=>?_⟩
    ·obtain⟨i,h1,h2,h3,h4⟩:=hL.pcs y hy
     exact⟨i,h1,h2,List.mem_append_left _ h3,h4⟩
    ·rcases List.mem_append.1 hd with hd|hd
     ·exact hL.cov i hi hd
     ·rw[List.mem_singleton] at hd;omega
    ·by_cases hbk:k-n=b
     ·subst hbk
      rw[hbo] at h1
      obtain rfl:=Option.some.inj h1
      exact absurd h2 hp
     ·rw[List.getElem?_set_ne hbk]
      rcases List.mem_append.1 hd with hd|hd
      ·exact hL.bore b bo' h1 h2 hd
      ·rw[List.mem_singleton] at hd;omega
theorem Gt{B:dD}{n:Nat}(hn:B.Pieces.length=n)(hn2:n≤2000)(hb:B.Art.Bores.length≤500)(hlands:B.Art.Lands.length≤1000)(hol:B.OfLand=[])(hat:B.AtLand=[]){L:List (List Int)}(hp:L.flatten.Perm ((List.range (n+B.Art.Bores.length)).map fun k:Nat=>(k:Int))):
  ∀(suf ps:List (List Int)) (j:Nat) (Gs:List dz) (OP OB:List Int),L=ps++suf→OM n B.Art.Bores ps.flatten Gs OP OB→∃r,dm B suf j Gs OP OB=some r∧Dk B r
 | [],ps,j,Gs,OP,OB,e,hC=>by
  rw[List.append_nil] at e
  have hall:∀k:Nat,k<n+B.Art.Bores.length→(k:Int)∈ps.flatten:=fun k hk=>by
   rw[←e]
   exact hp.mem_iff.2 (List.mem_map.2 ⟨k,List.mem_range.2 hk,rfl⟩)
  rw[dm.eq_1,hol,hat]
  refine I6 B.Art.Lands 0 Gs [] [] (by omega) rfl rfl hC.pins ?_
  rw[hn]
  have hgl:=hC.gl
  have hfl:=hp.length_eq
  simp only[List.length_map,List.length_range] at hfl
  refine⟨fun i hi=>hC.at_ i hi (hall i (by omega)),fun g G hG x hx=>?_,fun b bo hbo hp'=>hC.bore b bo hbo hp' (hall _ ?_),by rw[←e] at hgl;omega⟩
  ·obtain⟨i,h1,h2,_,h4⟩:=hC.only g G hG x hx
   exact⟨i,h1,h2,h4⟩
  ·have:=(List.getElem?_eq_some_iff.1 hbo).1
   omega
 | s::suf,ps,j,Gs,OP,OB,e,hC=>by
  have hlen:=hp.length_eq
  simp only[List.length_map,List.length_range] at hlen
  have hfl:L.flatten=ps.flatten++(s++suf.flatten):=by rw[e];simp
  have hll:ps.flatten.length+(s.length+suf.flatten.length)=n+B.Art.Bores.length:=by rw[←hlen,hfl];simp
  have hnd:L.flatten.Nodup:=hp.nodup_iff.2 (by
   unfold List.Nodup
   rw[List.pairwise_map]
   exact List.nodup_range.imp fun h e=>h (Int.ofNat.inj e))
  rw[hfl,List.nodup_append] at hnd
  rw[dm.eq_2]
  refine Ef hn hn2 hb (done:=ps.flatten) (all:=s) (by omega) (by omega) (fun x hx hd=>hnd.2.2 x hd x (List.mem_append_left _ hx) rfl) (fun x hx=>?_) (fun Gs' OP' OB' hC'=>Gt hn hn2 hb hlands hol hat hp suf (ps++[s]) (j+1) Gs' OP' OB' (by rw[e];simp) (by simpa using hC')) s [] 0 OP OB [] [] rfl hC ⟨Nat.le_refl _,Nat.le_refl _,by simp,by simp,by simp⟩
  have:x∈L.flatten:=by rw[hfl];simp[hx]
  obtain⟨k,hk,rfl⟩:=List.mem_map.1 (hp.mem_iff.1 this)
  exact⟨k,rfl,List.mem_range.1 hk⟩
theorem LG{n:Nat}(hn:n≤1000000):I1 (0:Int) (n:Int)=some (List.replicate n 0):=by
 unfold I1
 rw[if_pos (by omega),Int.toNat_natCast]
theorem F3{N:Nat}{B:dD}{T:Nat}(hT:T≤1000000)(hN:T≤N)(hTe:T=B.Pieces.length+B.Art.Bores.length){K:List Int→Option (List dz×List Int×List Int×List Int×List oC)}{Q:List dz×List Int×List Int×List Int×List oC→Prop}(hK:∀u ρ,u.length=T→yI u ρ→∃r,K u=some r∧Q r){i:Nat}(hi:i<B.Art.Bores.length):
  ∀(l:List Int) (j:Nat) (u:List Int) (ρ:Nat→Nat),Pv B.Pieces.length l→u.length=T→yI u ρ→∃r,eO N B K i l j u=some r∧Q r
 |[],_,u,ρ,_,hu,hr=>hK u ρ hu hr
 |x::l,j,u,ρ,hl,hu,hr=>by
  obtain⟨k,rfl,hk⟩:=hl x (by simp)
  have ew:bJ ((B.Pieces.length:Int)+(i:Int))=((B.Pieces.length+i:Nat):Int):=by rw[eG (by omega) (by omega)];omega
  obtain⟨u',ρ',h1,h2,h3⟩:=OJ (N:=N) (by omega) hr (i:=k) (j:=B.Pieces.length+i) (by omega) (by omega)
  rw[eO.eq_2,ew,h1,ob]
  exact F3 hT hN hTe hK hi l (j+1) u' ρ' (fun y hy=>hl y (by simp[hy])) (by omega) h2
theorem CP{N:Nat}(hN:1000000≤N){B:dD}(hn:B.Pieces.length≤2000)(hb:B.Art.Bores.length≤500)(hlands:B.Art.Lands.length≤1000)(hg:B.Groups=[])(hol:B.OfLand=[])(hat:B.AtLand=[]):
  ∀(l:List (List Int)) (i:Nat) (u:List Int) (ρ:Nat→Nat),i+l.length=B.Art.Bores.length→(∀t∈l,Pv B.Pieces.length t)→u.length=B.Pieces.length+B.Art.Bores.length→yI u ρ→∃r,dn N B l i u=some r∧Dk B r
 |[],i,u,ρ,_,_,hu,hr=>by
  obtain⟨S,s1,_,s3⟩:=OD (N:=N) (by omega) (by omega) hr
  rw[dn.eq_1,LG (by omega),ob,LG (by omega),ob,s1,ob,hg]
  refine Gt rfl hn hb hlands hol hat (L:=S.1) (by rw[←hu];exact s3) S.1 [] 0 [] _ _ rfl ⟨by simp,by simp,by simp,by simp,by simp,by simp,by simp⟩
 |t::l,i,u,ρ,hl,ht,hu,hr=>by
  simp only[List.length_cons] at hl
  rw[dn.eq_2]
  exact F3 (T:=B.Pieces.length+B.Art.Bores.length) (by omega) (by omega) rfl (fun u' ρ' h1 h2=>CP hN hn hb hlands hg hol hat l (i+1) u' ρ' (by omega) (fun t' ht'=>ht t' (by simp[ht'])) h1 h2) (by omega) t 0 u ρ (ht t (by simp)) hu hr
theorem Ie{N:Nat}(hN:1000000≤N){B:dD}(hn:B.Pieces.length≤2000)(hb:B.Art.Bores.length≤500)(hlands:B.Art.Lands.length≤1000)(hg:B.Groups=[])(hol:B.OfLand=[])(hat:B.AtLand=[])(ht:B.Touched.length=B.Art.Bores.length)(ht2:∀t∈B.Touched,Pv B.Pieces.length t):∃r,jW N B=some r∧Dk B r:=by
 have ew:bJ ((B.Pieces.length:Int)+(B.Art.Bores.length:Int))=((B.Pieces.length+B.Art.Bores.length:Nat):Int):=by rw[eG (by omega) (by omega)];omega
 obtain⟨u,h1,h2,h3⟩:=NI (n:=B.Pieces.length+B.Art.Bores.length) (by omega)
 unfold jW
 rw[ew,h1,ob]
 exact CP hN hn hb hlands hg hol hat B.Touched 0 u id (by omega) ht2 h2 h3
structure GU (B:dD):Prop where
 few:B.Pieces.length≤2000
 pcs:∀p∈B.Pieces,Km p∧p.Rects.length≤2000
 ord:B.Pieces.Pairwise fun p q=>p.Layer≤q.Layer
 grp:GInv B.Pieces.length B.Art.Bores B.Groups B.OfPiece B.OfBore
def Pn(r:Option dD×Int):Prop:=(∃e:Int,e≠0∧r=(none,e))∨∃B,r=(some B,0)∧GU B
theorem Pn.err{e:Int}(h:e≠0):Pn (none,e):=.inl ⟨e,h,rfl⟩
theorem IR{K:Option (Option dD×Int)}(hK:∃r,K=some r∧Pn r)(x:gP):∀(suf ps:List gP) (l:List gP),l=ps++suf→∃r,jV K x suf ps.length l=some r∧Pn r
 |[],_,_,_=>hK
 |y::suf,ps,l,h=>by
  have ih:=IR hK x suf (ps++[y]) l (by rw[h];simp)
  rw[List.length_append] at ih
  have hid:idx l (ps.length:Int)=some y:=by rw[h];exact mg ps suf y
  rw[jV.eq_2,hid,ob,BR,BR]
  unfold lN mF
  simp only[ob,Rb]
  exact NU ⟨_,rfl,.err (by decide)⟩ ih
section
variable {N:Nat} (hN:10000000000≤N) {a:nU}
include hN
theorem Lp(hb:a.Bores.length≤500)(hbs:∀b∈a.Bores,vW (G8 b))(hl:a.Coppers.length≤16)(hc:∀c∈a.Coppers,dB c=0)(hlands:a.Lands.length≤1000)(i:Nat):∃r,gF N a [] i=some r∧Pn r:=by
 obtain⟨d,d1,d2⟩:=Ms (B:=dD.mk a [] [] [] [] [] [] [] []) hN hb hbs hl hc rfl rfl
 rw[gF.eq_1,d1,ob]
 by_cases h:d.1=true
 ·obtain⟨h1,h2,h3⟩:=d2 h
  rw[if_neg (by rw[h];simp)]
  obtain⟨t,t1,t2,t3⟩:=KX (B:=dD.mk a d.2.1 d.2.2 [] [] [] [] [] []) h1 hb rfl
  rw[t1,ob]
  obtain⟨c,c1,c2⟩:=Ie (N:=N) (by omega) (B:=dD.mk a d.2.1 d.2.2 t [] [] [] [] []) h1 hb hlands rfl rfl rfl t2 t3
  rw[c1,ob]
  exact⟨_,rfl,.inr ⟨_,rfl,h1,h2,h3,c2⟩⟩
 ·rw[if_pos (by simpa using h)]
  exact⟨_,rfl,.err (by decide)⟩
theorem IU(hb:a.Bores.length≤500)(hbs:∀b∈a.Bores,vW (G8 b))(hl:a.Coppers.length≤16)(hc:∀c∈a.Coppers,dB c=0)(hlands:a.Lands.length≤1000):∀(suf ps:List gP),a.Bores=ps++suf→∃r,gF N a suf ps.length=some r∧Pn r
 |[],ps,_=>Lp hN hb hbs hl hc hlands ps.length
 | x::suf,ps,h=>by
  have ih:=IU hb hbs hl hc hlands suf (ps++[x]) (by rw[h];simp)
  rw[List.length_append] at ih
  have hp:pre a.Bores (ps.length:Int)=some (a.Bores.take ps.length):=by
   unfold pre
   rw[if_pos ⟨by omega,by rw[h];simp;omega⟩];simp
  rw[gF.eq_2,hp,ob]
  exact IR ih x _ [] _ rfl
theorem IV(hl:a.Coppers.length≤16)(hn:∀x∈a.Lands,Nm N x.Pin):∀(suf:List (List au)) (i:Nat) (z:Int),(∀c∈a.Coppers,c∈suf∨dB c=0)→∃r,jy N a suf i z=some r∧Pn r
 | [],i,z,hc=>by
  rw[jy.eq_1,oP hN,ob]
  by_cases h0:dB a.Outline=0
  ·rw[if_neg (by simpa using h0)]
   refine NU ⟨_,rfl,.err (by decide)⟩ ?_
   obtain⟨e1,h1,h1'⟩:=Dw hN a
   obtain⟨e2,h2,h2'⟩:=Dv hN hn
   rw[h1,ob]
   by_cases k1:e1=0
   ·rw[if_neg (by simpa using k1),h2,ob]
    by_cases k2:e2=0
    ·rw[if_neg (by simpa using k2)]
     exact IU hN (h1' k1).1 (h1' k1).2 hl (fun c hx=>(hc c hx).resolve_left (by simp)) (h2' k2) a.Bores [] rfl
    ·rw[if_pos (by simpa using k2)];exact⟨_,rfl,.err k2⟩
   ·rw[if_pos (by simpa using k1)];exact⟨_,rfl,.err k1⟩
  ·rw[if_pos (by simpa using h0)];exact⟨_,rfl,.err h0⟩
 | c::suf,i,z,hc=>by
  rw[jy.eq_2,oP hN,ob]
  by_cases h0:dB c=0
  ·rw[if_neg (by simpa using h0)]
   refine IV hl hn suf (i+1) _ fun x hx=>?_
   rcases hc x hx with h|h
   ·rcases List.mem_cons.1 h with rfl|h
    ·exact .inr h0
    ·exact .inl h
   ·exact .inr h
  ·rw[if_pos (by simpa using h0)];exact⟨_,rfl,.err h0⟩
theorem OE(hn:∀x∈a.Lands,Nm N x.Pin):∃r,jf N a=some r∧Pn r:=by
 unfold jf
 refine NU ⟨_,rfl,.err (by decide)⟩ ?_
 by_cases h:(16:Int)<(a.Coppers.length:Int)
 ·rw[if_pos (by simpa using h)];exact⟨_,rfl,.err (by decide)⟩
 ·rw[if_neg (by simpa using h)]
  exact IV hN (by omega) hn a.Coppers 0 _ fun c hc=>.inl hc
end
section
variable {N:Nat} {a:nU} {B:dD} (hO:jf N a=some (some B,0)) (hB:GU B)
include hO hB
omit hO hB in
theorem IE:∀(l:List eQ) (i:Nat) (out:List ig),(∀p∈l,Km p)→out.length+l.length≤4294967296→∃r,iK l i out=some (out++r,0)∧r.map (·.Layer)=l.map (·.Layer)
 |[],_,out,_,_=>⟨[],by rw[iK.eq_1];simp,rfl⟩
 |p::l,i,out,h,hl=>by
  simp only[List.length_cons] at hl
  obtain⟨S,s1,s2,s3,_⟩:=h p (by simp)
  obtain⟨z,hz⟩:=Bo p.Rects 0 0
  rw[iK.eq_2,s3,Nb s1 s2,ob,show qP p.Rects=some z from hz,ob,kP (by simp;omega),ob]
  obtain⟨r,h1,h2⟩:=IE l (i+1) (out++[⟨p.Layer,⟨(fst S).1,(fst S).2⟩,z⟩]) (fun q hq=>h q (by simp[hq])) (by simp;omega)
  exact⟨⟨p.Layer,⟨(fst S).1,(fst S).2⟩,z⟩::r,by rw[h1];simp,by simp[h2]⟩
theorem Kl:∃r,nX N a=some (r,0)∧r.map (·.Layer)=B.Pieces.map (·.Layer):=by
 have:=hB.few
 obtain⟨r,h1,h2⟩:=IE B.Pieces 0 [] (fun p hp=>(hB.pcs p hp).1) (by simp;omega)
 unfold nX
 rw[hO,ob]
 exact⟨r,h1,h2⟩
omit hB in
theorem Kq:nY N a=some (B.Groups,0):=by
 unfold nY
 rw[hO,ob];rfl
theorem xD{i:Nat}{p:eQ}(h:B.Pieces[i]?=some p):jU N a (i:Int)=some (p.Rects,0):=by
 have hi:=(List.getElem?_eq_some_iff.1 h).1
 have:=hB.few
 unfold jU
 rw[hO,ob]
 unfold ui iO
 simp only[ob]
 rw[if_neg (by simp),if_neg (by rw[eG (by omega) (by omega)];simp;omega),qw,h];rfl
end
theorem Km.ne{p:eQ}(h:Km p):p.Rects≠[]∧∀r∈p.Rects,vW r:=by
 obtain⟨S,s1,s2,_,s4,s5⟩:=h
 rw[s4]
 refine⟨fun e=>s2 ?_,s5⟩
 have:=s1.le
 rw[e] at this
 exact List.eq_nil_of_length_eq_zero (by simpa using this)
def Hm(c:Int):gp:=⟨c,0,0,0,0,[],[]⟩
theorem Ls(N:Nat)(c:Int)(s t:ByteArray)(l:Int)(p:fC):qg N (Hm c) s t l p=some c:=by
 have h:∀u,mR N (Hm c) u=some c:=fun u=>rfl
 unfold qg
 show jw N (Hm c) s t l p [] 0 (-1)=_
 rw[jw.eq_1,if_neg (by decide),h,h,ob,ob,Int.max_self]
def Apart(B:dD)(c:Int)(i j:Nat):Prop:=∀p q,B.Pieces[i]?=some p→B.Pieces[j]?=some q→p.Layer=q.Layer→B.OfPiece[i]?≠B.OfPiece[j]?→∀r∈p.Rects,∀s∈q.Rects,c<far r s
theorem IQ{B:dD}(hB:GU B){i j:Nat}{p q:eQ}(hp:B.Pieces[i]?=some p)(hq:B.Pieces[j]?=some q)(h:i<j):p.Layer≤q.Layer:=by
 obtain⟨h1,e1⟩:=List.getElem?_eq_some_iff.1 hp
 obtain⟨h2,e2⟩:=List.getElem?_eq_some_iff.1 hq
 have:=List.pairwise_iff_getElem.1 hB.ord i j h1 h2 h
 rw[e1,e2] at this
 exact this
section
variable {N:Nat} {B:dD} (hB:GU B) {nets:List ByteArray} (hnets:nets.length=B.Groups.length) {c:Int}
include hB hnets
theorem Gw{i:Nat}{p:eQ}(hp:B.Pieces[i]?=some p){K:List ik→Option (List ik)}{P:Prop}(hK:∀out,out.length≤2000*(i+1)→∃r,K out=some r∧out.length≤r.length∧(r.length=0→P)):
  ∀(m k:Nat) (out:List ik),B.Pieces.length-k<m→i<k→k≤B.Pieces.length→out.length≤2000*i+k→∃r,iw N (Hm c) B nets K p i m out (k:Int)=some r∧out.length≤r.length∧(r.length=0→P∧∀j,k≤j→Apart B c i j)
 |0,k,out,h,_,_,_=>by omega
 | m +1,k,out,hm,hik,hk,ho=>by
  have hfew:=hB.few
  have hout:∀(P':Prop),P'→∃r,K out=some r∧out.length≤r.length∧(r.length=0→P∧P'):=fun P' hP=>by
   obtain⟨r,r1,r2,r3⟩:=hK out (by omega)
   exact⟨r,r1,r2,fun h=>⟨r3 h,hP⟩⟩
  rw[iw.eq_2]
  by_cases hkn:k<B.Pieces.length
  ·obtain⟨q,hq⟩:∃q,B.Pieces[k]?=some q:=⟨_,List.getElem?_eq_getElem hkn⟩
   rw[if_pos (by simpa using hkn),qw,hq,ob,ob]
   by_cases hl:q.Layer=p.Layer
   ·have hw:bJ ((k:Int)+1)=((k+1:Nat):Int):=by rw[eG (by omega) (by omega)];omega
    have next:∀out':List ik,out'.length≤2000*i+(k+1)→∃r,iw N (Hm c) B nets K p i m out' ((k+1:Nat):Int)=some r∧out'.length≤r.length∧(r.length=0→P∧∀j,k+1≤j→Apart B c i j):=fun out' ho'=>Gw hp hK m (k+1) out' (by omega) (by omega) (by omega) ho'
    obtain⟨g,g1,G,g2,_⟩:=hB.grp.at_ i (List.getElem?_eq_some_iff.1 hp).1
    obtain⟨g',g1',G',g2',_⟩:=hB.grp.at_ k hkn
    have hg:=(List.getElem?_eq_some_iff.1 g2).1
    have hg':=(List.getElem?_eq_some_iff.1 g2').1
    rw[if_pos (by simpa using hl),qw,g1,ob,qw,g1',ob,hw]
    have fin:Apart B c i k→∀out':List ik,out.length≤out'.length→out'.length≤2000*i+(k+1)→∃r,iw N (Hm c) B nets K p i m out' ((k+1:Nat):Int)=some r∧out.length≤r.length∧(r.length=0→P∧∀j,k≤j→Apart B c i j):=fun hA out' h1 h2=>by
     obtain⟨r,r1,r2,r3⟩:=next out' h2
     refine⟨r,r1,by omega,fun h=>⟨(r3 h).1,fun j hj=>?_⟩⟩
     rcases Nat.eq_or_lt_of_le hj with e|hj
     ·rw[←e];exact hA
     ·exact(r3 h).2 j hj
    by_cases hgg:g=g'
    ·rw[if_pos (by rw[hgg];simp)]
     exact fin (fun p' q' _ _ _ h=>absurd (by rw[g1,g1',hgg]) h) out (Nat.le_refl _) (by omega)
    ·obtain⟨k1,k2⟩:=(hB.pcs p (List.mem_of_getElem? hp)).1.ne
     obtain⟨k3,k4⟩:=(hB.pcs q (List.mem_of_getElem? hq)).1.ne
     obtain⟨s,hs⟩:∃s,nets[g]?=some s:=⟨_,List.getElem?_eq_getElem (by omega)⟩
     obtain⟨t,ht⟩:∃t,nets[g']?=some t:=⟨_,List.getElem?_eq_getElem (by omega)⟩
     rw[if_neg (by simp;omega),ob,Na k1 k3 k2 k4,ob,qw,hs,ob,qw,ht,ob,Ls,ob]
     by_cases hd:(Mg p.Rects q.Rects).Distance<c
     ·rw[if_pos (by simpa using hd),kP (by simp;omega),ob]
      obtain⟨r,r1,r2,r3⟩:=next (out++[ik.mk 1 (i:Int) (k:Int) (Mg p.Rects q.Rects).Distance c (Mg p.Rects q.Rects).From]) (by simp;omega)
      rw[List.length_append,List.length_singleton] at r2
      exact⟨r,r1,by omega,fun h=>by omega⟩
     ·rw[if_neg (by simpa using hd)]
      refine fin (fun p' q' e1 e2 _ _ r hr s' hs'=>?_) out (Nat.le_refl _) (by omega)
      rw[hp] at e1
      rw[hq] at e2
      obtain rfl:=Option.some.inj e1
      obtain rfl:=Option.some.inj e2
      have h1:=(Cn k1 k3).1 (r,s') (xS.2 ⟨hr,hs'⟩)
      have h2:(Mg p.Rects q.Rects).Distance=least p.Rects q.Rects-1:=rfl
      have h3:least p.Rects q.Rects≤far r s':=h1
      omega
   ·rw[if_neg (by simpa using hl)]
    refine hout _ fun j hj p' q' e1 e2 e3=>?_
    rw[hp] at e1
    obtain rfl:=Option.some.inj e1
    have h1:=IQ hB hp hq hik
    have h2:q.Layer≤q'.Layer:=by
     rcases Nat.eq_or_lt_of_le hj with e|hj
     ·subst e
      rw[hq] at e2
      obtain rfl:=Option.some.inj e2
      exact Int.le_refl _
     ·exact IQ hB hq e2 hj
    omega
  ·rw[if_neg (by simpa using hkn),ob]
   refine hout _ fun j hj p' q' _ e2=>?_
   have:=(List.getElem?_eq_some_iff.1 e2).1
   omega
theorem Gx(hN:10000≤N):∀(suf ps:List eQ) (out:List ik),B.Pieces=ps++suf→out.length≤2000*ps.length→∃r,iy N (Hm c) B nets suf ps.length out=some r∧out.length≤r.length∧(r.length=0→∀i j,ps.length≤i→i<j→Apart B c i j)
 |[],ps,out,h,_=>by
  refine⟨out,rfl,Nat.le_refl _,fun _ i j hi _ p q e=>?_⟩
  rw[List.append_nil] at h
  have:=(List.getElem?_eq_some_iff.1 e).1
  rw[h] at this;omega
 | p::suf,ps,out,h,ho=>by
  have hfew:=hB.few
  have hlen:ps.length<B.Pieces.length:=by rw[h];simp
  have hp:B.Pieces[ps.length]?=some p:=by rw[h];simp
  have hw:bJ ((ps.length:Int)+1)=((ps.length+1:Nat):Int):=by rw[eG (by omega) (by omega)];omega
  rw[iy.eq_2,hw]
  obtain⟨r,r1,r2,r3⟩:=Gw (N:=N) hB hnets (c:=c) hp (K:=iy N (Hm c) B nets suf (ps.length+1)) (P:=∀i j,ps.length+1≤i→i<j→Apart B c i j) (fun out' ho'=>by
   have:=Gx hN suf (ps++[p]) out' (by rw[h];simp) (by simp;omega)
   rw[List.length_append] at this
   exact this) N (ps.length+1) out (by omega) (by omega) (by omega) (by omega)
  refine⟨r,r1,r2,fun h0 i j hi hij=>?_⟩
  rcases Nat.eq_or_lt_of_le hi with e|hi
  ·rw[←e];exact(r3 h0).2 j (by omega)
  ·exact(r3 h0).1 i j hi hij
theorem ME(hN:10000≤N):∃r,rG N (Hm c) B nets=some r∧(r.length=0→∀i j,i<j→Apart B c i j):=by
 obtain⟨r,r1,_,r3⟩:=Gx (c:=c) hB hnets hN B.Pieces [] [] rfl (by simp)
 exact⟨r,r1,fun h i j hij=>r3 h i j (by simp) hij⟩
end
theorem Nf{N:Nat}(hN:10000000000≤N){a:nU}(hn:∀x∈a.Lands,Nm N x.Pin)(nets:List ByteArray)(c:Int):
  ∃r,ng N (Hm c) a nets=some r∧((r.2≠0∧r.1=[])∨(r.2=0∧∃B,jf N a=some (some B,0)∧GU B∧(r.1.length=0→∀i j,i<j→Apart B c i j))):=by
 obtain⟨e,e1,_⟩:=JL N c
 obtain⟨o,o1,o2⟩:=OE hN hn
 obtain⟨b,hb⟩:=Kc (l:=nets) (N:=N) (by omega)
 have err:∀k:Int,k≠0→kU N (Hm c) a nets=some (none,k)→∃r,ng N (Hm c) a nets=some r∧((r.2≠0∧r.1=[])∨(r.2=0∧∃B,jf N a=some (some B,0)∧GU B∧(r.1.length=0→∀i j,i<j→Apart B c i j))):=fun k hk h=>by
  unfold ng
  rw[h,ob]
  unfold ui
  exact⟨([],k),if_pos (by simpa using hk),.inl ⟨hk,rfl⟩⟩
 have e1':kS N (Hm c)=some e:=e1
 by_cases h0:e=0
 ·rcases o2 with⟨k,hk,rfl⟩|⟨B,rfl,hB⟩
  ·refine err k hk ?_
   unfold kU
   rw[e1',ob,if_neg (by simpa using h0),o1,ob]
   unfold ui
   exact if_pos (by simpa using hk)
  ·by_cases hl:nets.length=B.Groups.length
   ·cases b with
    |true=>
     refine err 5 (by decide) ?_
     unfold kU
     rw[e1',ob,if_neg (by simpa using h0),o1,ob]
     unfold ui
     simp only[]
     rw[if_neg (by simp),if_neg (by simp[hl]),hb];rfl
    | false=>
     obtain⟨r,r1,r2⟩:=ME (N:=N) (c:=c) hB hl (by omega)
     have ho:kU N (Hm c) a nets=some (some B,0):=by
      unfold kU
      rw[e1',ob,if_neg (by simpa using h0),o1,ob]
      unfold ui
      simp only[]
      rw[if_neg (by simp),if_neg (by simp[hl]),hb];rfl
     unfold ng
     rw[ho,ob]
     unfold ui
     simp only[]
     rw[if_neg (by simp),r1,ob]
     unfold sP
     by_cases h5:(5000:Int)<(r.length:Int)
     ·rw[if_pos (by simpa using h5)]
      exact⟨_,rfl,.inl ⟨(by decide),rfl⟩⟩
     ·rw[if_neg (by simpa using h5)]
      exact⟨_,rfl,.inr ⟨rfl,B,o1,hB,r2⟩⟩
   ·refine err 3 (by decide) ?_
    unfold kU
    rw[e1',ob,if_neg (by simpa using h0),o1,ob]
    unfold ui
    simp only[]
    rw[if_neg (by simp)]
    exact if_pos (by simp;omega)
 ·refine err e h0 ?_
  unfold kU
  rw[e1',ob]
  exact if_pos (by simpa using h0)
theorem Er(x:Int):∀(l:List Int) (i:Nat),∃k:Int,gW x l i=some k∧(0≤k↔x∈l)
 |[],i=>⟨-1,rfl,by simp⟩
 | y::l,i=>by
  obtain⟨k,h1,h2⟩:=Er x l (i+1)
  rw[gW.eq_2]
  by_cases h:x=y
  ·rw[if_pos (by simpa using h)]
   exact⟨_,rfl,by simp[h]⟩
  ·rw[if_neg (by simpa using h)]
   exact⟨k,h1,by rw[h2];simp[h]⟩
theorem zX(l:List Int)(x:Int):jH l x=some (decide (x∈l)):=by
 obtain⟨k,h1,h2⟩:=Er x l 0
 unfold jH nO
 rw[h1,ob]
 congr 1
 exact decide_eq_decide.2 h2
theorem Lr{Gs:List dz}(hl:Gs.length≤1000000)(x y:Int):∀(m j:Nat),Gs.length-j<m→j≤Gs.length→∃b,fB Gs x y m (j:Int)=some b∧∀g G,j≤g→Gs[g]?=some G→x∈G.Pieces→y∈G.Pieces→(∀g' G',Gs[g']?=some G'→x∈G'.Pieces→g'=g)→b=true
 |0,j,h,_=>by omega
 | m +1,j,h,hj=>by
  rw[fB.eq_2]
  by_cases hk:j<Gs.length
  ·obtain⟨G,hG⟩:∃G,Gs[j]?=some G:=⟨_,List.getElem?_eq_getElem hk⟩
   have hw:bJ ((j:Int)+1)=((j+1:Nat):Int):=by rw[eG (by omega) (by omega)];omega
   rw[if_pos (by simpa using hk),qw,hG,ob,zX,ob,ob,zX,ob]
   by_cases hx:x∈G.Pieces
   ·rw[if_pos (by simpa using hx)]
    refine⟨_,rfl,fun g G' hg hG' h1 h2 hu=>?_⟩
    have e:=hu j G hG hx
    subst e
    rw[hG] at hG'
    obtain rfl:=Option.some.inj hG'
    simpa using h2
   ·rw[if_neg (by simpa using hx),hw]
    obtain⟨b,b1,b2⟩:=Lr hl x y m (j+1) (by omega) (by omega)
    refine⟨b,b1,fun g G' hg hG' h1 h2 hu=>?_⟩
    rcases Nat.eq_or_lt_of_le hg with e|hg
    ·subst e
     rw[hG] at hG'
     obtain rfl:=Option.some.inj hG'
     exact absurd h1 hx
    ·exact b2 g G' hg hG' h1 h2 hu
  ·rw[if_neg (by simpa using hk)]
   refine⟨_,rfl,fun g G' hg hG'=>?_⟩
   have:=(List.getElem?_eq_some_iff.1 hG').1
   omega
theorem PV{N:Nat}{B:dD}(hB:GU B)(hN:1000001≤N){i k:Nat}(hi:i<B.Pieces.length)(hk:k<B.Pieces.length):∃b,kG N B.Groups (i:Int) (k:Int)=some b∧(b=false→B.OfPiece[i]?≠B.OfPiece[k]?):=by
 obtain⟨b,b1,b2⟩:=Lr hB.grp.len (i:Int) (k:Int) N 0 (by have:=hB.grp.len;omega) (by omega)
 refine⟨b,b1,fun hb e=>?_⟩
 obtain⟨g,g1,G,g2,g3⟩:=hB.grp.at_ i hi
 obtain⟨g',g1',G',g2',g3'⟩:=hB.grp.at_ k hk
 rw[g1,g1'] at e
 have e:=Int.ofNat.inj (Option.some.inj e)
 subst e
 rw[g2] at g2'
 obtain rfl:=Option.some.inj g2'
 have:=b2 g G (by omega) g2 g3 g3' fun g' G' h1 h2=>by
  obtain⟨i',e1,_,e3⟩:=hB.grp.only g' G' h1 _ h2
  have e1:=Int.ofNat.inj e1
  subst e1
  rw[g1] at e3
  exact(Int.ofNat.inj (Option.some.inj e3)).symm
 rw[hb] at this
 cases this
theorem Lm(M:Nat):iD (M+1)=some true:=by
 have h1:D6 3=some ⟨#[51]⟩:=by
  unfold D6
  rw[if_pos (by decide)]
  have:Lib.itoa 3=[51]:=by kernel_rfl
  rw[this]
 have c0:pE (M+1) ⟨3,[],[]⟩=some 0:=rfl
 unfold iD uB
 rw[c0,ob,if_neg (by decide),h1,ob]
 have e1:Ih ⟨#[117,110,105,116,32]⟩ ⟨#[51]⟩=some ⟨#[117,110,105,116,32,51]⟩:=by kernel_rfl
 have e2:Ih ⟨#[117,110,105,116,32,51]⟩ ⟨#[10]⟩=some ⟨#[117,110,105,116,32,51,10]⟩:=by kernel_rfl
 have e3:QT ByteArray.empty ⟨#[117,110,105,116,32,51,10]⟩=some ⟨#[117,110,105,116,32,51,10]⟩:=by kernel_rfl
 have e4:nH (M+1) ⟨3,[],[]⟩ ⟨#[117,110,105,116,32,51,10]⟩ [] 0=some (⟨#[117,110,105,116,32,51,10]⟩,0):=by kernel_rfl
 rw[e1,ob,e2,ob,e3,ob,e4,ob,Nt]
 rfl
section
variable {N:Nat} (hN:10000000000≤N) {a:nU} {B:dD} (hO:jf N a=some (some B,0)) (hB:GU B) {T:List ig} (hT:T.map (·.Layer)=B.Pieces.map (·.Layer)) {c:Int} (hA:∀i j,i<j→Apart B c i j)
include hN hO hB hT hA
omit hN hO hB hA in
theorem IC{i:Nat}{p:eQ}(h:B.Pieces[i]?=some p):∃t,T[i]?=some t∧t.Layer=p.Layer:=by
 have e:(T.map (·.Layer))[i]?=some p.Layer:=by rw[hT,List.getElem?_map,h];rfl
 rw[List.getElem?_map] at e
 cases ht:T[i]? with
 |none=>rw[ht] at e;cases e
 |some t=>rw[ht] at e;exact⟨t,rfl,Option.some.inj e⟩
theorem LX{i:Nat}{p:eQ}(hp:B.Pieces[i]?=some p){g:List au×Int}(hg:nR N p.Rects c=some g)(hg0:g.2=0){K:Int→Option Bool}(hK:K (bJ ((i:Int)+1))=some true):
  ∀(m k:Nat),B.Pieces.length-k<m→k≤B.Pieces.length→dL N a (T,0) (B.Groups,0) (i:Int) K g m (k:Int)=some true
 |0,k,h,_=>by omega
 | m +1,k,h,hk=>by
  have hfew:=hB.few
  have hi:=(List.getElem?_eq_some_iff.1 hp).1
  have hTl:T.length=B.Pieces.length:=by have:=congrArg List.length hT;simpa using this
  rw[dL.eq_2]
  dsimp only
  rw[hTl]
  by_cases hkn:k<B.Pieces.length
  ·obtain⟨q,hq⟩:∃q,B.Pieces[k]?=some q:=⟨_,List.getElem?_eq_getElem hkn⟩
   obtain⟨t,t1,t2⟩:=IC hT hp
   obtain⟨s,s1,s2⟩:=IC hT hq
   obtain⟨b,b1,b2⟩:=PV (N:=N) hB (by omega) hi hkn
   have hw:bJ ((k:Int)+1)=((k+1:Nat):Int):=by rw[eG (by omega) (by omega)];omega
   have next:=LX hp hg hg0 hK m (k+1) (by omega) (by omega)
   rw[if_pos (by simpa using hkn),qw,s1,ob,qw,t1,ob,b1,ob,QY,ob,hw]
   by_cases hc:((s.Layer !=t.Layer)||b)=true
   ·rw[if_pos hc];exact next
   ·rw[if_neg hc,xD hO hB hq,ob]
    simp only[Bool.or_eq_true,not_or,bne_iff_ne,Decidable.not_not,Bool.not_eq_true] at hc
    obtain⟨hc1,hc2⟩:=hc
    have hne:=b2 hc2
    obtain⟨g',e,v,v1,v2⟩:=I4 hN p.Rects q.Rects c
    rw[hg] at e
    obtain rfl:=Option.some.inj e
    dsimp only
    rw[v1,ob]
    have hno:¬(v.2=0∧0<v.1.length):=fun⟨h1,h2⟩=>by
     obtain⟨r,hr,s',hs',hf⟩:=v2 hg0 h1 h2
     have hly:p.Layer=q.Layer:=by omega
     rcases Nat.lt_trichotomy i k with hik|hik|hik
     ·have:=hA i k hik p q hp hq hly hne r hr s' hs'
      omega
     ·subst hik;exact hne rfl
     ·have:=hA k i hik q p hq hp hly.symm (fun e=>hne e.symm) s' hs' r hr
      rw[Mm] at this
      omega
    rw[if_neg fun hh=>by
     simp only[Bool.or_eq_true,Bool.and_eq_true,bne_iff_ne,beq_iff_eq,decide_eq_true_eq] at hh
     rcases hh with hh|⟨h1,h2⟩
     ·exact absurd rfl hh
     ·exact hno ⟨h1,by omega⟩]
    exact next
  ·rw[if_neg (by simpa using hkn)]
   exact hK
theorem LY{r:gp}(hr:r.Clearance=c)(hop:iD N=some true):∀(m i:Nat),B.Pieces.length-i<m→i≤B.Pieces.length→bZ N r a (T,0) (B.Groups,0) m (i:Int)=some true
 |0,i,h,_=>by omega
 | m+1,i,h,hi=>by
  have hfew:=hB.few
  have hTl:T.length=B.Pieces.length:=by have:=congrArg List.length hT;simpa using this
  rw[bZ.eq_2]
  dsimp only
  rw[hTl]
  by_cases hin:i<B.Pieces.length
  ·obtain⟨p,hp⟩:∃p,B.Pieces[i]?=some p:=⟨_,List.getElem?_eq_getElem hin⟩
   have hw:bJ ((i:Int)+1)=((i+1:Nat):Int):=by rw[eG (by omega) (by omega)];omega
   have next:=LY hr hop m (i+1) (by omega) (by omega)
   obtain⟨g,g1,_⟩:=I4 hN p.Rects [] c
   rw[if_pos (by simpa using hin),xD hO hB hp,ob,if_neg (by simp),hr]
   dsimp only
   rw[g1,ob]
   by_cases h0:g.2=0
   ·rw[if_neg (by simpa using h0)]
    exact LX hN hO hB hT hA hp g1 h0 (by rw[hw];exact next) N 0 (by omega) (by omega)
   ·rw[if_pos (by simpa using h0),hw];exact next
  ·rw[if_neg (by simpa using hin),hop];rfl
end
end Go.Proofs.YtkccbhbhdnobhaaGreatDoor
