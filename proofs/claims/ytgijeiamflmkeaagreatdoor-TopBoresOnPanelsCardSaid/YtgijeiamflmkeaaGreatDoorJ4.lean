/- Rules of the walks, or plain laws about the plain functions. Conditions: none beyond each theorem's own. -/
import Derived.Test.YtgijeiamflmkeaaGreatDoorJ3
import Derived.Test.YtgijeiamflmkeaaGreatDoorXF
namespace Go.Proofs.YtgijeiamflmkeaaGreatDoor
def Oy(xs:List Int)(x:Int):List Int:=if xs.getLast?=some x then xs.dropLast else xs++[x]
def MK(l:List Int):List Int:=l.foldl Oy []
def KR(x:Int)(l:List Int):Nat:=(l.filter fun z=>decide (z≤x)).length
theorem uW(x:Int)(l m:List Int):KR x (l++m)=KR x l+KR x m:=by unfold KR;rw[List.filter_append,List.length_append]
theorem Pv(x z:Int):KR x [z]=if z≤x then 1 else 0:=by
 unfold KR
 by_cases h:z≤x<;>simp[h]
structure M0 (xs done:List Int):Prop where
 inc:xs.Pairwise fun a b=>a<b
 par:∀x,KR x xs%2=KR x done%2
 len:xs.length%2=done.length%2
 sub:∀x∈xs,x∈done
theorem V8{xs done:List Int}{x:Int}(h:M0 xs done)(hx:∀z∈done,z≤x):M0 (Oy xs x) (done++[x]):=by
 obtain⟨h1,h2,h3,h4⟩:=h
 unfold Oy
 by_cases hl:xs.getLast?=some x
 ·rw[if_pos hl]
  obtain⟨ys,rfl⟩:=List.getLast?_eq_some_iff.1 hl
  rw[List.dropLast_concat]
  rw[List.pairwise_append] at h1
  refine⟨h1.1,fun z=>?_,?_,fun z hz=>List.mem_append_left _ (h4 z (List.mem_append_left _ hz))⟩
  ·have:=h2 z
   rw[uW] at this
   rw[uW];omega
  ·rw[List.length_append] at h3 ⊢
   simp only[List.length_singleton] at h3 ⊢
   omega
 ·rw [if_neg hl]
  refine⟨?_,fun z=>?_,?_,fun z hz=>?_⟩
  ·rw [List.pairwise_append]
   refine⟨h1,by simp,fun a ha b hb=>?_⟩
   simp at hb;subst hb
   have hle:=hx a (h4 a ha)
   rcases Int.lt_or_eq_of_le hle with h|h
   ·exact h
   ·subst h
    exfalso
    apply hl
    rcases List.eq_nil_or_concat xs with e|⟨ys,y,e⟩
    ·subst e;cases ha
    ·rw[List.concat_eq_append] at e
     subst e
     have hy:=hx y (h4 y (by simp))
     rw[List.pairwise_append] at h1
     rcases List.mem_append.1 ha with ha|ha
     ·have:=h1.2.2 a ha y (by simp)
      omega
     ·simp at ha;subst ha;simp
  ·have:=h2 z
   rw[uW,uW];omega
  ·rw[List.length_append,List.length_append]
   simp only[List.length_singleton];omega
  ·rcases List.mem_append.1 hz with hz|hz
   ·exact List.mem_append_left _ (h4 z hz)
   ·exact List.mem_append_right _ hz
theorem Pw:∀(suf done xs:List Int),M0 xs done→(∀z∈done,∀y∈suf,z≤y)→suf.Pairwise (fun a b=>a≤b)→M0 (suf.foldl Oy xs) (done++suf)
 |[],done,xs,h,_,_=>by simpa using h
 | x::l,done,xs,h,hd,hs=>by
  obtain⟨s1,s2⟩:=List.pairwise_cons.1 hs
  have:=Pw l (done++[x]) (Oy xs x) (V8 h fun z hz=>hd z hz x List.mem_cons_self) (fun z hz y hy=>by
   rcases List.mem_append.1 hz with hz|hz
   ·exact hd z hz y (List.mem_cons_of_mem _ hy)
   ·simp at hz;subst hz;exact s1 y hy) s2
  rw[List.foldl_cons]
  simpa using this
theorem UX{l:List Int}(hs:l.Pairwise fun a b=>a≤b):M0 (MK l) l:=by
 have:=Pw l [] [] ⟨.nil,fun _=>rfl,rfl,fun _ h=>(by cases h)⟩ (fun _ h=>by cases h) hs
 unfold MK
 simpa using this
def Wi:List Int→List (Int×Int)
 |a::b::l=>(a,b)::Wi l
 |_=>[]
theorem Rm:∀{xs:List Int} {lo:Int},xs.Pairwise (fun a b=>a<b)→xs.length%2=0→(∀x∈xs,lo<x)→eO (Wi xs)=xs∧Can lo (Wi xs)∧∀x,tO x (Wi xs)↔KR x xs%2=1
 |[],lo,_,_,_=>⟨rfl,trivial,fun x=>⟨fun h=>absurd h om,fun h=>by simp[KR] at h⟩⟩
 |[a],lo,_,h,_=>by simp at h
 | a::b::l,lo,hp,hl,hlo=>by
  obtain⟨p1,p2⟩:=List.pairwise_cons.1 hp
  obtain⟨p3,p4⟩:=List.pairwise_cons.1 p2
  have hab:=p1 b List.mem_cons_self
  obtain⟨i1,i2,i3⟩:=Rm (xs:=l) (lo:=b) p4 (by simp at hl;omega) p3
  refine⟨by rw[Wi,qx,i1],⟨hlo a List.mem_cons_self,hab,i2⟩,fun x=>?_⟩
  rw[Wi,kD,i3]
  have e:KR x (a::b::l)=(if a≤x then 1 else 0)+((if b≤x then 1 else 0)+KR x l):=by
   rw[show a::b::l=[a]++([b]++l) from rfl,uW,uW,Pv,Pv]
  rw[e]
  have h0:x<b→KR x l=0:=fun h=>by
   unfold KR
   rw[List.length_eq_zero_iff,List.filter_eq_nil_iff]
   intro z hz
   have:=p3 z hz
   simp;omega
  by_cases ha:a≤x<;>by_cases hb:b≤x<;>simp only[ha,hb,if_true,if_false,true_and,false_and,and_false,false_or,true_or,iff_true]<;>first|omega|(have:=h0 (by omega);omega)
def Gh(p0:aK):List aK→List (aK×aK)
 |[]=>[]
 |[x]=>[(x,p0)]
 |x::y::r=>(x,y)::Gh p0 (y::r)
def tV:List aK→List (aK×aK)
 |[]=>[]
 |x::r=>Gh x (x::r)
def WL(l:List (aK×aK)):Prop:=∀s∈l,(s.1.X=s.2.X)≠(s.1.Y=s.2.Y)
def ze(y:Int)(l:List (aK×aK)):List (aK×aK):=l.filter fun s=>decide (s.1.X=s.2.X)&&(decide (min s.1.Y s.2.Y≤y)&&decide (y<max s.1.Y s.2.Y))
theorem JU{y:Int}{s:aK×aK}(h:s.1.X≠s.2.X→s.1.Y=s.2.Y):(decide (s.1.X=s.2.X)&&(decide (min s.1.Y s.2.Y≤y)&&decide (y<max s.1.Y s.2.Y)))=(decide (s.1.Y≤y) !=decide (s.2.Y≤y)):=by
 by_cases hx:s.1.X=s.2.X
 ·rw[decide_eq_true hx,Bool.true_and,Bool.eq_iff_iff]
  simp only[Bool.and_eq_true,decide_eq_true_eq,bne_iff_ne,ne_eq,decide_eq_decide]
  omega
 ·have hy:=h hx
  rw[decide_eq_false hx,Bool.false_and,hy];simp
theorem OQ(y:Int)(p0:aK):∀(r:List aK) (x:aK),WL (Gh p0 (x::r))→(ze y (Gh p0 (x::r))).length%2=(if(decide (x.Y≤y) !=decide (p0.Y≤y)) then 1 else 0)
 | [],x,h=>by
  have hs:=h (x,p0) (by simp[Gh])
  have:=JU (y:=y) (s:=(x,p0)) (fun hx=>by
   by_cases hy:x.Y=p0.Y
   ·exact hy
   ·exact absurd (propext ⟨fun h=>absurd h hx,fun h=>absurd h hy⟩) hs)
  unfold ze
  rw[Gh,List.filter_cons,List.filter_nil,this]
  split<;>rfl
 | z::r,x,h=>by
  have hs:=h (x,z) (by simp[Gh])
  have hc:=JU (y:=y) (s:=(x,z)) (fun hx=>by
   by_cases hy:x.Y=z.Y
   ·exact hy
   ·exact absurd (propext ⟨fun h=>absurd h hx,fun h=>absurd h hy⟩) hs)
  have ih:=OQ y p0 r z (fun s hs=>h s (by rw[Gh];exact List.mem_cons_of_mem _ hs))
  unfold ze at ih ⊢
  rw[Gh,List.filter_cons,hc]
  simp only at hc ⊢
  cases h1:decide (x.Y≤y)<;>cases h2:decide (z.Y≤y)<;>cases h3:decide (p0.Y≤y)<;>rw[h2,h3] at ih<;>simp at ih ⊢ <;>omega
theorem N8(y:Int){l:List aK}(h:WL (tV l)):(ze y (tV l)).length%2=0:=by
 cases l with
 |nil=>rfl
 |cons x r=>
  have:=OQ y x r x h
  rw[tV,this];simp
def sU(up:List aO)(y:Int):List Int:=(up.filter fun s=>decide (s.Y0≤y)&&decide (y<s.Y1)).map (·.X0)
def fA(up:List aO)(y:Int):List (Int×Int):=Wi (MK (sU up y))
theorem OV:∀(l:List Int),∃lo,∀x∈l,lo<x
 |[]=>⟨0,fun _ h=>by cases h⟩
 |a::l=>by
  obtain⟨lo,h⟩:=OV l
  refine⟨min lo (a-1),fun x hx=>?_⟩
  rcases List.mem_cons.1 hx with rfl|hx
  ·omega
  ·have:=h x hx;omega
theorem Pj{up:List aO}(hs:up.Pairwise fun a b=>a.X0≤b.X0)(hev:∀y,(sU up y).length%2=0)(y:Int):eO (fA up y)=MK (sU up y)∧(∃lo,Can lo (fA up y))∧(∀x,tO x (fA up y)↔KR x (sU up y)%2=1)∧∀z∈MK (sU up y),z∈sU up y:=by
 have hp:(sU up y).Pairwise fun a b=>a≤b:=by
  unfold sU
  rw[List.pairwise_map]
  exact hs.filter _
 have hc:=UX hp
 obtain⟨lo,hlo⟩:=OV (MK (sU up y))
 obtain⟨a1,a2,a3⟩:=Rm (lo:=lo) hc.inc (by rw[hc.len,hev]) hlo
 exact⟨a1,⟨lo,a2⟩,fun x=>by unfold fA;rw[a3,hc.par],hc.sub⟩
theorem Ns{up:List aO}{ys:List Int}(hm:∀s∈up,s.Y0∈ys∧s.Y1∈ys){a y:Int}(hay:a≤y)(h:∀z∈ys,z≤a∨y<z):sU up y=sU up a:=by
 unfold sU
 congr 1
 apply List.filter_congr
 intro s hs
 obtain⟨h1,h2⟩:=hm s hs
 have k1:=h _ h1
 have k2:=h _ h2
 rw[Bool.eq_iff_iff]
 simp only[Bool.and_eq_true,decide_eq_true_eq]
 omega
theorem Sw{up:List aO}{ys:List Int}(hy:ys.Pairwise fun x y=>x<y)(hs:up.Pairwise fun a b=>a.X0≤b.X0)(hev:∀y,(sU up y).length%2=0)(hm:∀s∈up,s.Y0∈ys∧s.Y1∈ys):yL (ru (fA up) ys [])∧∀x y,tH x y (ru (fA up) ys [])↔KR x (sU up y)%2=1:=by
 have hnil:∀y,(∀s∈up,¬(s.Y0≤y∧y<s.Y1))→fA up y=[]:=fun y h=>by
  have:sU up y=[]:=by
   unfold sU
   rw[List.map_eq_nil_iff,List.filter_eq_nil_iff]
   intro s hs
   have:=h s hs
   simpa using this
  unfold fA;rw[this];rfl
 obtain⟨b1,b2⟩:=Iq (f:=fA up) hy (fun y=>(Pj hs hev y).2.1) (fun a y hay h=>by unfold fA;rw[Ns hm hay h])
  (fun y h=>hnil y fun s hs hh=>by have:=h _ (hm s hs).1;omega) (fun y h=>hnil y fun s hs hh=>by have:=h _ (hm s hs).2;omega)
 refine⟨b1,fun x y=>?_⟩
 unfold tH
 rw[b2,(Pj hs hev y).2.2.1]
def par(x:Int):List Int→Bool
 |[]=>false
 |a::l=>xor (decide (a≤x)) (par x l)
theorem Cq(x:Int):∀l m:List Int,par x (l++m)=xor (par x l) (par x m)
 |[],m=>by simp[par]
 |a::l,m=>by rw[List.cons_append,par,Cq x l m,par,Bool.xor_assoc]
theorem yU{x:Int}:∀{l:List Int},(∀a∈l,x<a)→par x l=false
 |[],_=>rfl
 |a::l,h=>by
  rw[par,yU fun b hb=>h b (by simp[hb]),decide_eq_false (by have:=h a (by simp);omega)];rfl
theorem Dq(n:Nat):((n+1)%2==1)= !(n%2==1):=by
 rcases Nat.mod_two_eq_zero_or_one n with h|h
 ·have:(n+1)%2=1:=by omega
  rw[h,this];rfl
 ·have:(n+1)%2=0:=by omega
  rw[h,this];rfl
theorem EW{x:Int}:∀{l:List Int},(∀a∈l,a≤x)→par x l=(l.length%2==1)
 |[],_=>rfl
 |a::l,h=>by
  rw[par,EW fun b hb=>h b (by simp[hb]),decide_eq_true (h a (by simp)),List.length_cons,Dq,Bool.true_xor]
theorem BD:∀{l:List (Int×Int)} {lo x:Int},Can lo l→(tO x l↔par x (eO l)=true)
 |[],_,_,_=>by simp[om,vW,par]
 | p::l,lo,x,h=>by
  obtain⟨h1,h2,h3⟩:=h
  have ih:=BD (x:=x) h3
  have hl:=fun hx:tO x l=>h3.lt hx
  rw[kD,qx,par,par]
  cases hp:par x (eO l)
  ·rw[hp] at ih
   have:¬tO x l:=fun hx=>by have:=ih.1 hx;cases this
   by_cases a:p.1≤x<;>by_cases b:p.2≤x<;>simp[a,b,this]<;>omega
  ·rw[hp] at ih
   have h4:=ih.2 rfl
   have:=hl h4
   have a:p.1≤x:=by omega
   have b:p.2≤x:=by omega
   simp[a,b,h4]
theorem Can.strict:∀{l:List (Int×Int)} {lo:Int},Can lo l→(eO l).Pairwise (fun x y=>x<y)∧∀z∈eO l,lo<z
 |[],_,_=>⟨List.Pairwise.nil,by simp[vW]⟩
 | p::l,lo,h=>by
  obtain⟨h1,h2,h3⟩:=h
  obtain⟨i1,i2⟩:=h3.strict
  rw[qx]
  refine⟨List.pairwise_cons.2 ⟨fun z hz=>?_,List.pairwise_cons.2 ⟨i2,i1⟩⟩,fun z hz=>?_⟩
  ·rcases List.mem_cons.1 hz with rfl|hz
   ·exact h2
   ·have:=i2 z hz;omega
  ·rcases List.mem_cons.1 hz with rfl|hz
   ·exact h1
   ·rcases List.mem_cons.1 hz with rfl|hz
    ·omega
    ·have:=i2 z hz;omega
theorem Gy:∀(l:List Int) (lo:Int),l.Pairwise (fun x y=>x<y)→(∀z∈l,lo<z)→(l.length%2==1)=false→∃C,Can lo C∧eO C=l
 |[],_,_,_,_=>⟨[],trivial,rfl⟩
 |[a],_,_,_,h=>by simp at h
 |a::b::l,lo,h1,h2,h3=>by
  have k:=List.pairwise_cons.1 h1
  have k2:=List.pairwise_cons.1 k.2
  obtain⟨C,c1,c2⟩:=Gy l b k2.2 k2.1 (by rw[List.length_cons,List.length_cons,Dq,Dq,Bool.not_not] at h3;exact h3)
  exact⟨(a,b)::C,⟨h2 a (by simp),k.1 b (by simp),c1⟩,by rw[qx,c2]⟩
theorem wG{α:Type}(x:α)(l:List α):cut (x::l) 1 ((x::l).length:Int)=some l:=by
 unfold cut
 rw[if_pos ⟨by omega,by simp;omega,by omega⟩]
 simp
structure Ol (k:Bool→Bool→Bool) (a b out:List Int) (inA Gi:Bool) (r:List Int):Prop where
 strict:r.Pairwise fun x y=>x<y
 mem:∀z∈r,z∈out∨z∈a∨z∈b
 len:r.length≤out.length+a.length+b.length
 hi:∀z,(∀o∈out,o≤z)→par z r=k (xor inA (par z a)) (xor Gi (par z b))
 lo:∀z,(∃o∈out,z<o)→par z r=par z out
theorem xW{k:Bool→Bool→Bool}{f:Bool→Bool→Option Bool}(hf:∀a b,f a b=some (k a b)){m:Nat}{a b a1 b1 out:List Int}{inA Gi inA1 inB1 is:Bool}{X:Int}
  (ih:∀(out:List Int) (is:Bool),out.Pairwise (fun x y=>x<y)→(∀o∈out,(∀x∈a1,o<x)∧∀x∈b1,o<x)→is=k inA1 inB1→is=(out.length%2==1)→out.length+a1.length+b1.length≤4000000000→∃r,eG f m a1 b1 out inA1 inB1 is=some r∧Ol k a1 b1 out inA1 inB1 r)
  (hs:out.Pairwise fun x y=>x<y) (ho:∀o∈out,o<X) (ha1:∀x∈a1,X<x) (hb1:∀x∈b1,X<x) (hi:is=k inA Gi) (hp:is=(out.length%2==1)) (hl:out.length+a1.length+b1.length+1≤out.length+a.length+b.length) (hl2:out.length+a.length+b.length≤4000000000)
  (pa:∀z,X≤z→xor inA (par z a)=xor inA1 (par z a1)) (pb:∀z,X≤z→xor Gi (par z b)=xor inB1 (par z b1)) (pa0:∀z,z<X→par z a=false) (pb0:∀z,z<X→par z b=false)
  (hm:∀z,z∈a1→z∈a) (hm2:∀z,z∈b1→z∈b) (hX:X∈a∨X∈b):
  ∃r,nu f out is (eG f m) X a1 inA1 b1 inB1=some r∧Ol k a b out inA Gi r:=by
 unfold nu
 rw[hf,ob]
 by_cases hk:k inA1 inB1=is
 ·rw[if_neg (by simp[hk])]
  obtain⟨r,h1,h2⟩:=ih out is hs (fun o h=>⟨fun x hx=>by have:=ho o h;have:=ha1 x hx;omega,fun x hx=>by have:=ho o h;have:=hb1 x hx;omega⟩) hk.symm hp (by omega)
  refine⟨r,h1,h2.strict,fun z hz=>?_,by have:=h2.len;omega,fun z hz=>?_,h2.lo⟩
  ·rcases h2.mem z hz with h|h|h
   ·exact .inl h
   ·exact .inr (.inl (hm z h))
   ·exact .inr (.inr (hm2 z h))
  ·rw[h2.hi z hz]
   by_cases hxz:X≤z
   ·rw[pa z hxz,pb z hxz]
   ·rw[pa0 z (by omega),pb0 z (by omega),yU fun x hx=>by have:=ha1 x hx;omega,yU fun x hx=>by have:=hb1 x hx;omega,Bool.xor_false,Bool.xor_false,Bool.xor_false,Bool.xor_false,hk,hi]
 ·rw [if_pos (by simpa using hk),qN (by simp;omega),ob]
  obtain⟨r,h1,h2⟩:=ih (out++[X]) (k inA1 inB1) (List.pairwise_append.2 ⟨hs,List.pairwise_singleton _ _,fun o h x hx=>by simp at hx;subst hx;exact ho o h⟩) (fun o h=>by
   rcases List.mem_append.1 h with h|h
   ·exact⟨fun x hx=>by have:=ho o h;have:=ha1 x hx;omega,fun x hx=>by have:=ho o h;have:=hb1 x hx;omega⟩
   ·simp at h;subst h;exact⟨ha1,hb1⟩) rfl (by
   rw[List.length_append,List.length_singleton,Dq,←hp]
   cases hv:k inA1 inB1<;>cases is<;>simp_all) (by simp;omega)
  refine⟨r,h1,h2.strict,fun z hz=>?_,by have:=h2.len;simp at this;omega,fun z hz=>?_,fun z hz=>?_⟩
  ·rcases h2.mem z hz with h|h|h
   ·rcases List.mem_append.1 h with h|h
    ·exact .inl h
    ·simp at h;subst h
     rcases hX with h|h
     ·exact .inr (.inl h)
     ·exact .inr (.inr h)
   ·exact .inr (.inl (hm z h))
   ·exact .inr (.inr (hm2 z h))
  ·by_cases hxz:X≤z
   ·rw[h2.hi z (fun o h=>by
     rcases List.mem_append.1 h with h|h
     ·exact hz o h
     ·simp at h;omega),pa z hxz,pb z hxz]
   ·rw[h2.lo z ⟨X,by simp,by omega⟩,Cq,pa0 z (by omega),pb0 z (by omega),Bool.xor_false,Bool.xor_false,EW hz,←hp,hi,yU (l:=[X]) (fun x hx=>by simp at hx;omega),Bool.xor_false]
  ·obtain⟨o,h,hzo⟩:=hz
   rw[h2.lo z ⟨o,by simp[h],hzo⟩,Cq,yU (l:=[X]) (fun x hx=>by simp at hx;have:=ho o h;omega),Bool.xor_false]
theorem Bw{k:Bool→Bool→Bool}{f:Bool→Bool→Option Bool}(hf:∀a b,f a b=some (k a b)):∀(m:Nat) (a b out:List Int) (inA Gi is:Bool),a.length+b.length<m→a.Pairwise (fun x y=>x<y)→b.Pairwise (fun x y=>x<y)→out.Pairwise (fun x y=>x<y)→(∀o∈out,(∀x∈a,o<x)∧∀x∈b,o<x)→is=k inA Gi→is=(out.length%2==1)→out.length+a.length+b.length≤4000000000→
  ∃r,eG f m a b out inA Gi is=some r∧Ol k a b out inA Gi r
 |0,_,_,_,_,_,_,h,_,_,_,_,_,_,_=>absurd h (Nat.not_lt_zero _)
 |m+1,[],[],out,inA,Gi,is,_,_,_,hs,_,hi,hp,_=>by
  rw[eG.eq_2,if_neg (by simp)]
  exact⟨out,rfl,hs,fun z hz=>.inl hz,by simp,fun z hz=>by rw[EW hz,←hp,hi];simp[par],fun _ _=>rfl⟩
 | m+1,x::a,[],out,inA,Gi,is,hm,sa,sb,hs,ho,hi,hp,hl=>by
  have ha:=List.pairwise_cons.1 sa
  rw[eG.eq_2,if_pos (by simp),if_pos (by simp),ob,if_pos rfl,show idx (x::a) 0=some x from rfl,ob]
  unfold ko
  rw[if_pos (by simp),show idx (x::a) 0=some x from rfl,ob,ob,if_pos (by simp),wG,ob]
  unfold kY
  rw[if_neg (by simp),ob,if_neg (by simp)]
  simp only[List.length_cons,List.length_nil] at hm hl
  refine xW (m:=m) (a:=x::a) (b:=[]) hf (fun o i k1 k2 k3 k4 k5=>Bw hf m a [] o (!inA) Gi i (by simp;omega) ha.2 sb k1 k2 k3 k4 k5) hs (fun o h=>(ho o h).1 x (by simp)) ha.1 (by simp) hi hp (by simp;omega) (by simp;omega) (fun z hz=>?_) (fun _ _=>rfl) (fun z hz=>yU fun y hy=>?_) (fun _ _=>rfl) (fun z h=>by simp[h]) (fun z h=>h) (.inl (by simp))
  ·rw[par,decide_eq_true hz];cases inA<;>cases par z a<;>rfl
  ·rcases List.mem_cons.1 hy with rfl|hy
   ·exact hz
   ·have:=ha.1 y hy;omega
 | m+1,[],y::b,out,inA,Gi,is,hm,sa,sb,hs,ho,hi,hp,hl=>by
  have hb:=List.pairwise_cons.1 sb
  rw[eG.eq_2,if_pos (by simp),if_neg (by simp;omega),if_neg (by simp),ob,ob,if_neg (by simp),show idx (y::b) 0=some y from rfl,ob]
  unfold ko
  rw[if_neg (by simp),ob,if_neg (by simp)]
  unfold kY
  rw[if_pos (by simp),show idx (y::b) 0=some y from rfl,ob,ob,if_pos (by simp),wG,ob]
  simp only[List.length_cons,List.length_nil] at hm hl
  refine xW (m:=m) (a:=[]) (b:=y::b) hf (fun o i k1 k2 k3 k4 k5=>Bw hf m [] b o inA (!Gi) i (by simp;omega) sa hb.2 k1 k2 k3 k4 k5) hs (fun o h=>(ho o h).2 y (by simp)) (by simp) hb.1 hi hp (by simp;omega) (by simp;omega) (fun _ _=>rfl) (fun z hz=>?_) (fun _ _=>rfl) (fun z hz=>yU fun x hx=>?_) (fun z h=>h) (fun z h=>by simp[h]) (.inr (by simp))
  ·rw[par,decide_eq_true hz];cases Gi<;>cases par z b<;>rfl
  ·rcases List.mem_cons.1 hx with rfl|hx
   ·exact hz
   ·have:=hb.1 x hx;omega
 | m +1,x::a,y::b,out,inA,Gi,is,hm,sa,sb,hs,ho,hi,hp,hl=>by
  have ha:=List.pairwise_cons.1 sa
  have hb:=List.pairwise_cons.1 sb
  have e1:idx (x::a) 0=some x:=rfl
  have e2:idx (y::b) 0=some y:=rfl
  simp only[List.length_cons] at hm hl
  rw[eG.eq_2,if_pos (by simp),if_neg (by simp;omega),if_pos (by simp),e1,ob,e2,ob,ob,ob]
  simp only[ob]
  have hxa:∀z,x≤z→xor inA (par z (x::a))=xor (!inA) (par z a):=fun z hz=>by rw[par,decide_eq_true hz];cases inA<;>cases par z a<;>rfl
  have hyb:∀z,y≤z→xor Gi (par z (y::b))=xor (!Gi) (par z b):=fun z hz=>by rw[par,decide_eq_true hz];cases Gi<;>cases par z b<;>rfl
  have hax:∀z,z<x→par z (x::a)=false:=fun z hz=>yU fun v hv=>by
   rcases List.mem_cons.1 hv with rfl|hv
   ·exact hz
   ·have:=ha.1 v hv;omega
  have hby:∀z,z<y→par z (y::b)=false:=fun z hz=>yU fun v hv=>by
   rcases List.mem_cons.1 hv with rfl|hv
   ·exact hz
   ·have:=hb.1 v hv;omega
  by_cases hxy:x≤y
  ·rw[if_pos (by simpa using hxy)]
   unfold ko
   rw[if_pos (by simp),e1,ob,ob,if_pos (by simp),wG,ob]
   unfold kY
   rw[if_pos (by simp),e2,ob,ob]
   by_cases he:y=x
   ·subst he
    rw[if_pos (by simp),wG,ob]
    exact xW (m:=m) (a:=y::a) (b:=y::b) hf (fun o i k1 k2 k3 k4 k5=>Bw hf m a b o (!inA) (!Gi) i (by omega) ha.2 hb.2 k1 k2 k3 k4 k5) hs (fun o h=>(ho o h).1 y (by simp)) ha.1 hb.1 hi hp (by simp;omega) (by simp;omega) hxa hyb hax hby (fun z h=>by simp[h]) (fun z h=>by simp[h]) (.inl (by simp))
   ·rw[if_neg (by simpa using he)]
    exact xW (m:=m) (a:=x::a) (b:=y::b) hf (fun o i k1 k2 k3 k4 k5=>Bw hf m a (y::b) o (!inA) Gi i (by simp;omega) ha.2 sb k1 k2 k3 k4 k5) hs (fun o h=>(ho o h).1 x (by simp)) ha.1 (fun v hv=>by
     rcases List.mem_cons.1 hv with rfl|hv
     ·omega
     ·have:=hb.1 v hv;omega) hi hp (by simp;omega) (by simp;omega) hxa (fun _ _=>rfl) hax (fun z hz=>hby z (by omega)) (fun z h=>by simp[h]) (fun z h=>h) (.inl (by simp))
  ·rw[if_neg (by simpa using hxy)]
   unfold ko
   rw[if_pos (by simp),e1,ob,ob,if_neg (by simp;omega)]
   unfold kY
   rw[if_pos (by simp),e2,ob,ob,if_pos (by simp),wG,ob]
   exact xW (m:=m) (a:=x::a) (b:=y::b) hf (fun o i k1 k2 k3 k4 k5=>Bw hf m (x::a) b o inA (!Gi) i (by simp;omega) sa hb.2 k1 k2 k3 k4 k5) hs (fun o h=>(ho o h).2 y (by simp)) (fun v hv=>by
     rcases List.mem_cons.1 hv with rfl|hv
     ·omega
     ·have:=ha.1 v hv;omega) hb.1 hi hp (by simp;omega) (by simp;omega) (fun _ _=>rfl) hyb (fun z hz=>hax z (by omega)) hby (fun z h=>h) (fun z h=>by simp[h]) (.inr (by simp))
theorem Vh:∀l:List Int,∃z,∀a∈l,a≤z
 |[]=>⟨0,by simp⟩
 |b::l=>by
  obtain⟨z,h⟩:=Vh l
  refine⟨max z b,fun a ha=>?_⟩
  rcases List.mem_cons.1 ha with rfl|ha
  ·omega
  ·have:=h a ha;omega
theorem Vy:∀l:List Int,∃z,∀a∈l,z<a
 |[]=>⟨0,by simp⟩
 |b::l=>by
  obtain⟨z,h⟩:=Vy l
  refine⟨min z (b-1),fun a ha=>?_⟩
  rcases List.mem_cons.1 ha with rfl|ha
  ·omega
  ·have:=h a ha;omega
theorem Mv(n:Nat):(2*n%2==1)=false:=by
 have:2*n%2=0:=by omega
 rw[this];rfl
theorem Ug{k:Bool→Bool→Bool}{f:Bool→Bool→Option Bool}(hf:∀a b,f a b=some (k a b))(hk:k false false=false){N:Nat}{l m:List (Int×Int)}(hl:∃lo,Can lo l)(hm:∃lo,Can lo m)(hlen:2*l.length+2*m.length<N)(hlen2:2*l.length+2*m.length≤4000000000):
  ∃C,ut N (eO l) (eO m) f=some (eO C)∧(∃lo,Can lo C)∧C.length≤l.length+m.length∧∀x,tO x C↔∃p q,(p=true↔tO x l)∧(q=true↔tO x m)∧k p q=true:=by
 obtain⟨lo1,c1⟩:=hl
 obtain⟨lo2,c2⟩:=hm
 obtain⟨r,h1,h2⟩:=Bw hf N (eO l) (eO m) [] false false false (by rw[iU,iU];exact hlen) c1.strict.1 c2.strict.1 List.Pairwise.nil (by simp) hk.symm rfl (by rw[iU,iU];simpa using hlen2)
 have hpar:∀z,par z r=k (par z (eO l)) (par z (eO m)):=fun z=>by
  have:=h2.hi z (by simp)
  rw[Bool.false_xor,Bool.false_xor] at this
  exact this
 have hodd:(r.length%2==1)=false:=by
  obtain⟨z,hz⟩:=Vh (r++eO l++eO m)
  rw[←EW (x:=z) (l:=r) (fun a ha=>hz a (by simp[ha])),hpar z,EW (x:=z) (l:=eO l) (fun a ha=>hz a (by simp[ha])),EW (x:=z) (l:=eO m) (fun a ha=>hz a (by simp[ha])),iU,iU,Mv,Mv,hk]
 obtain⟨lo,hlo⟩:=Vy r
 obtain⟨C,d1,d2⟩:=Gy r lo h2.strict hlo hodd
 refine⟨C,by rw[d2];exact h1,⟨lo,d1⟩,?_,fun x=>?_⟩
 ·have:=h2.len
  rw[←d2,iU,iU,iU] at this
  simp at this
  omega
 ·rw[BD d1,d2,hpar]
  constructor
  ·intro h
   exact⟨_,_,(BD c1).symm,(BD c2).symm,h⟩
  ·rintro⟨p,q,hp,hq,h⟩
   have e1:p=par x (eO l):=by rw[Bool.eq_iff_iff,hp,BD c1]
   have e2:q=par x (eO m):=by rw[Bool.eq_iff_iff,hq,BD c2]
   rw[←e1,←e2];exact h
def pM(y:Int):List Bd→List Bd
 |[]=>[]
 |b::l=>if b.2.1≤y then pM y l else b::l
theorem E9(y:Int):∀l:List Bd,∀b∈pM y l,b∈l
 |[],b,h=>h
 |c::l,b,h=>by
  unfold pM at h
  split at h
  ·exact List.mem_cons_of_mem _ (E9 y l b h)
  ·exact h
theorem Fa(y:Int):∀l:List Bd,(pM y l).length≤l.length
 |[]=>by simp[pM]
 |c::l=>by
  unfold pM
  split
  ·have:=Fa y l;simp;omega
  ·simp
theorem Fb(y:Int):∀{l:List Bd} {lo:Int},rV lo l→∃lo,rV lo (pM y l)
 |[],lo,h=>⟨lo,h⟩
 |c::l,lo,h=>by
  unfold pM
  split
  ·exact Fb y h.2.2.2.2
  ·exact⟨lo,h⟩
theorem yu{y z:Int}(hz:y≤z):∀l:List Bd,rowAt (pM y l) z=rowAt l z
 |[]=>rfl
 | c::l=>by
  unfold pM
  split
  ·rw[yu hz l]
   show _=if c.1≤z∧z<c.2.1 then c.2.2 else rowAt l z
   rw[if_neg (by omega)]
  ·rfl
theorem Cw{y:Int}:∀{l:List Bd} {b:Bd},(pM y l).head?=some b→y<b.2.1
 |[],b,h=>by simp[pM] at h
 |c::l,b,h=>by
  unfold pM at h
  split at h
  ·exact Cw h
  ·simp at h;subst h;omega
def Ko:List Bd→Int→List (Int×Int)
 |[],_=>[]
 |b::_,y=>if y<b.1 then[] else b.2.2
def sw(e:Int):List Bd→Int→Int
 |[],_=>e
 |b::_,y=>if y<b.1 then min e b.1 else min e b.2.1
theorem Px(l:List Bd)(y e:Int):oC (l.map toP) y e=some (eO (Ko l y),sw e l y):=by
 unfold oC
 cases l with
 |nil=>rfl
 |cons b l=>
  rw[if_neg (by simp;omega),List.map_cons,show idx (toP b::l.map toP) 0=some (toP b) from rfl,ob]
  simp only[Ko,sw]
  by_cases h:y<b.1
  ·rw[if_pos (decide_eq_true (show y<(toP b).Y0 from h)),if_pos h,if_pos h,ob];rfl
  ·rw[if_neg (show ¬decide (y<(toP b).Y0)=true from by rw[decide_eq_true_eq];exact h),if_neg h,if_neg h,ob,ob];rfl
theorem OH{l:List Bd}{lo y e:Int}(h:rV lo l)(hh:∀b,l.head?=some b→y<b.2.1)(hy:y<e):y<sw e l y∧sw e l y≤e∧(∀z,y≤z→z<sw e l y→rowAt l z=Ko l y)∧(sw e l y=e∨∃b∈l,sw e l y=b.1∨sw e l y=b.2.1):=by
 cases l with
 |nil=>exact⟨hy,Int.le_refl _,fun _ _ _=>rfl,.inl rfl⟩
 | cons b l=>
  have hb:=hh b rfl
  simp only[Ko,sw]
  by_cases h1:y<b.1
  ·rw[if_pos h1,if_pos h1]
   refine⟨by omega,by omega,fun z k1 k2=>?_,?_⟩
   ·show(if b.1≤z∧z<b.2.1 then b.2.2 else rowAt l z)=[]
    rw[if_neg (by omega)]
    exact wz h.2.2.2.2 (by have:=h.2.1;omega)
   ·by_cases k:e≤b.1
    ·exact .inl (by omega)
    ·exact .inr ⟨b,by simp,.inl (by omega)⟩
  ·rw[if_neg h1,if_neg h1]
   refine⟨by omega,by omega,fun z k1 k2=>?_,?_⟩
   ·show(if b.1≤z∧z<b.2.1 then b.2.2 else rowAt l z)=b.2.2
    rw[if_pos (by omega)]
   ·by_cases k:e≤b.2.1
    ·exact .inl (by omega)
    ·exact .inr ⟨b,by simp,.inr (by omega)⟩
section
variable {N:Nat} {f:Bool→Bool→Option Bool} {e:Int} {out:List bz} {y:Int} {K:List bz→List bz→List bz→Int→Option (List bz)}
def S9(N:Nat)(f:Bool→Bool→Option Bool)(e:Int)(out:List bz)(y:Int)(K:List bz→List bz→List bz→Int→Option (List bz))(a b:List Bd):Option (List bz):=
 (ut N (eO (Ko a y)) (eO (Ko b y)) f).bind fun Yf=>
 (gm out (bz.mk y (min (sw e a y) (sw e b y)) Yf)).bind fun Ye=>
 K (a.map toP) (b.map toP) Ye (min (sw e a y) (sw e b y))
theorem Om(a:List Bd):∀(b:List Bd) (m:Nat),b.length<m→kJ N f e out y K (a.map toP) m (b.map toP)=S9 N f e out y K a (pM y b)
 |b,0,h=>absurd h (Nat.not_lt_zero _)
 |[],m+1,h=>by
  rw[kJ.eq_2,if_neg (by simp),ob,if_neg (by simp),Px,ob,Px,ob];rfl
 | c::b,m+1,h=>by
  simp only[List.length_cons] at h
  rw[kJ.eq_2,if_pos (by simp),List.map_cons,show idx (toP c::b.map toP) 0=some (toP c) from rfl,ob,ob]
  unfold pM
  by_cases hc:c.2.1≤y
  ·rw[if_pos (decide_eq_true (show(toP c).Y1≤y from hc)),if_pos hc,wG,ob]
   exact Om a b m (by omega)
  ·rw[if_neg (show ¬decide ((toP c).Y1≤y)=true from by rw[decide_eq_true_eq];exact hc),if_neg hc,←List.map_cons,Px,ob,Px,ob];rfl
theorem TD{b:List Bd}(hb:b.length<N):∀(a:List Bd) (m:Nat),a.length<m→kK N f e (b.map toP) out y K m (a.map toP)=S9 N f e out y K (pM y a) (pM y b)
 |a,0,h=>absurd h (Nat.not_lt_zero _)
 |[],m+1,h=>by
  rw[kK.eq_2,if_neg (by simp),ob,if_neg (by simp)]
  exact Om [] b N hb
 | c::a,m+1,h=>by
  simp only[List.length_cons] at h
  rw[kK.eq_2,if_pos (by simp),List.map_cons,show idx (toP c::a.map toP) 0=some (toP c) from rfl,ob,ob]
  have hd:pM y (c::a)=if c.2.1≤y then pM y a else c::a:=rfl
  rw[hd]
  by_cases hc:c.2.1≤y
  ·rw[if_pos (decide_eq_true (show(toP c).Y1≤y from hc)),if_pos hc,wG,ob]
   exact TD hb a m (by omega)
  ·rw[if_neg (show ¬decide ((toP c).Y1≤y)=true from by rw[decide_eq_true_eq];exact hc),if_neg hc,←List.map_cons]
   exact Om (c::a) b N hb
end
def Tm(ev:List Int)(y:Int):Nat:=(ev.filter fun z=>decide (y<z)).length
theorem WU{y z:Int}(hyz:y<z):∀{ev:List Int},z∈ev→Tm ev z<Tm ev y:=by
 have mono:∀ev:List Int,Tm ev z≤Tm ev y:=by
  intro ev
  induction ev with
  |nil=>simp[Tm]
  | cons a ev ih=>
   unfold Tm at*
   rw[List.filter_cons,List.filter_cons]
   by_cases h1:z<a
   ·rw[if_pos (by simpa using h1),if_pos (by simp;omega)];simp;exact ih
   ·rw[if_neg (by simpa using h1)]
    split
    ·simp;omega
    ·exact ih
 intro ev
 induction ev with
 |nil=>intro h;simp at h
 | cons a ev ih=>
  intro h
  have hm:=mono ev
  unfold Tm at*
  rw[List.filter_cons,List.filter_cons]
  rcases List.mem_cons.1 h with rfl|h
  ·rw[if_neg (by simp),if_pos (by simpa using hyz)]
   simp;omega
  ·have:=ih h
   by_cases h1:z<a
   ·rw[if_pos (by simpa using h1),if_pos (by simp;omega)];simp;exact this
   ·rw[if_neg (by simpa using h1)]
    split
    ·simp;omega
    ·exact this
theorem U3(ev:List Int)(y:Int):Tm ev y≤ev.length:=List.length_filter_le _ _
def Kept(k:Bool→Bool→Bool)(A B:List Bd)(x y:Int):Prop:=∃p q,(p=true↔tH x y A)∧(q=true↔tH x y B)∧k p q=true
theorem LZ{k:Bool→Bool→Bool}{f:Bool→Bool→Option Bool}(hf:∀a b,f a b=some (k a b))(hk:k false false=false){N:Nat}(hN:10000000000≤N){A B:List Bd}{R1 R2:Nat}(hrA:∀b∈A,(∃lo,Can lo b.2.2)∧b.2.2.length≤R1)(hrB:∀b∈B,(∃lo,Can lo b.2.2)∧b.2.2.length≤R2)(hR:R1+R2≤500000000)(hAl:A.length≤500000000)(hBl:B.length≤500000000){ev:List Int}{e lo:Int}(hev:e∈ev)(hevA:∀b∈A,b.1∈ev∧b.2.1∈ev)(hevB:∀b∈B,b.1∈ev∧b.2.1∈ev):
  ∀(m:Nat) (a b out:List Bd) (y:Int),(∃lo,rV lo a)→(∃lo,rV lo b)→(∀c∈a,c∈A)→(∀c∈b,c∈B)→a.length≤A.length→b.length≤B.length→(∀z,y≤z→rowAt a z=rowAt A z)→(∀z,y≤z→rowAt b z=rowAt B z)→rV lo out→lo≤y→(∀c∈out,c.2.1≤y∧(∃lo,Can lo c.2.2)∧c.2.2.length≤R1+R2)→(∀x z,tH x z out↔z<y∧Kept k A B x z)→Tm ev y<m→out.length+Tm ev y≤900000000→(∀x z,e≤z→¬Kept k A B x z)→
  ∃C,gT N f e m (a.map toP) (b.map toP) (out.map toP) y=some (C.map toP)∧yL C∧(∀x z,tH x z C↔Kept k A B x z)∧C.length≤out.length+Tm ev y∧∀c∈C,c.2.2.length≤R1+R2
 |0,_,_,_,_,_,_,_,_,_,_,_,_,_,_,_,_,h,_,_=>absurd h (Nat.not_lt_zero _)
 | m +1,a,b,out,y,⟨la,ca⟩,⟨lb,cb⟩,sa,sb,hal,hbl,ra,rb,co,hlo,ho,hin,hm,hl,hend=>by
  by_cases hye:y<e
  ·rw[gT.eq_2,if_pos (by simpa using hye),TD (by omega) a N (by omega)]
   obtain⟨la',ca'⟩:=Fb y ca
   obtain⟨lb',cb'⟩:=Fb y cb
   have sa':∀c∈pM y a,c∈A:=fun c hc=>sa c (E9 y a c hc)
   have sb':∀c∈pM y b,c∈B:=fun c hc=>sb c (E9 y b c hc)
   obtain⟨na,na2,wa,va⟩:=OH (e:=e) ca' (fun c hc=>Cw hc) hye
   obtain⟨nb,nb2,wb,vb⟩:=OH (e:=e) cb' (fun c hc=>Cw hc) hye
   have rowcan:∀{l:List Bd} {L:List Bd} {R:Nat},(∀b∈L,(∃lo,Can lo b.2.2)∧b.2.2.length≤R)→(∀c∈l,c∈L)→(∃lo,Can lo (Ko l y))∧(Ko l y).length≤R:=fun{l L R} h1 h2=>by
    cases l with
    |nil=>exact⟨⟨0,trivial⟩,Nat.zero_le _⟩
    |cons c l=>
     simp only[Ko]
     split
     ·exact⟨⟨0,trivial⟩,Nat.zero_le _⟩
     ·exact h1 c (h2 c (by simp))
   obtain⟨ra1,ra2⟩:=rowcan hrA sa'
   obtain⟨rb1,rb2⟩:=rowcan hrB sb'
   obtain⟨C0,k1,k2,k3,k4⟩:=Ug hf hk (N:=N) ra1 rb1 (by omega) (by omega)
   unfold S9
   rw[k1,ob]
   generalize hn:min (sw e (pM y a) y) (sw e (pM y b) y)=n
   have hyn:y<n:=by omega
   have hne:n≤e:=by omega
   have hnev:n∈ev:=by
    have key:∀{l L:List Bd},(∀c∈l,c∈L)→(∀b∈L,b.1∈ev∧b.2.1∈ev)→(sw e l y=e∨∃b∈l,sw e l y=b.1∨sw e l y=b.2.1)→sw e l y∈ev:=fun h1 h2 h3=>by
     rcases h3 with h|⟨c,hc,h|h⟩
     ·rw[h];exact hev
     ·rw[h];exact(h2 c (h1 c hc)).1
     ·rw[h];exact(h2 c (h1 c hc)).2
    have e1:=key sa' hevA va
    have e2:=key sb' hevB vb
    rcases Int.le_total (sw e (pM y a) y) (sw e (pM y b) y) with h|h
    ·rw[←hn,Int.min_eq_left h];exact e1
    ·rw[←hn,Int.min_eq_right h];exact e2
   have haft:=WU hyn hnev
   have hp:gm (out.map toP) (bz.mk y n (eO C0))=some ((pushB out (y,n,C0)).map toP):=Gg (l:=out) (b:=(y,n,C0)) (by omega) hyn
   rw[hp,ob]
   obtain⟨p1,p2,p3⟩:=co.push (b:=(y,n,C0)) (fun c hc=>(ho c hc).1) hlo hyn
   have hpl:=xU out (y,n,C0)
   have hkept:∀x z,y≤z→z<n→(tO x C0↔Kept k A B x z):=fun x z z1 z2=>by
    rw[k4 x,←wa z z1 (by omega),←wb z z1 (by omega),yu z1,yu z1,ra z z1,rb z z1]
    exact Iff.rfl
   obtain⟨C,i1,i2,i3,i4,i5⟩:=LZ hf hk hN hrA hrB hR hAl hBl hev hevA hevB m (pM y a) (pM y b) (pushB out (y,n,C0)) n ⟨la',ca'⟩ ⟨lb',cb'⟩ sa' sb' (Nat.le_trans (Fa y a) hal) (Nat.le_trans (Fa y b) hbl) (fun z hz=>by rw[yu (by omega),ra z (by omega)]) (fun z hz=>by rw[yu (by omega),rb z (by omega)]) p1 (by omega) (fun c hc=>by
    obtain⟨q1,q2|⟨d,q2,q3⟩⟩:=p2 c hc
    ·exact⟨q1,by rw[q2];exact k2,by rw[q2];show C0.length≤_;omega⟩
    ·exact⟨q1,by rw[q3];exact(ho d q2).2.1,by rw[q3];exact(ho d q2).2.2⟩) (fun x z=>by
    have h1:tH x z (pushB out (y,n,C0))↔tO x (if y≤z∧z<n then C0 else rowAt out z):=by
     unfold tH
     rw[p3 z]
    rw[h1]
    by_cases hz:y≤z∧z<n
    ·rw[if_pos hz,hkept x z hz.1 hz.2]
     exact⟨fun h=>⟨hz.2,h⟩,fun h=>h.2⟩
    ·rw[if_neg hz]
     refine(hin x z).trans ⟨fun h=>⟨by omega,h.2⟩,fun h=>⟨by omega,h.2⟩⟩) (by omega) (by omega) hend
   exact⟨C,i1,i2,i3,by omega,i5⟩
  ·rw[gT.eq_2,if_neg (by simpa using hye)]
   refine⟨out,rfl,⟨⟨lo,co⟩,fun c hc=>(ho c hc).2.1⟩,fun x z=>?_,by omega,fun c hc=>(ho c hc).2.2⟩
   rw[hin]
   exact⟨fun h=>h.2,fun h=>⟨by
    rcases Int.lt_or_le z y with hz|hz
    ·exact hz
    ·exact absurd h (hend x z (by omega)),h⟩⟩
theorem Nf{k:Bool→Bool→Bool}{f:Bool→Bool→Option Bool}(hf:∀a b,f a b=some (k a b))(hk:k false false=false){N:Nat}(hN:10000000000≤N){A B:List Bd}{R1 R2:Nat}(hA:yL A)(hB:yL B)(hrA:∀b∈A,b.2.2.length≤R1)(hrB:∀b∈B,b.2.2.length≤R2)(hR:R1+R2≤500000000)(hl:A.length+B.length≤200000000):
  ∃C,qL N (A.map toP) (B.map toP) f=some (C.map toP)∧yL C∧(∀x z,tH x z C↔Kept k A B x z)∧C.length≤2*A.length+2*B.length+1∧∀c∈C,c.2.2.length≤R1+R2:=by
 have hnot:∀{A B:List Bd} {x z:Int},¬tH x z A→¬tH x z B→¬Kept k A B x z:=fun h1 h2 ⟨p,q,hp,hq,h⟩=>by
  have e1:p=false:=by rw[Bool.eq_false_iff];exact fun h=>h1 (hp.1 h)
  have e2:q=false:=by rw[Bool.eq_false_iff];exact fun h=>h2 (hq.1 h)
  rw[e1,e2,hk] at h;cases h
 have inlo:∀{l:List Bd} {lo x z:Int},rV lo l→tH x z l→lo≤z:=fun{l lo x z} h hx=>by
  rcases Int.lt_or_le z lo with hz|hz
  ·unfold tH at hx
   rw[wz h hz] at hx
   exact absurd hx om
  ·exact hz
 have inhi:∀{l:List Bd} {b:Bd} {lo x z:Int},rV lo (l++[b])→tH x z (l++[b])→z<b.2.1:=by
  intro l
  induction l with
  | nil=>
   intro b lo x z h hx
   unfold tH at hx
   by_cases hz:b.1≤z∧z<b.2.1
   ·exact hz.2
   ·have:rowAt ([]++[b]) z=[]:=by show(if b.1≤z∧z<b.2.1 then b.2.2 else[])=[];rw[if_neg hz]
    rw[this] at hx;exact absurd hx om
  | cons c l ih=>
   intro b lo x z h hx
   have hcan:rV c.2.1 (l++[b]):=h.2.2.2.2
   by_cases hz:c.1≤z∧z<c.2.1
   ·have:=hcan.mem b (by simp)
    omega
   ·refine ih hcan (x:=x) ?_
    unfold tH at hx ⊢
    have:rowAt (c::l++[b]) z=rowAt (l++[b]) z:=by show(if c.1≤z∧z<c.2.1 then c.2.2 else rowAt (l++[b]) z)=_;rw[if_neg hz]
    rw[←this];exact hx
 obtain⟨la,ca⟩:=hA.can
 obtain⟨lb,cb⟩:=hB.can
 have go:∀(y e:Int),(∀x z,tH x z A→y≤z∧z<e)→(∀x z,tH x z B→y≤z∧z<e)→∃C,gT N f e N (A.map toP) (B.map toP) ([]:List bz) y=some (C.map toP)∧yL C∧(∀x z,tH x z C↔Kept k A B x z)∧C.length≤2*A.length+2*B.length+1∧∀c∈C,c.2.2.length≤R1+R2:=fun y e h1 h2=>by
  have hlen:(e::(A.flatMap (fun b=>[b.1,b.2.1])++B.flatMap fun b=>[b.1,b.2.1])).length=2*A.length+2*B.length+1:=by
   have:∀l:List Bd,(l.flatMap fun b=>[b.1,b.2.1]).length=2*l.length:=by
    intro l
    induction l with
    |nil=>rfl
    |cons b l ih=>rw[List.flatMap_cons,List.length_append,ih];simp;omega
   rw[List.length_cons,List.length_append,this,this]
  have haf:=U3 (e::(A.flatMap (fun b=>[b.1,b.2.1])++B.flatMap fun b=>[b.1,b.2.1])) y
  rw[hlen] at haf
  have hmem:∀l:List Bd,∀b∈l,b.1∈l.flatMap (fun b=>[b.1,b.2.1])∧b.2.1∈l.flatMap (fun b=>[b.1,b.2.1]):=fun l b hb=>⟨List.mem_flatMap.2 ⟨b,hb,by simp⟩,List.mem_flatMap.2 ⟨b,hb,by simp⟩⟩
  obtain⟨C,c1,c2,c3,c4,c5⟩:=LZ hf hk hN (A:=A) (B:=B) (R1:=R1) (R2:=R2) (fun b hb=>⟨hA.row b hb,hrA b hb⟩) (fun b hb=>⟨hB.row b hb,hrB b hb⟩) hR (by omega) (by omega) (ev:=e::(A.flatMap (fun b=>[b.1,b.2.1])++B.flatMap fun b=>[b.1,b.2.1])) (e:=e) (lo:=y) (by simp) (fun b hb=>⟨List.mem_cons_of_mem _ (List.mem_append_left _ (hmem A b hb).1),List.mem_cons_of_mem _ (List.mem_append_left _ (hmem A b hb).2)⟩) (fun b hb=>⟨List.mem_cons_of_mem _ (List.mem_append_right _ (hmem B b hb).1),List.mem_cons_of_mem _ (List.mem_append_right _ (hmem B b hb).2)⟩)
   N A B [] y hA.can hB.can (fun _ h=>h) (fun _ h=>h) (Nat.le_refl _) (Nat.le_refl _) (fun _ _=>rfl) (fun _ _=>rfl) trivial (Int.le_refl _) (by simp) (fun x z=>by
    constructor
    ·intro h;unfold tH at h;exact absurd h om
    ·rintro⟨hz,h⟩
     exact absurd h (hnot (fun h=>by have:=h1 x z h;omega) (fun h=>by have:=h2 x z h;omega))) (by omega) (by simp;omega) (fun x z hz=>hnot (fun h=>by have:=h1 x z h;omega) (fun h=>by have:=h2 x z h;omega))
  exact⟨C,c1,c2,c3,by simp at c4;omega,c5⟩
 have two:∀{l:List Bd},l≠[]→yL l→l.length≤200000000→∃b c,idx (l.map toP) 0=some (toP b)∧idx (l.map toP) (bP (((l.map toP).length:Int)-1))=some (toP c)∧∀x z,tH x z l→b.1≤z∧z<c.2.1:=fun{l} hne hok hlen=>by
  obtain⟨lo,hc⟩:=hok.can
  have h1:∃b,idx (l.map toP) 0=some (toP b)∧∀x z,tH x z l→b.1≤z:=by
   cases l with
   |nil=>exact absurd rfl hne
   |cons b l=>exact⟨b,rfl,fun x z h=>inlo (l:=b::l) (lo:=b.1) (show rV b.1 (b::l) from⟨Int.le_refl _,hc.2⟩) h⟩
  have h2:∃c,idx (l.map toP) (bP (((l.map toP).length:Int)-1))=some (toP c)∧∀x z,tH x z l→z<c.2.1:=by
   rcases List.eq_nil_or_concat l with h|⟨j,c,h⟩
   ·exact absurd h hne
   ·rw[List.concat_eq_append] at h
    subst h
    refine⟨c,?_,fun x z h=>inhi hc h⟩
    have e1:bP ((((j++[c]).map toP).length:Int)-1)=((j.map toP).length:Int):=by
     rw[dB (by first|(simp;done)|(simp;omega)) (by simp at hlen ⊢;omega)];simp
    rw[e1,List.map_append]
    exact lC _ [] _
  obtain⟨b,b1,b2⟩:=h1
  obtain⟨c,c1,c2⟩:=h2
  exact⟨b,c,b1,c1,fun x z h=>⟨b2 x z h,c2 x z h⟩⟩
 unfold qL
 have hz:bP (((A.map toP).length:Int)+((B.map toP).length:Int))=(A.length:Int)+(B.length:Int):=by rw[dB (by simp;omega) (by simp;omega)];simp
 rw[hz]
 by_cases h0:A.length+B.length=0
 ·have eA:A=[]:=List.eq_nil_of_length_eq_zero (by omega)
  have eB:B=[]:=List.eq_nil_of_length_eq_zero (by omega)
  subst eA eB
  rw[if_pos (by simp)]
  exact⟨[],rfl,⟨⟨0,trivial⟩,by simp⟩,fun x z=>⟨fun h=>absurd h om,fun h=>absurd h (hnot om om)⟩,by simp,by simp⟩
 ·rw[if_neg (by simp;omega)]
  obtain⟨m,hm⟩:∃k,N=k+3:=⟨N-3,by omega⟩
  have hfu:ek N (A.map toP) (B.map toP) f N 0 0 [A.map toP,B.map toP] 0=ek N (A.map toP) (B.map toP) f (m+3) 0 0 [A.map toP,B.map toP] 0:=congrArg (fun z=>ek N (A.map toP) (B.map toP) f z 0 0 [A.map toP,B.map toP] 0) hm
  rw[hfu,ek.eq_2,if_pos (by decide),show idx [A.map toP,B.map toP] 0=some (A.map toP) from rfl,ob,show bP (0+1)=1 from rfl]
  by_cases hA0:A=[]
  ·have hB0:B≠[]:=fun h=>h0 (by rw[hA0,h];rfl)
   obtain⟨b,c,b1,b2,b3⟩:=two hB0 hB (by omega)
   rw[if_neg (by rw[hA0];simp),ek.eq_2,if_pos (by decide),show idx [A.map toP,B.map toP] 1=some (B.map toP) from rfl,ob,if_pos (by have:=List.length_pos_iff.2 hB0;simp;omega),if_pos (by rw[hA0];rfl),b1,ob,b2,ob]
   unfold lv
   rw[b1,ob,b2,ob,show bP (1+1)=2 from rfl,ek.eq_2,if_neg (by decide)]
   exact go _ _ (fun x z h=>by rw[hA0] at h;exact absurd h om) (fun x z h=>by have:=b3 x z h;show min b.1 b.1≤z∧z<max c.2.1 c.2.1;omega)
  ·obtain⟨b,c,b1,b2,b3⟩:=two hA0 hA (by omega)
   rw[if_pos (by have:=List.length_pos_iff.2 hA0;simp;omega),if_pos (by rfl),b1,ob,b2,ob]
   unfold lv
   rw[b1,ob,b2,ob,show bP (0+1)=1 from rfl,ek.eq_2,if_pos (by decide),show idx [A.map toP,B.map toP] 1=some (B.map toP) from rfl,ob]
   by_cases hB0:B=[]
   ·rw[if_neg (by rw[hB0];simp),show bP (1+1)=2 from rfl,ek.eq_2,if_neg (by decide)]
    exact go _ _ (fun x z h=>by have:=b3 x z h;show min b.1 b.1≤z∧z<max c.2.1 c.2.1;omega) (fun x z h=>by rw[hB0] at h;exact absurd h om)
   ·obtain⟨d,g,d1,d2,d3⟩:=two hB0 hB (by omega)
    have hAl:=List.length_pos_iff.2 hA0
    rw[if_pos (by have:=List.length_pos_iff.2 hB0;simp;omega),if_neg (by simp;exact hA0)]
    unfold lv
    rw[d1,ob,d2,ob,show bP (1+1)=2 from rfl,ek.eq_2,if_neg (by decide)]
    exact go _ _ (fun x z h=>by have:=b3 x z h;show min (min b.1 b.1) d.1≤z∧z<max (max c.2.1 c.2.1) g.2.1;omega) (fun x z h=>by have:=d3 x z h;show min (min b.1 b.1) d.1≤z∧z<max (max c.2.1 c.2.1) g.2.1;omega)
def Deep(n:Int)(S:Int→Int→Prop)(x y:Int):Prop:=∀u v,(x-n≤u∧u≤x+n)→(y-n≤v∧v≤y+n)→S u v
theorem Ta{C:List Bd}(h:∀b∈C,b.2.2≠[]):C.length≤(eu C).length:=by
 induction C with
 |nil=>simp
 |cons b l ih=>
  rw[q8,List.length_append,tC,List.length_cons]
  have:=ih fun c hc=>h c (by simp[hc])
  have:=List.length_pos_iff.2 (h b (by simp))
  omega
theorem yL.le{C:List Bd}(h:yL C):C.length≤(eu C).length:=by
 obtain⟨lo,hc⟩:=h.can
 exact Ta fun b hb=>(hc.mem b hb).2.2
theorem GV{C:List Bd}(h:yL C){m:Int}(hx:∀x y,tH x y C→(-m≤x∧x<m)∧(-m≤y∧y<m)):∀r∈eu C,(-m≤r.X0∧r.X0<r.X1∧r.X1≤m)∧(-m≤r.Y0∧r.Y0<r.Y1∧r.Y1≤m):=fun r hr=>by
 have hne:=Br h r hr
 have h1:=hx r.X0 r.Y0 ((wL h _ _).1 ⟨r,hr,⟨Int.le_refl _,hne.1⟩,⟨Int.le_refl _,hne.2⟩⟩)
 have h2:=hx (r.X1-1) (r.Y1-1) ((wL h _ _).1 ⟨r,hr,⟨by omega,by omega⟩,⟨by omega,by omega⟩⟩)
 omega
section
variable {N:Nat} (hN:10000000000≤N) {n:Int} (hn:0≤n∧n≤100000)
include hN hn
end
structure PI (S:Int→Int→Prop) (r:aO):Prop where
 all:∀x y,S x y→(r.X0≤x∧x<r.X1)∧(r.Y0≤y∧y<r.Y1)
 x0:∃y,S r.X0 y
 x1:∃y,S (r.X1-1) y
 y0:∃x,S x r.Y0
 y1:∃x,S x (r.Y1-1)
theorem PI.uniq{S T:Int→Int→Prop}{r q:aO}(h1:PI S r)(h2:PI T q)(h:∀x y,S x y↔T x y):r=q:=by
 obtain⟨a,ha⟩:=h1.x0
 obtain⟨b,hb⟩:=h1.x1
 obtain⟨c,hc⟩:=h1.y0
 obtain⟨d,hd⟩:=h1.y1
 obtain⟨a',ha'⟩:=h2.x0
 obtain⟨b',hb'⟩:=h2.x1
 obtain⟨c',hc'⟩:=h2.y0
 obtain⟨d',hd'⟩:=h2.y1
 have e1:=h2.all _ _ ((h _ _).1 ha)
 have e2:=h2.all _ _ ((h _ _).1 hb)
 have e3:=h2.all _ _ ((h _ _).1 hc)
 have e4:=h2.all _ _ ((h _ _).1 hd)
 have f1:=h1.all _ _ ((h _ _).2 ha')
 have f2:=h1.all _ _ ((h _ _).2 hb')
 have f3:=h1.all _ _ ((h _ _).2 hc')
 have f4:=h1.all _ _ ((h _ _).2 hd')
 obtain⟨x0,y0,x1,y1⟩:=r
 obtain⟨x0',y0',x1',y1'⟩:=q
 simp only at*
 congr 1<;>omega
theorem rV.init:∀{l:List Bd} {b:Bd} {lo:Int},rV lo (l++[b])→∀c∈l,c.2.1≤b.1
 |[],_,_,_,c,hc=>by simp at hc
 |d::l,b,lo,h,c,hc=>by
  have h':rV d.2.1 (l++[b]):=h.2.2.2.2
  rcases List.mem_cons.1 hc with rfl|hc
  ·exact(h'.mem b (by simp)).1
  ·exact h'.init c hc
theorem NU{l:List (Int×Int)}{q:Int×Int}(hl:l.length≤1000000000):idx (eO (l++[q])) (bP (((eO (l++[q])).length:Int)-1))=some q.2:=by
 have e:eO (l++[q])=(eO l++[q.1])++q.2::[]:=by rw[tZ];simp[eO]
 have e2:bP (((eO (l++[q])).length:Int)-1)=((eO l++[q.1]).length:Int):=by
  rw[dB (by rw[iU];simp;omega) (by rw[iU];simp;omega),iU];simp[iU];omega
 rw[e2,e]
 exact lC _ [] _
theorem Qr{l:List Bd}(h:yL l)(hne:l≠[])(hl:l.length≤1000000000)(hr:∀b∈l,b.2.2.length≤1000000000):∃r,nJ (l.map toP)=some r∧PI (fun x y=>tH x y l) r:=by
 obtain⟨lo,hc⟩:=h.can
 have loop:∀(f g:bz) (suf:List Bd) (i:Nat) (u v:Int),(∀b∈suf,b∈l)→∃u' v',iG f g (suf.map toP) i u v=some ⟨u',f.Y0,v',g.Y1⟩∧u'≤u∧v≤v'∧(u'=u∨∃b∈suf,∃p∈b.2.2,u'=p.1)∧(v'=v∨∃b∈suf,∃p∈b.2.2,v'=p.2)∧∀b∈suf,∀p∈b.2.2,u'≤p.1∧p.2≤v':=by
  intro f g suf
  induction suf with
  |nil=>intro i u v _;exact⟨u,v,rfl,Int.le_refl _,Int.le_refl _,.inl rfl,.inl rfl,by simp⟩
  | cons b suf ih=>
   intro i u v hb
   have hbl:=hb b (by simp)
   have hbne:=(hc.mem b hbl).2.2
   obtain⟨lo',hcan⟩:=h.row b hbl
   have hlen:=hr b hbl
   obtain⟨p,t,hp⟩:∃p t,b.2.2=p::t:=by cases hx:b.2.2 with|nil=>exact absurd hx hbne|cons p t=>exact⟨p,t,rfl⟩
   obtain⟨j,q,hq⟩:∃j q,b.2.2=j++[q]:=by
    rcases List.eq_nil_or_concat b.2.2 with hx|⟨j,q,hx⟩
    ·exact absurd hx hbne
    ·exact⟨j,q,by simpa using hx⟩
   have e1:idx (toP b).Xs 0=some p.1:=by show idx (eO b.2.2) 0=_;rw[hp];rfl
   have e2:idx (toP b).Xs (bP (((toP b).Xs.length:Int)-1))=some q.2:=by
    show idx (eO b.2.2) (bP (((eO b.2.2).length:Int)-1))=_
    rw[hq]
    exact NU (by rw[hq] at hlen;simp at hlen;omega)
   obtain⟨u',v',i1,i2,i3,i4,i5,i6⟩:=ih (i+1) (min u p.1) (max v q.2) (fun c hc=>hb c (by simp[hc]))
   have hfirst:∀r∈b.2.2,p.1≤r.1:=fun r hr=>by
    rw[hp] at hr hcan
    rcases List.mem_cons.1 hr with rfl|hr
    ·exact Int.le_refl _
    ·have:=hcan.2.2.mem r hr;have:=hcan.2.1;omega
   have hlast:∀r∈b.2.2,r.2≤q.2:=fun r hr=>by
    rw[hq] at hr hcan
    obtain⟨_,c2,c3,c4⟩:=hcan.init
    rcases List.mem_append.1 hr with hr|hr
    ·have:=c2 r hr;omega
    ·simp at hr;subst hr;exact Int.le_refl _
   refine⟨u',v',?_,Int.le_trans i2 (Int.min_le_left _ _),Int.le_trans (Int.le_max_left _ _) i3,?_,?_,fun c hcm r hrm=>?_⟩
   ·rw[List.map_cons,iG.eq_2,e1,ob,e2,ob];exact i1
   ·rcases i4 with k|⟨c,hc1,r,hr1,k⟩
    ·by_cases hu:u≤p.1
     ·exact .inl (k.trans (Int.min_eq_left hu))
     ·exact .inr ⟨b,by simp,p,by rw[hp];simp,k.trans (Int.min_eq_right (by omega))⟩
    ·exact .inr ⟨c,by simp[hc1],r,hr1,k⟩
   ·rcases i5 with k|⟨c,hc1,r,hr1,k⟩
    ·by_cases hv:q.2≤v
     ·exact .inl (k.trans (Int.max_eq_left hv))
     ·exact .inr ⟨b,by simp,q,by rw[hq];simp,k.trans (Int.max_eq_right (by omega))⟩
    ·exact .inr ⟨c,by simp[hc1],r,hr1,k⟩
   ·rcases List.mem_cons.1 hcm with rfl|hcm
    ·exact⟨Int.le_trans i2 (Int.le_trans (Int.min_le_right _ _) (hfirst r hrm)),Int.le_trans (hlast r hrm) (Int.le_trans (Int.le_max_right _ _) i3)⟩
    ·exact i6 c hcm r hrm
 obtain⟨b,t,hbt⟩:∃b t,l=b::t:=by cases l with|nil=>exact absurd rfl hne|cons b t=>exact⟨b,t,rfl⟩
 obtain⟨j,c,hjc⟩:∃j c,l=j++[c]:=by
  rcases List.eq_nil_or_concat l with hx|⟨j,q,hx⟩
  ·exact absurd hx hne
  ·exact⟨j,q,by simpa using hx⟩
 have hbl:b∈l:=by rw[hbt];simp
 have hcl:c∈l:=by rw[hjc];simp
 have hbm:=hc.mem b hbl
 have hcm:=hc.mem c hcl
 obtain⟨p,s,hp⟩:∃p s,b.2.2=p::s:=by cases hx:b.2.2 with|nil=>exact absurd hx hbm.2.2|cons p t=>exact⟨p,t,rfl⟩
 obtain⟨p2,s2,hp2⟩:∃p s,c.2.2=p::s:=by cases hx:c.2.2 with|nil=>exact absurd hx hcm.2.2|cons p t=>exact⟨p,t,rfl⟩
 have e0:idx (l.map toP) 0=some (toP b):=by rw[hbt];rfl
 have e1:idx (toP b).Xs 0=some p.1:=by show idx (eO b.2.2) 0=_;rw[hp];rfl
 have e2:idx (toP b).Xs 1=some p.2:=by show idx (eO b.2.2) 1=_;rw[hp];rfl
 have e3:idx (l.map toP) (bP (((l.map toP).length:Int)-1))=some (toP c):=by
  have:bP (((l.map toP).length:Int)-1)=((j.map toP).length:Int):=by
   rw[dB (by simp;omega) (by simp;omega),hjc];simp
  rw[this,hjc,List.map_append]
  exact lC _ [] _
 obtain⟨u,v,k1,k2,k3,k4,k5,k6⟩:=loop (toP b) (toP c) l 0 p.1 p.2 (fun _ h=>h)
 have inb:∀d∈l,∀r∈d.2.2,tH r.1 d.1 l∧tH (r.2-1) d.1 l∧tH r.1 (d.2.1-1) l:=fun d hd r hr=>by
  have hdm:=hc.mem d hd
  obtain⟨_,hcan⟩:=h.row d hd
  have hrm:=hcan.mem r hr
  unfold tH
  rw[Dl hc hd (Int.le_refl _) hdm.2.1,Dl hc hd (y:=d.2.1-1) (by omega) (by omega)]
  exact⟨⟨r,hr,Int.le_refl _,hrm.2⟩,⟨r,hr,by omega,by omega⟩,⟨r,hr,Int.le_refl _,hrm.2⟩⟩
 refine⟨⟨u,b.1,v,c.2.1⟩,?_,fun x y hxy=>?_,?_,?_,?_,?_⟩
 ·unfold nJ
  rw[e0,ob,e1,ob,ob,ob,e2,ob,e3,ob]
  exact k1
 ·have hxy:tH x y l:=hxy
  unfold tH at hxy
  rcases Bq (l:=l) (y:=y) with h1|⟨d,hd,h1,h2,h3⟩
  ·rw[h1] at hxy;exact absurd hxy om
  ·rw[h3] at hxy
   obtain⟨r,hr,hx⟩:=hxy
   have:=k6 d hd r hr
   have hlo:b.1≤d.1:=by
    have hc':=hc
    rw[hbt] at hd hc'
    rcases List.mem_cons.1 hd with rfl|hd
    ·exact Int.le_refl _
    ·have:=hc'.2.2.2.2.mem d hd;have:=hc'.2.1;omega
   have hhi:d.2.1≤c.2.1:=by
    have hc':=hc
    rw[hjc] at hd hc'
    rcases List.mem_append.1 hd with hd|hd
    ·have:=hc'.init d hd;omega
    ·simp at hd;subst hd;exact Int.le_refl _
   show(u≤x∧x<v)∧(b.1≤y∧y<c.2.1)
   omega
 ·rcases k4 with k|⟨d,hd,r,hr,k⟩
  ·rw[k];exact⟨b.1,(inb b hbl p (by rw[hp];simp)).1⟩
  ·rw[k];exact⟨d.1,(inb d hd r hr).1⟩
 ·rcases k5 with k|⟨d,hd,r,hr,k⟩
  ·show ∃y,tH (v-1) y l
   rw[k];exact⟨b.1,(inb b hbl p (by rw[hp];simp)).2.1⟩
  ·show ∃y,tH (v-1) y l
   rw[k];exact⟨d.1,(inb d hd r hr).2.1⟩
 ·exact⟨p.1,(inb b hbl p (by rw[hp];simp)).1⟩
 ·exact⟨p2.1,(inb c hcl p2 (by rw[hp2];simp)).2.2⟩
def lim(r:aO):Bool:=((within r.X0 (-1000000) 1000000&&within r.Y0 (-1000000) 1000000)&&within r.X1 (-1000000) 1000000)&&within r.Y1 (-1000000) 1000000
theorem xk{r:aO}:lim r=true↔((((-1000000≤r.X0∧r.X0≤1000000)∧(-1000000≤r.Y0∧r.Y0≤1000000))∧(-1000000≤r.X1∧r.X1≤1000000))∧(-1000000≤r.Y1∧r.Y1≤1000000)):=by
 unfold lim
 rw[Bool.and_eq_true,Bool.and_eq_true,Bool.and_eq_true,within_iff,within_iff,within_iff,within_iff]
theorem Ve{L:List aO}(hL:L.length≤100000000)(hne:∀r∈L,r.X0<r.X1∧r.Y0<r.Y1):oQ ((pg L).map toP)=some (L.all lim):=by
 unfold oQ
 obtain⟨c1,c2⟩:=yQ hne
 obtain⟨s1,s2⟩:=zX L
 by_cases h:pg L=[]
 ·have hnil:L=[]:=by
   cases L with
   |nil=>rfl
   |cons a l=>
    have ha:=hne a (by simp)
    have:=(c2 a.X0 a.Y0).2 ⟨a,by simp,⟨by omega,by omega⟩,by omega,by omega⟩
    rw[h] at this
    exact absurd this om
  subst hnil
  rw[h];rfl
 ·have hlen:=List.length_pos_iff.2 h
  obtain⟨b,b1,b2⟩:=Qr c1 h (by omega) (fun c hc=>by have:=s2 c hc;omega)
  rw[if_neg (by simp;exact h),b1,ob,JM,ob,ob]
  congr 1
  show lim b=L.all lim
  rw[Bool.eq_iff_iff,List.all_eq_true]
  constructor
  ·intro hb r hr
   have hr':=hne r hr
   have k1:=b2.all _ _ ((c2 r.X0 r.Y0).2 ⟨r,hr,⟨by omega,by omega⟩,by omega,by omega⟩)
   have k2:=b2.all _ _ ((c2 (r.X1-1) (r.Y1-1)).2 ⟨r,hr,⟨by omega,by omega⟩,by omega,by omega⟩)
   rw[xk] at hb ⊢
   omega
  ·intro hall
   obtain⟨y,hx0⟩:=b2.x0
   obtain⟨y',hx1⟩:=b2.x1
   obtain⟨x,hy0⟩:=b2.y0
   obtain⟨x',hy1⟩:=b2.y1
   obtain⟨r1,m1,e1⟩:=(c2 _ _).1 hx0
   obtain⟨r2,m2,e2⟩:=(c2 _ _).1 hx1
   obtain⟨r3,m3,e3⟩:=(c2 _ _).1 hy0
   obtain⟨r4,m4,e4⟩:=(c2 _ _).1 hy1
   have l1:=xk.1 (hall r1 m1)
   have l2:=xk.1 (hall r2 m2)
   have l3:=xk.1 (hall r3 m3)
   have l4:=xk.1 (hall r4 m4)
   rw[xk]
   omega
def IZ(x0 x1 y0 y1:Int)(r:aO):aO:=⟨r.X0+x0,r.Y0+y0,r.X1+x1,r.Y1+y1⟩
def Ne(l:List aO):Prop:=∀r∈l,r.X0<r.X1∧r.Y0<r.Y1
theorem QX{x0 x1 y0 y1:Int}(hx:x0≤x1)(hy:y0≤y1){l:List aO}(h:Ne l):Ne (l.map (IZ x0 x1 y0 y1)):=fun r hr=>by
 obtain⟨q,hq,rfl⟩:=List.mem_map.1 hr
 have:=h q hq
 simp only[IZ];omega
theorem TF{x0 x1 y0 y1:Int}(hx:x0≤x1)(hy:y0≤y1){l:List aO}(h:Ne l)(x y:Int):TP x y (l.map (IZ x0 x1 y0 y1))↔∃u v,TP u v l∧(x-x1≤u∧u≤x-x0)∧(y-y1≤v∧v≤y-y0):=by
 constructor
 ·rintro⟨r,hr,h1,h2⟩
  obtain⟨q,hq,rfl⟩:=List.mem_map.1 hr
  have:=h q hq
  simp only[IZ] at h1 h2
  exact⟨max q.X0 (x-x1),max q.Y0 (y-y1),⟨q,hq,by omega,by omega⟩,by omega,by omega⟩
 ·rintro⟨u,v,⟨q,hq,h1,h2⟩,h3,h4⟩
  refine⟨IZ x0 x1 y0 y1 q,List.mem_map.2 ⟨q,hq,rfl⟩,?_,?_⟩<;>simp only[IZ]<;>omega
theorem V7{x0 x1 y0 y1:Int}(hx:x0≤x1)(hy:y0≤y1){l:List aO}(h:Ne l):pg ((eu (pg l)).map (IZ x0 x1 y0 y1))=pg (l.map (IZ x0 x1 y0 y1)):=by
 obtain⟨b1,b2⟩:=yQ h
 have hr:Ne (eu (pg l)):=Br b1
 refine ND (QX hx hy hr) (QX hx hy h) fun x y=>?_
 rw[TF hx hy hr,TF hx hy h]
 refine exists_congr fun u=>exists_congr fun v=>and_congr_left fun _=>?_
 rw[wL b1,b2]
section
variable {N:Nat} (hN:10000000000≤N)
include hN
theorem Oj{a b c d:Int}(ha: -10000000≤a∧a≤10000000)(hb: -10000000≤b∧b≤10000000)(hc: -10000000≤c∧c≤10000000)(hd: -10000000≤d∧d≤10000000)(hab:0≤a+b)(hcd:0≤c+d){S:List Bd}(hS:yL S)(ht:(eu S).length≤100000000)
  (hlim:∀r∈eu S,(-1900000000≤r.X0∧r.X0<r.X1∧r.X1≤1900000000)∧(-1900000000≤r.Y0∧r.Y0<r.Y1∧r.Y1≤1900000000)):nH N (S.map toP) a b c d=some ((pg ((eu S).map (IZ (-a) b (-c) d))).map toP):=by
 have hle:=hS.le
 have hr9:∀r∈(eu S).map (IZ (-a) b (-c) d),R9 r:=fun r hr=>by
  obtain⟨q,hq,rfl⟩:=List.mem_map.1 hr
  have:=hlim q hq
  constructor<;>simp only[IZ]<;>omega
 have loop:∀(suf pre:List aO) (m:Nat),eu S=pre++suf→suf.length<m→iE N a b c d (eu S) m (pre.map (IZ (-a) b (-c) d)++suf) pre.length=some ((pg ((eu S).map (IZ (-a) b (-c) d))).map toP):=by
  intro suf
  induction suf with
  |nil=>
   intro pre m h1 h2
   obtain⟨m,rfl⟩:∃k,m=k+1:=⟨m-1,by omega⟩
   rw[List.append_nil] at h1
   rw[iE.eq_2,if_neg (by rw[h1];simp),List.append_nil,←h1,Eo hN (by simp;omega) hr9];rfl
  | cons r suf ih=>
   intro pre m h1 h2
   obtain⟨m,rfl⟩:∃k,m=k+1:=⟨m-1,by omega⟩
   have hpl:pre.length≤100000000:=by rw[h1] at ht;simp at ht;omega
   have hr:=hlim r (by rw[h1];simp)
   have e0:(pre.length:Int)=((pre.map (IZ (-a) b (-c) d)).length:Int):=by simp
   have hid:idx (pre.map (IZ (-a) b (-c) d)++r::suf) (pre.length:Int)=some r:=by rw[e0];exact lC _ suf r
   have hset:sets (pre.map (IZ (-a) b (-c) d)++r::suf) (pre.length:Int) (IZ (-a) b (-c) d r)=some ((pre++[r]).map (IZ (-a) b (-c) d)++suf):=by
    unfold sets
    rw[if_pos ⟨by omega,by simp⟩]
    simp
   have hw:aO.mk (bP (r.X0-a)) (bP (r.Y0-c)) (bP (r.X1+b)) (bP (r.Y1+d))=IZ (-a) b (-c) d r:=by
    rw[dB (by omega) (by omega),dB (by omega) (by omega),dB (by omega) (by omega),dB (by omega) (by omega)];rfl
   rw[iE.eq_2,if_pos (by rw[h1];exact NP pre suf r),hid,ob,ob,hw,hset,ob,Ke pre r (by omega)]
   exact ih (pre++[r]) m (by rw[h1];simp) (by simp at h2;omega)
 unfold nH
 rw[Na hN ⟨by omega,fun b hb=>by have:=GU hb;omega,by omega⟩,ob]
 exact loop (eu S) [] N rfl (by omega)
theorem QW{T:List aO}(hT:T.length≤2000)(hne:Ne T)(hl:∀r∈T,(-1000000≤r.X0∧r.X1≤1000000)∧(-1000000≤r.Y0∧r.Y1≤1000000)){p q:aK}(hp:(-1000000≤p.X∧p.X≤1000000)∧(-1000000≤p.Y∧p.Y≤1000000))(hq:(-1000000≤q.X∧q.X≤1000000)∧(-1000000≤q.Y∧q.Y≤1000000)):
  qz N ((pg T).map toP) p q=some ((pg (T.map (IZ (min p.X q.X) (max p.X q.X) (min p.Y q.Y) (max p.Y q.Y)))).map toP):=by
 obtain⟨b1,b2⟩:=yQ hne
 obtain⟨s1,s2⟩:=zX T
 have ht:(eu (pg T)).length≤2000*(pg T).length:=uT fun b hb=>Nat.le_trans (s2 b hb) hT
 have hlim:=GV b1 (m:=1000000) fun x y hx=>by
  obtain⟨r,hr,h1,h2⟩:=(b2 x y).1 hx
  have:=hl r hr
  omega
 unfold qz
 rw[dB (x:=0-min p.X q.X) (by omega) (by omega),dB (x:=0-min p.Y q.Y) (by omega) (by omega)]
 rw[Oj hN (by omega) (by omega) (by omega) (by omega) (by omega) (by omega) b1 (by omega) (fun r hr=>by have:=hlim r hr;omega)]
 simp only[ob]
 rw[show -(0-min p.X q.X)=min p.X q.X by omega,show -(0-min p.Y q.Y)=min p.Y q.Y by omega,V7 (by omega) (by omega) hne]
theorem Wj{I S:List Bd}(hI:yL I)(hS:yL S)(h1:∀b∈I,b.2.2.length≤10000)(h2:∀b∈S,b.2.2.length≤10000)(h3:I.length≤100000)(h4:S.length≤100000):∃C,oD N (I.map toP) (S.map toP)=some (C.map toP)∧yL C∧(∀x y,tH x y C↔tH x y I∨tH x y S)∧(eu C).length≤1000000000000:=by
 obtain⟨C,c1,c2,c3,c4,c5⟩:=Nf (k:=fun p q=>p||q) (f:=fun z0 z1=>oO z0 z1) (fun _ _=>rfl) rfl hN (R1:=10000) (R2:=10000) hI hS h1 h2 (by omega) (by omega)
 have ht:=uT (R:=20000) (l:=C) fun c hc=>by have:=c5 c hc;omega
 refine⟨C,by unfold oD;rw[c1];rfl,c2,fun x y=>?_,by omega⟩
 rw[c3]
 constructor
 ·rintro⟨p,q,hp,hq,h⟩
  rcases Bool.or_eq_true_iff.1 h with h|h
  ·exact .inl (hp.1 h)
  ·exact .inr (hq.1 h)
 ·intro h
  classical
  refine⟨decide (tH x y I),decide (tH x y S),by simp,by simp,?_⟩
  simpa using h
theorem RP{I S:List Bd}(hI:yL I)(hS:yL S)(h1:∀b∈I,b.2.2.length≤10000)(h2:∀b∈S,b.2.2.length≤10000)(h3:I.length≤100000)(h4:S.length≤100000):∃C,lJ N (I.map toP) (S.map toP)=some (C.map toP)∧yL C∧(∀x y,tH x y C↔tH x y I∧¬tH x y S)∧(eu C).length≤1000000000000:=by
 obtain⟨C,c1,c2,c3,c4,c5⟩:=Nf (k:=fun p q=>p&& !q) (f:=fun z0 z1=>nI z0 z1) (fun _ _=>rfl) rfl hN (R1:=10000) (R2:=10000) hI hS h1 h2 (by omega) (by omega)
 have ht:=uT (R:=20000) (l:=C) fun c hc=>by have:=c5 c hc;omega
 refine⟨C,by unfold lJ;rw[c1];rfl,c2,fun x y=>?_,by omega⟩
 rw[c3]
 constructor
 ·rintro⟨p,q,hp,hq,h⟩
  simp only[Bool.and_eq_true,Bool.not_eq_true'] at h
  exact⟨hp.1 h.1,fun hh=>by rw[hq.2 hh] at h;cases h.2⟩
 ·intro h
  classical
  refine⟨decide (tH x y I),decide (tH x y S),by simp,by simp,?_⟩
  simp[h.1,h.2]
end
theorem TU(xs:List Int)(x:Int):(Oy xs x).length≤xs.length+1:=by
 unfold Oy
 split
 ·rw[List.length_dropLast];omega
 ·simp
theorem FQ:∀(l xs:List Int),(l.foldl Oy xs).length≤xs.length+l.length
 |[],xs=>by simp
 |x::l,xs=>by
  have h1:=TU xs x
  have h2:=FQ l (Oy xs x)
  rw[List.foldl_cons,List.length_cons];omega
theorem SN(l:List Int):(MK l).length≤l.length:=by
 have:=FQ l []
 unfold MK
 simpa using this
theorem Bj{ys:List Int}{out:List bz}{k:Nat}{K:List bz→Int→Option (List bz)}{a b:Int}(ha:idx ys (k:Int)=some a)(hb:idx ys (bP ((k:Int)+1))=some b):∀(suf:List aO) (i:Nat) (xs:List Int),xs.length+suf.length≤1000000→
  iH ys out (k:Int) K suf i xs=(gm out ⟨a,b,(sU suf a).foldl Oy xs⟩).bind fun y=>K y (bP ((k:Int)+1))
 |[],i,xs,_=>by
  rw[iH,ha,ob,hb,ob];rfl
 | s ::l,i,xs,h=>by
  simp at h
  rw[iH,ha,ob]
  by_cases hc:s.Y0≤a∧a<s.Y1
  ·have e1:sU (s::l) a=s.X0::sU l a:=by
    unfold sU
    rw[List.filter_cons,if_pos (by simpa using hc)];rfl
   rw[if_neg (by simp<;>omega),ob,ob,if_neg (by simp<;>omega),e1,List.foldl_cons]
   rcases List.eq_nil_or_concat xs with hx|⟨zs,z,hx⟩
   ·subst hx
    rw[if_neg (by simp),ob,if_neg (by simp),qN (by simp),ob,Bj ha hb l (i+1) _ (by simp<;>omega)]
    rfl
   ·rw[List.concat_eq_append] at hx
    subst hx
    simp at h
    have hz:idx (zs++[z]) (bP (((zs++[z]).length:Int)-1))=some z:=by
     rw[dB (by simp<;>omega) (by simp<;>omega),show((zs++[z]).length:Int)-1=(zs.length:Int) by simp]
     exact lC zs [] z
    rw[if_pos (by simp),hz,ob,ob]
    by_cases he:z=s.X0
    ·have hp:pre (zs++[z]) (bP (((zs++[z]).length:Int)-1))=some zs:=by
      rw[dB (by simp<;>omega) (by simp<;>omega),show((zs++[z]).length:Int)-1=(zs.length:Int) by simp]
      unfold pre
      rw[if_pos ⟨by omega,by simp<;>omega⟩]
      simp
     rw[if_pos (by simpa using he),hp,ob,Bj ha hb l (i+1) _ (by omega)]
     unfold Oy
     rw[if_pos (by simp[he]),List.dropLast_concat]
    ·rw[if_neg (by simpa using he),qN (by simp<;>omega),ob,Bj ha hb l (i+1) _ (by simp<;>omega)]
     have:Oy (zs++[z]) s.X0=zs++[z]++[s.X0]:=by unfold Oy;rw[if_neg (by simp[he])]
     rw[this]
  ·have e1:sU (s::l) a=sU l a:=by
    unfold sU
    rw[List.filter_cons,if_neg (by simpa using hc)]
   rw[e1]
   by_cases h0:a<s.Y0
   ·rw[if_pos (decide_eq_true h0),ob,if_pos rfl,Bj ha hb l (i+1) _ (by omega)]
   ·rw[if_neg (by simpa using h0),ob,ob,if_pos (by simp<;>omega),Bj ha hb l (i+1) _ (by omega)]
theorem Ip{ys:List Int}{up:List aO}(hy:ys.Pairwise fun x y=>x<y)(hs:up.Pairwise fun a b=>a.X0≤b.X0)(hev:∀y,(sU up y).length%2=0)(hl:ys.length≤100000)(hu:up.length≤100000):∀(suf pre:List Int) (m:Nat) (out:List Bd),ys=pre++suf→suf.length<m→out.length+suf.length≤1000000→
  iI ys up m (out.map toP) (pre.length:Int)=some ((ru (fA up) suf out).map toP)
 |[],pre,m,out,he,hm,_=>by
  obtain⟨m,rfl⟩:∃k,m=k+1:=⟨m-1,by omega⟩
  have hlen:ys.length=pre.length:=by rw[he];simp
  rw[iI,if_neg (by rw[dB (by omega) (by omega)];simp;omega)]
  rfl
 |[a],pre,m,out,he,hm,_=>by
  obtain⟨m,rfl⟩:∃k,m=k+1:=⟨m-1,by omega⟩
  have hlen:ys.length=pre.length+1:=by rw[he];simp
  rw[iI,if_neg (by rw[dB (by omega) (by omega)];simp;omega)]
  rfl
 | a::b::l,pre,m,out,he,hm,ho=>by
  obtain⟨m,rfl⟩:∃k,m=k+1:=⟨m-1,by simp at hm;omega⟩
  simp at hm ho
  have hlen:ys.length=pre.length+(l.length+2):=by rw[he];simp
  have hab:a<b:=by
   rw[he] at hy
   have:=(List.pairwise_append.1 hy).2.1
   exact(List.pairwise_cons.1 this).1 b List.mem_cons_self
  have hia:idx ys (pre.length:Int)=some a:=by rw[he];exact lC _ _ _
  have hib:idx ys (bP ((pre.length:Int)+1))=some b:=by
   rw[Ou pre a (by omega),he,show pre++a::b::l=(pre++[a])++b::l by simp];exact lC _ _ _
  rw[iI,if_pos (by rw[dB (by omega) (by omega)];simp;omega),Bj hia hib up 0 [] (by simp;omega)]
  have hpu:=Gg (l:=out) (b:=(a,b,fA up a)) (by omega) hab
  have e:toP (a,b,fA up a)=⟨a,b,(sU up a).foldl Oy []⟩:=by
   show(⟨a,b,eO (fA up a)⟩:bz)=_
   rw[(Pj hs hev a).1];rfl
  rw[e] at hpu
  rw[hpu,ob,Ou pre a (by omega)]
  have hpl:=xU out (a,b,fA up a)
  have:=Ip hy hs hev hl hu (b::l) (pre++[a]) m (pushB out (a,b,fA up a)) (by rw[he];simp) (by simp;omega) (by simp;omega)
  rw[this];rfl
def CX(s:aK×aK):Option aO:=if s.1.X=s.2.X then some ⟨s.1.X,min s.1.Y s.2.Y,0,max s.1.Y s.2.Y⟩ else none
theorem Dt(p0 x:aK)(r:List aK):Gh p0 (x::r)=(x,(r++[p0]).headD p0)::Gh p0 r:=by
 cases r with
 |nil=>rfl
 |cons y r=>rfl
theorem JG{pre r:List aK}{x p0:aK}(h0:(pre++x::r).head?=some p0):(pre++x::r).getD ((pre.length+1)%(pre++x::r).length) ⟨0,0⟩=(r++[p0]).headD p0:=by
 cases r with
 |nil=>
  have:(pre.length+1)%(pre++[x]).length=0:=by simp
  rw[this]
  cases pre with
  |nil=>simp at h0 ⊢;exact h0
  |cons z pre=>simp at h0 ⊢;exact h0
 |cons y r=>
  have:(pre.length+1)%(pre++x::y::r).length=pre.length+1:=Nat.mod_eq_of_lt (by simp)
  rw[this]
  simp[List.getD]
theorem Ck{l:List aK}{p0:aK}(h0:l.head?=some p0)(hl:l.length≤100000){K:List Int→List aO→Option (List bz)}:∀(suf pre:List aK) (ys:List Int) (up:List aO),l=pre++suf→ys.length≤pre.length→up.length≤pre.length→
  jl K l suf pre.length ys up=K (ys++suf.map (·.Y)) (up++(Gh p0 suf).filterMap CX)
 |[],pre,ys,up,he,hy,hu=>by rw[jl];simp[Gh]
 | x::r,pre,ys,up,he,hy,hu=>by
  have hlen:l.length=pre.length+(r.length+1):=by rw[he];simp
  have hnx:l.getD ((pre.length+1)%l.length) ⟨0,0⟩=(r++[p0]).headD p0:=by
   have:=JG (pre:=pre) (r:=r) (x:=x) (p0:=p0) (by rw[←he];exact h0)
   rw[he];exact this
  rw[jl,LW (by omega) (by omega),hnx,qN (by simp;omega),ob,Dt]
  by_cases hx:x.X=((r++[p0]).headD p0).X
  ·have hv:CX (x,(r++[p0]).headD p0)=some ⟨x.X,min x.Y ((r++[p0]).headD p0).Y,0,max x.Y ((r++[p0]).headD p0).Y⟩:=if_pos hx
   rw[if_pos (by simpa using hx),qN (by simp;omega),ob,List.filterMap_cons_some hv]
   have:=Ck h0 hl (K:=K) r (pre++[x]) (ys++[x.Y]) (up++[⟨x.X,min x.Y ((r++[p0]).headD p0).Y,0,max x.Y ((r++[p0]).headD p0).Y⟩]) (by rw[he];simp) (by simp;omega) (by simp;omega)
   rw[show(pre++[x]).length=pre.length+1 by simp] at this
   rw[this];simp
  ·have hv:CX (x,(r++[p0]).headD p0)=none:=if_neg hx
   rw[if_neg (by simpa using hx),List.filterMap_cons_none hv]
   have:=Ck h0 hl (K:=K) r (pre++[x]) (ys++[x.Y]) up (by rw[he];simp) (by simp;omega) (by simp;omega)
   rw[show(pre++[x]).length=pre.length+1 by simp] at this
   rw[this];simp
theorem Gr(y:Int):∀(S:List (aK×aK)),((S.filterMap CX).filter fun s=>decide (s.Y0≤y)&&decide (y<s.Y1)).map (·.X0)=(ze y S).map (·.1.X)
 |[]=>rfl
 | s::S=>by
  have ih:=Gr y S
  unfold ze at ih ⊢
  by_cases hx:s.1.X=s.2.X
  ·have hv:CX s=some ⟨s.1.X,min s.1.Y s.2.Y,0,max s.1.Y s.2.Y⟩:=if_pos hx
   rw[List.filterMap_cons_some hv,List.filter_cons,List.filter_cons,decide_eq_true hx,Bool.true_and]
   by_cases hc:(decide (min s.1.Y s.2.Y≤y)&&decide (y<max s.1.Y s.2.Y))=true
   ·rw[if_pos hc,if_pos hc,List.map_cons,List.map_cons,ih]
   ·rw[if_neg hc,if_neg hc,ih]
  ·have hv:CX s=none:=if_neg hx
   rw[List.filterMap_cons_none hv,List.filter_cons,decide_eq_false hx,Bool.false_and,if_neg (by simp),ih]
theorem OU(p0:aK):∀(l:List aK),(Gh p0 l).length=l.length
 |[]=>rfl
 |x::r=>by rw[Dt,List.length_cons,List.length_cons,OU p0 r]
theorem Kr{p0:aK}:∀{l:List aK} {s:aK×aK},s∈Gh p0 l→s.1∈l∧(s.2∈l∨s.2=p0)
 |[],s,h=>by cases h
 | x::r,s,h=>by
  rw[Dt] at h
  rcases List.mem_cons.1 h with rfl|h
  ·refine⟨List.mem_cons_self,?_⟩
   cases r with
   |nil=>exact .inr rfl
   |cons y r=>exact .inl (by simp)
  ·obtain⟨h1,h2⟩:=Kr h
   exact⟨List.mem_cons_of_mem _ h1,h2.imp (List.mem_cons_of_mem _) id⟩
def OZ(l:List aK)(x y:Int):Prop:=KR x ((ze y (tV l)).map (·.1.X))%2=1
theorem Ir{f:Int→List (Int×Int)}{R:Nat}(hf:∀y,(f y).length≤R):∀(ys:List Int) (out:List Bd),(∀c∈out,c.2.2.length≤R)→(ru f ys out).length≤out.length+ys.length∧∀c∈ru f ys out,c.2.2.length≤R
 |[],out,h=>⟨by simp[ru],h⟩
 |[a],out,h=>⟨by simp[ru],h⟩
 |a::b::ys,out,h=>by
  have h1:=xU out (a,b,f a)
  obtain⟨h2,h3⟩:=Ir hf (b::ys) (pushB out (a,b,f a)) (JD h (hf a))
  rw[ru]
  exact⟨by simp at h2 ⊢;omega,h3⟩
theorem Ot{N:Nat}(hN:10000000000≤N){l:List aK}(hne:l≠[])(hl:l.length≤2000)(hb:∀p∈l,-1000000000≤p.X∧p.X≤1000000000)(hax:WL (tV l)):
  ∃A,rC N [l]=some (A.map toP)∧yL A∧A.length≤2000∧(∀b∈A,b.2.2.length≤2000)∧∀x y,tH x y A↔OZ l x y:=by
 obtain⟨p0,r0,rfl⟩:∃p0 r,l=p0::r:=by
  cases l with
  |nil=>exact absurd rfl hne
  |cons p r=>exact⟨p,r,rfl⟩
 obtain⟨V,hV⟩:∃V,V=(tV (p0::r0)).filterMap CX:=⟨_,rfl⟩
 have hVm:∀v∈V,(v.X0∈(p0::r0).map (·.X))∧v.Y0∈(p0::r0).map (·.Y)∧v.Y1∈(p0::r0).map (·.Y):=fun v hv=>by
  rw[hV] at hv
  obtain⟨s,hs,hsv⟩:=List.mem_filterMap.1 hv
  obtain⟨s1,s2⟩:=Kr (show s∈Gh p0 (p0::r0) from hs)
  have s2':s.2∈p0::r0:=s2.elim id fun e=>e▸List.mem_cons_self
  unfold CX at hsv
  split at hsv
  ·cases Option.some.inj hsv
   refine⟨List.mem_map.2 ⟨s.1,s1,rfl⟩,?_,?_⟩
   ·show min s.1.Y s.2.Y∈_
    rcases(show min s.1.Y s.2.Y=s.1.Y∨min s.1.Y s.2.Y=s.2.Y by omega) with e|e<;>rw[e]
    ·exact List.mem_map.2 ⟨s.1,s1,rfl⟩
    ·exact List.mem_map.2 ⟨s.2,s2',rfl⟩
   ·show max s.1.Y s.2.Y∈_
    rcases(show max s.1.Y s.2.Y=s.2.Y∨max s.1.Y s.2.Y=s.1.Y by omega) with e|e<;>rw[e]
    ·exact List.mem_map.2 ⟨s.2,s2',rfl⟩
    ·exact List.mem_map.2 ⟨s.1,s1,rfl⟩
  ·cases hsv
 have hVl:V.length≤2000:=by
  rw[hV]
  refine Nat.le_trans (List.length_filterMap_le _ _) ?_
  have:=OU p0 (p0::r0)
  show(Gh p0 (p0::r0)).length≤2000
  omega
 have hVx:∀v∈V,-1000000000≤v.X0∧v.X0≤1000000000:=fun v hv=>by
  obtain⟨p,hp,e⟩:=List.mem_map.1 (hVm v hv).1
  have:=hb p hp
  omega
 obtain⟨U,u1,u2,u3⟩:=GG (c:=fun z0 z1=>nR z0 z1) (k:=fun r=>r.X0) (l:=V) (by omega) (fun x hx y hy=>by
  have a:=hVx x hx;have b:=hVx y hy
  unfold nR
  rw[dB (by omega) (by omega)])
 have hxs:∀y,(sU U y).Perm ((ze y (tV (p0::r0))).map (·.1.X)):=fun y=>by
  rw[←Gr,←hV]
  exact(u2.filter _).map _
 have hev:∀y,(sU U y).length%2=0:=fun y=>by
  rw[(hxs y).length_eq,List.length_map];exact N8 y hax
 have hcle:∀x y,KR x (sU U y)=KR x ((ze y (tV (p0::r0))).map (·.1.X)):=fun x y=>((hxs y).filter _).length_eq
 obtain⟨ys,hys⟩:∃ys,ys=xG ((p0::r0).map (·.Y)):=⟨_,rfl⟩
 have hysl:ys.length≤2000:=by rw[hys];exact Nat.le_trans (GA _) (by simpa using hl)
 obtain⟨b1,b2⟩:=Sw (up:=U) (ys:=ys) (by rw[hys];exact tu _) u3 hev (fun s hs=>by
  have:=hVm s (u2.subset hs)
  rw[hys,vk,vk];exact this.2)
 have hUl:U.length≤2000:=by rw[u2.length_eq];exact hVl
 have hrow:∀y,(fA U y).length≤2000:=fun y=>by
  have h1:=iU (fA U y)
  rw[(Pj u3 hev y).1] at h1
  have h2:=SN (sU U y)
  have h3:(sU U y).length≤U.length:=by unfold sU;rw[List.length_map];exact List.length_filter_le _ _
  omega
 obtain⟨c1,c2⟩:=Ir hrow ys [] (fun c hc=>by cases hc)
 refine⟨ru (fA U) ys [],?_,b1,by simp at c1;omega,c2,fun x y=>by rw[b2,hcle];rfl⟩
 unfold rC
 rw[iJ]
 have hsl:=Ck (l:=p0::r0) (p0:=p0) rfl (by omega) (K:=iJ N [] (0+1)) (p0::r0) [] [] [] rfl (by simp) (by simp)
 rw[show([]:List aK).length=0 from rfl] at hsl
 rw[hsl,List.nil_append,List.nil_append,iJ]
 have hso:=Oz (l:=(p0::r0).map (·.Y)) (by rw[List.length_map];omega)
 rw[Km (by rw[List.length_map];omega),ob] at hso ⊢
 rw[hso,ob,show(Gh p0 (p0::r0)).filterMap CX=V from hV.symm,u1,ob,←hys]
 exact Ip (by rw[hys];exact tu _) u3 hev (by omega) (by omega) ys [] N [] rfl (by omega) (by simp;omega)
def JE(q:aK):Bool:=(decide (-1000000≤q.X)&&decide (q.X≤1000000))&&(decide (-1000000≤q.Y)&&decide (q.Y≤1000000))
theorem OJ{q:aK}:JE q=true↔(-1000000≤q.X∧q.X≤1000000)∧(-1000000≤q.Y∧q.Y≤1000000):=by unfold JE;simp
theorem K5(q:aK):jb q=some (JE q):=by
 unfold jb kZ mJ JE
 cases(decide (-1000000≤q.X)&&decide (q.X≤1000000))<;>rfl
def TG(c:Bool)(I S:List Bd)(x y:Int):Prop:=if c then tH x y I∧¬tH x y S else tH x y I∨tH x y S
open Classical in
noncomputable def TM(c:Bool)(I S:List Bd):List Bd:=if h:∃C,yL C∧∀x y,tH x y C↔TG c I S x y then h.choose else[]
theorem SI{c:Bool}{I S C:List Bd}(h1:yL C)(h2:∀x y,tH x y C↔TG c I S x y):TM c I S=C:=by
 have h:∃C,yL C∧∀x y,tH x y C↔TG c I S x y:=⟨C,h1,h2⟩
 unfold TM
 rw[dif_pos h]
 exact h.choose_spec.1.uniq h1 fun x y=>by rw[h.choose_spec.2,h2]
open Classical in
noncomputable def Yc(l:List aK):List Bd:=if h:∃A,yL A∧∀x y,tH x y A↔OZ l x y then h.choose else[]
theorem WN{l:List aK}{A:List Bd}(h1:yL A)(h2:∀x y,tH x y A↔OZ l x y):Yc l=A:=by
 have h:∃A,yL A∧∀x y,tH x y A↔OZ l x y:=⟨A,h1,h2⟩
 unfold Yc
 rw[dif_pos h]
 exact h.choose_spec.1.uniq h1 fun x y=>by rw[h.choose_spec.2,h2]
structure J8 (I:List Bd):Prop where
 ok:yL I
 few:(eu I).length≤2000
 lim:(eu I).all lim=true
structure Ce (S:List Bd):Prop where
 ok:yL S
 few:S.length≤100000
 row:∀b∈S,b.2.2.length≤10000
 tot:(eu S).length≤100000000
theorem J8.Qs{I:List Bd}(h:J8 I):Ce I:=by
 have h1:=h.ok.le
 have h2:=h.few
 exact⟨h.ok,by omega,fun b hb=>by have:=GU hb;omega,by omega⟩
noncomputable def Qs(c:Bool)(I S:List Bd):Int×List Bd:=if(eu S).all lim then(if 2000<(eu (TM c I S)).length then(2,TM c I S) else(0,TM c I S)) else(1,I)
theorem Ky{I:List Bd}(h:yL I):(eu I).all lim=true↔∀x y,tH x y I→(-1000000≤x∧x<1000000)∧(-1000000≤y∧y<1000000):=by
 rw[List.all_eq_true]
 constructor
 ·intro hl x y hx
  obtain⟨r,hr,h1,h2⟩:=(wL h x y).2 hx
  have:=xk.1 (hl r hr)
  omega
 ·intro hp r hr
  have:=GV h (m:=1000000) hp r hr
  rw[xk];omega
theorem Ob{c:Bool}{I S:List Bd}(hI:Ce I)(hS:Ce S){N:Nat}(hN:10000000000≤N):(if c then lJ N (I.map toP) (S.map toP) else oD N (I.map toP) (S.map toP))=some ((TM c I S).map toP)∧yL (TM c I S)∧(∀x y,tH x y (TM c I S)↔TG c I S x y)∧(eu (TM c I S)).length≤1000000000000:=by
 cases c
 ·obtain⟨C,c1,c2,c3,c4⟩:=Wj hN hI.ok hS.ok hI.row hS.row hI.few hS.few
  have:=SI (c:=false) c2 c3
  rw[this]
  exact⟨c1,c2,c3,c4⟩
 ·obtain⟨C,c1,c2,c3,c4⟩:=RP hN hI.ok hS.ok hI.row hS.row hI.few hS.few
  have:=SI (c:=true) c2 c3
  rw[this]
  exact⟨c1,c2,c3,c4⟩
theorem KP{c:Bool}{I S:List Bd}(hI:J8 I)(hS:Ce S)(h:(Qs c I S).1=0):J8 (Qs c I S).2:=by
 obtain⟨_,c2,c3,_⟩:=Ob (c:=c) hI.Qs hS (Nat.le_refl _)
 unfold Qs at h ⊢
 by_cases hl:(eu S).all lim=true
 ·rw[if_pos hl] at h ⊢
  by_cases hm:2000<(eu (TM c I S)).length
  ·rw[if_pos hm] at h;cases h
  ·rw[if_neg hm]
   refine⟨c2,Nat.le_of_not_lt hm,(Ky c2).2 fun x y hx=>?_⟩
   have h1:=(Ky hI.ok).1 hI.lim x y
   have h2:=(Ky hS.ok).1 hl x y
   rw[c3] at hx
   unfold TG at hx
   cases c
   ·rcases hx with hx|hx
    ·exact h1 hx
    ·exact h2 hx
   ·exact h1 hx.1
 ·rw[if_neg hl] at h;cases h
theorem KQ{N:Nat}(hN:10000000000≤N){m:di}{I S:List Bd}(hI:J8 I)(hm:m.image=I.map toP)(hS:Ce S):jR N m (S.map toP)=some ((Qs m.clear I S).1,(Qs m.clear I S).2.map toP):=by
 obtain⟨c1,c2,c3,c4⟩:=Ob (c:=m.clear) hI.Qs hS hN
 have hf:=Ve (L:=eu S) hS.tot (Br hS.ok)
 rw[Lu hS.ok] at hf
 unfold jR Qs
 rw[hf,ob]
 by_cases hl:(eu S).all lim=true
 ·rw[hl,if_neg (by simp),if_pos rfl]
  have hj:∀C:List Bd,(eu C).length≤1000000000000→jg (C.map toP)=some ((if 2000<(eu C).length then((2:Int),C) else(0,C)).1,(if 2000<(eu C).length then((2:Int),C) else(0,C)).2.map toP):=fun C hC=>by
   unfold jg
   rw[PH (by omega),ob]
   by_cases hm:2000<(eu C).length
   ·rw[if_pos (by simp;omega),if_pos hm]
   ·rw[if_neg (by simp;omega),if_neg hm]
  rw[hm]
  cases hc:m.clear
  ·rw[hc] at c1 c4
   simp only[Bool.false_eq_true,if_false] at c1 ⊢
   rw[c1,ob,hj _ c4]
  ·rw[hc] at c1 c4
   simp only[if_true] at c1 ⊢
   rw[c1,ob,hj _ c4]
 ·have hl':(eu S).all lim=false:=by simpa using hl
  rw[hl',if_pos (by rfl),if_neg (by simp),hm]
structure MS where
 img:List Bd
 clear:Bool
 tool:Int
 place:aK
 placed:Bool
 off:Int
 on:Int
def toM(p:eX)(TT:List (List aO))(s:MS):di:=⟨p,TT.map fun T=>(pg T).map toP,s.img.map toP,s.clear,s.tool,s.place,s.placed,s.off,s.on⟩
def XO(p q:aK):Int:=bP ((max (bP (p.X-q.X)) (bP (q.X-p.X)))+(max (bP (p.Y-q.Y)) (bP (q.Y-p.Y))))
def uR(s:MS)(q:aK):Int×MS:=if JE q then(0,{s with place:=q,placed:=true,off:=if s.placed then bP (s.off+XO s.place q) else s.off}) else(1,s)
def BR(s:MS)(q:aK):Int×MS:=if JE q then(0,{s with place:=q,placed:=true,on:=if s.placed then bP (s.on+XO s.place q) else s.on}) else(1,s)
noncomputable def SE(s:MS)(S:List Bd):Int×MS:=((Qs s.clear s.img S).1,{s with img:=(Qs s.clear s.img S).2})
def X9(TT:List (List aO))(s:MS)(p q:aK):List Bd:=pg ((TT.getD s.tool.toNat []).map (IZ (min p.X q.X) (max p.X q.X) (min p.Y q.Y) (max p.Y q.Y)))
noncomputable def uV(TT:List (List aO))(s:MS)(q:aK):Int×MS:=if s.tool<0 then(11,s) else if(uR s q).1=0 then SE (uR s q).2 (X9 TT s q q) else uR s q
noncomputable def xX(TT:List (List aO))(s:MS)(q:aK):Int×MS:=if s.tool<0∨s.placed=false then(11,s) else if q.X≠s.place.X∧q.Y≠s.place.Y then(3,s) else if(BR s q).1=0 then SE (BR s q).2 (X9 TT s s.place q) else BR s q
def FV(U:Int)(q by_:aK):aK:=⟨bP (bP (q.X*U)+by_.X),bP (bP (q.Y*U)+by_.Y)⟩
def Qt(U:Int)(by_ a:aK)(j i:Nat):aK:=⟨bP (by_.X+bP (bP ((i:Int)*a.X)*U)),bP (by_.Y+bP (bP ((j:Int)*a.Y)*U))⟩
noncomputable def Ed(s:MS)(row:List aK):Int×MS:=if 2000<(eu (Yc row)).length then(2,s) else if row.any (fun q=> !JE q) then(1,s) else SE s (Yc row)
noncomputable def JJ(p:eX)(TT:List (List aO))(x:aZ)(by_:aK)(s:MS):Int×MS:=
 if x.Kind=1∨x.Kind=2 then(0,{s with clear:=x.Kind==2}) else if x.Kind=3 then(0,{s with tool:=zU x.Name p.Tools}) else if x.Kind=4 then uR s (FV p.Unit x.At by_) else if x.Kind=5 then uV TT s (FV p.Unit x.At by_)
 else if x.Kind=6 then xX TT s (FV p.Unit x.At by_) else if x.Kind=7 then Ed s (x.Points.map fun q=>FV p.Unit q by_) else(0,s)
def BX{β:Type}(f:β→MS→Int×MS):List β→MS→Int×MS
 |[],s=>(0,s)
 |b::l,s=>if(f b s).1=0 then BX f l (f b s).2 else f b s
mutual
noncomputable def xR(p:eX)(TT:List (List aO)):aZ→aK→MS→Int×MS
 |⟨k,n,a,ps,nx,ny,l⟩,b,s=>if k=8 then BX (fun j s=>BX (fun i s=>yR p TT l (Qt p.Unit b a j i) s) (List.range' 0 nx.toNat) s) (List.range' 0 ny.toNat) s else JJ p TT ⟨k,n,a,ps,nx,ny,l⟩ b s
noncomputable def yR(p:eX)(TT:List (List aO)):List aZ→aK→MS→Int×MS
 |[],_,s=>(0,s)
 |x::l,b,s=>if(xR p TT x b s).1=0 then yR p TT l b (xR p TT x b s).2 else xR p TT x b s
end
theorem QZ(p:eX)(TT:List (List aO))(x:aZ)(b:aK)(s:MS):xR p TT x b s=if x.Kind=8 then BX (fun j s=>BX (fun i s=>yR p TT x.Steps (Qt p.Unit b x.At j i) s) (List.range' 0 x.NX.toNat) s) (List.range' 0 x.NY.toNat) s else JJ p TT x b s:=by
 cases x;rw[xR]
theorem Ri(p:eX)(TT:List (List aO))(b:aK)(s:MS):yR p TT [] b s=(0,s):=by rw[yR]
theorem PU(p:eX)(TT:List (List aO))(x:aZ)(l:List aZ)(b:aK)(s:MS):yR p TT (x::l) b s=if(xR p TT x b s).1=0 then yR p TT l b (xR p TT x b s).2 else xR p TT x b s:=by rw[yR]
structure uX (TT:List (List aO)) (s:MS):Prop where
 img:J8 s.img
 tool: -1≤s.tool∧s.tool<(TT.length:Int)
 place:s.placed=true→JE s.place=true
structure AQ (T:List aO):Prop where
 few:T.length≤2000
 ne:Ne T
 lim:∀r∈T,(-1000000≤r.X0∧r.X1≤1000000)∧(-1000000≤r.Y0∧r.Y1≤1000000)
def encR(r:Int×MS):Int×Bool×Int×Int×Int×Bool×Int×Int×List bz:=(r.1,r.2.clear,r.2.tool,r.2.place.X,r.2.place.Y,r.2.placed,r.2.off,r.2.on,r.2.img.map toP)
theorem Lv{L:List aO}(hl:L.length≤2000)(hne:Ne L):Ce (pg L):=by
 obtain⟨b1,_⟩:=yQ hne
 obtain⟨s1,s2⟩:=zX L
 have ht:=uT (R:=2000) (l:=pg L) fun b hb=>Nat.le_trans (s2 b hb) hl
 exact⟨b1,by omega,fun b hb=>by have:=s2 b hb;omega,by omega⟩
theorem Gc{TT:List (List aO)}(hT:∀T∈TT,AQ T){s:MS}{p q:aK}:Ce (X9 TT s p q):=by
 have hg:AQ (TT.getD s.tool.toNat []):=by
  rw[List.getD_eq_getElem?_getD]
  cases h:TT[s.tool.toNat]? with
  |none=>exact⟨by simp,fun r hr=>by simp at hr,fun r hr=>by simp at hr⟩
  |some T=>exact hT T (List.mem_of_getElem? h)
 exact Lv (by rw[List.length_map];exact hg.few) (QX (by omega) (by omega) hg.ne)
section
variable {N:Nat} (hN:10000000000≤N) {p:eX} {TT:List (List aO)} (hT:∀T∈TT,AQ T) {s:MS}
theorem Jy(q:aK):jf (toM p TT s) q=some ((uR s q).1,(uR s q).2.place.X,(uR s q).2.place.Y,(uR s q).2.placed,(uR s q).2.off):=by
 unfold jf il uR
 rw[K5,ob]
 cases JE q
 ·rfl
 ·simp only[Bool.not_true,Bool.false_eq_true,if_false,if_true]
  show(if s.placed=true then _ else _)=_
  cases s.placed<;>rfl
theorem Q7(q:aK):jQ (toM p TT s) q=some ((BR s q).1,(BR s q).2.place.X,(BR s q).2.place.Y,(BR s q).2.placed,(BR s q).2.on):=by
 unfold jQ ik BR
 rw[K5,ob]
 cases JE q
 ·rfl
 ·simp only[Bool.not_true,Bool.false_eq_true,if_false,if_true]
  show(if s.placed=true then _ else _)=_
  cases s.placed<;>rfl
theorem Ll(hi:uX TT s)(h0:0≤s.tool):idx ((toM p TT s).tools) s.tool=some ((pg (TT.getD s.tool.toNat [])).map toP):=by
 have:=hi.tool
 have hlt:s.tool.toNat<TT.length:=by omega
 unfold idx
 rw[if_pos h0]
 show(TT.map fun T=>(pg T).map toP)[s.tool.toNat]?=_
 rw[List.getElem?_map,List.getD_eq_getElem?_getD,List.getElem?_eq_getElem hlt];rfl
theorem TR(hT:∀T∈TT,AQ T)(hi:uX TT s)(h0:0≤s.tool):AQ (TT.getD s.tool.toNat []):=by
 have:=hi.tool
 have hlt:s.tool.toNat<TT.length:=by omega
 rw[List.getD_eq_getElem?_getD,List.getElem?_eq_getElem hlt]
 exact hT _ (List.getElem_mem hlt)
include hN hT
theorem Js(hi:uX TT s)(h0:0≤s.tool){a q:aK}(ha:JE a=true)(hq:JE q=true):qz N ((pg (TT.getD s.tool.toNat [])).map toP) a q=some ((X9 TT s a q).map toP):=by
 have ht:=TR hT hi h0
 exact QW hN ht.few ht.ne ht.lim (OJ.1 ha) (OJ.1 hq)
theorem Qc(hi:uX TT s)(q:aK):mf N (toM p TT s) q=some ((uV TT s q).1,(uV TT s q).2.place.X,(uV TT s q).2.place.Y,(uV TT s q).2.placed,(uV TT s q).2.off,(uV TT s q).2.img.map toP)∧(uV TT s q).2.clear=s.clear∧(uV TT s q).2.tool=s.tool∧(uV TT s q).2.on=s.on∧((uV TT s q).1=0→uX TT (uV TT s q).2):=by
 unfold mf uV
 by_cases h0:s.tool<0
 ·rw[if_pos (show decide ((toM p TT s).tool<0)=true from decide_eq_true h0),if_pos h0]
  exact⟨rfl,rfl,rfl,rfl,fun h=>by cases h⟩
 ·rw[if_neg (show ¬decide ((toM p TT s).tool<0)=true by rw[decide_eq_true_eq];exact h0),if_neg h0,Jy,ob]
  unfold uR
  cases hq:JE q
  ·simp only[Bool.false_eq_true,if_false]
   exact⟨rfl,rfl,rfl,rfl,fun h=>by cases h⟩
  ·simp only[if_true,bne_self_eq_false,Bool.false_eq_true,if_false]
   rw[show(toM p TT s).tool=s.tool from rfl,Ll hi (by omega),ob,Js hN hT hi (by omega) hq hq,ob,KQ hN hi.img rfl (Gc hT),ob]
   refine⟨rfl,rfl,rfl,rfl,fun h=>⟨KP hi.img (Gc hT) h,hi.tool,fun _=>hq⟩⟩
theorem RO(hi:uX TT s)(q:aK):mO N (toM p TT s) q=some ((xX TT s q).1,(xX TT s q).2.place.X,(xX TT s q).2.place.Y,(xX TT s q).2.placed,(xX TT s q).2.on,(xX TT s q).2.img.map toP)∧(xX TT s q).2.clear=s.clear∧(xX TT s q).2.tool=s.tool∧(xX TT s q).2.off=s.off∧((xX TT s q).1=0→uX TT (xX TT s q).2):=by
 unfold mO xX
 by_cases h0:s.tool<0∨s.placed=false
 ·rw[if_pos (show(decide ((toM p TT s).tool<0)|| !(toM p TT s).placed)=true by rw[Bool.or_eq_true,decide_eq_true_eq,Bool.not_eq_true'];exact h0),if_pos h0]
  exact⟨rfl,rfl,rfl,rfl,fun h=>by cases h⟩
 ·rw[if_neg (show ¬(decide ((toM p TT s).tool<0)|| !(toM p TT s).placed)=true by rw[Bool.or_eq_true,decide_eq_true_eq,Bool.not_eq_true'];exact h0),if_neg h0]
  obtain⟨h1,h2⟩:=not_or.1 h0
  have hpl:s.placed=true:=by simpa using h2
  by_cases hx:q.X≠s.place.X∧q.Y≠s.place.Y
  ·rw[if_pos (show(q.X !=(toM p TT s).place.X&&q.Y !=(toM p TT s).place.Y)=true by simpa[toM] using hx),if_pos hx]
   exact⟨rfl,rfl,rfl,rfl,fun h=>by cases h⟩
  ·rw[if_neg (show ¬(q.X !=(toM p TT s).place.X&&q.Y !=(toM p TT s).place.Y)=true by simpa[toM] using hx),if_neg hx,Q7,ob]
   unfold BR
   cases hq:JE q
   ·simp only[Bool.false_eq_true,if_false]
    exact⟨rfl,rfl,rfl,rfl,fun h=>by cases h⟩
   ·simp only[if_true,bne_self_eq_false,Bool.false_eq_true,if_false]
    rw[show(toM p TT s).tool=s.tool from rfl,Ll hi (by omega),ob,show(toM p TT s).place=s.place from rfl,Js hN hT hi (by omega) (hi.place hpl) hq,ob,KQ hN hi.img rfl (Gc hT),ob]
    refine⟨rfl,rfl,rfl,rfl,fun h=>⟨KP hi.img (Gc hT) h,hi.tool,fun _=>hq⟩⟩
end
theorem xm{n u:Int}(hu:1≤u)(h:D8 n u=true): -1000000≤n*u∧n*u≤1000000:=by
 unfold D8 at h
 rw[Bool.and_eq_true,decide_eq_true_eq,decide_eq_true_eq] at h
 have h1:=Int.mul_le_mul_of_nonneg_right h.2 (show 0≤u by omega)
 have h2:=Int.mul_le_mul_of_nonneg_right h.1 (show 0≤u by omega)
 have h3:=Int.ediv_mul_le 1000000 (show u≠0 by omega)
 rw[Int.neg_mul] at h2
 omega
def CW(d:Int)(b:aK):Prop:=(-(d*100000000)≤b.X∧b.X≤d*100000000)∧(-(d*100000000)≤b.Y∧b.Y≤d*100000000)
theorem Oc{U d:Int}{q b:aK}(hu:1≤U)(hq:rX q U=true)(hd:d≤5)(hb:CW d b):FV U q b=⟨q.X*U+b.X,q.Y*U+b.Y⟩∧(-1000000≤q.X*U∧q.X*U≤1000000)∧(-1000000≤q.Y*U∧q.Y*U≤1000000):=by
 unfold rX at hq
 rw[Bool.and_eq_true] at hq
 have h1:=xm hu hq.1
 have h2:=xm hu hq.2
 unfold CW at hb
 refine⟨?_,h1,h2⟩
 unfold FV
 generalize q.X*U=a at h1 ⊢
 generalize q.Y*U=c at h2 ⊢
 rw[dB (x:=a) (by omega) (by omega),dB (x:=c) (by omega) (by omega),dB (by omega) (by omega),dB (by omega) (by omega)]
theorem WJ{U d:Int}{a b:aK}{j i:Nat}(hu:1≤U)(ha:rX a U=true)(hd:0≤d∧d<5)(hb:CW d b)(hj:j<100)(hi:i<100):Qt U b a j i=⟨b.X+(i:Int)*a.X*U,b.Y+(j:Int)*a.Y*U⟩∧CW (d+1) (Qt U b a j i):=by
 unfold rX at ha
 rw[Bool.and_eq_true] at ha
 have h1:=xm hu ha.1
 have h2:=xm hu ha.2
 have key:∀(n:Int) (k:Nat),k<100→ -1000000≤n*U∧n*U≤1000000→(-99000000≤(k:Int)*n*U∧(k:Int)*n*U≤99000000)∧ -99000000≤(k:Int)*n∧(k:Int)*n≤99000000:=fun n k hk h=>by
  have e:(k:Int)*n*U=(k:Int)*(n*U):=Int.mul_assoc _ _ _
  have a1:(k:Int)*(n*U)≤99*1000000:=by
   refine Int.le_trans (Int.mul_le_mul_of_nonneg_left h.2 (by omega)) (Int.mul_le_mul_of_nonneg_right (by omega) (by omega))
  have a2:99*(-1000000)≤(k:Int)*(n*U):=by
   refine Int.le_trans ?_ (Int.mul_le_mul_of_nonneg_left h.1 (show(0:Int)≤(k:Int) by omega))
   omega
  have hn: -1000000≤n∧n≤1000000:=by
   refine⟨?_,?_⟩
   ·refine Int.not_lt.1 fun hl=>?_
    have:=Int.mul_le_mul_of_nonpos_left (show n≤0 by omega) hu
    omega
   ·refine Int.not_lt.1 fun hl=>?_
    have:=Int.mul_le_mul_of_nonneg_left hu (show 0≤n by omega)
    omega
  have b1:(k:Int)*n≤99*1000000:=Int.le_trans (Int.mul_le_mul_of_nonneg_left hn.2 (by omega)) (Int.mul_le_mul_of_nonneg_right (by omega) (by omega))
  have b2:(k:Int)*(-1000000)≤(k:Int)*n:=Int.mul_le_mul_of_nonneg_left hn.1 (by omega)
  omega
 obtain⟨x1,x2⟩:=key a.X i hi h1
 obtain⟨y1,y2⟩:=key a.Y j hj h2
 unfold CW at hb ⊢
 have e:Qt U b a j i=⟨b.X+(i:Int)*a.X*U,b.Y+(j:Int)*a.Y*U⟩:=by
  unfold Qt
  rw[dB (x:=(i:Int)*a.X) (by omega) (by omega),dB (x:=(j:Int)*a.Y) (by omega) (by omega)]
  generalize (i:Int)*a.X*U=p at x1 ⊢
  generalize (j:Int)*a.Y*U=q at y1 ⊢
  rw[dB (x:=p) (by omega) (by omega),dB (x:=q) (by omega) (by omega),dB (by omega) (by omega),dB (by omega) (by omega)]
 rw[e]
 refine⟨rfl,?_⟩
 simp only
 omega
theorem OG{l:List aK}{p0:aK}(h0:l.head?=some p0):∀(suf pre:List aK),l=pre++suf→F4 l suf pre.length=true→WL (Gh p0 suf)
 |[],_,_,_=>fun s hs=>by cases hs
 | x::r,pre,he,h=>by
  have hnx:l.getD ((pre.length+1)%l.length) ⟨0,0⟩=(r++[p0]).headD p0:=by
   have:=JG (pre:=pre) (r:=r) (x:=x) (p0:=p0) (by rw[←he];exact h0)
   rw[he];exact this
  rw[F4,hnx] at h
  split at h
  ·cases h
  rename_i hne
  have ih:=OG h0 r (pre++[x]) (by rw[he];simp) (by rw[List.length_append];exact h)
  rw[Dt]
  intro s hs
  rcases List.mem_cons.1 hs with rfl|hs
  ·intro hc
   refine hne ?_
   simp only at hc
   rw[beq_iff_eq,Bool.eq_iff_iff,beq_iff_eq,beq_iff_eq]
   rw[hc]
  ·exact ih s hs
theorem Rk{l:List aK}(h:F4 l l 0=true):WL (tV l):=by
 cases l with
 |nil=>intro s hs;cases hs
 |cons p r=>exact OG (p0:=p) rfl (p::r) [] rfl h
theorem OT(f:aK→aK)(p0:aK):∀(l:List aK),Gh (f p0) (l.map f)=(Gh p0 l).map fun s=>(f s.1,f s.2)
 |[]=>rfl
 |[x]=>rfl
 |x::y::r=>by
  have:=OT f p0 (y::r)
  rw[List.map_cons,List.map_cons,Gh,Gh,List.map_cons]
  rw[List.map_cons] at this
  rw[this]
theorem NB(f:aK→aK)(l:List aK):tV (l.map f)=(tV l).map fun s=>(f s.1,f s.2):=by
 cases l with
 |nil=>rfl
 |cons x r=>exact OT f x (x::r)
theorem NA{l:List aK}{s:aK×aK}(h:s∈tV l):s.1∈l∧s.2∈l:=by
 cases l with
 |nil=>cases h
 |cons p r=>
  obtain⟨h1,h2⟩:=Kr (show s∈Gh p (p::r) from h)
  exact⟨h1,h2.elim id fun e=>e▸List.mem_cons_self⟩
theorem XW{U d:Int}{b:aK}{l:List aK}(hu:1≤U)(hl:∀q∈l,rX q U=true)(hd:d≤5)(hb:CW d b)(h:WL (tV l)):WL (tV (l.map fun q=>FV U q b)):=by
 rw[NB]
 intro s hs
 obtain⟨t,ht,rfl⟩:=List.mem_map.1 hs
 obtain⟨t1,t2⟩:=NA ht
 have e1:=(Oc hu (hl _ t1) hd hb).1
 have e2:=(Oc hu (hl _ t2) hd hb).1
 have hc:∀m n c:Int,(m*U+c=n*U+c)=(m=n):=fun m n c=>propext ⟨fun e=>Int.eq_of_mul_eq_mul_right (a:=U) (by omega) (by omega),fun e=>by rw[e]⟩
 have:=h t ht
 show ¬(((FV U t.1 b).X=(FV U t.2 b).X)=((FV U t.1 b).Y=(FV U t.2 b).Y))
 rw[e1,e2]
 show ¬((t.1.X*U+b.X=t.2.X*U+b.X)=(t.1.Y*U+b.Y=t.2.Y*U+b.Y))
 rw[hc,hc]
 exact this
theorem Tc{l:List aK}:fG l (fun z0=>iL z0)=some (l.any fun q=> !JE q):=by
 have key:∀(l:List aK) (i:Nat),dX (fun z0=>iL z0) l i=some (qD (fun q=> !JE q) l (i:Int)):=by
  intro l
  induction l with
  |nil=>intro i;rfl
  | cons x r ih=>
   intro i
   rw[dX,qD,ih]
   have e:iL x=some (!JE x):=by
    unfold iL
    rw[K5];rfl
   rw[e,ob]
   split<;>rfl
 unfold fG kR
 rw[key,ob]
 exact congrArg some (yf _ l 0 (by omega))
section
variable {N:Nat} (hN:10000000000≤N) {p:eX} {TT:List (List aO)} {s:MS}
theorem G9(q b:aK):ma (toM p TT s) q b=some (FV p.Unit q b):=rfl
theorem Pz(b:aK):∀(suf:List aK) (i:Nat) (out:List aK),out.length+suf.length≤1000000→fD N (toM p TT s) b suf i out=fD N (toM p TT s) b [] 0 (out++suf.map fun q=>FV p.Unit q b)
 |[],i,out,_=>by rw[List.map_nil,List.append_nil];rfl
 |x::r,i,out,h=>by
  simp at h
  rw[fD.eq_2,G9,ob,qN (by simp;omega),ob,Pz b r (i+1) _ (by simp;omega)]
  simp
include hN
theorem Te(hu:1≤p.Unit)(hi:uX TT s){d:Int}(hd:d≤5){b:aK}(hb:CW d b){l:List aK}(h1:∀q∈l,rX q p.Unit=true)(h2:4≤l.length∧l.length≤2000)(h3:F4 l l 0=true):
  mP N (toM p TT s) l b=some ((Ed s (l.map fun q=>FV p.Unit q b)).1,(Ed s (l.map fun q=>FV p.Unit q b)).2.img.map toP)∧(Ed s (l.map fun q=>FV p.Unit q b)).2={s with img:=(Ed s (l.map fun q=>FV p.Unit q b)).2.img}∧((Ed s (l.map fun q=>FV p.Unit q b)).1=0→uX TT (Ed s (l.map fun q=>FV p.Unit q b)).2):=by
 obtain⟨A,a1,a2,a3,a4,a5⟩:=Ot hN (l:=l.map fun q=>FV p.Unit q b) (by
  intro h
  have:=List.map_eq_nil_iff.1 h
  rw[this] at h2;simp at h2) (by simpa using h2.2) (fun q hq=>by
  obtain⟨z,hz,rfl⟩:=List.mem_map.1 hq
  obtain⟨e,b1,b2⟩:=Oc hu (h1 z hz) hd hb
  unfold CW at hb
  rw[e];simp only;omega) (XW hu h1 hd hb (Rk h3))
 have hA:=WN a2 a5
 have htot:=uT a4
 have hD:Ce A:=⟨a2,by omega,fun b hb=>by have:=a4 b hb;omega,Nat.le_trans htot (by have:=Nat.mul_le_mul_left 2000 a3;omega)⟩
 unfold mP
 rw[Pz b l 0 [] (by simp;omega),List.nil_append]
 rw[fD,a1,ob,PH (by have:=hD.tot;omega),ob,Tc,ob]
 unfold Ed
 rw[hA]
 by_cases hm:2000<(eu A).length
 ·rw[if_pos (by simp;omega),if_pos hm]
  exact⟨rfl,rfl,fun h=>by cases h⟩
 ·rw[if_neg (by simp;omega),if_neg hm]
  by_cases hr:((l.map fun q=>FV p.Unit q b).any fun q=> !JE q)=true
  ·rw[if_pos hr,if_pos hr]
   exact⟨rfl,rfl,fun h=>by cases h⟩
  ·rw[if_neg hr,if_neg hr,KQ hN hi.img rfl hD,ob]
   exact⟨rfl,rfl,fun h=>⟨KP hi.img hD h,hi.tool,hi.place⟩⟩
end
abbrev WY:=Int×Bool×Int×Int×Int×Bool×Int×Int×List bz
def M9(rec:di→List aZ→aK→Option WY)(p:eX)(TT:List (List aO))(l:List aZ)(b:aK)(s:MS):Prop:=
 rec (toM p TT s) l b=some (encR (yR p TT l b s))∧((yR p TT l b s).1=0→uX TT (yR p TT l b s).2)
section
variable {N:Nat} (hN:10000000000≤N) {p:eX} {TT:List (List aO)} (hT:∀T∈TT,AQ T) (hl:TT.length=p.Tools.length) (hu:1≤p.Unit)
include hN hT hl hu
theorem Uj{s:MS}(hi:uX TT s){d:Int}(hd:d≤5){b:aK}(hb:CW d b){x:aZ}(hx:IL p x d)(h8:x.Kind≠8)(rec:di→List aZ→aK→Option WY):
  jm rec N (toM p TT s) x b=some (encR (JJ p TT x b s))∧((JJ p TT x b s).1=0→uX TT (JJ p TT x b s).2):=by
 have hk:=hx.kind
 unfold jm
 rw[G9,ob]
 unfold JJ
 by_cases h1:x.Kind=1
 ·rw[if_pos (by simp[h1]),if_pos (.inl h1)]
  have e:(x.Kind==2)=false:=by simp[h1]
  unfold gN
  rw[if_pos (by simp[h1])]
  unfold fC
  exact⟨rfl,fun _=>⟨hi.img,hi.tool,hi.place⟩⟩
 rw[if_neg (by simpa using h1)]
 unfold gN
 by_cases h2:x.Kind=2
 ·rw[if_pos (by simp[h2]),if_pos (.inr h2)]
  unfold fC
  exact⟨rfl,fun _=>⟨hi.img,hi.tool,hi.place⟩⟩
 rw[if_neg (by simpa using h2),if_neg (show ¬(x.Kind=1∨x.Kind=2) by omega)]
 by_cases h3:x.Kind=3
 ·have ht:=hx.tool h3
  have hlt:=KC (fun t:eH=>rW t.Name x.Name) p.Tools 0 (by omega)
  have hto:zU x.Name p.Tools=qD (fun t:eH=>rW t.Name x.Name) p.Tools 0:=rfl
  rw[if_pos (by simp[h3]),if_pos h3,show(toM p TT s).p=p from rfl,Jq,ob]
  unfold fC
  refine⟨rfl,fun _=>⟨hi.img,⟨?_,?_⟩,hi.place⟩⟩
  ·show -1≤zU x.Name p.Tools;omega
  ·show zU x.Name p.Tools<(TT.length:Int)
   rw[hl]
   rcases hlt with h|h<;>omega
 rw[if_neg (by simpa using h3),if_neg h3]
 by_cases h4:x.Kind=4
 ·rw[if_pos (by simp[h4]),if_pos h4,Jy,ob]
  refine⟨?_,?_⟩
  ·unfold uR
   cases JE (FV p.Unit x.At b)<;>rfl
  ·intro h
   unfold uR at h ⊢
   cases hp:JE (FV p.Unit x.At b)
   ·rw[hp] at h;cases h
   ·exact⟨hi.img,hi.tool,fun _=>hp⟩
 rw[if_neg (by simpa using h4),if_neg h4]
 by_cases h5:x.Kind=5
 ·obtain⟨f1,f2,f3,f4,f5⟩:=Qc (p:=p) hN hT hi (FV p.Unit x.At b)
  rw[if_pos (by simp[h5]),if_pos h5,f1,ob]
  refine⟨?_,f5⟩
  unfold encR
  rw[f2,f3,f4];rfl
 rw[if_neg (by simpa using h5),if_neg h5]
 by_cases h6:x.Kind=6
 ·obtain⟨f1,f2,f3,f4,f5⟩:=RO (p:=p) hN hT hi (FV p.Unit x.At b)
  rw[if_pos (by simp[h6]),if_pos h6,f1,ob]
  refine⟨?_,f5⟩
  unfold encR
  rw[f2,f3,f4];rfl
 rw[if_neg (by simpa using h6),if_neg h6]
 have h7:x.Kind=7:=by omega
 obtain⟨a1,a2,a3,a4⟩:=hx.area h7
 obtain⟨f1,f2,f3⟩:=Te hN (p:=p) (TT:=TT) hu hi hd hb (l:=x.Points) (List.all_eq_true.1 a1) ⟨a2,a3⟩ a4
 rw[if_pos (by simp[h7]),if_pos h7,f1,ob]
 refine⟨?_,f3⟩
 unfold encR
 generalize hg:Ed s (x.Points.map fun q=>FV p.Unit q b)=g at f2 ⊢
 rw[f2];rfl
omit hT hl hu hN in
theorem LK{rec:di→List aZ→aK→Option WY}{s0:MS}{x:aZ}{b:aK}{j:Nat}{K:List bz→Bool→Int→Int→Int→Bool→Int→Int→Int→Option WY}(hNX:x.NX≤100)
  (hrec:∀(i:Nat) (s:MS),(i:Int)<x.NX→uX TT s→M9 rec p TT x.Steps (Qt p.Unit b x.At j i) s):∀(r m i:Nat) (s:MS),uX TT s→(i:Int)+r=x.NX→r<m→
  ∃q,q=BX (fun i s=>yR p TT x.Steps (Qt p.Unit b x.At j i) s) (List.range' i r) s∧(q.1=0→uX TT q.2)∧
   gM (toM p TT s0) x b rec (j:Int) K m (s.img.map toP) s.clear s.tool s.place.X s.place.Y s.placed s.off s.on (i:Int)=if q.1=0 then K (q.2.img.map toP) q.2.clear q.2.tool q.2.place.X q.2.place.Y q.2.placed q.2.off q.2.on (bP ((j:Int)+1)) else some (encR q)
 |0,m,i,s,hs,hi,hm=>by
  obtain⟨m,rfl⟩:∃k,m=k+1:=⟨m-1,by omega⟩
  refine⟨_,rfl,fun _=>hs,?_⟩
  rw[gM,if_neg (by simp;omega)]
  rfl
 | r+1,m,i,s,hs,hi,hm=>by
  obtain⟨m,rfl⟩:∃k,m=k+1:=⟨m-1,by omega⟩
  obtain⟨h1,h2⟩:=hrec i s (by omega) hs
  refine⟨_,rfl,?_⟩
  rw[gM,if_pos (by simp;omega)]
  have h1':rec (di.mk (toM p TT s0).p (toM p TT s0).tools (s.img.map toP) s.clear s.tool (aK.mk s.place.X s.place.Y) s.placed s.off s.on) x.Steps (aK.mk (bP (b.X+(bP ((bP ((i:Int)*x.At.X))*(toM p TT s0).p.Unit)))) (bP (b.Y+(bP ((bP ((j:Int)*x.At.Y))*(toM p TT s0).p.Unit)))))=some (encR (yR p TT x.Steps (Qt p.Unit b x.At j i) s)):=h1
  rw[h1',ob,List.range'_succ,BX]
  generalize hg:yR p TT x.Steps (Qt p.Unit b x.At j i) s=g at h2 ⊢
  by_cases h0:g.1=0
  ·obtain⟨q,q1,q2,q3⟩:=LK hNX hrec r m (i+1) g.2 (h2 h0) (by omega) (by omega) (s0:=s0) (K:=K)
   rw[if_neg (show ¬((encR g).1 !=0)=true by show ¬(g.1 !=0)=true;simp[h0]),if_pos h0,←q1]
   refine⟨q2,?_⟩
   rw[←q3,dB (by omega) (by omega)]
   rfl
  ·rw[if_pos (show((encR g).1 !=0)=true by show(g.1 !=0)=true;simp[h0]),if_neg h0]
   refine⟨fun h=>absurd h h0,?_⟩
   rw[if_neg h0]
omit hT hl hu in
theorem OI{rec:di→List aZ→aK→Option WY}{s0:MS}{x:aZ}{b:aK}(hNX:1≤x.NX∧x.NX≤100)(hNY:x.NY≤100)
  (hrec:∀(j i:Nat) (s:MS),(j:Int)<x.NY→(i:Int)<x.NX→uX TT s→M9 rec p TT x.Steps (Qt p.Unit b x.At j i) s):∀(r m j:Nat) (s:MS),uX TT s→(j:Int)+r=x.NY→r<m→
  ∃q,q=BX (fun j s=>BX (fun i s=>yR p TT x.Steps (Qt p.Unit b x.At j i) s) (List.range' 0 x.NX.toNat) s) (List.range' j r) s∧(q.1=0→uX TT q.2)∧
   eP N (toM p TT s0) x b rec m (s.img.map toP) s.clear s.tool s.place.X s.place.Y s.placed s.off s.on (j:Int)=some (encR q)
 |0,m,j,s,hs,hi,hm=>by
  obtain⟨m,rfl⟩:∃k,m=k+1:=⟨m-1,by omega⟩
  refine⟨_,rfl,fun _=>hs,?_⟩
  rw[eP,if_neg (by simp;omega)]
  rfl
 | r+1,m,j,s,hs,hi,hm=>by
  obtain⟨m,rfl⟩:∃k,m=k+1:=⟨m-1,by omega⟩
  obtain⟨q,q1,q2,q3⟩:=LK (x:=x) (rec:=rec) (s0:=s0) (K:=eP N (toM p TT s0) x b rec m) hNX.2 (fun i s=>hrec j i s (by omega)) x.NX.toNat N 0 s hs (by omega) (by omega)
  refine⟨_,rfl,?_⟩
  rw[eP,if_pos (by simp;omega)]
  rw[List.range'_succ,BX,←q1]
  rw[show((0:Nat):Int)=0 from rfl] at q3
  rw[q3]
  by_cases h0:q.1=0
  ·obtain⟨z,z1,z2,z3⟩:=OI hNX hNY hrec r m (j+1) q.2 (q2 h0) (by omega) (by omega) (s0:=s0)
   rw[if_pos h0,if_pos h0,←z1]
   refine⟨z2,?_⟩
   rw[←z3,dB (by omega) (by omega)]
   rfl
  ·rw[if_neg h0,if_neg h0]
   exact⟨fun h=>absurd h h0,rfl⟩
theorem QY{s:MS}(hi:uX TT s){d:Int}(hd:0≤d∧d≤5){b:aK}(hb:CW d b){x:aZ}(hx:IL p x d){rec:di→List aZ→aK→Option WY}(hrec:d<5→∀b s,CW (d+1) b→uX TT s→M9 rec p TT x.Steps b s):
  jm rec N (toM p TT s) x b=some (encR (xR p TT x b s))∧((xR p TT x b s).1=0→uX TT (xR p TT x b s).2):=by
 rw[QZ]
 by_cases h8:x.Kind=8
 ·obtain⟨t1,t2,t3,t4⟩:=hx.times h8
  rw[if_pos h8]
  unfold jm
  rw[G9,ob,if_neg (by simp[h8])]
  unfold gN
  rw[if_neg (by simp[h8]),if_neg (by simp[h8]),if_neg (by simp[h8]),if_neg (by simp[h8]),if_neg (by simp[h8]),if_neg (by simp[h8]),if_pos (by simp[h8])]
  obtain⟨q,q1,q2,q3⟩:=OI hN (p:=p) (TT:=TT) (rec:=rec) (s0:=s) (b:=b) t1 t2.2 (fun j i s hj hx' hs=>hrec t4 _ s (WJ hu hx.place ⟨hd.1,t4⟩ hb (by omega) (by omega)).2 hs) x.NY.toNat N 0 s hi (by omega) (by omega)
  rw[←q1]
  exact⟨q3,q2⟩
 ·rw[if_neg h8]
  exact Uj hN hT hl hu hi hd.2 hb hx h8 rec
theorem OE{d:Int}(hd:0≤d∧d≤5){b:aK}(hb:CW d b){rec:di→List aZ→aK→Option WY}{s0:MS}:∀(l:List aZ) (i:Nat) (s:MS),(∀x∈l,IL p x d∧(d<5→∀b s,CW (d+1) b→uX TT s→M9 rec p TT x.Steps b s))→uX TT s→
  gJ N (toM p TT s0) b rec l i (s.img.map toP) s.clear s.tool s.place.X s.place.Y s.placed s.off s.on=some (encR (yR p TT l b s))∧((yR p TT l b s).1=0→uX TT (yR p TT l b s).2)
 |[],i,s,_,hs=>by
  rw[gJ,Ri]
  exact⟨rfl,fun _=>hs⟩
 | x::l,i,s,hx,hs=>by
  obtain⟨h1,h2⟩:=QY hN hT hl hu hs hd hb (hx x List.mem_cons_self).1 (rec:=rec) (hx x List.mem_cons_self).2
  rw[gJ,PU]
  have h1':jm rec N (di.mk (toM p TT s0).p (toM p TT s0).tools (s.img.map toP) s.clear s.tool (aK.mk s.place.X s.place.Y) s.placed s.off s.on) x b=some (encR (xR p TT x b s)):=h1
  rw[h1',ob]
  generalize hg:xR p TT x b s=g at h2 ⊢
  by_cases h0:g.1=0
  ·have ih:=OE hd hb (rec:=rec) (s0:=s0) l (i+1) g.2 (fun y hy=>hx y (List.mem_cons_of_mem _ hy)) (h2 h0)
   rw[if_neg (show ¬((encR g).1 !=0)=true by show ¬(g.1 !=0)=true;simp[h0]),if_pos h0]
   exact ih
  ·rw[if_pos (show((encR g).1 !=0)=true by show(g.1 !=0)=true;simp[h0]),if_neg h0]
   exact⟨rfl,fun h=>absurd h h0⟩
omit hN in
theorem Q9:∀(k:Nat) (d:Int) (N:Nat) (l:List aZ) (b:aK) (s:MS),d+k=5→0≤d→10000000000+k+1≤N→Ei p d l→CW d b→uX TT s→M9 (lQ N) p TT l b s
 | k,d,N,l,b,s,hk,hd,hN,hv,hb,hs=>by
  obtain⟨N,rfl⟩:∃m,N=m+1:=⟨N-1,by omega⟩
  have:=OE (N:=N) (by omega) hT hl hu (d:=d) (by omega) hb (rec:=lQ N) (s0:=s) l 0 s (fun x hx=>by
   have h1:=(Gn p d x).1 ((Tt p d l).1 hv x hx)
   refine⟨Jt.1 h1.1,fun h5 b s hb hs=>?_⟩
   cases k with
   |zero=>omega
   |succ k=>exact Q9 k (d+1) N x.Steps b s (by omega) (by omega) (by omega) h1.2 hb hs) hs
  exact this
end
def W9(u:Int)(r:aO):aO:=⟨r.X0*u,r.Y0*u,r.X1*u,r.Y1*u⟩
def xC(p:eX):List (List aO):=p.Tools.map fun t=>t.Rects.map (W9 p.Unit)
def yV:MS:=⟨[],false,-1,⟨0,0⟩,false,0,0⟩
theorem Cn{r:aO}{u:Int}(hu:1≤u)(h:GX r u=0):((-1000000≤r.X0*u∧r.X0*u≤1000000)∧(-1000000≤r.Y0*u∧r.Y0*u≤1000000)∧(-1000000≤r.X1*u∧r.X1*u≤1000000)∧(-1000000≤r.Y1*u∧r.Y1*u≤1000000))∧r.X0*u<r.X1*u∧r.Y0*u<r.Y1*u:=by
 unfold GX at h
 split at h
 ·rename_i hf
  simp only[Bool.and_eq_true] at hf
  split at h
  ·cases h
  rename_i hn
  simp at hn
  exact⟨⟨xm hu hf.1.1.1,xm hu hf.1.1.2,xm hu hf.1.2,xm hu hf.2⟩,Int.mul_lt_mul_of_pos_right hn.1 (by omega),Int.mul_lt_mul_of_pos_right hn.2 (by omega)⟩
 ·cases h
theorem FJ{u:Int}:∀{l:List aO},ER u l=0→∀r∈l,GX r u=0
 | r::l,h,x,hx=>by
  rw[ER] at h
  split at h
  ·rename_i h0
   rcases List.mem_cons.1 hx with rfl|hx
   ·exact h0
   ·exact FJ h x hx
  ·rename_i h0;exact absurd h h0
theorem Gv{t:eH}{u:Int}(h:wX t u=0):t.Rects≠[]∧t.Rects.length≤2000∧∀r∈t.Rects,GX r u=0:=by
 unfold wX at h
 split at h
 ·cases h
 split at h
 ·cases h
 rename_i h1 h2
 exact⟨fun e=>h1 (by rw[e];rfl),by omega,FJ h⟩
theorem Jp{t:eH}{u:Int}(hu:1≤u)(h:wX t u=0):AQ (t.Rects.map (W9 u)):=by
 obtain⟨_,h1,h2⟩:=Gv h
 refine⟨by simpa using h1,fun r hr=>?_,fun r hr=>?_⟩
 ·obtain⟨q,hq,rfl⟩:=List.mem_map.1 hr
  exact(Cn hu (h2 q hq)).2
 ·obtain⟨q,hq,rfl⟩:=List.mem_map.1 hr
  have:=(Cn hu (h2 q hq)).1
  exact⟨⟨this.1.1,this.2.2.1.2⟩,this.2.1.1,this.2.2.2.2⟩
theorem Fq.xC{N:Nat}{p:eX}(h:Fq N p):∀T∈xC p,AQ T:=fun T hT=>by
 obtain⟨t,ht,rfl⟩:=List.mem_map.1 hT
 exact Jp h.unit.1 (h.tools t ht).2
section
variable {N:Nat} (hN:10000000000≤N)
include hN
theorem LX{p:eX}{t:eH}(hu:1≤p.Unit)(ht:wX t p.Unit=0){acc:List (List bz)}(ha:acc.length≤1000){K:List (List bz)→Option di}:∀(suf pre:List aO) (i:Nat),t.Rects=pre++suf→
  iK N p acc K suf i (pre.map (W9 p.Unit))=K (acc++[(pg (t.Rects.map (W9 p.Unit))).map toP])
 | [],pre,i,he=>by
  rw[List.append_nil] at he
  have hk:=Jp hu ht
  rw[iK,←he,Eo hN (by have:=hk.few;omega) (fun r hr=>by
   have h1:=hk.ne r hr
   have h2:=hk.lim r hr
   exact⟨by omega,by omega,by omega,by omega,h1.1,h1.2⟩),ob,qN (by simp;omega),ob]
 |r::l,pre,i,he=>by
  obtain⟨_,h1,h2⟩:=Gv ht
  have hlen:t.Rects.length=pre.length+(l.length+1):=by rw[he];simp
  have hr:=(Cn hu (h2 r (by rw[he];simp))).1
  rw[iK,dB (by omega) (by omega),dB (by omega) (by omega),dB (by omega) (by omega),dB (by omega) (by omega),qN (by simp;omega),ob]
  have:=LX hu ht ha (K:=K) l (pre++[r]) (i+1) (by rw[he];simp)
  rw[List.map_append] at this
  exact this
theorem LY{p:eX}(hu:1≤p.Unit)(hp:∀t∈p.Tools,wX t p.Unit=0)(hl:p.Tools.length≤200):∀(suf pre:List eH) (i:Nat),p.Tools=pre++suf→
  fB N p suf i (pre.map fun t=>(pg (t.Rects.map (W9 p.Unit))).map toP)=some (toM p (xC p) yV)
 |[],pre,i,he=>by
  rw[List.append_nil] at he
  rw[fB,←he]
  unfold toM xC
  rw[List.map_map];rfl
 |t::l,pre,i,he=>by
  have hlen:p.Tools.length=pre.length+(l.length+1):=by rw[he];simp
  rw[fB]
  have h1:=LX hN hu (hp t (by rw[he];simp)) (acc:=pre.map fun t=>(pg (t.Rects.map (W9 p.Unit))).map toP) (by simp;omega) (K:=fB N p l (i+1)) t.Rects [] 0 rfl
  rw[List.map_nil] at h1
  rw[h1]
  have:=LY hu hp hl l (pre++[t]) (i+1) (by rw[he];simp)
  rw[List.map_append] at this
  exact this
theorem Ud{p:eX}{M:Nat}(h:Fq M p):oV N p=some (toM p (xC p) yV):=by
 unfold oV
 exact LY hN h.unit.1 (fun t ht=>(h.tools t ht).2) h.few p.Tools [] 0 rfl
end
theorem RX(TT:List (List aO)):uX TT yV:=by
 exact⟨⟨⟨⟨0,trivial⟩,fun b hb=>by cases hb⟩,by simp[yV,eu],by simp[yV,eu]⟩,⟨by simp[yV],by simp[yV];omega⟩,fun h=>by cases h⟩
noncomputable def Qa(p:eX):Int×MS:=yR p (xC p) p.Steps ⟨0,0⟩ yV
theorem SC{N M:Nat}(hN:20000000000≤N){p:eX}(h:Fq M p):uA N p=some (toM p (xC p) (Qa p).2,(Qa p).1)∧((Qa p).1=0→uX (xC p) (Qa p).2):=by
 obtain⟨h1,h2⟩:=Q9 h.xC (by unfold xC;simp) h.unit.1 5 0 N p.Steps ⟨0,0⟩ yV (by omega) (by omega) (by omega) h.steps (by unfold CW;simp) (RX _)
 unfold uA
 rw[Ud (by omega) h,ob,h1,ob]
 exact⟨rfl,h2⟩
theorem IR{N:Nat}{p:eX}(hN:Fu p N)(hL:Ql p):∃e,mD N p=some e∧(e=0↔Fq N p):=by
 have hw:kS p.Unit 1 1000=some (decide (1≤p.Unit)&&decide (p.Unit≤1000)):=rfl
 unfold mD
 rw[hw,ob]
 by_cases hu:1≤p.Unit∧p.Unit≤1000
 ·rw[if_neg (by simpa using hu)]
  by_cases ht:200<(p.Tools.length:Int)
  ·rw[if_pos (decide_eq_true ht)]
   exact⟨2,rfl,fun h=>(by cases h),fun h=>by have:=h.few;omega⟩
  ·rw[if_neg (by simpa using ht)]
   obtain⟨e,e1,e2⟩:=JF hN hL hu p.Tools [] rfl (by omega)
   exact⟨e,e1,e2 (fun _ h=>by cases h) trivial⟩
 ·rw[if_pos (by simp;omega)]
  exact⟨1,rfl,fun h=>(by cases h),fun h=>absurd h.unit hu⟩
theorem Lp{α:Type}{a:α}{c:α→α→Option Int}{k:Int}(h:c a a=some k)(hk:¬k<0):Dc [a] c=some [a]:=by
 have hs:AU c [a]:=⟨by simp,fun x hx y hy=>by simp at hx hy;subst hx hy;exact⟨k,h⟩,fun x hx=>by simp at hx;subst hx;simp[NQ,h];omega,fun x hx y hy z hz h1=>by
  simp at hx hy;subst hx hy;simp[NQ,h] at h1;omega,fun x hx y hy z hz _ _=>by simp at hx hz;subst hx hz;simp[NQ,h];omega⟩
 obtain⟨m,hm⟩:=OA hs
 obtain⟨_,hp,_⟩:=EJ hm
 rw[hm,List.perm_singleton.1 hp]
def JB:aO:=⟨0,0,2,3⟩
theorem Xo(m:Nat):jV (m+10) [JB]=some [⟨0,3,[0,2]⟩]:=by
 have h1:Dc [JB] (fun z0 z1=>nA z0 z1)=some [JB]:=Lp (k:=0) rfl (by decide)
 have h2:Dc [JB] (fun z0 z1=>kE z0 z1)=some [JB]:=Lp (k:=0) rfl (by decide)
 have h3:I1 [0,3]=some [0,3]:=by
  unfold I1
  rw[if_pos (by simp),List.mergeSort_of_pairwise (by simp)]
 have h4:kI [JB]=some ([0,2],[JB]):=by
  unfold kI
  rw[h2];rfl
 have h5:WF [0,3]=some [0,3]:=rfl
 unfold jV nG
 rw[show EC ([]:List aO) [JB]=some [JB] from rfl,ob,ob,h1,ob,je.eq_2,show EC ([]:List Int) [JB.Y0,JB.Y1]=some [0,3] from rfl,ob,je.eq_1,h3,ob,h5,ob,
  dU.eq_2,if_pos (by decide),show jE (m+10) ([]:List aO) (fun z0=>nz z0 [0,3] 0)=some [] from rfl,ob,iA.eq_2]
 show((some (decide (JB.Y0≤0))).bind fun Yr=>if Yr then _ else _)=_
 rw[ob,if_pos (by decide)]
 show iA [JB] [0,3] 0 [] (dU (m+10) [JB] [0,3] (m+9)) (m+9) [JB] 1=_
 rw[iA.eq_2]
 show(((kI [JB]).bind fun Xg=>(gm [] (bz.mk 0 3 Xg.1)).bind fun Yg=>dU (m+10) [JB] [0,3] (m+9) 1 Yg Xg.2 1))=_
 rw[h4]
 show dU (m+10) [JB] [0,3] (m+9) 1 [⟨0,3,[0,2]⟩] [JB] 1=_
 rw[dU.eq_2,if_neg (by decide)]
theorem MR{N:Nat}(hN:10≤N):jU N=some true:=by
 obtain⟨m,rfl⟩:∃m,N=m+10:=⟨N-10,by omega⟩
 unfold jU vS kF
 rw[show mr [aO.mk 0 0 2 3]=some 0 from rfl,ob,if_neg (by decide),dV.eq_2,if_neg (by decide)]
 have:=Xo m
 unfold JB at this
 rw[this]
 rfl
structure Yy (N:Nat) (o:lU):Prop where
 big:20000000000≤N
 types:∀x∈o.Types,Nm N x.Name∧∀q∈x.Pins,Nm N q.Name
 mats:∀x∈o.Materials,Nm N x.Name
 stack:∀x∈o.Stack,Nm N x.Name
 bodies:∀x∈o.Bodies,Nm N x.Type_∧Nm N x.Nozzle
 classes:∀x∈o.Rules.Classes,Nm N x.Name
 plots:∀x∈o.Plots,Fu x N∧Ql x
 outline:Fu o.Outline N∧Ql o.Outline
 many:o.Plots.length≤9223372036854775807
theorem WM(s:ByteArray)(f:Int):∃w,lM s f=some w∧(w.fault=0→f=0):=by
 unfold lM
 by_cases h:f=0
 ·exact⟨_,if_pos (by simpa using h),fun _=>h⟩
 ·exact⟨_,if_neg (by simpa using h),fun h'=>h'⟩
theorem KY{s:ByteArray}{f:Int}{P:Prop}(h:f=0→P):∃w,((lM s f).bind fun y=>some y)=some w∧(w.fault=0→P):=by
 obtain⟨w,h1,h2⟩:=WM s f
 exact⟨w,by rw[h1];rfl,fun h0=>h (h2 h0)⟩
theorem MJ{N:Nat}{o:lU}(h:Yy N o)(ht:Je o.Types):∀(suf ps:List eX),o.Plots=ps++suf→∃w,ku N o suf ps.length=some w∧(w.fault=0→o.Bores.length≤500)
 | [],ps,_=>by
  have hN:=h.big
  obtain⟨e,he,_⟩:=IR h.outline.1 h.outline.2
  rw[ku.eq_1,he,ob]
  by_cases h0:e=0
  ·rw[if_neg (by simpa using h0)]
   by_cases hb:(500:Int)<(o.Bores.length:Int)
   ·rw[if_pos (by simpa using hb)]
    exact KY fun h=>by cases h
   ·have hb':o.Bores.length≤500:=by omega
    obtain⟨e1,he1⟩:=IV (N:=N) (by omega) (b:=o.Bodies) (l:=o.Places) h.bodies
    obtain⟨e2,he2⟩:=Uz (N:=N) (by omega) ht
    obtain⟨e3,he3⟩:=Ji (N:=N) (by omega) h.classes
    rw[if_neg (by simpa using hb),he1,ob]
    refine TL (KY fun _=>hb') ?_
    rw[he2,ob]
    refine TL (KY fun _=>hb') ?_
    rw[he3,ob]
    exact KY fun _=>hb'
  ·rw[if_pos (by simpa using h0)]
   exact KY fun h=>absurd h h0
 | x ::suf,ps,e=>by
  have hx:=h.plots x (by rw[e];simp)
  have hm:=h.many
  have hl:ps.length<9223372036854775807:=by rw[e] at hm;simp at hm;omega
  obtain⟨f,hf,_⟩:=IR hx.1 hx.2
  have ih:=MJ h ht suf (ps++[x]) (by rw[e];simp)
  rw[List.length_append] at ih
  rw[ku.eq_2,hf,ob]
  by_cases h0:f=0
  ·rw[if_neg (by simpa using h0)]
   exact ih
  ·have hi:L9 (ps.length:Int)=some ⟨(Lib.itoa (ps.length:Int)).toArray⟩:=if_pos ⟨by omega,by omega⟩
   have hz:=Lib.itoa_length_le (ps.length:Int) (by omega) (by omega)
   have hc:∃t,Qh ⟨#[112,108,111,116,32]⟩ ⟨(Lib.itoa (ps.length:Int)).toArray⟩=some t:=by
    unfold Qh
    exact⟨_,if_pos (by
     have h1:(⟨#[112,108,111,116,32]⟩:ByteArray).size=5:=rfl
     have h2:(⟨(Lib.itoa (ps.length:Int)).toArray⟩:ByteArray).size=(Lib.itoa (ps.length:Int)).length:=by show(Lib.itoa (ps.length:Int)).toArray.size=_;simp
     omega)⟩
   obtain⟨t,hc⟩:=hc
   rw[if_pos (by simpa using h0),hi,ob,hc,ob]
   exact KY fun h=>absurd h h0
theorem Af:∀(l:List lV) (i:Nat) (x:Int),∃n,jv l i x=some n
 |[],i,x=>⟨_,rfl⟩
 |y::l,i,x=>by
  rw[jv.eq_2]
  exact gF (Af l (i+1) _) (Af l (i+1) _)
theorem SL{N:Nat}{o:lU}(h:Yy N o):∃w,sM N o=some w∧(w.fault=0→o.Bores.length≤500):=by
 have hN:=h.big
 obtain⟨e,he,he'⟩:=K9 (N:=N) (by omega) h.types o.List_
 unfold sM
 rw[he,ob]
 by_cases h0:e=0
 ·obtain⟨f,hf⟩:=Jh (N:=N) (by omega) h.mats h.stack
  rw[if_neg (by simpa using h0),hf,ob]
  by_cases h1:f=0
  ·obtain⟨n,hn⟩:=Af o.Stack 0 0
   rw[if_neg (by simpa using h1),show sQ o=some n from hn,ob]
   refine TL (KY fun h=>by cases h) ?_
   exact MJ h (he' h0) o.Plots [] rfl
  ·rw[if_pos (by simpa using h1)]
   exact KY fun h=>absurd h h1
 ·rw[if_pos (by simpa using h0)]
  exact KY fun h=>absurd h h0
theorem Oq{N:Nat}(hN:20000000000≤N){p:eX}(hF:Fu p N)(hL:Ql p):∃I e,rD N p=some (I,e)∧(e=0→∃J,I=J.map toP∧Ce J):=by
 obtain⟨e,e1,e2⟩:=IR hF hL
 unfold rD
 rw[e1,ob]
 by_cases h:e=0
 ·obtain⟨d1,d2⟩:=SC hN (e2.1 h)
  rw[if_neg (by simpa using h),d1,ob]
  by_cases h0:(Qa p).1=0
  ·rw[if_neg (by simpa using h0)]
   exact⟨_,_,rfl,fun _=>⟨(Qa p).2.img,rfl,(d2 h0).img.Qs⟩⟩
  ·rw[if_pos (by simpa using h0)]
   exact⟨_,_,rfl,fun h=>absurd h h0⟩
 ·rw[if_pos (by simpa using h)]
  exact⟨_,_,rfl,fun h'=>absurd h' h⟩
theorem Vd{N:Nat}(hN:10000000000≤N){J:List Bd}(hJ:Ce J){W H:Int}(hw:1≤W∧W≤1000000)(hh:1≤H∧H≤1000000):∃y b,jV N [(aO.mk 0 0 W H)]=some y∧oF N (J.map toP) y=some b:=by
 have hne:Ne [(aO.mk 0 0 W H)]:=fun r hr=>by simp at hr;subst hr;exact⟨by show(0:Int)<W;omega,by show(0:Int)<H;omega⟩
 have hS:=Eo (N:=N) (l:=[(aO.mk 0 0 W H)]) hN (by simp) fun r hr=>by
  simp at hr;subst hr;constructor<;>simp only<;>omega
 have hC:=(Ob (c:=true) hJ (Lv (L:=[(aO.mk 0 0 W H)]) (by simp) hne) hN).1
 rw[if_pos rfl] at hC
 have hI:∃b,oF N (J.map toP) ((pg [(aO.mk 0 0 W H)]).map toP)=some b:=by
  unfold oF
  rw[hC];exact⟨_,rfl⟩
 obtain⟨i,hI⟩:=hI
 exact⟨_,i,hS,hI⟩
theorem OY(b:ByteArray):∀(l:List bW) (i:Nat),∃k t,kM b l i=some (k,t)∧(t=true→∃j:Nat,l[j]?=some k∧∀m:Int,qD (fun k=>rW k.Name b) l m=m+j)
 |[],i=>⟨_,false,rfl,fun h=>by cases h⟩
 | x::l,i=>by
  rw[kM.eq_2]
  cases hb:rW x.Name b
  ·obtain⟨k,t,h1,h2⟩:=OY b l (i+1)
   refine⟨k,t,h1,fun h=>?_⟩
   obtain⟨j,j1,j2⟩:=h2 h
   refine⟨j+1,by simpa using j1,fun m=>?_⟩
   rw[qD,hb,if_neg (by simp),j2];push_cast;omega
  ·refine⟨x,true,rfl,fun _=>⟨0,rfl,fun m=>?_⟩⟩
   rw[qD,hb,if_pos rfl];simp
theorem NS(p:dw)(b:ByteArray):∃k t,uE p b=some (k,t)∧(t=true→k∈p.Kinds∧kindOf p.Kinds b=k):=by
 obtain⟨k,t,h1,h2⟩:=OY b p.Kinds 0
 refine⟨k,t,h1,fun h=>?_⟩
 obtain⟨j,j1,j2⟩:=h2 h
 refine⟨List.mem_of_getElem? j1,?_⟩
 have:rZ p.Kinds b=(j:Int):=by
  unfold rZ
  rw[j2];omega
 unfold kindOf KA
 rw[this,Int.toNat_natCast,j1];rfl
def I7(p:dw)(s:jH)(x:fq):fq:=⟨CY p s x.At,x.Size,x.From,x.To,x.Plated⟩
def Q4(p:dw)(b:ByteArray)(l:List fq)(s:jH):List fq:=if rW s.Board b=true then l.map (I7 p s) else[]
def EX(p:dw)(b:ByteArray)(l:List fq)(ss:List jH):List fq:=ss.flatMap (Q4 p b l)
def Xq(k:bW)(x:fq):Bool:=within x.At.X 0 k.W&&within x.At.Y 0 k.H
theorem VM{N:Nat}(hN:5≤N){p:dw}(hB:PB p){s:jH}(hs:ul p s){k:List fq→Option (List fq×ByteArray×Int)}:∀(suf:List fq) (i:Nat) (acc:List fq),acc.length+suf.length≤1000→
  (∀x∈suf,(0≤x.At.X∧x.At.X≤1000000)∧0≤x.At.Y∧x.At.Y≤1000000)→jw N k (xP p s,0) suf i acc=k (acc++suf.map (I7 p s))
 |[],i,acc,_,_=>by rw[jw.eq_1];simp
 |x::suf,i,acc,h,hx=>by
  simp only[List.length_cons] at h
  obtain⟨t1,t2,_⟩:=Li hB hs
  have h1:=hx x (by simp)
  rw[jw.eq_2]
  show((jM N x.At (xP p s)).bind _)=_
  rw[Kj hN rfl ⟨hs.q0,hs.q1⟩ (by unfold Nk;omega) (by unfold Nk;omega) t1 t2,ob,qN (by simp;omega),ob,VM hN hB hs suf (i+1) _ (by simp;omega) fun y hy=>hx y (by simp[hy])]
  simp[I7,CY,xP]
theorem TC{N:Nat}{p:dw}(h:IQ N p)(he:oK p=0){o:lU}(hb:o.Bores.length≤500){b:ByteArray}(hx:∀x∈o.Bores,(0≤x.At.X∧x.At.X≤1000000)∧0≤x.At.Y∧x.At.Y≤1000000):∀(suf ps:List jH) (acc:List fq),p.Slots=ps++suf→acc.length≤500→
  ∃r,gB N o p b suf ps.length acc=some r∧(r.2.2≠0→r.1=[])∧(r.2.2=0→r.1=acc++EX p b o.Bores suf∧r.1.length≤500)
 |[],ps,acc,_,hl=>⟨_,rfl,fun h=>absurd rfl h,fun _=>⟨by simp[EX],hl⟩⟩
 | s ::suf,ps,acc,e,hl=>by
  obtain⟨hB,hsl,_,hso⟩:=wC he
  have hs:=hso s (by rw[e];simp)
  rw[gB.eq_2]
  cases hq:rW s.Board b
  ·obtain⟨r,r1,r2,r3⟩:=TC h he hb hx suf (ps++[s]) acc (by rw[e];simp) hl
   rw[List.length_append] at r1
   refine⟨r,r1,r2,fun h0=>⟨?_,(r3 h0).2⟩⟩
   rw[(r3 h0).1]
   simp[EX,Q4,hq]
  ·rw[if_neg (by simp)]
   have e1:bP ((acc.length:Int)+(o.Bores.length:Int))=(acc.length:Int)+(o.Bores.length:Int):=dB (by omega) (by omega)
   rw[e1]
   by_cases hm:(500:Int)<(acc.length:Int)+(o.Bores.length:Int)
   ·rw[if_pos (by simpa using hm)]
    exact⟨_,rfl,fun _=>rfl,fun h=>by cases h⟩
   ·have hlen:p.Slots.length=ps.length+(suf.length+1):=by rw[e];simp
    have hi:p.Slots[(ps.length:Int).toNat]?=some s:=by rw[Int.toNat_natCast,e];simp
    have hst:Df p (ps.length:Int)=(xP p s,0):=by
     unfold Df
     rw[if_pos he,if_pos (within_iff.2 ⟨by omega,by omega⟩),hi]
    rw[if_neg (by simpa using hm),Ls h,hst,ob,VM (by have:=h.big;omega) hB hs o.Bores 0 acc (by omega) hx]
    obtain⟨r,r1,r2,r3⟩:=TC h he hb hx suf (ps++[s]) (acc++o.Bores.map (I7 p s)) (by rw[e];simp) (by simp;omega)
    rw[List.length_append] at r1
    refine⟨r,r1,r2,fun h0=>⟨?_,(r3 h0).2⟩⟩
    rw[(r3 h0).1]
    simp[EX,Q4,hq]
theorem RQ{N:Nat}{p:dw}(h:IQ N p)(he:oK p=0){s:jH}{i:Nat}(hi:p.Slots[i]?=some s){l:List fq}{y:List fq×ByteArray×Int}{pr po:List fq}(hy:y.1=pr++(l.map (I7 p s)++po))(hlen:y.1.length≤500)
  {k:Int→Option Bool} (hk:k ((pr.length+l.length:Nat):Int)=some true) (hx:∀x∈l,(0≤x.At.X∧x.At.X≤(kindOf p.Kinds s.Board).W)∧0≤x.At.Y∧x.At.Y≤(kindOf p.Kinds s.Board).H):
  ∀(suf ps:List fq) (m:Nat),l=ps++suf→dF N p y k i suf m ((pr.length+ps.length:Nat):Int)=some true
 |[],ps,m,e=>by
  rw[dF.eq_1]
  rw[e] at hk;simpa using hk
 | x::suf,ps,m,e=>by
  have hxx:=hx x (by rw[e];simp)
  obtain⟨hB,_,_,hso⟩:=wC he
  have hs:=hso s (List.mem_of_getElem? hi)
  have hy2:y.1=(pr++ps.map (I7 p s))++I7 p s x::(suf.map (I7 p s)++po):=by rw[hy,e];simp
  have hix:idx y.1 ((pr.length+ps.length:Nat):Int)=some (I7 p s x):=by
   rw[hy2]
   have:=lC (pr++ps.map (I7 p s)) (suf.map (I7 p s)++po) (I7 p s x)
   rw[List.length_append,List.length_map] at this;exact this
  have hlt:pr.length+ps.length<y.1.length:=by rw[hy2];simp
  have ih:=RQ h he hi hy hlen hk hx suf (ps++[x]) (m+1) (by rw[e];simp)
  obtain⟨c1,c2,c3⟩:=Um hB hs hxx.1 hxx.2
  obtain⟨_,_,_,d1,d2,d3,d4,d5,d6⟩:=hs.bd hB
  have hr:=hB.r0
  have hx1:=hs.x1
  have hy1:=hs.y1
  have hin:Wu (cellOf p s) (CY p s x.At)=true:=by
   unfold Wu
   rw[within_iff.2 c1,within_iff.2 c2];rfl
  obtain⟨n,z,hn,hor⟩:=BU p.Slots 0 i s hi hin
  have htb:Gb p (CY p s x.At)=(n,z,true,0):=by
   unfold Gb
   rw[if_pos he,if_pos ⟨within_iff.2 (by omega),within_iff.2 (by omega)⟩,hn]
  rw[dF.eq_2,if_neg (by simp;omega),hix]
  simp only[ob,Wl]
  have hf:(((I7 p s x).Size !=x.Size||(I7 p s x).From !=x.From)||(I7 p s x).To !=x.To||(I7 p s x).Plated !=x.Plated)=false:=by simp[I7]
  rw[if_neg (by simp[I7]),show(I7 p s x).At=CY p s x.At from rfl,Nv h,htb,ob]
  have hg:((((0:Int) !=0)||(!true))||(decide ((i:Int)<n))||((n==(i:Int))&&(!(kw z x.At))))=false:=by
   rcases hor with⟨o1,o2⟩|o1
   ·have e1:n=(i:Int):=by omega
    have e2:kw z x.At=true:=by rw[o2,c3];exact vO.2 rfl
    rw[e1,e2];simp
   ·have e1:¬(i:Int)<n:=by omega
    have e2:¬n=(i:Int):=by omega
    simp[e1,e2]
  show(if((((0:Int) !=0)||(!true))||(decide ((i:Int)<n))||((n==(i:Int))&&(!(kw z x.At))))=true then _ else _)=_
  rw[hg,if_neg (by simp),dB (by omega) (by omega)]
  have e3:((pr.length+ps.length:Nat):Int)+1=((pr.length+(ps++[x]).length:Nat):Int):=by simp;omega
  rw[e3];exact ih
theorem RS{N:Nat}(hN:10≤N){p:dw}(h:IQ N p)(he:oK p=0){o:lU}{b:ByteArray}{y:List fq×ByteArray×Int}(hy:y.1=EX p b o.Bores p.Slots)(hlen:y.1.length≤500)
  (hx:∀x∈o.Bores,(0≤x.At.X∧x.At.X≤(kindOf p.Kinds b).W)∧0≤x.At.Y∧x.At.Y≤(kindOf p.Kinds b).H):∀(suf ps:List jH),p.Slots=ps++suf→bS N o p b y suf ps.length ((EX p b o.Bores ps).length:Int)=some true
 |[],ps,e=>by
  rw[bS.eq_1]
  rw[List.append_nil] at e
  rw[if_pos (by rw[hy,e];simp),MR hN];rfl
 | s::suf,ps,e=>by
  have ih:=RS hN h he hy hlen hx suf (ps++[s]) (by rw[e];simp)
  rw[List.length_append] at ih
  have ho:EX p b o.Bores (ps++[s])=EX p b o.Bores ps++Q4 p b o.Bores s:=by simp[EX]
  rw[bS.eq_2]
  cases hq:rW s.Board b
  ·have hz:Q4 p b o.Bores s=[]:=by simp[Q4,hq]
   rw[ho,hz,List.append_nil] at ih
   exact ih
  ·have hz:Q4 p b o.Bores s=o.Bores.map (I7 p s):=by simp[Q4,hq]
   rw[if_neg (by simp)]
   have hsb:s.Board=b:=Bn.1 hq
   have hi:p.Slots[ps.length]?=some s:=by rw[e];simp
   have hyy:y.1=EX p b o.Bores ps++(o.Bores.map (I7 p s)++EX p b o.Bores suf):=by
    rw[hy,e,←hz];simp[EX]
   have hk:bS N o p b y suf (ps.length+1) (((EX p b o.Bores ps).length+o.Bores.length:Nat):Int)=some true:=by
    rw[ho,hz,List.length_append,List.length_map] at ih
    exact ih
   exact RQ h he hi hyy hlen hk (by rw[hsb];exact hx) o.Bores [] 0 rfl
theorem SY{N:Nat}{o:lU}(h:Yy N o){p:dw}(hp:IQ N p)(b:ByteArray):iX N o p b=some true:=by
 have hN:=h.big
 have ha:=MR (N:=N) (by omega)
 have hend:∀r:List fq×ByteArray×Int,r.2.2≠0→r.1=[]→((some r).bind fun y=>if(y.2.2 !=0)=true then(if((y.1.length:Int)==0)=true then(jU N).bind fun Yk=>some Yk else some false).bind fun Yt=>some Yt else bS N o p b y p.Slots 0 0)=some true:=fun r h1 h2=>by
  rw[ob,if_pos (by simpa using h1),h2,if_pos (by simp),ha];rfl
 unfold iX sS
 obtain⟨w,hw,hw'⟩:=SL h
 rw[hw,ob,show qY w=some (w.fault !=0) from rfl,ob]
 by_cases h0:w.fault=0
 ·have hb:=hw' h0
  rw[if_neg (by simpa using h0),AB hp,ob]
  by_cases he:oK p=0
  ·obtain⟨hB,hsl,_,hso⟩:=wC he
   obtain⟨k,t,hk,hk'⟩:=NS p b
   rw[if_neg (by simpa using he),hk,ob]
   cases t
   ·exact hend _ (by simp) rfl
   ·obtain⟨k1,k2⟩:=hk' rfl
    have hkk:=hB.kinds k k1
    obtain⟨I,e,hI,hI'⟩:=Oq hN h.outline.1 h.outline.2
    rw[if_neg (by simp),hI,ob]
    by_cases h1:e=0
    ·obtain⟨J,rfl,hJ⟩:=hI' h1
     obtain⟨y,i,hy,hi⟩:=Vd (N:=N) (by omega) hJ (W:=k.W) (H:=k.H) ⟨hkk.1,hkk.2.1⟩ ⟨hkk.2.2.1,hkk.2.2.2⟩
     rw[if_neg (by simpa using h1),hy,ob,hi,ob]
     have hany:jP o.Bores (fun z0=>kN z0 k)=some (o.Bores.any fun x=> !(Xq k x)):=by
      have hf:∀x,kN x k=some (!(Xq k x)):=fun x=>by
       unfold kN Xq
       rw[show lL x.At.X 0 k.W=some (within x.At.X 0 k.W) from rfl,show lL x.At.Y 0 k.H=some (within x.At.Y 0 k.H) from rfl]
       cases within x.At.X 0 k.W<;>cases within x.At.Y 0 k.H<;>rfl
      unfold jP mX
      rw[U1 (f:=fun z0=>kN z0 k) (fun _=>rfl) (fun _ _ _=>rfl) fun x _=>⟨_,hf x⟩]
      simp[hf]
     rw[hany]
     cases i
     ·rw[if_pos (by rfl),ob,if_pos rfl]
      exact hend _ (by simp) rfl
     ·rw[if_neg (by simp),ob,ob]
      cases hA:(o.Bores.any fun x=> !(Xq k x))
      ·have hall:∀x∈o.Bores,(0≤x.At.X∧x.At.X≤k.W)∧0≤x.At.Y∧x.At.Y≤k.H:=fun x hx=>by
        have:=List.any_eq_false.1 hA x hx
        unfold Xq at this
        simp only[Bool.not_eq_true',Bool.not_eq_false,Bool.and_eq_true] at this
        exact⟨within_iff.1 this.1,within_iff.1 this.2⟩
       rw[if_neg (by simp)]
       obtain⟨r,r1,r2,r3⟩:=TC hp he hb (b:=b) (fun x hx=>by have:=hall x hx;omega) p.Slots [] [] rfl (by simp)
       rw[show gB N o p b p.Slots 0 ([]:List fq)=some r from r1]
       by_cases h2:r.2.2=0
       ·obtain⟨r4,r5⟩:=r3 h2
        rw[ob,if_neg (by simpa using h2)]
        exact RS (by omega) hp he (by rw[r4];rfl) r5 (by rw[k2];exact hall) p.Slots [] rfl
       ·exact hend r h2 (r2 h2)
      ·rw[if_pos rfl]
       exact hend _ (by simp) rfl
    ·rw[if_pos (by simpa using h1)]
     exact hend _ h1 rfl
  ·rw[if_pos (by simpa using he)]
   exact hend _ he rfl
 ·rw[if_pos (by simpa using h0)]
  exact hend _ h0 rfl
end Go.Proofs.YtgijeiamflmkeaaGreatDoor
