/- Rules of the walks, or plain laws about the plain functions. Conditions: none beyond each theorem's own. -/
import Derived.Test.YtblmajfbibbiaaaGreatDoorJ2
import Derived.Test.YtblmajfbibbiaaaGreatDoorJ3
import Derived.Lib.MapLaws
import Derived.Lib.ItoaLen
import Derived.Test.YtblmajfbibbiaaaGreatDoorXF
namespace Go.Proofs.YtblmajfbibbiaaaGreatDoor
theorem bX{x:Int}(h1: -4611686018427387904≤x)(h2:x≤4611686018427387904):bF x=x:=Ja (by omega) (by omega)
theorem jw{α:Type}(pre suf:List α)(x:α):idx (pre++x::suf) (pre.length:Int)=some x:=by
 unfold idx
 rw[if_pos (by omega)]
 simp
theorem JK{α:Type}{l:List α}{i:Nat}(h:i<l.length):idx l (i:Int)=some l[i]:=by
 unfold idx
 rw[if_pos (by omega)]
 simp[h]
theorem M4{α:Type}(pre suf:List α)(x:α):decide ((pre.length:Int)<((pre++x::suf).length:Int))=true:=decide_eq_true (by simp;omega)
theorem Fb{α:Type}(pre:List α)(x:α)(h:pre.length≤4611686018427387903):bF ((pre.length:Int)+1)=((pre++[x]).length:Int):=by
 rw[bX (by omega) (by omega)];simp
theorem lm{α:Type}{l m:List α}(h:l.length+m.length≤4294967296):wO l m=some (l++m):=if_pos h
def within(n lo hi:Int):Bool:=decide (lo≤n)&&decide (n≤hi)
theorem within_iff{n lo hi:Int}:within n lo hi=true↔lo≤n∧n≤hi:=by simp[within]
def Dw{α:Type}(g:α→Bool):List α→Int→Int
 |[],_=> -1
 |x::l,i=>if g x then i else Dw g l (i+1)
theorem Gb{α:Type}(g:α→Bool):∀(l:List α) (i:Int),0≤i→decide (0≤Dw g l i)=l.any g
 |[],_,_=>by simp[Dw]
 |x::l,i,hi=>by
  unfold Dw
  rw[List.any_cons]
  cases g x
  ·simp[Gb g l (i+1) (by omega)]
  ·simp[hi]
def bs(s:ByteArray):List UInt8:=s.data.toList
theorem JV{s t:ByteArray}(h:bs s=bs t):s=t:=by
 obtain⟨⟨l⟩⟩:=s
 obtain⟨⟨m⟩⟩:=t
 have h:l=m:=h
 rw[h]
theorem U0(s:ByteArray):s.size=(bs s).length:=Lib.size_eq s
theorem Jm(s t:ByteArray):sw s t=decide (bs s=bs t):=by
 rw[Ud]
 exact decide_eq_decide.2 ⟨fun h=>by rw[h],JV⟩
theorem GJ(s:ByteArray)(a b:Nat):bs (s.extract a b)=((bs s).drop a).take (b-a):=by
 have:=Lib.extract_toList s a b
 rwa [Lib.toList_data] at this
theorem Xa(s t:ByteArray):bs (s++t)=bs s++bs t:=by simp[bs]
theorem H5{s:ByteArray}{a b:Nat}(h1:a≤b)(h2:b≤s.size):xD s a b=some (s.extract a b):=by
 unfold xD
 rw[if_pos ⟨by omega,by omega,by omega⟩]
 simp
theorem QY{s:ByteArray}{i:Nat}{c:UInt8}(h:(bs s)[i]?=some c):H6 s i=some (c.toNat:Int):=by
 unfold H6
 rw[if_pos (by omega)]
 have:s[(i:Int).toNat]?=some c:=by
  obtain⟨⟨l⟩⟩:=s
  have h:l[i]?=some c:=h
  obtain⟨hi,he⟩:=List.getElem?_eq_some_iff.1 h
  have hs:i<(ByteArray.mk ⟨l⟩).size:=hi
  rw[Int.toNat_natCast,getElem?_pos (ByteArray.mk ⟨l⟩) i hs]
  have:(ByteArray.mk ⟨l⟩)[i]=l[i]:=by simp[ByteArray.getElem_eq_getElem_data]
  rw[this,he]
 rw[this];rfl
def zf(b:UInt8):Bool:=decide (48≤b.toNat)&&decide (b.toNat≤57)
theorem UN(b:UInt8):([48,49,50,51,52,53,54,55,56,57]:List UInt8).contains b=zf b:=by
 rw[Bool.eq_iff_iff]
 constructor
 ·intro h
  simp at h
  rcases h with rfl|rfl|rfl|rfl|rfl|rfl|rfl|rfl|rfl|rfl<;>rfl
 ·intro h
  simp[zf] at h
  have h2:b.toNat=48∨b.toNat=49∨b.toNat=50∨b.toNat=51∨b.toNat=52∨b.toNat=53∨b.toNat=54∨b.toNat=55∨b.toNat=56∨b.toNat=57:=by omega
  have e:b=UInt8.ofNat b.toNat:=by simp
  rcases h2 with h|h|h|h|h|h|h|h|h|h<;>(rw[e,h];rfl)
theorem dw_head{α:Type}{c:α→Bool}{x:α}{t:List α}:∀{l:List α},l.dropWhile c=x::t→c x=false
 |[],h=>by simp at h
 | y::l,h=>by
  rw[List.dropWhile_cons] at h
  split at h
  ·exact dw_head h
  ·rename_i hy
   have:=(List.cons.inj h).1
   subst this;simpa using hy
theorem PT(l cs:List UInt8):(Lib.trimS l cs=[])↔l.all (fun b=>cs.contains b)=true:=by
 unfold Lib.trimS Lib.trimLeftS Lib.trimRightS
 have hd:∀m:List UInt8,m.dropWhile (cs.contains ·)=[]↔∀x∈m,cs.contains x=true:=fun m=>by
  induction m with
  |nil=>simp
  | cons y m ih=>
   rw[List.dropWhile_cons]
   cases hy:cs.contains y
   ·simp only[Bool.false_eq_true,if_false]
    exact⟨fun h=>(by cases h),fun h=>absurd (h y (by simp)) (by rw[hy];decide)⟩
   ·simp only[if_true]
    rw[ih]
    exact⟨fun h x hx=>by rcases List.mem_cons.1 hx with rfl|hx;exact hy;exact h x hx,fun h x hx=>h x (by simp[hx])⟩
 rw[hd,List.all_eq_true]
 constructor
 ·intro h
  cases hm:l.reverse.dropWhile (cs.contains ·) with
  |nil=>intro x hx;exact(hd _).1 hm x (by simpa using hx)
  |cons y t=>
   have h1:=dw_head hm
   have h2:=h y (by rw[hm];simp)
   rw[h1] at h2;cases h2
 ·intro h x hx
  have:l.reverse.dropWhile (cs.contains ·)=[]:=(hd _).2 fun x hx=>h x (by simpa using hx)
  rw[this] at hx;simp at hx
theorem QQ{t:ByteArray}(h:t.size≤9):∃x,trimF t ⟨#[48,49,50,51,52,53,54,55,56,57]⟩=some x∧sw x ⟨#[]⟩=(bs t).all zf:=by
 unfold trimF
 rw[if_pos ⟨by decide,by omega,by decide,by decide⟩]
 refine⟨_,rfl,?_⟩
 rw[Jm,Bool.eq_iff_iff,decide_eq_true_iff]
 have e:bs ⟨(Lib.trimS t.data.toList (ByteArray.mk #[48,49,50,51,52,53,54,55,56,57]).data.toList).toArray⟩=Lib.trimS (bs t) [48,49,50,51,52,53,54,55,56,57]:=by simp[bs]
 rw[e]
 have e2:bs (ByteArray.mk #[])=[]:=rfl
 rw[e2,PT]
 have:(fun b=>([48,49,50,51,52,53,54,55,56,57]:List UInt8).contains b)=zf:=funext UN
 rw[this]
theorem BB(c:UInt8):∀(a b:List UInt8),c∉a→Lib.index (a++c::b) [c]=(a.length:Int)
 |[],b,_=>by rw[List.nil_append,Lib.index];simp[List.isPrefixOf]
 |x::a,b,h=>by
  simp only[List.mem_cons,not_or] at h
  have hx:([c]:List UInt8).isPrefixOf (x::(a++c::b))=false:=by simp[List.isPrefixOf,h.1]
  rw[List.cons_append,Lib.index,hx,BB c a b h.2]
  have:((a.length:Int)== -1)=false:=by rw[Bool.eq_false_iff];simp only[ne_eq,beq_iff_eq];omega
  rw[this]
  simp
theorem Mo(c:UInt8)(k:Nat){a b:List UInt8}(h:c∉a):Lib.splitK [c] 0 (k+1) (a++c::b)=a::Lib.splitK [c] 0 k b:=by
 rw[Lib.splitK,BB c a b h]
 have:((a.length:Int)== -1)=false:=by rw[Bool.eq_false_iff];simp only[ne_eq,beq_iff_eq];omega
 rw[this]
 simp
def mJ(l:List UInt8):ByteArray:=⟨l.toArray⟩
theorem pW(l:List UInt8):bs (mJ l)=l:=by simp[bs,mJ]
theorem WE(s:ByteArray):mJ (bs s)=s:=JV (pW _)
theorem nR(l:List UInt8):(mJ l).size=l.length:=by rw[U0,pW]
theorem OC(a b:List UInt8):mJ a++mJ b=mJ (a++b):=JV (by rw[Xa,pW,pW,pW])
theorem xq{a b:List UInt8}(h:a.length+b.length≤9223372036854775807):x8 (mJ a) (mJ b)=some (mJ (a++b)):=by
 unfold x8
 rw[if_pos (by rw[nR,nR];exact h),OC]
theorem Rc{a b:List UInt8}(h:a.length+b.length≤140737488355328):Re (mJ a) (mJ b)=some (mJ (a++b)):=by
 unfold Re
 rw[if_pos (by rw[nR,nR];exact h),OC]
def it(n:Int):List UInt8:=Lib.itoa n
def Zq(b:UInt8):Nat:=b.toNat-48
def VQ:List UInt8→Nat→Nat
 |[],acc=>acc
 |b::l,acc=>VQ l (acc*10+Zq b)
def val(acc:Nat)(l:List UInt8):Nat:=VQ l acc
theorem EE(acc:Nat):val acc []=acc:=rfl
theorem zA(acc:Nat)(b:UInt8)(l:List UInt8):val acc (b::l)=val (acc*10+(b.toNat-48)) l:=by
 rw[show b.toNat-48=Zq b from rfl]
 unfold val
 rw[VQ]
theorem Ep:∀(l:List UInt8) (acc:Nat),l.all zf=true→Lib.decFrom acc l=some (val acc l)
 |[],acc,_=>by rw[EE];rfl
 |b::l,acc,h=>by
  rw[List.all_cons,Bool.and_eq_true] at h
  have hb:=h.1
  simp[zf] at hb
  have:Lib.digitVal b=some (b.toNat-48):=if_pos hb
  rw[zA,←Ep l _ h.2,Lib.decFrom,this]
theorem Kl:∀(l:List UInt8) (acc:Nat) (b:UInt8),val acc (l++[b])=val acc l*10+(b.toNat-48)
 |[],acc,b=>by rw[List.nil_append,zA,EE,EE]
 |x::l,acc,b=>by
  rw[List.cons_append,zA,zA,Kl l]
theorem Hg{u:Nat}(h:¬u<10):Lib.decDigits u=Lib.decDigits (u / 10)++[UInt8.ofNat (48+u%10)]:=by
 conv=>lhs;rw[Lib.decDigits]
 rw[dif_neg h]
theorem El{k:Nat}(h:k<10):zf (UInt8.ofNat (48+k))=true∧(UInt8.ofNat (48+k)).toNat=48+k:=by
 have:(UInt8.ofNat (48+k)).toNat=48+k:=by
  rw[UInt8.toNat_ofNat'];omega
 exact⟨by unfold zf;rw[this];simp;omega,this⟩
theorem DK:∀(k n:Nat),n<10^(k+1)→(Lib.decDigits n).all zf=true∧val 0 (Lib.decDigits n)=n∧1≤(Lib.decDigits n).length∧(Lib.decDigits n).length≤k+1∧((Lib.decDigits n).head?≠some 48∨n=0)
 | 0,n,h=>by
  have h:n<10:=by simpa using h
  obtain⟨h1,h2⟩:=El h
  rw[Lib.decDigits_one h]
  refine⟨by rw[List.all_cons,h1];rfl,by rw[zA,EE,h2];omega,by simp,by simp,?_⟩
  by_cases h0:n=0
  ·exact .inr h0
  ·left
   simp only[List.head?_cons,ne_eq,Option.some.injEq]
   intro e
   have:(UInt8.ofNat (48+n)).toNat=48:=by rw[e];rfl
   omega
 | k+1,n,h=>by
  by_cases hn:n<10
  ·have:=DK 0 n (by simpa using hn)
   refine⟨this.1,this.2.1,this.2.2.1,by have:=this.2.2.2.1;omega,this.2.2.2.2⟩
  ·obtain⟨i1,i2,i3,i4,i5⟩:=DK k (n / 10) (by rw[Nat.pow_succ] at h;omega)
   obtain⟨h1,h2⟩:=El (k:=n%10) (by omega)
   rw[Hg hn]
   refine⟨by rw[List.all_append,i1,List.all_cons,h1];rfl,by rw[Kl,i2,h2];omega,by simp,by simp;omega,?_⟩
   left
   cases hd:Lib.decDigits (n / 10) with
   |nil=>rw[hd] at i3;simp at i3
   |cons x t=>
    rw[hd] at i5
    rcases i5 with i5|i5
    ·simpa using i5
    ·omega
theorem Ng{l:List UInt8}(h1:1≤l.length)(h:l.all zf=true):Lib.decNat l=some (val 0 l):=by
 unfold Lib.decNat
 rw[Ep l 0 h]
 cases l with
 |nil=>simp at h1
 |cons=>rfl
def jn(w:List UInt8)(r:List (List UInt8)):List UInt8:=w++(r.map (32:: ·)).flatten
theorem OL(w x:List UInt8)(r:List (List UInt8)):jn w (x::r)=w++32::jn x r:=by simp[jn]
theorem Ld:∀(r:List (List UInt8)) (w:List UInt8),(∀x∈w::r,(32:UInt8)∉x)→(jn w r).count 32=r.length
 |[],w,h=>by simpa[jn] using List.count_eq_zero.2 (h w (by simp))
 |x::r,w,h=>by
  rw[OL,List.count_append,List.count_cons_self,Ld r x (fun y hy=>h y (by simp[List.mem_cons.1 hy])),List.count_eq_zero.2 (h w (by simp))]
  simp
theorem Ib:∀(r:List (List UInt8)) (w:List UInt8),(∀x∈w::r,(32:UInt8)∉x)→Lib.splitK [32] 0 r.length (jn w r)=w::r
 |[],w,_=>by simp[jn,Lib.splitK]
 |x::r,w,h=>by
  rw[OL,List.length_cons,Mo 32 _ (h w (by simp)),Ib r x (fun y hy=>h y (by simp[List.mem_cons.1 hy]))]
def nb(n:Int):ByteArray:=mJ (it n)
def NB(n:Int):Prop:= -1000000≤n∧n≤1000000
theorem Gc{n:Int}(h:NB n):Ej n=some (nb n):=by
 unfold Ej
 rw[if_pos (by unfold NB at h;omega)];rfl
theorem Cw{n:Int}(h:NB n):∃d:List UInt8,d.all zf=true∧val 0 d=n.natAbs∧1≤d.length∧d.length≤9∧(d.head?=some 48→n=0∧it n=[48])∧((n<0∧it n=45::d)∨(0≤n∧it n=d)):=by
 obtain⟨i1,i2,i3,i4,i5⟩:=DK 8 n.natAbs (by have:(10:Nat)^9=1000000000:=rfl;unfold NB at h;omega)
 refine⟨_,i1,i2,i3,i4,fun e=>?_,?_⟩
 ·rcases i5 with i5|i5
  ·exact absurd e i5
  ·have:n=0:=by omega
   subst this
   exact⟨rfl,(Lib.itoa_nonneg 0).trans (Lib.decDigits_one (by omega))⟩
 ·unfold it Lib.itoa
  by_cases hn:n<0
  ·exact .inl ⟨hn,if_pos hn⟩
  ·exact .inr ⟨by omega,by rw[if_neg hn];congr 1;omega⟩
theorem Sj{l:List UInt8}(h:l.all zf=true):(45:UInt8)∉l∧(32:UInt8)∉l∧(10:UInt8)∉l:=by
 rw[List.all_eq_true] at h
 refine⟨fun e=>?_,fun e=>?_,fun e=>?_⟩<;>exact absurd (h _ e) (by decide)
theorem Vw{n:Int}(h:NB n):(32:UInt8)∉bs (nb n)∧(10:UInt8)∉bs (nb n):=by
 obtain⟨d,h1,_,_,_,_,h2⟩:=Cw h
 obtain⟨_,h3,h4⟩:=Sj h1
 unfold nb
 rw[pW]
 rcases h2 with⟨_,e⟩|⟨_,e⟩<;>rw[e]<;>simp[h3,h4]
theorem U1{n:Int}(h:NB n):IZ (nb n)=some n:=by
 obtain⟨d,h1,h2,h3,h4,_,h5⟩:=Cw h
 have hl:(nb n).size≤18:=by
  unfold nb
  rw[nR]
  rcases h5 with⟨_,e⟩|⟨_,e⟩
  ·rw[e,List.length_cons];omega
  ·rw[e];omega
 unfold IZ
 rw[if_pos hl]
 show Lib.atoi (bs (nb n))=_
 unfold nb
 rw[pW]
 have hd:=Ng h3 h1
 rcases h5 with⟨hn,e⟩|⟨hn,e⟩
 ·rw[e]
  simp[Lib.atoi,hd,h2];omega
 ·rw[e]
  cases d with
  |nil=>simp at h3
  | cons b r=>
   have hb:b≠45∧b≠43:=by
    rw[List.all_cons,Bool.and_eq_true] at h1
    constructor<;>(intro e;subst e;exact absurd h1.1 (by decide))
   simp[Lib.atoi,hb.1,hb.2,hd,h2];omega
theorem PY{a b:List UInt8}{l:List UInt8}(h:l=a++b):xD (mJ l) (a.length:Int) ((mJ l).size:Int)=some (mJ b):=by
 rw[H5 (by rw[nR,h];simp) (Nat.le_refl _)]
 congr 1
 refine JV ?_
 rw[GJ,pW,pW,h,nR]
 simp
theorem TH(l:List UInt8):kQ (mJ l) ⟨#[45]⟩=some (l.head?==some 45):=by
 unfold kQ
 have hp:(ByteArray.mk #[45]).size=1:=rfl
 rw[hp,nR]
 cases l with
 |nil=>rfl
 |cons b l=>
  have h1:decide (((1:Nat):Int)≤((b::l).length:Int))=true:=decide_eq_true (by simp;omega)
  rw[h1,if_pos rfl,show(0:Int)=((0:Nat):Int) from rfl,H5 (by omega) (by rw[nR];simp)]
  simp only[ob]
  rw[Jm,GJ,pW]
  show some (decide ([b]=[45]))=some (b==45:Bool)
  congr 1
  rw[Bool.eq_iff_iff];simp
theorem Qy{n:Int}(h:NB n):su (nb n)=some (n,true):=by
 obtain⟨d,h1,h2,h3,h4,h5,h6⟩:=Cw h
 have ht:lZ (nb n) ⟨#[45]⟩=some (mJ d):=by
  unfold lZ lU nb
  rw[TH,ob]
  rcases h6 with⟨_,e⟩|⟨_,e⟩
  ·rw[e,if_pos (by simp)]
   have:=PY (a:=[45]) (b:=d) rfl
   show((xD (mJ ([45]++d)) (([45]:List UInt8).length:Int) ((mJ ([45]++d)).size:Int)).bind _).bind _=_
   rw[this];rfl
  ·have:(d.head?==some 45)=false:=by
    rw[Bool.eq_false_iff]
    intro hh
    rw[beq_iff_eq] at hh
    exact(Sj h1).1 (List.mem_of_mem_head? hh)
   rw[e,this,if_neg (by decide)];rfl
 unfold su
 rw[ht,ob,if_neg (by rw[nR];simp;omega)]
 obtain⟨x,hx,hd⟩:=QQ (t:=mJ d) (by rw[nR];exact h4)
 rw[hx,ob,ob,hd,pW,h1,if_neg (by decide)]
 obtain⟨b,hb⟩:∃b,d.head?=some b:=by
  cases d with
  |nil=>simp at h3
  |cons b r=>exact⟨b,rfl⟩
 have hs:H6 (mJ d) 0=some (b.toNat:Int):=QY (i:=0) (by rw[pW,←List.head?_eq_getElem?];exact hb)
 rw[hs,ob,ob]
 have hc:((b.toNat:Int)==48&& !sw (nb n) ⟨#[48]⟩)=false:=by
  by_cases e:b=48
  ·subst e
   have e2:=(h5 hb).2
   have:sw (nb n) ⟨#[48]⟩=true:=by
    rw[Jm];unfold nb;rw[pW,e2];rfl
   rw[this];rfl
  ·have:((b.toNat:Int)==48)=false:=by
    rw[Bool.eq_false_iff]
    intro hh
    rw[beq_iff_eq] at hh
    exact e (UInt8.toNat_inj.1 (by show b.toNat=48;omega))
   rw[this];rfl
 rw[hc,if_neg (by decide),U1 h];rfl
theorem BL:∀(l:List Int) (i:Nat) (m:List Int),m.length+l.length≤4294967296→(∀n∈l,NB n)→jH (l.map nb) i m=some (m++l,true)
 |[],i,m,_,_=>by simp[jH]
 |x::l,i,m,h,hn=>by
  rw[List.length_cons] at h
  rw[List.map_cons,jH.eq_2,Qy (hn x (by simp)),ob,if_neg (by simp),lm (by simp;omega),ob,BL l (i+1) _ (by simp;omega) (fun n h=>hn n (by simp[h]))]
  simp
theorem FB{s:List UInt8}{w:List UInt8}{r:List (List UInt8)}(hs:s.length<4294967281)(h:s=jn w r)(hn:∀x∈w::r,(32:UInt8)∉x):yD (mJ s) ⟨#[32]⟩=some ((w::r).map mJ):=by
 unfold yD
 rw[if_pos ⟨by rw[nR];exact hs,by decide⟩]
 congr 1
 have e1:=Lib.splitB_data ⟨#[32]⟩ 0 (Lib.countB (mJ s) ⟨#[32]⟩) (mJ s)
 have e:Lib.countB (mJ s) ⟨#[32]⟩=(bs (mJ s)).count 32:=Lib.count_one 32 (bs (mJ s))
 rw[e] at e1 ⊢
 have e2:(Lib.splitB ⟨#[32]⟩ 0 ((bs (mJ s)).count 32) (mJ s)).map bs=w::r:=by
  refine Eq.trans e1 ?_
  show Lib.splitK [32] 0 _ (bs (mJ s))=_
  rw[pW,h,Ld _ _ hn,Ib _ _ hn]
 rw[←e2,List.map_map]
 conv=>lhs;rw[←List.map_id (Lib.splitB _ _ _ _)]
 exact List.map_congr_left fun x _=>(WE x).symm
theorem Sn{a b:List UInt8}(h:(10:UInt8)∉a)(hs:(a++10::b).length≤200000):Qo (mJ (a++10::b)) ⟨#[10]⟩=some (mJ a,mJ b,true):=by
 unfold Qo
 rw[if_pos (by rw[nR];omega)]
 have:Lib.cut (a++10::b) [10]=(a,b,true):=by
  unfold Lib.cut
  rw[BB 10 a b h,if_pos (by omega)]
  simp
 show some (mJ (Lib.cut (bs (mJ (a++10::b))) [10]).1,mJ (Lib.cut (bs (mJ (a++10::b))) [10]).2.1,(Lib.cut (bs (mJ (a++10::b))) [10]).2.2)=_
 rw[pW,this]
end Go.Proofs.YtblmajfbibbiaaaGreatDoor
namespace Go.Proofs.YtblmajfbibbiaaaGreatDoor.ST
variable {α:Type} (K:α→Int)
def SR(l:List α)(a b:Nat):Prop:=∀i j x y,a≤i→i≤j→j<b→l[i]?=some x→l[j]?=some y→K x≤K y
structure Mg (l l':List α) (a b:Nat):Prop where
 len:l'.length=l.length
 out:∀k,k<a∨b≤k→l'[k]?=l[k]?
 inn:∀k,a≤k→k<b→∃j,a≤j∧j<b∧l'[k]?=l[j]?
 eqv:∀v:Int,l'.filter (fun x=>decide (K x=v))=l.filter (fun x=>decide (K x=v))
variable {K}
theorem Mg.rfl{l:List α}{a b:Nat}:Mg K l l a b:=⟨by rfl,fun _ _=>by rfl,fun k h h2=>⟨k,h,h2,by rfl⟩,fun _=>by rfl⟩
theorem Mg.trans{l l' l'':List α}{a b:Nat}(h:Mg K l l' a b)(h2:Mg K l' l'' a b):Mg K l l'' a b:=
 ⟨h2.len.trans h.len,fun k hk=>(h2.out k hk).trans (h.out k hk),fun k ha hb=>by
  obtain⟨j,hj,hj2,he⟩:=h2.inn k ha hb
  obtain⟨i,hi,hi2,he2⟩:=h.inn j hj hj2
  exact⟨i,hi,hi2,he.trans he2⟩,fun v=>(h2.eqv v).trans (h.eqv v)⟩
theorem Mg.mono{l l':List α}{a b c d:Nat}(h:Mg K l l' a b)(hc:c≤a)(hd:b≤d):Mg K l l' c d:=
 ⟨h.len,fun k hk=>h.out k (by omega),fun k hk hk2=>by
  by_cases h1:a≤k∧k<b
  ·obtain⟨j,hj,hj2,he⟩:=h.inn k h1.1 h1.2
   exact⟨j,by omega,by omega,he⟩
  ·exact⟨k,hk,hk2,h.out k (by omega)⟩,h.eqv⟩
theorem SR.yI{l l':List α}{a b c d:Nat}(h:Mg K l l' a b)(hs:SR K l c d)(hd:d≤a∨b≤c):SR K l' c d:=by
 intro i j x y hi hij hj hx hy
 rw[h.out i (by omega)] at hx
 rw[h.out j (by omega)] at hy
 exact hs i j x y hi hij hj hx hy
theorem SR.sub{l:List α}{a b c d:Nat}(hs:SR K l a b)(hc:a≤c)(hd:d≤b):SR K l c d:=
 fun i j x y hi hij hj=>hs i j x y (by omega) hij (by omega)
theorem SR.one{l:List α}{a b:Nat}(h:b≤a+1):SR K l a b:=by
 intro i j x y hi hij hj hx hy
 have:i=j:=by omega
 subst this
 rw[hx] at hy
 cases hy
 exact Int.le_refl _
theorem SR.join{l:List α}{a m b:Nat}(h1:SR K l a m)(h2:SR K l m b)(h:∀i j x y,a≤i→i<m→m≤j→j<b→l[i]?=some x→l[j]?=some y→K x≤K y):SR K l a b:=by
 intro i j x y hi hij hj hx hy
 by_cases hjm:j<m
 ·exact h1 i j x y hi hij hjm hx hy
 ·by_cases him:i<m
  ·exact h i j x y hi him (by omega) hj hx hy
  ·exact h2 i j x y (by omega) hij hj hx hy
theorem between{l l' l'':List α}{a m b:Nat}(h1:Mg K l l' a m)(h2:Mg K l' l'' m b)(h:∀i j x y,a≤i→i<m→m≤j→j<b→l[i]?=some x→l[j]?=some y→K x≤K y):
  ∀i j x y,a≤i→i<m→m≤j→j<b→l''[i]?=some x→l''[j]?=some y→K x≤K y:=by
 intro i j x y hi him hj hjb hx hy
 rw[h2.out i (by omega)] at hx
 obtain⟨i',ha,hb,he⟩:=h1.inn i hi him
 obtain⟨j',ha',hb',he'⟩:=h2.inn j hj hjb
 rw[he] at hx
 rw[he',h1.out j' (by omega)] at hy
 exact h i' j' x y ha hb ha' hb' hx hy
theorem Lm{U V:List α}(h:∀x∈U,∀y∈V,K y≠K x)(v:Int):(U++V).filter (fun x=>decide (K x=v))=(V++U).filter (fun x=>decide (K x=v)):=by
 rw[List.filter_append,List.filter_append]
 by_cases hU:U.filter (fun x=>decide (K x=v))=[]
 ·rw[hU];simp
 ·have hV:V.filter (fun x=>decide (K x=v))=[]:=by
   rw[List.filter_eq_nil_iff]
   intro y hy hv
   obtain⟨x,hx⟩:=List.exists_mem_of_ne_nil _ hU
   rw[List.mem_filter] at hx
   have e1:=of_decide_eq_true hv
   have e2:=of_decide_eq_true hx.2
   exact h x hx.1 y hy (e1.trans e2.symm)
  rw[hV];simp
theorem Qe(l:List α){a m b:Nat}(ham:a≤m)(hmb:m≤b)(hb:b≤l.length):l=l.take a++((l.drop a).take (m-a)++(l.drop m).take (b-m))++l.drop b:=by
 have e1:l.drop a=(l.drop a).take (m-a)++l.drop m:=by
  conv=>lhs;rw[←List.take_append_drop (m-a) (l.drop a)]
  rw[List.drop_drop,Nat.add_sub_cancel' ham]
 have e2:l.drop m=(l.drop m).take (b-m)++l.drop b:=by
  conv=>lhs;rw[←List.take_append_drop (b-m) (l.drop m)]
  rw[List.drop_drop,Nat.add_sub_cancel' hmb]
 conv=>lhs;rw[←List.take_append_drop a l,e1,e2]
 simp only[List.append_assoc]
def Qx(l l':List α)(a m b:Nat):Prop:=l'.length=l.length∧∀k,l'[k]?=if a≤k∧k<a+(b-m) then l[k+(m-a)]? else if a+(b-m)≤k∧k<b then l[k-(b-m)]? else l[k]?
theorem Qx.eq{l l':List α}{a m b:Nat}(h:Qx l l' a m b)(ham:a≤m)(hmb:m≤b)(hb:b≤l.length):l'=l.take a++((l.drop m).take (b-m)++(l.drop a).take (m-a))++l.drop b:=by
 apply List.ext_getElem?
 intro k
 rw[h.2 k]
 have l1:(l.take a).length=a:=by rw[List.length_take];omega
 have l2:((l.drop m).take (b-m)).length=b-m:=by rw[List.length_take,List.length_drop];omega
 have l3:((l.drop a).take (m-a)).length=m-a:=by rw[List.length_take,List.length_drop];omega
 by_cases c1:k<a
 ·rw[if_neg (by omega),if_neg (by omega),List.append_assoc,List.getElem?_append_left (by omega),List.getElem?_take_of_lt c1]
 ·by_cases c2:k<a+(b-m)
  ·rw[if_pos ⟨by omega,c2⟩,List.append_assoc,List.getElem?_append_right (by omega),l1,List.append_assoc,List.getElem?_append_left (by omega),List.getElem?_take_of_lt (by omega),List.getElem?_drop]
   congr 1;omega
  ·by_cases c3:k<b
   ·rw[if_neg (by omega),if_pos ⟨by omega,c3⟩,List.append_assoc,List.getElem?_append_right (by omega),l1,List.append_assoc,List.getElem?_append_right (by omega),l2,List.getElem?_append_left (by omega),List.getElem?_take_of_lt (by omega),List.getElem?_drop]
    congr 1;omega
   ·rw[if_neg (by omega),if_neg (by omega),List.getElem?_append_right (by simp only[List.length_append];omega),List.getElem?_drop]
    congr 1;simp only[List.length_append];omega
theorem Qx.mg{l l':List α}{a m b:Nat}(h:Qx l l' a m b)(ham:a≤m)(hmb:m≤b)(hb:b≤l.length)
  (hk:∀i j x y,a≤i→i<m→m≤j→j<b→l[i]?=some x→l[j]?=some y→K y<K x):Mg K l l' a b:=by
 refine⟨h.1,fun k hk=>?_,fun k h1 h2=>?_,fun v=>?_⟩
 ·rw[h.2 k,if_neg (by omega),if_neg (by omega)]
 ·rw[h.2 k]
  by_cases c:k<a+(b-m)
  ·rw[if_pos ⟨h1,c⟩];exact⟨_,by omega,by omega,rfl⟩
  ·rw[if_neg (by omega),if_pos ⟨by omega,h2⟩];exact⟨_,by omega,by omega,rfl⟩
 ·have e:=Qe l ham hmb hb
  rw[h.eq ham hmb hb]
  conv=>rhs;rw[e]
  rw[List.filter_append,List.filter_append,List.filter_append (l.take a++_),List.filter_append (l.take a)]
  rw[Lm (U:=(l.drop m).take (b-m)) (V:=(l.drop a).take (m-a))]
  intro y hy x hx
  obtain⟨i,hi⟩:=List.mem_iff_getElem?.1 hx
  obtain⟨j,hj⟩:=List.mem_iff_getElem?.1 hy
  have hi':i<m-a:=by
   have:=(List.getElem?_eq_some_iff.1 hi).1;rw[List.length_take] at this;omega
  have hj':j<b-m:=by
   have:=(List.getElem?_eq_some_iff.1 hj).1;rw[List.length_take] at this;omega
  rw[List.getElem?_take_of_lt hi',List.getElem?_drop] at hi
  rw[List.getElem?_take_of_lt hj',List.getElem?_drop] at hj
  have:=hk (a+i) (m+j) x y (by omega) (by omega) (by omega) (by omega) hi hj
  omega
theorem TY{l:List α}{i:Nat}{x y:α}(hx:l[i]?=some x)(hy:l[i+1]?=some y)(h:K y<K x):Mg K l ((l.set i y).set (i+1) x) i (i+2):=by
 have hl:=(List.getElem?_eq_some_iff.1 hy).1
 have hr:Qx l ((l.set i y).set (i+1) x) i (i+1) (i+2):=by
  refine⟨by simp,fun k=>?_⟩
  have e1:i+(i+2-(i+1))=i+1:=by omega
  have e2:i+2-(i+1)=1:=by omega
  rw[e2]
  rw[List.getElem?_set,List.getElem?_set,List.length_set]
  by_cases c1:i+1=k
  ·subst c1
   rw[if_pos rfl,if_pos hl,if_neg (by omega),if_pos ⟨by omega,by omega⟩,Nat.add_sub_cancel,hx]
  ·by_cases c2:i=k
   ·subst c2
    rw[if_neg (by omega),if_pos rfl,if_pos (by omega),if_pos ⟨by omega,by omega⟩]
    rw[show i+(i+1-i)=i+1 by omega,hy]
   ·rw[if_neg c1,if_neg c2,if_neg (by omega),if_neg (by omega)]
 refine hr.mg (by omega) (by omega) (by omega) ?_
 intro p q u v h1 h2 h3 h4 hu hv
 have:p=i:=by omega
 subst this
 have:q=p+1:=by omega
 subst this
 rw[hx] at hu;rw[hy] at hv
 cases hu;cases hv
 exact h
theorem Be:∀{l l':List α},l.Pairwise (fun x y=>K x≤K y)→l'.Pairwise (fun x y=>K x≤K y)→
  (∀v:Int,l'.filter (fun x=>decide (K x=v))=l.filter (fun x=>decide (K x=v)))→l'=l
 |[],l',_,_,he=>by
  cases l' with
  |nil=>rfl
  |cons x t=>have:=he (K x);simp at this
 |x::t,[],_,_,he=>by have:=he (K x);simp at this
 | x::t,y::s,h,h',he=>by
  have hx:x∈y::s:=by
   have:=he (K x)
   have hm:x∈(x::t).filter (fun z=>decide (K z=K x)):=List.mem_filter.2 ⟨List.mem_cons_self,by simp⟩
   rw[←this] at hm
   exact(List.mem_filter.1 hm).1
  have hy:y∈x::t:=by
   have:=he (K y)
   have hm:y∈(y::s).filter (fun z=>decide (K z=K y)):=List.mem_filter.2 ⟨List.mem_cons_self,by simp⟩
   rw[this] at hm
   exact(List.mem_filter.1 hm).1
  have k1:K y≤K x:=by
   rcases List.mem_cons.1 hx with h1|h1
   ·rw[h1];exact Int.le_refl _
   ·exact(List.pairwise_cons.1 h').1 x h1
  have k2:K x≤K y:=by
   rcases List.mem_cons.1 hy with h1|h1
   ·rw[h1];exact Int.le_refl _
   ·exact(List.pairwise_cons.1 h).1 y h1
  have kk:K y=K x:=by omega
  have e:=he (K x)
  rw[List.filter_cons_of_pos (by simp[kk]),List.filter_cons_of_pos (by simp)] at e
  have exy:y=x:=(List.cons.inj e).1
  subst exy
  have:=Be (List.pairwise_cons.1 h).2 (List.pairwise_cons.1 h').2 (fun v=>by
   have ev:=he v
   by_cases c:K y=v
   ·rw[List.filter_cons_of_pos (by simp[c]),List.filter_cons_of_pos (by simp[c])] at ev
    exact(List.cons.inj ev).2
   ·rw[List.filter_cons_of_neg (by simp[c]),List.filter_cons_of_neg (by simp[c])] at ev
    exact ev)
  rw[this]
theorem SR.pairwise{l:List α}(h:SR K l 0 l.length):l.Pairwise (fun x y=>K x≤K y):=by
 rw[List.pairwise_iff_getElem]
 intro i j hi hj hij
 exact h i j _ _ (by omega) (by omega) hj (List.getElem?_eq_getElem hi) (List.getElem?_eq_getElem hj)
theorem parted{l l1:List α}{a m b mid start:Nat}(ham:a<m)(hmb:m<b)(hb:b≤l.length)(hmid:mid=(a+b) / 2)
  (s1:SR K l a m) (s2:SR K l m b)
  (hs0:a≤start) (hs1:start≤m) (hs2:mid+m≤start+b) (hs3:start≤mid)
  (hlow:∀x y,a<start→mid+m<start+b→l[start-1]?=some x→l[mid+m-start]?=some y→K x≤K y)
  (hup:∀x y,start<m→start<mid→l[start]?=some x→l[mid+m-start-1]?=some y→K y<K x)
  (hr:Qx l l1 start m (mid+m-start)):
  Mg K l l1 a b∧SR K l1 a start∧SR K l1 start mid∧SR K l1 mid (mid+m-start)∧SR K l1 (mid+m-start) b∧
   ∀i j x y,a≤i→i<mid→mid≤j→j<b→l1[i]?=some x→l1[j]?=some y→K x≤K y:=by
 generalize hE:mid+m-start=e at*
 have he1:m≤e:=by omega
 have he2:e≤b:=by omega
 have hcross:∀i j x y,start≤i→i<m→m≤j→j<e→l[i]?=some x→l[j]?=some y→K y<K x:=by
  intro i j x y h1 h2 h3 h4 hx hy
  have hi:start<l.length:=by omega
  have hj:e-1<l.length:=by omega
  have k:=hup _ _ (by omega) (by omega) (List.getElem?_eq_getElem hi) (List.getElem?_eq_getElem hj)
  have k1:=s1 start i _ x hs0 h1 h2 (List.getElem?_eq_getElem hi) hx
  have k2:=s2 j (e-1) y _ h3 (by omega) (by omega) hy (List.getElem?_eq_getElem hj)
  omega
 have g1:∀k,k<start→l1[k]?=l[k]?:=fun k hk=>by rw[hr.2 k,if_neg (by omega),if_neg (by omega)]
 have g2:∀k,start≤k→k<mid→l1[k]?=l[k+(m-start)]?:=fun k hk hk2=>by rw[hr.2 k,if_pos ⟨hk,by omega⟩]
 have g3:∀k,mid≤k→k<e→l1[k]?=l[k-(e-m)]?:=fun k hk hk2=>by rw[hr.2 k,if_neg (by omega),if_pos ⟨by omega,by omega⟩]
 have g4:∀k,e≤k→l1[k]?=l[k]?:=fun k hk=>by rw[hr.2 k,if_neg (by omega),if_neg (by omega)]
 refine⟨(hr.mg hs1 he1 (by omega) hcross).mono hs0 he2,?_,?_,?_,?_,?_⟩
 ·intro i j x y h1 h2 h3 hx hy
  rw[g1 i (by omega)] at hx;rw[g1 j (by omega)] at hy
  exact s1 i j x y h1 h2 (by omega) hx hy
 ·intro i j x y h1 h2 h3 hx hy
  rw[g2 i (by omega) (by omega)] at hx;rw[g2 j (by omega) (by omega)] at hy
  exact s2 _ _ x y (by omega) (by omega) (by omega) hx hy
 ·intro i j x y h1 h2 h3 hx hy
  rw[g3 i (by omega) (by omega)] at hx;rw[g3 j (by omega) (by omega)] at hy
  exact s1 _ _ x y (by omega) (by omega) (by omega) hx hy
 ·intro i j x y h1 h2 h3 hx hy
  rw[g4 i (by omega)] at hx;rw[g4 j (by omega)] at hy
  exact s2 _ _ x y (by omega) (by omega) (by omega) hx hy
 ·intro i j x y h1 h2 h3 h4 hx hy
  by_cases ci:i<start
  ·rw[g1 i ci] at hx
   by_cases cj:j<e
   ·rw[g3 j h3 cj] at hy
    exact s1 _ _ x y h1 (by omega) (by omega) hx hy
   ·rw[g4 j (by omega)] at hy
    have hi:start-1<l.length:=by omega
    have hj:e<l.length:=by omega
    have k:=hlow _ _ (by omega) (by omega) (List.getElem?_eq_getElem hi) (List.getElem?_eq_getElem hj)
    have k1:=s1 i (start-1) x _ h1 (by omega) (by omega) hx (List.getElem?_eq_getElem hi)
    have k2:=s2 e j _ y (by omega) (by omega) h4 (List.getElem?_eq_getElem hj) hy
    omega
  ·rw[g2 i (by omega) h2] at hx
   by_cases cj:j<e
   ·rw[g3 j h3 cj] at hy
    have:=hcross (j-(e-m)) (i+(m-start)) y x (by omega) (by omega) (by omega) (by omega) hy hx
    omega
   ·rw[g4 j (by omega)] at hy
    exact s2 _ _ x y (by omega) (by omega) (by omega) hx hy
end Go.Proofs.YtblmajfbibbiaaaGreatDoor.ST
namespace Go.Proofs.YtblmajfbibbiaaaGreatDoor.ST
def KR(x:dO):Int:= - max x.area (bF (0-x.area))
theorem cf(x y:dO):∃c,kC x y=some c∧(c<0↔KR x<KR y):=by
 unfold kC uX qL qA KR
 simp only[ob,bne_self_eq_false,Bool.false_eq_true,if_false,decide_eq_true_eq]
 split
 ·exact⟨_,rfl,by constructor<;>intro _<;>omega⟩
 ·split
  ·exact⟨_,rfl,by constructor<;>intro _<;>omega⟩
  ·exact⟨_,rfl,by constructor<;>intro _<;>omega⟩
theorem ix{α:Type}{l:List α}{i:Int}{k:Nat}{x:α}(e:i=(k:Int))(h:l[k]?=some x):idx l i=some x:=by
 subst e
 unfold idx
 rw[if_pos (by omega),Int.toNat_natCast,h]
theorem st{α:Type}{l:List α}{i:Int}{k:Nat}(x:α)(e:i=(k:Int))(h:k<l.length):sets l i x=some (l.set k x):=by
 subst e
 unfold sets
 rw[if_pos ⟨by omega,by rw[Int.toNat_natCast];exact h⟩,Int.toNat_natCast]
theorem gt{α:Type}{l:List α}{k:Nat}(h:k<l.length):∃x,l[k]?=some x:=⟨l[k],List.getElem?_eq_getElem h⟩
theorem Je{α:Type}{l:List α}{i j:Nat}{x y:α}(hx:l[i]?=some x)(hy:l[j]?=some y)(hij:i≠j)(k:Nat):((l.set i y).set j x)[k]?=if k=i then l[j]? else if k=j then l[i]? else l[k]?:=by
 have h1:=(List.getElem?_eq_some_iff.1 hx).1
 have h2:=(List.getElem?_eq_some_iff.1 hy).1
 rw[List.getElem?_set,List.getElem?_set,List.length_set,hx,hy]
 by_cases c1:j=k
 ·subst c1
  rw[if_pos rfl,if_pos h2,if_neg (by omega),if_pos rfl]
 ·rw[if_neg c1]
  by_cases c2:i=k
  ·subst c2;rw[if_pos rfl,if_pos h1,if_pos rfl]
  ·rw[if_neg c2,if_neg (by omega),if_neg (by omega)]
theorem RQ(a i:Nat)(k:List dO→Int→Option (List dO))(hi:i≤1000000000):∀(m:Nat) (l:List dO) (j:Nat),j<m→a≤j→j≤i→i<l.length→
  SR KR l a j→SR KR l j (i+1)→(∀p q x y,a≤p→p<j→j+1≤q→q<i+1→l[p]?=some x→l[q]?=some y→KR x≤KR y)→
  ∃l',Mg KR l l' a (i+1)∧SR KR l' a (i+1)∧dh (a:Int) (i:Int) k m l (j:Int)=k l' ((i:Int)+1)
 |0,_,_,hm,_,_,_,_,_,_=>absurd hm (Nat.not_lt_zero _)
 | m + 1,l,j,hm,haj,hji,hil,s1,s2,hc=>by
  unfold dh
  by_cases hj:a<j
  ·obtain⟨x,hx⟩:=gt (l:=l) (k:=j) (by omega)
   obtain⟨y,hy⟩:=gt (l:=l) (k:=j-1) (by omega)
   have e1:bF ((j:Int)-1)=((j-1:Nat):Int):=by rw[bX (by omega) (by omega)];omega
   obtain⟨c,hcf,hlt⟩:=cf x y
   rw[if_pos (decide_eq_true (by omega:(a:Int)<(j:Int))),e1,ix rfl hx,ob,ix rfl hy,ob,hcf,ob,ob]
   by_cases hk:c<0
   ·rw [if_pos (decide_eq_true hk)]
    have hK:=hlt.1 hk
    rw[ob,ob,ob,st y rfl (by omega:j<l.length),ob]
    obtain⟨z,hz⟩:=gt (l:=l.set j y) (k:=j-1) (by rw[List.length_set];omega)
    rw[ix rfl hz,ob,st x rfl (by rw[List.length_set];omega),ob]
    have hcomm:(l.set j y).set (j-1) x=(l.set (j-1) x).set j y:=List.set_comm _ _ (by omega)
    rw[hcomm]
    have hy':l[j-1+1]?=some x:=by rw[Nat.sub_add_cancel (by omega)];exact hx
    have hm1:=TY (K:=KR) hy hy' hK
    rw[Nat.sub_add_cancel (by omega:1≤j)] at hm1
    have hg:=Je hy hx (by omega:j-1≠j)
    generalize (l.set (j-1) x).set j y=l1 at hm1 hg
    obtain⟨l',h1,h2,h3⟩:=RQ a i k hi m l1 (j-1) (by omega) (by omega) (by omega) (by rw[hm1.len];exact hil)
     (SR.yI hm1 (s1.sub (Nat.le_refl _) (Nat.sub_le _ _)) (.inl (by omega)))
     (fun p q u v hp hpq hq hu hv=>by
      rw[hg p] at hu;rw[hg q] at hv
      by_cases cp:p=j-1
      ·rw[if_pos cp,hx] at hu
       cases hu
       by_cases cq:q=j-1
       ·rw[if_pos cq,hx] at hv;cases hv;exact Int.le_refl _
       ·rw[if_neg cq] at hv
        by_cases cq2:q=j
        ·rw[if_pos cq2,hy] at hv;cases hv;omega
        ·rw[if_neg cq2] at hv
         exact s2 j q _ _ (Nat.le_refl _) (by omega) hq hx hv
      ·rw[if_neg cp] at hu
       rw[if_neg (by omega)] at hv
       by_cases cp2:p=j
       ·rw[if_pos cp2,hy] at hu
        cases hu
        by_cases cq2:q=j
        ·rw[if_pos cq2,hy] at hv;cases hv;exact Int.le_refl _
        ·rw[if_neg cq2] at hv
         exact hc (j-1) q _ _ (by omega) (by omega) (by omega) hq hy hv
       ·rw[if_neg cp2] at hu
        rw[if_neg (by omega)] at hv
        exact s2 p q _ _ (by omega) hpq hq hu hv)
     (fun p q u v hp hpj hq hqi hu hv=>by
      rw[hg p,if_neg (by omega),if_neg (by omega)] at hu
      rw[hg q,if_neg (by omega)] at hv
      by_cases cq:q=j
      ·rw[if_pos cq,hy] at hv
       cases hv
       exact s1 p (j-1) _ _ hp (by omega) (by omega) hu hy
      ·rw[if_neg cq] at hv
       exact hc p q _ _ hp (by omega) (by omega) hqi hu hv)
    exact⟨l',(hm1.mono (by omega) (by omega)).trans h1,h2,h3⟩
   ·rw[if_neg (by rw[decide_eq_true_eq];exact hk),bX (by omega) (by omega)]
    refine⟨l,.rfl,s1.join s2 fun p q u v hp hpj hq hqi hu hv=>?_,rfl⟩
    have k1:=s1 p (j-1) _ _ hp (by omega) (by omega) hu hy
    have k2:=s2 j q _ _ (Nat.le_refl _) hq hqi hx hv
    have k3:¬KR x<KR y:=fun h=>hk (hlt.2 h)
    omega
  ·have:j=a:=by omega
   subst this
   rw[if_neg (by rw[decide_eq_true_eq];omega),ob,if_neg (by decide),bX (by omega) (by omega)]
   exact⟨l,.rfl,s2,rfl⟩
theorem OO(N a b:Nat)(hN:10000000000≤N)(hb:b≤1000000000):∀(m:Nat) (l:List dO) (i:Nat),b<m+i∧a+1<m+i→a≤i→(i≤b∨i≤a+1)→b≤l.length→SR KR l a i→
  ∃l',Mg KR l l' a b∧SR KR l' a b∧bJ N (a:Int) (b:Int) m l (i:Int)=some l'
 |0,l,i,hm,hai,hib,hbl,s=>by omega
 | m+1,l,i,hm,hai,hib,hbl,s=>by
  unfold bJ
  by_cases hi:i<b
  ·rw[if_pos (decide_eq_true (by omega:(i:Int)<(b:Int)))]
   obtain⟨l1,h1,h2,h3⟩:=RQ a i (bJ N (a:Int) (b:Int) m) (by omega) N l i (by omega) hai (Nat.le_refl _) (by omega) s (SR.one (by omega)) (fun p q u v _ _ h3 h4 _ _=>by omega)
   rw[h3]
   obtain⟨l',h4,h5,h6⟩:=OO N a b hN hb m l1 (i+1) (by omega) (by omega) (by omega) (by rw[h1.len];exact hbl) h2
   exact⟨l',(h1.mono (Nat.le_refl _) (by omega)).trans h4,h5,by rw[←h6];norm_cast⟩
  ·rw[if_neg (by rw[decide_eq_true_eq];omega)]
   exact⟨l,.rfl,s.sub (Nat.le_refl _) (by omega),rfl⟩
theorem RP{N a b:Nat}(hN:10000000000≤N)(hb:b≤1000000000){l:List dO}(hbl:b≤l.length)(hab:a≤b):
  ∃l',Mg KR l l' a b∧SR KR l' a b∧dP N l (a:Int) (b:Int)=some l':=by
 unfold dP
 rw[bX (by omega) (by omega),show(a:Int)+1=((a+1:Nat):Int) by omega]
 exact OO N a b hN hb N l (a+1) (by omega) (by omega) (by omega) hbl (SR.one (Nat.le_refl _))
def Zf{α:Type}(l l':List α)(a b n:Nat):Prop:=l'.length=l.length∧∀k,l'[k]?=if a≤k∧k<a+n then l[k-a+b]? else if b≤k∧k<b+n then l[k-b+a]? else l[k]?
theorem Kr(a b n:Nat)(hab:a+n≤b)(hb:b+n≤1000000000)(l0:List dO)(hl:b+n≤l0.length):∀(m:Nat) (l:List dO) (i:Nat),n<m+i→i≤n→Zf l0 l a b i→
  ∃l',Zf l0 l' a b n∧dA (a:Int) (b:Int) (n:Int) m l (i:Int)=some l'
 |0,l,i,hm,hi,h=>by omega
 | m+1,l,i,hm,hi,h=>by
  unfold dA
  by_cases c:i<n
  ·rw[if_pos (decide_eq_true (by omega:(i:Int)<(n:Int)))]
   have e1:bF ((b:Int)+(i:Int))=((b+i:Nat):Int):=by rw[bX (by omega) (by omega)];omega
   have e2:bF ((a:Int)+(i:Int))=((a+i:Nat):Int):=by rw[bX (by omega) (by omega)];omega
   have hll:=h.1
   obtain⟨y,hy⟩:=gt (l:=l) (k:=b+i) (by omega)
   obtain⟨x,hx⟩:=gt (l:=l) (k:=a+i) (by omega)
   rw[e1,e2,ix rfl hy,ob,ix rfl hx,ob,ob,st y rfl (by omega),ob]
   obtain⟨z,hz⟩:=gt (l:=l.set (a+i) y) (k:=b+i) (by rw[List.length_set];omega)
   rw[ix rfl hz,ob,st x rfl (by rw[List.length_set];omega),ob]
   have hg:=Je hx hy (by omega:a+i≠b+i)
   have hlen:((l.set (a+i) y).set (b+i) x).length=l.length:=by simp
   generalize (l.set (a+i) y).set (b+i) x=l1 at hg hlen
   rw[show bF ((i:Int)+1)=((i+1:Nat):Int) by rw[bX (by omega) (by omega)];omega]
   refine Kr a b n hab hb l0 hl m l1 (i+1) (by omega) (by omega) ⟨by omega,fun k=>?_⟩
   rw[hg k]
   simp only[h.2]
   repeat' split
   all_goals first
    |(exfalso;omega)
    |rfl
    |(congr 1;omega)
  ·rw[if_neg (by rw[decide_eq_true_eq];omega)]
   have:i=n:=by omega
   subst this
   exact⟨l,h,rfl⟩
theorem Mm{N a b n:Nat}(hN:10000000000≤N)(hab:a+n≤b)(hb:b+n≤1000000000){l:List dO}(hl:b+n≤l.length):
  ∃l',Zf l l' a b n∧eQ N l (a:Int) (b:Int) (n:Int)=some l':=
 Kr a b n hab hb l hl N l 0 (by omega) (by omega) ⟨rfl,fun k=>by rw[if_neg (by omega),if_neg (by omega)]⟩
theorem FQ{N:Nat}(hN:10000000000≤N)(p:Nat):∀(m:Nat) (l:List dO) (i j:Nat),i+j<m→0<i→0<j→i≤p→p+j≤l.length→l.length≤1000000000→
  ∃l',Qx l l' (p-i) p (p+j)∧dm N (p:Int) m l (i:Int) (j:Int)=some l'
 |0,_,_,_,hm,_,_,_,_,_=>absurd hm (Nat.not_lt_zero _)
 | m +1,l,i,j,hm,hi,hj,hip,hl,hlen=>by
  unfold dm
  have e1:bF ((p:Int)-(i:Int))=((p-i:Nat):Int):=by rw[bX (by omega) (by omega)];omega
  by_cases c:i=j
  ·subst c
   rw[if_neg (by simp),e1]
   obtain⟨l1,h1,h2⟩:=Mm (N:=N) (a:=p-i) (b:=p) (n:=i) hN (by omega) (by omega) (l:=l) (by omega)
   rw[h2,ob]
   refine⟨l1,⟨h1.1,fun k=>?_⟩,rfl⟩
   rw[h1.2 k]
   repeat' split
   all_goals first
    |(exfalso;omega)
    |rfl
    |(congr 1;omega)
  ·rw[if_pos (by simp;omega)]
   by_cases d:j<i
   ·rw[if_pos (decide_eq_true (by omega:(j:Int)<(i:Int))),e1]
    obtain⟨l1,h1,h2⟩:=Mm (N:=N) (a:=p-i) (b:=p) (n:=j) hN (by omega) (by omega) (l:=l) (by omega)
    rw[h2,ob,show bF ((i:Int)-(j:Int))=((i-j:Nat):Int) by rw[bX (by omega) (by omega)];omega]
    have hl1:=h1.1
    obtain⟨l',h3,h4⟩:=FQ hN p m l1 (i-j) j (by omega) (by omega) hj (by omega) (by omega) (by omega)
    refine⟨l',⟨h3.1.trans h1.1,fun k=>?_⟩,h4⟩
    rw[h3.2 k]
    simp only[h1.2]
    repeat' split
    all_goals first
     |(exfalso;omega)
     |rfl
     |(congr 1;omega)
   ·rw[if_neg (by rw[decide_eq_true_eq];omega),e1]
    have e2:bF ((bF ((p:Int)+(j:Int)))-(i:Int))=((p+j-i:Nat):Int):=by rw[bX (x:=(p:Int)+(j:Int)) (by omega) (by omega),bX (by omega) (by omega)];omega
    obtain⟨l1,h1,h2⟩:=Mm (N:=N) (a:=p-i) (b:=p+j-i) (n:=i) hN (by omega) (by omega) (l:=l) (by omega)
    rw[e2,h2,ob,show bF ((j:Int)-(i:Int))=((j-i:Nat):Int) by rw[bX (by omega) (by omega)];omega]
    have hl1:=h1.1
    obtain⟨l',h3,h4⟩:=FQ hN p m l1 i (j-i) (by omega) hi (by omega) hip (by omega) (by omega)
    refine⟨l',⟨h3.1.trans h1.1,fun k=>?_⟩,h4⟩
    rw[h3.2 k]
    simp only[h1.2]
    repeat' split
    all_goals first
     |(exfalso;omega)
     |rfl
     |(congr 1;omega)
theorem Wp{N a p b:Nat}(hN:10000000000≤N)(h1:a<p)(h2:p<b){l:List dO}(hb:b≤l.length)(hl:l.length≤1000000000):
  ∃l',Qx l l' a p b∧gF N l (a:Int) (p:Int) (b:Int)=some l':=by
 unfold gF
 have e1:bF ((p:Int)-(a:Int))=((p-a:Nat):Int):=by rw[bX (by omega) (by omega)];omega
 have e2:bF ((b:Int)-(p:Int))=((b-p:Nat):Int):=by rw[bX (by omega) (by omega)];omega
 obtain⟨l',h3,h4⟩:=FQ hN p N l (p-a) (b-p) (by omega) (by omega) (by omega) (by omega) (by omega) hl
 rw[e1,e2]
 refine⟨l',?_,h4⟩
 rw[show p-(p-a)=a by omega,show p+(b-p)=b by omega] at h3
 exact h3
end Go.Proofs.YtblmajfbibbiaaaGreatDoor.ST
namespace Go.Proofs.YtblmajfbibbiaaaGreatDoor.ST
theorem uo{x:Int}{k:Nat}(e:x=(k:Int))(h:k≤4000000000):uO x=some (k:Int):=by
 subst e
 unfold uO
 rw[if_pos ⟨by omega,by omega⟩]
theorem half{i j:Nat}(hi:i≤1000000000)(hj:j≤1000000000){β:Type}(f:Int→Option β):((uO (bF ((i:Int)+(j:Int)))).bind fun q=>(uO (q / 2)).bind fun q2=>f q2)=f (((i+j) / 2:Nat):Int):=by
 rw[uo (k:=i+j) (by rw[bX (by omega) (by omega)];omega) (by omega),ob,uo (k:=(i+j) / 2) (by omega) (by omega),ob]
theorem K6(a i:Nat)(hi:i≤1000000000)(l0:List dO)(hl:i≤l0.length):∀(m:Nat) (l:List dO) (k:Nat),i<m+k→a≤k→k<i→Qx l0 l a (a+1) (k+1)→
  ∃l',Qx l0 l' a (a+1) i∧cZ (i:Int) m l (k:Int)=some l'
 |0,_,_,hm,_,_,_=>by omega
 | m+1,l,k,hm,hak,hki,h=>by
  unfold cZ
  rw[bX (by omega) (by omega)]
  by_cases c:k+1<i
  ·rw[if_pos (decide_eq_true (by omega:(k:Int)<(i:Int)-1))]
   have e1:bF ((k:Int)+1)=((k+1:Nat):Int):=by rw[bX (by omega) (by omega)];omega
   have hll:=h.1
   obtain⟨y,hy⟩:=gt (l:=l) (k:=k+1) (by omega)
   obtain⟨x,hx⟩:=gt (l:=l) (k:=k) (by omega)
   rw[e1,ix rfl hy,ob,ix rfl hx,ob,ob,st y rfl (by omega),ob]
   obtain⟨z,hz⟩:=gt (l:=l.set k y) (k:=k+1) (by rw[List.length_set];omega)
   rw[ix rfl hz,ob,st x rfl (by rw[List.length_set];omega),ob]
   have hg:=Je hx hy (by omega:k≠k+1)
   have hlen:((l.set k y).set (k+1) x).length=l.length:=by simp
   generalize (l.set k y).set (k+1) x=l1 at hg hlen
   refine K6 a i hi l0 hl m l1 (k+1) (by omega) (by omega) c ⟨by omega,fun q=>?_⟩
   rw[hg q]
   simp only[h.2]
   repeat' split
   all_goals first
    |(exfalso;omega)
    |exact congrArg (fun n=>l0[n]?) (by omega)
  ·rw[if_neg (by rw[decide_eq_true_eq];omega)]
   have:k+1=i:=by omega
   subst this
   exact⟨l,h,rfl⟩
theorem OA(i p:Nat)(hp:p≤1000000000)(l0:List dO)(hl:p<l0.length):∀(m:Nat) (l:List dO) (k:Nat),k<m+i→i≤k→k≤p→Qx l0 l k p (p+1)→
  ∃l',Qx l0 l' i p (p+1)∧cK (i:Int) m l (k:Int)=some l'
 |0,_,_,hm,_,_,_=>by omega
 | m+1,l,k,hm,hak,hki,h=>by
  unfold cK
  by_cases c:i<k
  ·rw[if_pos (decide_eq_true (by omega:(i:Int)<(k:Int)))]
   have e1:bF ((k:Int)-1)=((k-1:Nat):Int):=by rw[bX (by omega) (by omega)];omega
   have hll:=h.1
   obtain⟨y,hy⟩:=gt (l:=l) (k:=k-1) (by omega)
   obtain⟨x,hx⟩:=gt (l:=l) (k:=k) (by omega)
   rw[e1,ix rfl hy,ob,ix rfl hx,ob,ob,st y rfl (by omega),ob]
   obtain⟨z,hz⟩:=gt (l:=l.set k y) (k:=k-1) (by rw[List.length_set];omega)
   rw[ix rfl hz,ob,st x rfl (by rw[List.length_set];omega),ob]
   have hg:=Je hx hy (by omega:k≠k-1)
   have hlen:((l.set k y).set (k-1) x).length=l.length:=by simp
   generalize (l.set k y).set (k-1) x=l1 at hg hlen
   refine OA i p hp l0 hl m l1 (k-1) (by omega) (by omega) (by omega) ⟨by omega,fun q=>?_⟩
   rw[hg q]
   simp only[h.2]
   repeat' split
   all_goals first
    |(exfalso;omega)
    |exact congrArg (fun n=>l0[n]?) (by omega)
  ·rw[if_neg (by rw[decide_eq_true_eq];omega)]
   have:k=i:=by omega
   subst this
   exact⟨l,h,rfl⟩
theorem BF{N:Nat}{l:List dO}{a b:Nat}{x:dO}(hx:l[a]?=some x)(hb:b≤l.length)(hl:l.length≤1000000000)(s:SR KR l (a+1) b):∀(m i j:Nat),j<m+i→a+1≤i→i≤j→j≤b→
  (∀k y,a+1≤k→k<i→l[k]?=some y→KR y<KR x)→(∀k y,j≤k→k<b→l[k]?=some y→KR x≤KR y)→
  ∃q:Nat,a+1≤q∧q≤b∧(∀k y,a+1≤k→k<q→l[k]?=some y→KR y<KR x)∧(∀k y,q≤k→k<b→l[k]?=some y→KR x≤KR y)∧
   df N l (a:Int) m (i:Int) (j:Int)=cZ (q:Int) N l (a:Int)
 |0,_,_,hm,_,_,_,_,_=>by omega
 | m+1,i,j,hm,hai,hij,hjb,h1,h2=>by
  unfold df
  by_cases c:i<j
  ·rw[if_pos (decide_eq_true (by omega:(i:Int)<(j:Int))),half (by omega) (by omega)]
   generalize hh:(i+j) / 2=h
   obtain⟨y,hy⟩:=gt (l:=l) (k:=h) (by omega)
   obtain⟨cc,hcf,hlt⟩:=cf y x
   rw[ix rfl hy,ob,ix rfl hx,ob,hcf,ob]
   by_cases d:cc<0
   ·rw[if_pos (decide_eq_true d),show bF ((h:Int)+1)=((h+1:Nat):Int) by rw[bX (by omega) (by omega)];omega]
    refine BF hx hb hl s m (h+1) j (by omega) (by omega) (by omega) hjb (fun k z hk hk2 hz=>?_) h2
    have:=s k h z y hk (by omega) (by omega) hz hy
    have:=hlt.1 d
    omega
   ·rw[if_neg (by rw[decide_eq_true_eq];exact d)]
    refine BF hx hb hl s m i h (by omega) hai (by omega) (by omega) h1 (fun k z hk hk2 hz=>?_)
    have:=s h k y z (by omega) hk hk2 hy hz
    have:¬KR y<KR x:=fun g=>d (hlt.2 g)
    omega
  ·rw[if_neg (by rw[decide_eq_true_eq];omega)]
   have:i=j:=by omega
   subst this
   exact⟨i,hai,hjb,h1,h2,rfl⟩
theorem Dz{N:Nat}{l:List dO}{a p:Nat}{x:dO}(hx:l[p]?=some x)(hl:l.length≤1000000000)(s:SR KR l a p):∀(m i j:Nat),j<m+i→a≤i→i≤j→j≤p→
  (∀k y,a≤k→k<i→l[k]?=some y→KR y≤KR x)→(∀k y,j≤k→k<p→l[k]?=some y→KR x<KR y)→
  ∃q:Nat,a≤q∧q≤p∧(∀k y,a≤k→k<q→l[k]?=some y→KR y≤KR x)∧(∀k y,q≤k→k<p→l[k]?=some y→KR x<KR y)∧
   cO N l (p:Int) m (i:Int) (j:Int)=cK (q:Int) N l (p:Int)
 |0,_,_,hm,_,_,_,_,_=>by omega
 | m+1,i,j,hm,hai,hij,hjb,h1,h2=>by
  have hpl:=(List.getElem?_eq_some_iff.1 hx).1
  unfold cO
  by_cases c:i<j
  ·rw[if_pos (decide_eq_true (by omega:(i:Int)<(j:Int))),half (by omega) (by omega)]
   generalize hh:(i+j) / 2=h
   obtain⟨y,hy⟩:=gt (l:=l) (k:=h) (by omega)
   obtain⟨cc,hcf,hlt⟩:=cf x y
   rw[ix rfl hx,ob,ix rfl hy,ob,hcf,ob]
   by_cases d:cc<0
   ·rw[if_neg (by simp[d])]
    refine Dz hx hl s m i h (by omega) hai (by omega) (by omega) h1 (fun k z hk hk2 hz=>?_)
    have:=s h k y z (by omega) hk hk2 hy hz
    have:=hlt.1 d
    omega
   ·rw[if_pos (by simp[d]),show bF ((h:Int)+1)=((h+1:Nat):Int) by rw[bX (by omega) (by omega)];omega]
    refine Dz hx hl s m (h+1) j (by omega) (by omega) (by omega) hjb (fun k z hk hk2 hz=>?_) h2
    have:=s k h z y hk (by omega) (by omega) hz hy
    have:¬KR x<KR y:=fun g=>d (hlt.2 g)
    omega
  ·rw[if_neg (by rw[decide_eq_true_eq];omega)]
   have:i=j:=by omega
   subst this
   exact⟨i,hai,hjb,h1,h2,rfl⟩
theorem Gr{N:Nat}{l:List dO}{a p b mid:Nat}(rec:List dO→Int→Int→Int→Option (List dO))(hap:a<p)(hpb:p<b)(hb:b≤l.length)(hl:l.length≤1000000000)(hmid:mid=(a+b) / 2)(s1:SR KR l a p)(s2:SR KR l p b)
  (lo hi:Nat) (hlo:lo=max a (mid+p-b)) (hhi:hi=min p mid):∀(m i j:Nat),j<m+i→lo≤i→i≤j→j≤hi→
  (∀x y,lo<i→l[i-1]?=some x→l[mid+p-i]?=some y→KR x≤KR y)→(∀x y,j<hi→l[j]?=some x→l[mid+p-j-1]?=some y→KR y<KR x)→
  ∃q:Nat,lo≤q∧q≤hi∧(∀x y,lo<q→l[q-1]?=some x→l[mid+p-q]?=some y→KR x≤KR y)∧(∀x y,q<hi→l[q]?=some x→l[mid+p-q-1]?=some y→KR y<KR x)∧
   bK N l (a:Int) (p:Int) (b:Int) rec (mid:Int) m (i:Int) (j:Int)=bK N l (a:Int) (p:Int) (b:Int) rec (mid:Int) 1 (q:Int) (q:Int)
 |0,_,_,hm,_,_,_,_,_=>by omega
 | m+1,i,j,hm,hai,hij,hjb,h1,h2=>by
  by_cases c:i<j
  ·unfold bK
   rw[if_pos (decide_eq_true (by omega:(i:Int)<(j:Int))),half (by omega) (by omega)]
   generalize hh:(i+j) / 2=h
   obtain⟨y,hy⟩:=gt (l:=l) (k:=mid+p-1-h) (by omega)
   obtain⟨x,hx⟩:=gt (l:=l) (k:=h) (by omega)
   obtain⟨cc,hcf,hlt⟩:=cf y x
   have e:bF ((bF ((bF ((mid:Int)+(p:Int)))-1))-(h:Int))=((mid+p-1-h:Nat):Int):=by
    rw[bX (x:=(mid:Int)+(p:Int)) (by omega) (by omega),bX (x:=(mid:Int)+(p:Int)-1) (by omega) (by omega),bX (by omega) (by omega)];omega
   rw[e,ix rfl hy,ob,ix rfl hx,ob,hcf,ob]
   by_cases d:cc<0
   ·rw[if_neg (by simp[d])]
    refine Gr rec hap hpb hb hl hmid s1 s2 lo hi hlo hhi m i h (by omega) hai (by omega) (by omega) h1 (fun u v hk hu hv=>?_)
    rw[show mid+p-h-1=mid+p-1-h by omega,hy] at hv
    rw[hx] at hu
    cases hu;cases hv
    exact hlt.1 d
   ·rw[if_pos (by simp[d]),show bF ((h:Int)+1)=((h+1:Nat):Int) by rw[bX (by omega) (by omega)];omega]
    refine Gr rec hap hpb hb hl hmid s1 s2 lo hi hlo hhi m (h+1) j (by omega) (by omega) (by omega) hjb (fun u v hk hu hv=>?_) h2
    rw[show mid+p-(h+1)=mid+p-1-h by omega,hy] at hv
    rw[show h+1-1=h by omega,hx] at hu
    cases hu;cases hv
    have:¬KR y<KR x:=fun g=>d (hlt.2 g)
    omega
  ·have:i=j:=by omega
   subst this
   refine⟨i,hai,hjb,h1,h2,?_⟩
   unfold bK
   simp only[show ¬((i:Int)<(i:Int)) by omega,decide_false,Bool.false_eq_true,if_false]
end Go.Proofs.YtblmajfbibbiaaaGreatDoor.ST
namespace Go.Proofs.YtblmajfbibbiaaaGreatDoor.ST
theorem xm{s a c:Nat}(ha:s∣a)(hc:s∣c)(h:a<c):a+s≤c:=by
 obtain⟨u,rfl⟩:=ha
 obtain⟨v,rfl⟩:=hc
 have:u<v:=Nat.lt_of_mul_lt_mul_left h
 have:=Nat.mul_le_mul_left s this
 rw[Nat.mul_succ] at this
 omega
theorem Jd:∀(d N:Nat) (l:List dO) (a p b:Nat),10000000000+d≤N→b≤a+d→a<p→p<b→b≤l.length→l.length≤1000000000→SR KR l a p→SR KR l p b→
  ∃l',Mg KR l l' a b∧SR KR l' a b∧bQ N l (a:Int) (p:Int) (b:Int)=some l'
 |0,_,_,_,_,_,_,hd,h1,h2,_,_,_,_=>by omega
 |d+1,0,_,_,_,_,hN,_,_,_,_,_,_,_=>by omega
 | d + 1, N+1,l,a,p,b,hN,hd,hap,hpb,hb,hl,s1,s2=>by
  unfold bQ gW
  rw[bX (x:=(p:Int)-(a:Int)) (by omega) (by omega)]
  by_cases c1:p=a+1
  ·subst c1
   rw[if_pos (by simp;omega)]
   obtain⟨x,hx⟩:=gt (l:=l) (k:=a) (by omega)
   obtain⟨q,hq1,hq2,hq3,hq4,X8⟩:=BF (N:=N) hx hb hl s2 N (a+1) b (by omega) (Nat.le_refl _) (by omega) (Nat.le_refl _) (fun k y h h2=>by omega) (fun k y h h2=>by omega)
   obtain⟨l',hr,hf⟩:=K6 a q (by omega) l (by omega) N l a (by omega) (Nat.le_refl _) (by omega) ⟨rfl,fun k=>by
    repeat' split
    all_goals first
     |(exfalso;omega)
     |exact congrArg (fun n=>l[n]?) (by omega)
     |rfl⟩
   rw[X8,hf]
   have hm:=(hr.mg (K:=KR) (by omega) hq1 (by omega) fun i j u v h1 h2 h3 h4 hu hv=>by
    have:i=a:=by omega
    subst this
    rw[hx] at hu;cases hu
    exact hq3 j v h3 h4 hv).mono (Nat.le_refl a) hq2
   refine⟨l',hm,?_,rfl⟩
   intro i j u v h1 h2 h3 hu hv
   rw[hr.2 i] at hu
   rw[hr.2 j] at hv
   by_cases ci:i+1<q
   ·rw[if_pos ⟨h1,by omega⟩,show i+(a+1-a)=i+1 by omega] at hu
    by_cases cj:j+1<q
    ·rw[if_pos ⟨by omega,by omega⟩,show j+(a+1-a)=j+1 by omega] at hv
     exact s2 _ _ u v (by omega) (by omega) (by omega) hu hv
    ·rw[if_neg (by omega)] at hv
     have k1:=hq3 _ u (by omega) ci hu
     by_cases cj2:j<q
     ·rw[if_pos ⟨by omega,cj2⟩,show j-(q-(a+1))=a by omega,hx] at hv
      cases hv;omega
     ·rw[if_neg (by omega)] at hv
      have:=hq4 j v (by omega) h3 hv
      omega
   ·rw[if_neg (by omega)] at hu
    rw[if_neg (by omega)] at hv
    by_cases ci2:i<q
    ·rw[if_pos ⟨by omega,ci2⟩,show i-(q-(a+1))=a by omega,hx] at hu
     cases hu
     by_cases cj2:j<q
     ·rw[if_pos ⟨by omega,cj2⟩,show j-(q-(a+1))=a by omega,hx] at hv
      cases hv;exact Int.le_refl _
     ·rw[if_neg (by omega)] at hv
      exact hq4 j v (by omega) h3 hv
    ·rw[if_neg (by omega)] at hu
     rw[if_neg (by omega)] at hv
     exact s2 i j u v (by omega) h2 h3 hu hv
  ·rw [if_neg (by simp;omega),bX (x:=(b:Int)-(p:Int)) (by omega) (by omega)]
   by_cases c2:b=p+1
   ·subst c2
    rw[if_pos (by simp;omega)]
    obtain⟨x,hx⟩:=gt (l:=l) (k:=p) (by omega)
    obtain⟨q,hq1,hq2,hq3,hq4,X8⟩:=Dz (N:=N) hx hl s1 N a p (by omega) (Nat.le_refl _) (by omega) (Nat.le_refl _) (fun k y h h2=>by omega) (fun k y h h2=>by omega)
    obtain⟨l',hr,hf⟩:=OA q p (by omega) l (by omega) N l p (by omega) hq2 (Nat.le_refl _) ⟨rfl,fun k=>by
     repeat' split
     all_goals first
      |(exfalso;omega)
      |exact congrArg (fun n=>l[n]?) (by omega)
      |rfl⟩
    rw[X8,hf]
    have hm:=(hr.mg (K:=KR) hq2 (by omega) (by omega) fun i j u v h1 h2 h3 h4 hu hv=>by
     have:j=p:=by omega
     subst this
     rw[hx] at hv;cases hv
     exact hq4 i u h1 h2 hu).mono hq1 (Nat.le_refl _)
    refine⟨l',hm,?_,rfl⟩
    intro i j u v h1 h2 h3 hu hv
    rw[hr.2 i] at hu
    rw[hr.2 j] at hv
    by_cases cj:j<q
    ·rw[if_neg (by omega),if_neg (by omega)] at hu hv
     exact s1 i j u v h1 h2 (by omega) hu hv
    ·by_cases cj2:j=q
     ·rw[if_pos ⟨by omega,by omega⟩,show j+(p-q)=p by omega,hx] at hv
      cases hv
      by_cases ci:i<q
      ·rw[if_neg (by omega),if_neg (by omega)] at hu
       exact hq3 i u h1 ci hu
      ·rw[if_pos ⟨by omega,by omega⟩,show i+(p-q)=p by omega,hx] at hu
       cases hu;exact Int.le_refl _
     ·rw[if_neg (by omega),if_pos ⟨by omega,by omega⟩] at hv
      by_cases ci:i<q
      ·rw[if_neg (by omega),if_neg (by omega)] at hu
       exact s1 i _ u v h1 (by omega) (by omega) hu hv
      ·by_cases ci2:i=q
       ·rw[if_pos ⟨by omega,by omega⟩,show i+(p-q)=p by omega,hx] at hu
        cases hu
        have:=hq4 _ v (by omega) (by omega) hv
        omega
       ·rw[if_neg (by omega),if_pos ⟨by omega,by omega⟩] at hu
        exact s1 _ _ u v (by omega) (by omega) (by omega) hu hv
   ·rw [if_neg (by simp;omega),half (by omega) (by omega)]
    generalize hmid:(a+b) / 2=mid
    have key:∀lo hi:Nat,lo=max a (mid+p-b)→hi=min p mid→lo≤hi→∃l',Mg KR l l' a b∧SR KR l' a b∧dC N l (a:Int) (p:Int) (b:Int) (bQ N) (mid:Int) (lo:Int) (hi:Int)=some l':=by
     intro lo hi hlo hhi hlh
     unfold dC
     obtain⟨q,hq1,hq2,hq3,hq4,X8⟩:=Gr (N:=N) (bQ N) hap hpb hb hl hmid.symm s1 s2 lo hi hlo hhi N lo hi (by omega) (Nat.le_refl _) hlh (Nat.le_refl _) (fun x y h=>by omega) (fun x y h=>by omega)
     rw[X8]
     unfold bK
     have e:bF ((bF ((mid:Int)+(p:Int)))-(q:Int))=((mid+p-q:Nat):Int):=by
      rw[bX (x:=(mid:Int)+(p:Int)) (by omega) (by omega),bX (by omega) (by omega)];omega
     rw[if_neg (by rw[decide_eq_true_eq];omega),e]
     have fin:∀l1,Qx l l1 q p (mid+p-q)→∃l',Mg KR l l' a b∧SR KR l' a b∧dD (a:Int) (p:Int) (b:Int) (bQ N) (mid:Int) (q:Int) l1=some l':=by
      intro l1 hr
      obtain⟨m1,r1,r2,r3,r4,r5⟩:=parted (K:=KR) hap hpb hb hmid.symm s1 s2 (by omega) (by omega) (by omega) (by omega)
       (fun x y h h2 hx hy=>hq3 x y (by omega) hx hy) (fun x y h h2 hx hy=>hq4 x y (by omega) hx hy) hr
      have hl1:=m1.len
      have second:∀l2,Mg KR l1 l2 a mid→SR KR l2 a mid→∃l',Mg KR l l' a b∧SR KR l' a b∧dE (p:Int) (b:Int) (bQ N) (mid:Int) (q:Int) l2=some l':=by
       intro l2 m2 t2
       have hl2:=m2.len
       unfold dE
       rw[e]
       have done:∀l3,Mg KR l2 l3 mid b→SR KR l3 mid b→Mg KR l l3 a b∧SR KR l3 a b:=fun l3 m3 t3=>
        ⟨(m1.trans (m2.mono (Nat.le_refl _) (by omega))).trans (m3.mono (by omega) (Nat.le_refl _)),
         (SR.yI m3 t2 (.inl (Nat.le_refl _))).join t3 (between m2 m3 r5)⟩
       have q3:=SR.yI m2 r3 (.inr (Nat.le_refl _))
       have q4:=SR.yI m2 r4 (.inr (by omega))
       by_cases c:mid<mid+p-q∧mid+p-q<b
       ·rw[if_pos (by simp only[Bool.and_eq_true,decide_eq_true_eq];omega)]
        obtain⟨l3,m3,t3,h3⟩:=Jd d N l2 mid (mid+p-q) b (by omega) (by omega) c.1 c.2 (by omega) (by omega) q3 q4
        rw[h3,ob]
        exact⟨l3,(done l3 m3 t3).1,(done l3 m3 t3).2,rfl⟩
       ·rw[if_neg (by simp only[Bool.and_eq_true,decide_eq_true_eq];omega)]
        have t3:SR KR l2 mid b:=by
         by_cases c':mid<mid+p-q
         ·have:mid+p-q=b:=by omega
          rw[this] at q3;exact q3
         ·have:mid+p-q=mid:=by omega
          rw[this] at q4;exact q4
        exact⟨l2,(done l2 .rfl t3).1,(done l2 .rfl t3).2,rfl⟩
      unfold dD
      by_cases c:a<q∧q<mid
      ·rw[if_pos (by simp only[Bool.and_eq_true,decide_eq_true_eq];omega)]
       obtain⟨l2,m2,t2,h2⟩:=Jd d N l1 a q mid (by omega) (by omega) c.1 c.2 (by omega) (by omega) r1 r2
       rw[h2,ob]
       exact second l2 m2 t2
      ·rw[if_neg (by simp only[Bool.and_eq_true,decide_eq_true_eq];omega)]
       refine second l1 .rfl ?_
       by_cases c':a<q
       ·have:q=mid:=by omega
        rw[←this];exact r1
       ·have:q=a:=by omega
        rw[←this];exact r2
     by_cases c:q<p∧p<mid+p-q
     ·rw[if_pos (by simp only[Bool.and_eq_true,decide_eq_true_eq];omega)]
      obtain⟨l1,hr,hf⟩:=Wp (N:=N) (by omega) c.1 c.2 (l:=l) (by omega) hl
      rw[hf,ob]
      exact fin l1 hr
     ·rw[if_neg (by simp only[Bool.and_eq_true,decide_eq_true_eq];omega)]
      refine fin l ⟨rfl,fun k=>?_⟩
      repeat' split
      all_goals first
       |(exfalso;omega)
       |exact congrArg (fun n=>l[n]?) (by omega)
       |rfl
    by_cases c3:mid<p
    ·rw[if_pos (decide_eq_true (by omega:(mid:Int)<(p:Int)))]
     have e:bF ((bF ((mid:Int)+(p:Int)))-(b:Int))=((mid+p-b:Nat):Int):=by
      rw[bX (x:=(mid:Int)+(p:Int)) (by omega) (by omega),bX (by omega) (by omega)];omega
     rw[e]
     exact key (mid+p-b) mid (by omega) (by omega) (by omega)
    ·rw[if_neg (by rw[decide_eq_true_eq];omega)]
     exact key a p (by omega) (by omega) (by omega)
end Go.Proofs.YtblmajfbibbiaaaGreatDoor.ST
namespace Go.Proofs.YtblmajfbibbiaaaGreatDoor.ST
def Zi(l:List dO)(s n:Nat):Prop:=∀c,s∣c→SR KR l c (min (c+s) n)
theorem blocks{N:Nat}(hN:20000000000≤N)(l0:List dO)(hl:l0.length≤1000000000)(s:Nat)(hs:0<s)(hsl:s≤1000000000)(k:List dO→Int→Option (List dO)):∀(m:Nat) (l:List dO) (a:Nat),l0.length<m+a→2*s∣a→a≤l0.length→Mg KR l0 l 0 l0.length→
  (∀c,2*s∣c→c<a→SR KR l c (c+2*s))→(∀c,s∣c→a≤c→SR KR l c (min (c+s) l0.length))→
  ∃l',Mg KR l0 l' 0 l0.length∧Zi l' (2*s) l0.length∧dJ N (l0.length:Int) (s:Int) k m l (a:Int) ((a+2*s:Nat):Int)=k l' ((2*s:Nat):Int)
 |0,_,_,hm,_,_,_,_,_=>by omega
 | m +1,l,a,hm,hd,hal,h,h1,h2=>by
  have hll:=h.len
  have hsa:s∣a:=Nat.dvd_trans ⟨2,by omega⟩ hd
  unfold dJ
  have e1:bF ((a:Int)+(s:Int))=((a+s:Nat):Int):=by rw[bX (by omega) (by omega)];omega
  rw[e1]
  by_cases c:a+2*s≤l0.length
  ·rw [if_pos (decide_eq_true (by omega:((a+2*s:Nat):Int)≤(l0.length:Int)))]
   have t1:=h2 a hsa (Nat.le_refl _)
   have t2:=h2 (a+s) (Nat.dvd_add hsa (Nat.dvd_refl _)) (by omega)
   rw[Nat.min_eq_left (by omega)] at t1 t2
   obtain⟨l1,m1,u1,f1⟩:=Jd (2*s) N l a (a+s) (a+2*s) (by omega) (by omega) (by omega) (by omega) (by omega) (by omega) t1 (by rw[show a+2*s=a+s+s by omega];exact t2)
   rw[f1,ob]
   have e2:bF (((a+2*s:Nat):Int)+bF (2*(s:Int)))=((a+2*s+2*s:Nat):Int):=by rw[bX (x:=2*(s:Int)) (by omega) (by omega),bX (by omega) (by omega)];omega
   rw[e2]
   refine blocks hN l0 hl s hs hsl k m l1 (a+2*s) (by omega) (Nat.dvd_add hd (Nat.dvd_refl _)) c (h.trans (m1.mono (Nat.zero_le _) c)) (fun c' hc hca=>?_) (fun c' hc hca=>?_)
   ·by_cases hlt:c'<a
    ·have:=xm hc hd hlt
     exact SR.yI m1 (h1 c' hc hlt) (.inl (by omega))
    ·by_cases heq:c'=a
     ·subst heq;exact u1
     ·have:=xm hd hc (by omega)
      omega
   ·exact SR.yI m1 (h2 c' hc (by omega)) (.inr hca)
  ·rw [if_neg (by rw[decide_eq_true_eq];omega)]
   have fin:∀l',Mg KR l l' a l0.length→SR KR l' a l0.length→Zi l' (2*s) l0.length:=fun l' m1 u1 c' hc=>by
    by_cases hlt:c'<a
    ·have:=xm hc hd hlt
     rw[Nat.min_eq_left (by omega)]
     exact SR.yI m1 (h1 c' hc hlt) (.inl (by omega))
    ·by_cases heq:c'=a
     ·subst heq;rw[Nat.min_eq_right (by omega)];exact u1
     ·have:=xm hd hc (by omega)
      exact SR.one (by omega)
   have e3:bF ((s:Int)*2)=((2*s:Nat):Int):=by rw[bX (by omega) (by omega)];omega
   by_cases d:a+s<l0.length
   ·rw[if_pos (decide_eq_true (by omega:((a+s:Nat):Int)<(l0.length:Int)))]
    have t1:=h2 a hsa (Nat.le_refl _)
    have t2:=h2 (a+s) (Nat.dvd_add hsa (Nat.dvd_refl _)) (by omega)
    rw[Nat.min_eq_left (by omega)] at t1
    rw[Nat.min_eq_right (by omega)] at t2
    obtain⟨l1,m1,u1,f1⟩:=Jd (2*s) N l a (a+s) l0.length (by omega) (by omega) (by omega) d (by omega) (by omega) t1 t2
    rw[f1,ob]
    unfold dL
    rw[e3]
    exact⟨l1,h.trans (m1.mono (Nat.zero_le _) (Nat.le_refl _)),fin l1 m1 u1,rfl⟩
   ·rw[if_neg (by rw[decide_eq_true_eq];omega)]
    unfold dL
    rw[e3]
    refine⟨l,h,fin l .rfl ?_,rfl⟩
    have t1:=h2 a hsa (Nat.le_refl _)
    rw[Nat.min_eq_right (by omega)] at t1
    exact t1
theorem doubles{N:Nat}(hN:20000000000≤N)(l0:List dO)(hl:l0.length≤1000000000):∀(m:Nat) (l:List dO) (s:Nat),0<m∧l0.length<m+s→0<s→s≤2000000000→Mg KR l0 l 0 l0.length→Zi l s l0.length→
  ∃l',Mg KR l0 l' 0 l0.length∧SR KR l' 0 l0.length∧bI N (l0.length:Int) m l (s:Int)=some l'
 |0,l,s,hm,hs,hs2,h,hb=>absurd hm.1 (Nat.lt_irrefl 0)
 | m+1,l,s,hm,hs,hs2,h,hb=>by
  unfold bI
  by_cases c:s<l0.length
  ·rw[if_pos (decide_eq_true (by omega:(s:Int)<(l0.length:Int)))]
   have e:bF (2*(s:Int))=((0+2*s:Nat):Int):=by rw[bX (by omega) (by omega)];omega
   obtain⟨l1,m1,b1,f1⟩:=blocks hN l0 hl s hs (by omega) (bI N (l0.length:Int) m) N l 0 (by omega) (Nat.dvd_zero _) (Nat.zero_le _) h (fun c _ hc=>by omega) (fun c hc _=>hb c hc)
   rw[e]
   rw[show(0:Int)=((0:Nat):Int) from rfl,f1]
   exact doubles hN l0 hl m l1 (2*s) (by omega) (by omega) (by omega) m1 b1
  ·rw[if_neg (by rw[decide_eq_true_eq];omega)]
   have:=hb 0 (Nat.dvd_zero _)
   rw[Nat.zero_add,Nat.min_eq_right (by omega)] at this
   exact⟨l,h,this,rfl⟩
theorem R8{N:Nat}(hN:20000000000≤N)(l0:List dO)(hl:l0.length≤1000000000):∀(m:Nat) (l:List dO) (a:Nat),l0.length<m+a→20∣a→a≤l0.length→Mg KR l0 l 0 l0.length→(∀c,20∣c→c<a→SR KR l c (c+20))→
  ∃l',Mg KR l0 l' 0 l0.length∧SR KR l' 0 l0.length∧dK N (l0.length:Int) m l (a:Int) ((a+20:Nat):Int)=some l'
 |0,_,_,hm,_,_,_,_=>by omega
 | m +1,l,a,hm,hd,hal,h,h1=>by
  have hll:=h.len
  unfold dK
  by_cases c:a+20≤l0.length
  ·rw[if_pos (decide_eq_true (by omega:((a+20:Nat):Int)≤(l0.length:Int)))]
   obtain⟨l1,m1,u1,f1⟩:=RP (N:=N) (a:=a) (b:=a+20) (by omega) (by omega) (l:=l) (by omega) (by omega)
   rw[f1,ob,show bF (((a+20:Nat):Int)+20)=((a+20+20:Nat):Int) by rw[bX (by omega) (by omega)];omega]
   refine R8 hN l0 hl m l1 (a+20) (by omega) (Nat.dvd_add hd (Nat.dvd_refl _)) c (h.trans (m1.mono (Nat.zero_le _) c)) (fun c' hc hca=>?_)
   by_cases hlt:c'<a
   ·have:=xm hc hd hlt
    exact SR.yI m1 (h1 c' hc hlt) (.inl (by omega))
   ·by_cases heq:c'=a
    ·subst heq;exact u1
    ·have:=xm hd hc (by omega)
     omega
  ·rw[if_neg (by rw[decide_eq_true_eq];omega)]
   obtain⟨l1,m1,u1,f1⟩:=RP (N:=N) (a:=a) (b:=l0.length) (by omega) (by omega) (l:=l) (by omega) hal
   rw[f1,ob]
   refine doubles hN l0 hl N l1 20 (by omega) (by omega) (by omega) (h.trans (m1.mono (Nat.zero_le _) (Nat.le_refl _))) (fun c' hc=>?_)
   by_cases hlt:c'<a
   ·have:=xm hc hd hlt
    rw[Nat.min_eq_left (by omega)]
    exact SR.yI m1 (h1 c' hc hlt) (.inl (by omega))
   ·by_cases heq:c'=a
    ·subst heq;rw[Nat.min_eq_right (by omega)];exact u1
    ·have:=xm hd hc (by omega)
     exact SR.one (by omega)
theorem PZ{N:Nat}(hN:20000000000≤N){l:List dO}(hl:l.length≤1000000000):
  ∃l',fC N l=some l'∧l'.Pairwise (fun x y=>KR x≤KR y)∧∀v:Int,l'.filter (fun x=>decide (KR x=v))=l.filter (fun x=>decide (KR x=v)):=by
 obtain⟨l',m,s,f⟩:=R8 hN l hl N l 0 (by omega) (Nat.dvd_zero _) (Nat.zero_le _) .rfl (fun c _ h=>by omega)
 unfold fC iD
 refine⟨l',?_,SR.pairwise (by rw[m.len];exact s),m.eqv⟩
 rw[show(0:Int)=((0:Nat):Int) from rfl,show(20:Int)=((0+20:Nat):Int) from rfl,f,ob]
end Go.Proofs.YtblmajfbibbiaaaGreatDoor.ST
namespace Go.Proofs.YtblmajfbibbiaaaGreatDoor
theorem NS{α:Type}(pre:List α)(x:α)(h:pre.length<9223372036854775807):bF ((pre.length:Int)+1)=((pre++[x]).length:Int):=by
 rw[Ja (by omega) (by omega)];simp
def R7(n u:Int):Bool:=decide (-(1000000 / u)≤n)&&decide (n≤1000000 / u)
theorem OM{n u:Int}(hu:1≤u∧u≤1000):sV n u=some (R7 n u):=by
 have h0:0≤1000000 / u:=Int.ediv_nonneg (by omega) (by omega)
 have h1:1000000 / u≤1000000:=Int.ediv_le_self _ (by omega)
 have e1:(1000000:Int).tdiv u=1000000 / u:=Int.tdiv_eq_ediv_of_nonneg (by omega)
 have e2:(-1000000:Int).tdiv u= -(1000000 / u):=by rw[show(-1000000:Int)= -(1000000) from rfl,Int.neg_tdiv,e1]
 unfold sV dv
 rw[if_neg (by omega),if_neg (by omega),ob,ob,e1,e2,bX (by omega) (by omega),bX (by omega) (by omega)]
 rfl
def Gq(p:ak)(u:Int):Bool:=R7 p.X u&&R7 p.Y u
theorem BA{p:ak}{u:Int}(hu:1≤u∧u≤1000):mG p u=some (Gq p u):=by
 unfold mG Gq
 rw[OM hu,ob]
 cases R7 p.X u
 ·rfl
 ·rw[if_pos rfl,OM hu];simp
def Cg(l:List ak):List ak→Nat→Bool
 |[],_=>true
 |x::r,i=>if((x.X==(l.getD ((i+1)%l.length) ⟨0,0⟩).X)==(x.Y==(l.getD ((i+1)%l.length) ⟨0,0⟩).Y)) then false else Cg l r (i+1)
theorem Um{l:List ak}{i:Nat}(h:i<l.length)(hl:l.length≤9223372036854775807):((md (bF ((i:Int)+1)) (l.length:Int)).bind fun q=>idx l q)=some (l.getD ((i+1)%l.length) ⟨0,0⟩):=by
 have hm:(i+1)%l.length<l.length:=Nat.mod_lt _ (by omega)
 unfold md
 rw[Ja (by omega) (by omega),if_neg (by omega),ob,Int.tmod_eq_emod_of_nonneg (by omega)]
 rw[show((i:Int)+1)%(l.length:Int)=(((i+1)%l.length:Nat):Int) by simp]
 rw[JK hm]
 simp[List.getD,hm]
theorem F4{β:Type}{l:List ak}{i:Nat}(h:i<l.length)(hl:l.length≤9223372036854775807)(k:ak→Option β):
  ((md (bF ((i:Int)+1)) (l.length:Int)).bind fun q=>(idx l q).bind k)=k (l.getD ((i+1)%l.length) ⟨0,0⟩):=by
 have:=Um h hl
 cases hq:md (bF ((i:Int)+1)) (l.length:Int) with
 |none=>rw[hq] at this;simp at this
 |some q=>
  rw[hq] at this
  simp only[ob] at this ⊢
  rw[this,ob]
theorem GX{l:List ak}(hl:l.length≤9223372036854775807):∀(suf:List ak) (i:Nat),i+suf.length=l.length→kU l suf i=some (Cg l suf i)
 |[],_,_=>rfl
 |x::r,i,h=>by
  simp at h
  rw[kU,Cg,F4 (by omega) hl,GX hl r (i+1) (by omega)]
  split<;>rfl
theorem TF{l:List ak}(hl:l.length≤9223372036854775807):oO l=some (if(l.length:Int)<4 then false else Cg l l 0):=by
 unfold oO
 rw[GX hl l 0 (by omega)]
 split
 ·rename_i h;rw[if_pos (by simpa using h)]
 ·rename_i h;rw[if_neg (by simpa using h)]
theorem Er{p:ed}{l:List ak}(hu:1≤p.Unit∧p.Unit≤1000):dF l (fun z0=>iO z0 p)=some (l.any (fun q=> !Gq q p.Unit)):=by
 have key:∀(l:List ak) (i:Nat),eP (fun z0=>iO z0 p) l i=some (Dw (fun q=> !Gq q p.Unit) l (i:Int)):=by
  intro l
  induction l with
  |nil=>intro i;rfl
  | cons x r ih=>
   intro i
   rw[eP,Dw,ih]
   have e:iO x p=some (!Gq x p.Unit):=by
    unfold iO
    rw[BA hu];rfl
   rw[e,ob]
   split<;>rfl
 unfold dF kI
 rw[key,ob]
 exact congrArg some (Gb _ l 0 (by omega))
def TM(l:List ak):List ak→Nat→Int→Int
 |[],_,x=>x
 |p::t,i,x=>TM l t (i+1) (bF (x+bF (bF (p.X*(l.getD ((i+1)%l.length) ⟨0,0⟩).Y)-bF ((l.getD ((i+1)%l.length) ⟨0,0⟩).X*p.Y))))
def rowOf(l:List ak):dO:=⟨l,TM l l 0 0⟩
def KP(l:List ak):Int:=ST.KR (rowOf l)
def ou(l:List ak):aB:=⟨7,⟨#[]⟩,⟨0,0⟩,l,0,0,[]⟩
def oq(k:Int):aB:=⟨k,⟨#[]⟩,⟨0,0⟩,[],0,0,[]⟩
def rC(l:List ak):Int:=if TM l l 0 0<0 then 2 else 1
def jl:List (List ak)→Int→List aB
 |[],_=>[]
 |l::t,d=>if rC l=d then ou l::jl t d else oq (rC l)::ou l::jl t (rC l)
theorem zK:∀(l:List (List ak)) (d:Int),(jl l d).length≤2*l.length
 |[],_=>by simp[jl]
 | x::t,d=>by
  unfold jl
  split
  ·have:=zK t d
   simp only[List.length_cons];omega
  ·have:=zK t (rC x)
   simp only[List.length_cons];omega
theorem K5{WH:List dO}(k:List dO→Option (ed×Int)){l:List ak}(hl:l.length≤9223372036854775807)(hc:WH.length<1000000000):∀(suf:List ak) (i:Nat) (x:Int),i+suf.length=l.length→
  lV WH k l suf i x=k (WH++[⟨l,TM l suf i x⟩])
 |[],i,x,_=>by
  unfold lV TM
  rw[lm (by simp;omega),ob]
 |p::t,i,x,h=>by
  simp only[List.length_cons] at h
  unfold lV TM
  rw[F4 (by omega) hl,K5 k hl hc t (i+1) _ (by omega)]
theorem Jz:∀(o:List (List ak)) (i:Nat) (out:List aB) (d:Int),out.length+2*o.length≤1000000000→
  iW (o.map rowOf) i out d=some (⟨1,[],out++jl o d⟩,0)
 |[],i,out,d,_=>by
  show some ((ed.mk 1 [] out),(0:Int))=_
  rw[show jl [] d=[] from rfl,List.append_nil]
 | l::t,i,out,d,h=>by
  simp only[List.length_cons] at h
  have key:∀k:Int,rC l=k→oP out d (iW (t.map rowOf) (i+1)) (rowOf l) k=some (⟨1,[],out++jl (l::t) d⟩,0):=by
   intro k hk
   unfold oP ry jl
   rw[hk]
   by_cases c:k=d
   ·subst c
    rw[if_neg (by simp),if_pos rfl,lm (by simp;omega),ob]
    rw[Jz t (i+1) _ k (by simp only[List.length_append,List.length_cons,List.length_nil];omega),List.append_assoc]
    rfl
   ·rw[if_pos (by simp[c]),if_neg c,lm (by simp;omega),ob,lm (by simp;omega),ob]
    rw[Jz t (i+1) _ k (by simp only[List.length_append,List.length_cons,List.length_nil];omega),List.append_assoc,List.append_assoc]
    rfl
  show iW (rowOf l::t.map rowOf) i out d=_
  unfold iW
  by_cases c:(rowOf l).area<0
  ·rw[if_pos (decide_eq_true c)]
   exact key 2 (if_pos c)
  ·rw[if_neg (by rw[decide_eq_true_eq];exact c)]
   exact key 1 (if_neg c)
theorem Ou{N:Nat}{res:List dO→Option (ed×Int)}(hres:∀i l,kK N [] i l=res l):∀(ls:List (List ak)) (i:Nat) (out:List dO),out.length+ls.length<1000000000→(∀l∈ls,l.length≤9223372036854775807)→
  kK N ls i out=res (out++ls.map rowOf)
 |[],i,out,_,_=>by rw[hres];simp
 |l::t,i,out,h,hl=>by
  simp only[List.length_cons] at h
  unfold kK
  rw[K5 _ (hl l List.mem_cons_self) (by omega) l 0 0 (by omega)]
  rw[Ou hres t (i+1) _ (by simp;omega) (fun l h=>hl l (List.mem_cons_of_mem _ h)),List.append_assoc]
  rfl
theorem Gs(o:List (List ak))(v:Int):(o.map rowOf).filter (fun x=>decide (ST.KR x=v))=(o.filter fun l=>decide (KP l=v)).map rowOf:=by
 rw[List.filter_map];rfl
theorem Ue{l m:List ak}(h:rowOf l=rowOf m):l=m:=by
 have:=congrArg dO.points h
 exact this
def vw(ls o:List (List ak)):Prop:=o.Pairwise (fun x y=>KP x≤KP y)∧∀v:Int,o.filter (fun l=>decide (KP l=v))=ls.filter fun l=>decide (KP l=v)
theorem vw.uniq{ls o o':List (List ak)}(h:vw ls o)(h':vw ls o'):o'=o:=ST.Be h.1 h'.1 (fun v=>(h'.2 v).trans (h.2 v).symm)
theorem vw.mem{ls o:List (List ak)}(h:vw ls o)(x:List ak):x∈o↔x∈ls:=by
 have:=congrArg (x∈ ·) (h.2 (KP x))
 simp only[List.mem_filter,decide_true,and_true,eq_iff_iff] at this
 exact this
theorem vw.len{ls o:List (List ak)}(h:vw ls o):o.Perm ls:=by
 classical
 rw[List.perm_iff_count]
 intro x
 have:=congrArg (List.count x) (h.2 (KP x))
 rwa [List.count_filter (by simp),List.count_filter (by simp)] at this
theorem TA{N:Nat}(hN:20000000000≤N){ls:List (List ak)}(hls:ls.length≤100000000)(hl:∀l∈ls,l.length≤100000000):∃o,vw ls o∧kK N ls 0 []=some (⟨1,[],jl o 1⟩,0):=by
 obtain⟨l',h1,h2,h3⟩:=ST.PZ hN (l:=ls.map rowOf) (by rw[List.length_map];omega)
 have hmem:∀x∈l',∃l∈ls,rowOf l=x:=by
  intro x hx
  have:x∈l'.filter (fun y=>decide (ST.KR y=ST.KR x)):=List.mem_filter.2 ⟨hx,by simp⟩
  rw[h3] at this
  exact List.mem_map.1 (List.mem_filter.1 this).1
 have e:(l'.map (·.points)).map rowOf=l':=by
  rw[List.map_map]
  conv=>rhs;rw[←List.map_id l']
  apply List.map_congr_left
  intro x hx
  obtain⟨l,_,rfl⟩:=hmem x hx
  rfl
 have hB:vw ls (l'.map (·.points)):=by
  constructor
  ·rw[←e] at h2
   have:=(List.pairwise_map (f:=rowOf) (R:=fun x y=>ST.KR x≤ST.KR y)).1 h2
   exact this
  ·intro v
   have:=h3 v
   rw[←e,Gs,Gs] at this
   exact(List.map_inj_right (fun _ _=>Ue)).1 this
 refine⟨l'.map (·.points),hB,?_⟩
 have hlen:=hB.len.length_eq
 rw[Ou (N:=N) (res:=fun l=>(fC N l).bind fun YH=>iW YH 0 ([]:List aB) 1) (fun _ _=>rfl) ls 0 [] (by simp;omega) (fun l h=>by have:=hl l h;omega),List.nil_append]
 rw[h1,ob]
 conv=>lhs;rw[←e]
 rw[Jz _ 0 [] 1 (by rw[hlen];simp;omega),List.nil_append]
mutual
def V7:aB→Nat
 |⟨_,n,_,ps,_,_,l⟩=>1+n.size+ps.length+NZ l
def NZ:List aB→Nat
 |[]=>0
 |x::l=>V7 x+NZ l
end
mutual
def WC:aB→Nat
 |⟨_,_,_,_,_,_,l⟩=>1+Oz l
def Oz:List aB→Nat
 |[]=>0
 |x::l=>WC x+Oz l
end
def Xt(n:Int):Prop:= -9223372036854775808≤n∧n≤9223372036854775807
mutual
def YX:aB→Prop
 |⟨_,n,a,ps,nx,ny,l⟩=>n.size≤9223372036854775807∧(Xt a.X∧Xt a.Y)∧(ps.length≤9223372036854775807∧∀q∈ps,Xt q.X∧Xt q.Y)∧(Xt nx∧Xt ny)∧l.length≤9223372036854775807∧X6 l
def X6:List aB→Prop
 |[]=>True
 |x::l=>YX x∧X6 l
end
end Go.Proofs.YtblmajfbibbiaaaGreatDoor
namespace Go.Proofs.YtblmajfbibbiaaaGreatDoor.PX
inductive Dir where
 |E|N|W|S
namespace Dir
def left:Dir→Dir|E=>N|N=>W|W=>S|S=>E
def right:Dir→Dir|E=>S|N=>E|W=>N|S=>W
def dx:Dir→Int|E=>1|N=>0|W=> -1|S=>0
def dy:Dir→Int|E=>0|N=>1|W=>0|S=> -1
instance:DecidableEq Dir:=fun a b=>by
 cases a<;>cases b<;>first|exact isTrue rfl|exact isFalse (fun h=>nomatch h)
end Dir
structure Ed where
 x:Int
 y:Int
 d:Dir
instance:DecidableEq Ed:=fun a b=>by
 obtain⟨x,y,d⟩:=a
 obtain⟨x',y',d'⟩:=b
 exact if h:x=x'∧y=y'∧d=d' then isTrue (by obtain⟨rfl,rfl,rfl⟩:=h;rfl) else isFalse (fun e=>h (by cases e;exact⟨rfl,rfl,rfl⟩))
abbrev Sq:=Int→Int→Bool
def lq(I:Sq)(x y:Int):Dir→Bool
 | .E=>I x y
 | .N=>I (x-1) y
 | .W=>I (x-1) (y-1)
 | .S=>I x (y-1)
def tY(I:Sq)(e:Ed):Prop:=lq I e.x e.y e.d=true∧lq I e.x e.y e.d.right=false
def Ed.tx(e:Ed):Int:=e.x+e.d.dx
def Ed.ty(e:Ed):Int:=e.y+e.d.dy
def sc(I:Sq)(e:Ed):Ed:=
 if lq I e.tx e.ty e.d=false then⟨e.tx,e.ty,e.d.left⟩ else if lq I e.tx e.ty e.d.right=false then⟨e.tx,e.ty,e.d⟩ else⟨e.tx,e.ty,e.d.right⟩
def pd(I:Sq)(e:Ed):Ed:=
 if lq I e.x e.y e.d.left=false then⟨e.x-e.d.right.dx,e.y-e.d.right.dy,e.d.right⟩ else if lq I e.x e.y e.d.left.left=false then⟨e.x-e.d.dx,e.y-e.d.dy,e.d⟩ else⟨e.x-e.d.left.dx,e.y-e.d.left.dy,e.d.left⟩
theorem xu(I:Sq)(x y:Int)(d:Dir):lq I (x+d.dx) (y+d.dy) d.left=lq I x y d∧lq I (x+d.dx) (y+d.dy) d.left.left=lq I x y d.right:=by
 cases d<;>simp only[Dir.left,Dir.right,Dir.dx,Dir.dy,lq]<;>refine⟨?_,?_⟩<;>congr 1<;>omega
theorem JX(I:Sq)(x y:Int)(d:Dir):lq I (x-d.dx) (y-d.dy) d=lq I x y d.left∧lq I (x-d.dx) (y-d.dy) d.right=lq I x y d.left.left:=by
 have h:=xu I (x-d.dx) (y-d.dy) d
 have e1:x-d.dx+d.dx=x:=by omega
 have e2:y-d.dy+d.dy=y:=by omega
 rw[e1,e2] at h
 exact⟨h.1.symm,h.2.symm⟩
theorem Dir.lr(d:Dir):d.left.right=d:=by cases d<;>rfl
theorem Dir.rl(d:Dir):d.right.left=d:=by cases d<;>rfl
theorem Dir.rr(d:Dir):d.right.right=d.left.left:=by cases d<;>rfl
theorem Dir.Zm(d:Dir):d.left.left.left=d.right:=by cases d<;>rfl
theorem Wi{I:Sq}{e:Ed}(h:lq I e.tx e.ty e.d=false):sc I e=⟨e.tx,e.ty,e.d.left⟩:=if_pos h
theorem XR{I:Sq}{e:Ed}(h:lq I e.tx e.ty e.d=true)(h':lq I e.tx e.ty e.d.right=false):sc I e=⟨e.tx,e.ty,e.d⟩:=(if_neg (by rw[h];simp)).trans (if_pos h')
theorem YR{I:Sq}{e:Ed}(h:lq I e.tx e.ty e.d=true)(h':lq I e.tx e.ty e.d.right=true):sc I e=⟨e.tx,e.ty,e.d.right⟩:=(if_neg (by rw[h];simp)).trans (if_neg (by rw[h'];simp))
theorem XY{I:Sq}{e:Ed}(h:lq I e.x e.y e.d.left=false):pd I e=⟨e.x-e.d.right.dx,e.y-e.d.right.dy,e.d.right⟩:=if_pos h
theorem XW{I:Sq}{e:Ed}(h:lq I e.x e.y e.d.left=true)(h':lq I e.x e.y e.d.left.left=false):pd I e=⟨e.x-e.d.dx,e.y-e.d.dy,e.d⟩:=(if_neg (by rw[h];simp)).trans (if_pos h')
theorem XX{I:Sq}{e:Ed}(h:lq I e.x e.y e.d.left=true)(h':lq I e.x e.y e.d.left.left=true):pd I e=⟨e.x-e.d.left.dx,e.y-e.d.left.dy,e.d.left⟩:=(if_neg (by rw[h];simp)).trans (if_neg (by rw[h'];simp))
theorem bc{b:Bool}:b=false∨b=true:=by cases b;exact .inl rfl;exact .inr rfl
theorem xO{I:Sq}{e:Ed}(_:tY I e):(lq I e.tx e.ty e.d=false∧sc I e=⟨e.tx,e.ty,e.d.left⟩)∨(lq I e.tx e.ty e.d=true∧lq I e.tx e.ty e.d.right=false∧sc I e=⟨e.tx,e.ty,e.d⟩)∨
  (lq I e.tx e.ty e.d=true∧lq I e.tx e.ty e.d.right=true∧sc I e=⟨e.tx,e.ty,e.d.right⟩):=by
 rcases bc (b:=lq I e.tx e.ty e.d) with h1|h1
 ·exact .inl ⟨h1,Wi h1⟩
 ·rcases bc (b:=lq I e.tx e.ty e.d.right) with h2|h2
  ·exact .inr (.inl ⟨h1,h2,XR h1 h2⟩)
  ·exact .inr (.inr ⟨h1,h2,YR h1 h2⟩)
theorem Ed.xu(I:Sq)(e:Ed):lq I e.tx e.ty e.d.left=lq I e.x e.y e.d∧lq I e.tx e.ty e.d.left.left=lq I e.x e.y e.d.right:=PX.xu I e.x e.y e.d
theorem Jk{I:Sq}{e:Ed}(h:tY I e):tY I (sc I e):=by
 obtain⟨g1,g2⟩:=Ed.xu I e
 rcases xO h with⟨h1,h2⟩|⟨h1,h2,h3⟩|⟨h1,h2,h3⟩
 ·rw[h2];exact⟨g1.trans h.1,by simp only[Dir.lr];exact h1⟩
 ·rw[h3];exact⟨h1,h2⟩
 ·rw[h3];exact⟨h2,by simp only[Dir.rr];exact g2.trans h.2⟩
theorem Ed.ext'{e f:Ed}(h1:e.x=f.x)(h2:e.y=f.y)(h3:e.d=f.d):e=f:=by cases e;cases f;cases h1;cases h2;cases h3;rfl
theorem Cr{I:Sq}{e:Ed}(h:tY I e):pd I (sc I e)=e:=by
 obtain⟨g1,g2⟩:=Ed.xu I e
 have a1:e.tx-e.d.dx=e.x:=by unfold Ed.tx;omega
 have a2:e.ty-e.d.dy=e.y:=by unfold Ed.ty;omega
 rcases xO h with⟨h1,h2⟩|⟨h1,h2,h3⟩|⟨h1,h2,h3⟩
 ·rw[h2,XY (g2.trans h.2)];exact Ed.ext' (by simp only[Dir.lr];exact a1) (by simp only[Dir.lr];exact a2) (Dir.lr _)
 ·rw[h3,XW (g1.trans h.1) (g2.trans h.2)];exact Ed.ext' a1 a2 rfl
 ·rw[h3,XX (by simp only[Dir.rl];exact h1) (by simp only[Dir.rl];exact g1.trans h.1)];exact Ed.ext' (by simp only[Dir.rl];exact a1) (by simp only[Dir.rl];exact a2) (Dir.rl _)
theorem FY{I:Sq}{e:Ed}(_:tY I e):(lq I e.x e.y e.d.left=false∧pd I e=⟨e.x-e.d.right.dx,e.y-e.d.right.dy,e.d.right⟩)∨(lq I e.x e.y e.d.left=true∧lq I e.x e.y e.d.left.left=false∧pd I e=⟨e.x-e.d.dx,e.y-e.d.dy,e.d⟩)∨
  (lq I e.x e.y e.d.left=true∧lq I e.x e.y e.d.left.left=true∧pd I e=⟨e.x-e.d.left.dx,e.y-e.d.left.dy,e.d.left⟩):=by
 rcases bc (b:=lq I e.x e.y e.d.left) with h1|h1
 ·exact .inl ⟨h1,XY h1⟩
 ·rcases bc (b:=lq I e.x e.y e.d.left.left) with h2|h2
  ·exact .inr (.inl ⟨h1,h2,XW h1 h2⟩)
  ·exact .inr (.inr ⟨h1,h2,XX h1 h2⟩)
theorem KX{I:Sq}{e:Ed}(h:tY I e):(pd I e).tx=e.x∧(pd I e).ty=e.y:=by
 rcases FY h with⟨_,h2⟩|⟨_,_,h2⟩|⟨_,_,h2⟩<;>rw[h2]<;>exact⟨by simp only[Ed.tx];omega,by simp only[Ed.ty];omega⟩
theorem Ru{I:Sq}{e:Ed}(h:tY I e):tY I (pd I e):=by
 rcases FY h with⟨h1,h2⟩|⟨h1,h2,h3⟩|⟨h1,h2,h3⟩
 ·obtain⟨g1,g2⟩:=JX I e.x e.y e.d.right
  rw[h2];exact⟨g1.trans (by rw[Dir.rl];exact h.1),g2.trans (by rw[Dir.rl];exact h1)⟩
 ·obtain⟨g1,g2⟩:=JX I e.x e.y e.d
  rw[h3];exact⟨g1.trans h1,g2.trans h2⟩
 ·obtain⟨g1,g2⟩:=JX I e.x e.y e.d.left
  rw[h3];exact⟨g1.trans h2,g2.trans (by rw[Dir.Zm];exact h.2)⟩
def G6(I:Sq)(e:Ed):Bool:=decide ((pd I e).d≠e.d)
def it(I:Sq):Nat→Ed→Ed
 |0,e=>e
 |k+1,e=>it I k (sc I e)
theorem uz(I:Sq)(k:Nat)(e:Ed):it I (k+1) e=sc I (it I k e):=by
 induction k generalizing e with
 |zero=>rfl
 |succ k ih=>exact ih (sc I e)
theorem lh(I:Sq)(j k:Nat)(e:Ed):it I (j+k) e=it I j (it I k e):=by
 induction k generalizing e with
 |zero=>rfl
 |succ k ih=>exact ih (sc I e)
theorem rE{I:Sq}{e:Ed}(h:tY I e):∀k,tY I (it I k e)
 |0=>h
 |k+1=>by rw[uz];exact Jk (rE h k)
theorem Jl{I:Sq}{e f:Ed}(he:tY I e)(hf:tY I f)(h:sc I e=sc I f):e=f:=by rw[←Cr he,h,Cr hf]
theorem Gh{I:Sq}{e f:Ed}(he:tY I e)(hf:tY I f):∀k,it I k e=it I k f→e=f
 |0,h=>h
 |k+1,h=>Jl he hf (Gh (Jk he) (Jk hf) k h)
def wD(I:Sq)(B:List Ed):Prop:=∀e,tY I e→e∈B
theorem Dt{α:Type}[DecidableEq α]:∀{l m:List α},l.Nodup→(∀x∈l,x∈m)→l.length≤m.length
 |[],_,_,_=>Nat.zero_le _
 |x::l,m,hn,h=>by
  obtain⟨h1,h2⟩:=List.nodup_cons.1 hn
  have hx:=h x (by simp)
  have:l.length≤(m.erase x).length:=Dt h2 fun y hy=>(List.mem_erase_of_ne (fun(e:y=x)=>h1 (e▸hy))).2 (h y (by simp[hy]))
  rw[List.length_erase_of_mem hx] at this
  have:=List.length_pos_of_mem hx
  simp only[List.length_cons]
  omega
def walk(I:Sq):Nat→Ed→List Ed
 |0,_=>[]
 |k+1,e=>e::walk I k (sc I e)
theorem rJ(I:Sq):∀(k:Nat) (e:Ed),(walk I k e).length=k
 |0,_=>rfl
 |k+1,e=>by simp[walk,rJ I k]
theorem uD(I:Sq):∀(k:Nat) (e:Ed) (i:Nat),i<k→(walk I k e)[i]?=some (it I i e)
 |0,_,_,h=>absurd h (Nat.not_lt_zero _)
 |k+1,e,0,_=>rfl
 |k+1,e,i+1,h=>by
  simp only[walk,List.getElem?_cons_succ]
  exact uD I k (sc I e) i (by omega)
theorem kN{I:Sq}{k:Nat}{e f:Ed}:f∈walk I k e↔∃i,i<k∧it I i e=f:=by
 constructor
 ·intro h
  obtain⟨i,hi⟩:=List.mem_iff_getElem?.1 h
  have hlt:i<k:=by
   have:=(List.getElem?_eq_some_iff.1 hi).1
   rwa [rJ] at this
  rw[uD I k e i hlt] at hi
  exact⟨i,hlt,by simpa using hi⟩
 ·rintro⟨i,hi,rfl⟩
  exact List.mem_iff_getElem?.2 ⟨i,uD I k e i hi⟩
theorem zz(I:Sq):∀(j k:Nat) (e:Ed),walk I (j+k) e=walk I j e++walk I k (it I j e)
 |0,k,e=>by simp[walk,it]
 |j+1,k,e=>by
  have:j+1+k=(j+k)+1:=by omega
  rw[this]
  simp only[walk,List.cons_append,it]
  rw[zz I j k (sc I e)]
theorem back{I:Sq}{B:List Ed}(hB:wD I B){e:Ed}(he:tY I e):∃n,0<n∧it I n e=e:=by
 cases Classical.em (∃n,0<n∧it I n e=e) with
 |inl h=>exact h
 | inr h=>
  have hne:∀i j,i<j→it I i e≠it I j e:=fun i j hij hh=>by
   refine h ⟨j-i,by omega,?_⟩
   have:it I j e=it I i (it I (j-i) e):=by rw[←lh];congr 1;omega
   rw[this] at hh
   exact(Gh he (rE he _) i hh).symm
  have hnd:(walk I (B.length+1) e).Nodup:=by
   rw[List.Nodup,List.pairwise_iff_getElem]
   intro i j hi hj hij
   rw[rJ] at hi hj
   have h1:=uD I (B.length+1) e i hi
   have h2:=uD I (B.length+1) e j hj
   rw[List.getElem?_eq_getElem (by rw[rJ];exact hi)] at h1
   rw[List.getElem?_eq_getElem (by rw[rJ];exact hj)] at h2
   rw[Option.some.inj h1,Option.some.inj h2]
   exact hne i j hij
  have:=Dt hnd (fun f hf=>by
   obtain⟨i,_,rfl⟩:=kN.1 hf
   exact hB _ (rE he i))
  rw[rJ] at this
  omega
theorem Iw{p:Nat→Prop}:∀n,p n→∃m,p m∧∀k,k<m→¬p k:=by
 intro n
 induction n using Nat.strongRecOn with
 |_ n ih=>
  intro hp
  cases Classical.em (∃k,k<n∧p k) with
  |inl h=>obtain⟨k,h1,h2⟩:=h;exact ih k h1 h2
  |inr h=>exact⟨n,hp,fun k hk hpk=>h ⟨k,hk,hpk⟩⟩
def DY(I:Sq)(e:Ed)(n:Nat):Prop:=0<n∧it I n e=e∧∀k,0<k→k<n→it I k e≠e
theorem per{I:Sq}{B:List Ed}(hB:wD I B){e:Ed}(he:tY I e):∃n,DY I e n:=by
 obtain⟨n,h1,h2⟩:=back hB he
 obtain⟨m,⟨h3,h4⟩,h5⟩:=Iw (p:=fun n=>0<n∧it I n e=e) n ⟨h1,h2⟩
 exact⟨m,h3,h4,fun k h6 h7 h8=>h5 k h7 ⟨h6,h8⟩⟩
theorem DY.uniq{I:Sq}{e:Ed}{n m:Nat}(h:DY I e n)(k:DY I e m):n=m:=by
 rcases Nat.lt_trichotomy n m with h1|h1|h1
 ·exact absurd h.2.1 (k.2.2 n h.1 h1)
 ·exact h1
 ·exact absurd k.2.1 (h.2.2 m k.1 h1)
theorem DY.nodup{I:Sq}{e:Ed}{n:Nat}(he:tY I e)(h:DY I e n):(walk I n e).Nodup:=by
 rw[List.Nodup,List.pairwise_iff_getElem]
 intro i j hi hj hij
 rw[rJ] at hi hj
 have h1:=uD I n e i hi
 have h2:=uD I n e j hj
 rw[List.getElem?_eq_getElem (by rw[rJ];exact hi)] at h1
 rw[List.getElem?_eq_getElem (by rw[rJ];exact hj)] at h2
 rw[Option.some.inj h1,Option.some.inj h2]
 intro hh
 have e1:it I j e=it I i (it I (j-i) e):=by rw[←lh];congr 1;omega
 rw[e1] at hh
 exact h.2.2 (j-i) (by omega) (by omega) (Gh he (rE he _) i hh).symm
theorem DY.mod{I:Sq}{e:Ed}{n:Nat}(h:DY I e n):∀k,it I k e=it I (k%n) e:=by
 intro k
 induction k using Nat.strongRecOn with
 | _ k ih=>
  by_cases hk:k<n
  ·rw[Nat.mod_eq_of_lt hk]
  ·have h1:k=(k-n)+n:=by omega
   have h2:k%n=(k-n)%n:=by rw[h1,Nat.add_mod_right];congr 1;omega
   have h3:it I k e=it I (k-n) e:=by
    conv=>lhs;rw[h1]
    rw[lh,h.2.1]
   rw[h3,h2]
   exact ih (k-n) (by have:=h.1;omega)
theorem DY.shift{I:Sq}{e:Ed}{n:Nat}(he:tY I e)(h:DY I e n)(j:Nat):DY I (it I j e) n:=by
 refine⟨h.1,?_,fun k h1 h2 h3=>?_⟩
 ·rw[←lh,Nat.add_comm,lh,h.2.1]
 ·rw[←lh,Nat.add_comm,lh] at h3
  exact h.2.2 k h1 h2 (Gh (rE he k) he j h3)
end Go.Proofs.YtblmajfbibbiaaaGreatDoor.PX
namespace Go.Proofs.YtblmajfbibbiaaaGreatDoor.PX
def pl(a b:Int×Int):Prop:=a.2<b.2∨(a.2=b.2∧a.1<b.1)
instance (a b:Int×Int):Decidable (pl a b):=inferInstanceAs (Decidable (_∨_))
theorem qD(a:Int×Int):¬pl a a:=by unfold pl;omega
theorem Cq{a b c:Int×Int}(h:pl a b)(k:pl b c):pl a c:=by unfold pl at*;omega
theorem xR(a b:Int×Int):pl a b∨a=b∨pl b a:=by
 obtain⟨a1,a2⟩:=a
 obtain⟨b1,b2⟩:=b
 unfold pl
 simp only[Prod.mk.injEq]
 omega
def Ed.p(e:Ed):Int×Int:=(e.x,e.y)
def A9(I:Sq)(e:Ed):Prop:=tY I e∧∀k,¬pl (it I k e).p e.p
theorem WF{I:Sq}{e:Ed}{n:Nat}(h:DY I e n):∀m,m≤n→0<m→∃j,j<m∧∀k,k<m→¬pl (it I k e).p (it I j e).p:=by
  intro m
  induction m with
  |zero=>intro _ h;omega
  | succ m ih=>
    intro hm _
    by_cases h0:m=0
    · subst h0
      exact ⟨0, by omega, fun k hk => by have:k=0:=by omega
                                         subst this;exact qD _⟩
    · obtain⟨j,h1,h2⟩:=ih (by omega) (by omega)
      by_cases h3:pl (it I m e).p (it I j e).p
      · refine⟨m,by omega,fun k hk h4=>?_⟩
        rcases Nat.lt_or_ge k m with h5|h5
        · exact h2 k h5 (Cq h4 h3)
        · have:k=m:=by omega
          subst this;exact qD _ h4
      · refine⟨j,by omega,fun k hk=>?_⟩
        rcases Nat.lt_or_ge k m with h5|h5
        · exact h2 k h5
        · have:k=m:=by omega
          subst this;exact h3
theorem OV{I:Sq}{e:Ed}{n:Nat}(he:tY I e)(h:DY I e n):∃j,j<n∧A9 I (it I j e):=by
 obtain⟨j,h1,h2⟩:=WF h n (Nat.le_refl _) h.1
 refine⟨j,h1,rE he j,fun k=>?_⟩
 rw[←lh,h.mod]
 exact h2 _ (Nat.mod_lt _ h.1)
theorem A9.pd{I:Sq}{B:List Ed}(hB:wD I B){e:Ed}(h:A9 I e):¬pl (PX.pd I e).p e.p:=by
 obtain⟨n,hn⟩:=per hB h.1
 have:it I (n-1) e=PX.pd I e:=by
  have h1:sc I (it I (n-1) e)=e:=by rw[←uz,show n-1+1=n from by have:=hn.1;omega,hn.2.1]
  have h2:=Cr (rE h.1 (n-1))
  rw[h1] at h2;exact h2.symm
 rw[←this]
 exact h.2 _
theorem A9.ways{I:Sq}{B:List Ed}(hB:wD I B){e:Ed}(h:A9 I e):(e.d= .E∧(PX.pd I e).d= .S)∨(e.d= .N∧(PX.pd I e).d= .W):=by
 have h1:=h.pd hB
 have h2:=h.2 1
 have h3:(sc I e).p=(e.tx,e.ty):=by
  rcases xO h.1 with⟨_,h2⟩|⟨_,_,h2⟩|⟨_,_,h2⟩<;>rw[h2]<;>rfl
 have h4:=KX h.1
 simp only[it] at h2
 rw[h3] at h2
 have h5:¬pl ((PX.pd I e).x,(PX.pd I e).y) e.p:=h1
 unfold Ed.tx at h4 h2
 unfold Ed.ty at h4 h2
 unfold Ed.p at*
 unfold pl at h5 h2
 simp only at h5 h2
 rcases FY h.1 with⟨_,g⟩|⟨_,_,g⟩|⟨_,_,g⟩
 all_goals
  rw[g] at h4 h5 ⊢
  cases hd:e.d<;>rw[hd] at h2 h5 h4<;>simp only[Dir.dx,Dir.dy,Dir.left,Dir.right] at h2 h4 h5 ⊢
  all_goals first|omega|simp
theorem A9.uniq{I:Sq}{B:List Ed}(hB:wD I B){e f:Ed}(he:A9 I e)(hf:A9 I f)(h:e.p=f.p):e=f:=by
 have hx:e.x=f.x:=congrArg Prod.fst h
 have hy:e.y=f.y:=congrArg Prod.snd h
 refine Ed.ext' hx hy ?_
 have h1:=Ru he.1
 have h2:=Ru hf.1
 have k1:=Ed.xu I (PX.pd I e)
 have k2:=Ed.xu I (PX.pd I f)
 rw[(KX he.1).1,(KX he.1).2] at k1
 rw[(KX hf.1).1,(KX hf.1).2] at k2
 have a1:=he.1
 have a2:=hf.1
 unfold tY at h1 h2 a1 a2
 rcases he.ways hB with⟨g1,g2⟩|⟨g1,g2⟩<;>rcases hf.ways hB with⟨g3,g4⟩|⟨g3,g4⟩
 ·rw[g1,g3]
 ·exfalso
  rw[g4] at k2 h2
  rw[g3] at a2
  rw[g2] at k1 h1
  rw[g1] at a1
  rw[hx,hy] at a1 k1
  simp only[Dir.left,Dir.right] at*
  rw[←k1.1] at h1
  have:=a2.2
  rw[a1.1] at this
  cases this
 ·exfalso
  rw[g4] at k2 h2
  rw[g3] at a2
  rw[g2] at k1 h1
  rw[g1] at a1
  rw[hx,hy] at a1 k1
  simp only[Dir.left,Dir.right] at*
  have:=a1.2
  rw[a2.1] at this
  cases this
 ·rw[g1,g3]
theorem A9.TS{I:Sq}{B:List Ed}(hB:wD I B){e:Ed}(h:A9 I e){k:Nat}(hp:(it I k e).p=e.p):it I k e=e:=by
 refine A9.uniq hB ⟨rE h.1 k,fun j=>?_⟩ h hp
 rw[←lh,hp]
 exact h.2 _
theorem A9.GD{I:Sq}{B:List Ed}(hB:wD I B){e:Ed}(h:A9 I e):G6 I e=true:=by
 unfold G6
 rcases h.ways hB with⟨g1,g2⟩|⟨g1,g2⟩<;>rw[g1,g2]<;>rfl
def A7(I:Sq)(k:Nat)(e:Ed):List (Int×Int):=((walk I k e).filter (G6 I)).map Ed.p
theorem EU(I:Sq)(j k:Nat)(e:Ed):A7 I (j+k) e=A7 I j e++A7 I k (it I j e):=by unfold A7;rw[zz,List.filter_append,List.map_append]
def fl:List (Int×Int)→Nat×(Int×Int)→Nat→Nat
 |[],b,_=>b.1
 |p::l,b,i=>if pl p b.2 then fl l (i,p) (i+1) else fl l b (i+1)
def lr(l:List (Int×Int)):List (Int×Int):=let k:=fl l (0,l.headD (0,0)) 0;l.drop k++l.take k
theorem JQ:∀(l:List (Int×Int)) (b:Nat×(Int×Int)) (i:Nat),(∀p∈l,¬pl p b.2)→fl l b i=b.1
 |[],_,_,_=>rfl
 |p::l,b,i,h=>by
  unfold fl
  rw[if_neg (h p (by simp))]
  exact JQ l b (i+1) fun q hq=>h q (by simp[hq])
theorem R5:∀(A:List (Int×Int)) (m:Int×Int) (B:List (Int×Int)) (b:Nat×(Int×Int)) (i:Nat),(∀p∈A,pl m p)→(∀p∈B,¬pl p m)→pl m b.2→fl (A++m::B) b i=i+A.length
 |[],m,B,b,i,_,h2,h3=>by
  show fl (m::B) b i=_
  unfold fl
  rw[if_pos h3,JQ _ _ _ h2];rfl
 |p::A,m,B,b,i,h1,h2,h3=>by
  show fl (p::(A++m::B)) b i=_
  unfold fl
  have hp:=h1 p (by simp)
  have hA:∀q∈A,pl m q:=fun q hq=>h1 q (by simp[hq])
  split
  ·rw[R5 A m B (i,p) (i+1) hA h2 hp];simp only[List.length_cons];omega
  ·rw[R5 A m B b (i+1) hA h2 h3];simp only[List.length_cons];omega
theorem X5{A B:List (Int×Int)}{m:Int×Int}(h1:∀p∈A,pl m p)(h2:∀p∈B,¬pl p m):lr (A++m::B)=m::B++A:=by
 have hk:fl (A++m::B) (0,(A++m::B).headD (0,0)) 0=A.length:=by
  cases A with
  |nil=>
   show fl (m::B) (0,m) 0=0
   rw[JQ]
   intro p hp
   rcases List.mem_cons.1 hp with rfl|hp
   ·exact qD _
   ·exact h2 p hp
  |cons a A=>
   have:=R5 (a::A) m B (0,a) 0 h1 h2 (h1 a (by simp))
   simpa using this
 unfold lr
 simp only[hk]
 rw[List.drop_left,List.take_left]
theorem WG{I:Sq}{B:List Ed}(hB:wD I B){e:Ed}{n:Nat}(he:tY I e)(h:DY I e n){j:Nat}(hj:j<n)(hl:A9 I (it I j e)):lr (A7 I n e)=A7 I n (it I j e):=by
 have e1:A7 I n e=A7 I j e++A7 I (n-j) (it I j e):=by rw[←EU];congr 1;omega
 have e2:A7 I n (it I j e)=A7 I (n-j) (it I j e)++A7 I j e:=by
  have:it I (n-j) (it I j e)=e:=by rw[←lh,show n-j+j=n from by omega,h.2.1]
  have h3:=EU I (n-j) j (it I j e)
  rw[this,show n-j+j=n from by omega] at h3
  exact h3
 obtain⟨k,hk⟩:∃k,n-j=k+1:=⟨n-j-1,by omega⟩
 have e3:A7 I (n-j) (it I j e)=(it I j e).p::A7 I k (sc I (it I j e)):=by
  rw[hk]
  unfold A7
  simp only[walk,List.filter_cons,hl.GD hB,if_true,List.map_cons]
 have all:∀i,¬pl (it I i e).p (it I j e).p:=fun i=>by
  have h4:it I i e=it I (i+(n-j)) (it I j e):=by
   rw[←lh,show i+(n-j)+j=i+n from by omega,lh,h.2.1]
  rw[h4];exact hl.2 _
 rw[e1,e2,e3]
 refine X5 (fun p hp=>?_) (fun p hp=>?_)
 ·obtain⟨f,hf,rfl⟩:=List.mem_map.1 hp
  obtain⟨i,hi,rfl⟩:=kN.1 (List.mem_filter.1 hf).1
  rcases xR (it I j e).p (it I i e).p with h5|h5|h5
  ·exact h5
  ·exfalso
   have h6:it I i e=it I (i+(n-j)) (it I j e):=by
    rw[←lh,show i+(n-j)+j=i+n from by omega,lh,h.2.1]
   have h7:=hl.TS hB (k:=i+(n-j)) (by rw[←h6];exact h5.symm)
   rw[←h6] at h7
   have h8:it I j e=it I i (it I (j-i) e):=by rw[←lh];congr 1;omega
   rw[h8] at h7
   exact h.2.2 (j-i) (by omega) (by omega) (Gh he (rE he _) i h7).symm
  ·exact absurd h5 (all i)
 ·obtain⟨f,hf,rfl⟩:=List.mem_map.1 hp
  obtain⟨i,hi,rfl⟩:=kN.1 (List.mem_filter.1 hf).1
  have:it I i (sc I (it I j e))=it I (i+1) (it I j e):=rfl
  rw[this]
  exact hl.2 _
end Go.Proofs.YtblmajfbibbiaaaGreatDoor.PX
namespace Go.Proofs.YtblmajfbibbiaaaGreatDoor.PX
abbrev Sd:=Ed×Nat
def qR(e:Ed)(i:Nat):Ed:=⟨e.x+i*e.d.dx,e.y+i*e.d.dy,e.d⟩
theorem tH(e:Ed):qR e 0=e:=Ed.ext' (by simp[qR]) (by simp[qR]) rfl
theorem PG{e:Ed}{i j:Nat}(h:qR e i=qR e j):i=j:=by
 have h1:=congrArg Ed.x h
 have h2:=congrArg Ed.y h
 simp only[qR] at h1 h2
 cases hd:e.d<;>rw[hd] at h1 h2<;>simp only[Dir.dx,Dir.dy] at h1 h2<;>omega
theorem JZ(e:Ed)(i:Nat):(qR e i).tx=(qR e (i+1)).x∧(qR e i).ty=(qR e (i+1)).y:=by
 unfold Ed.tx Ed.ty qR
 simp only
 cases e.d<;>simp only[Dir.dx,Dir.dy]<;>omega
theorem MC{I:Sq}{e:Ed}{i:Nat}(h:tY I (qR e (i+1))):sc I (qR e i)=qR e (i+1):=by
 obtain⟨t1,t2⟩:=JZ e i
 rw[XR (e:=qR e i) (by rw[t1,t2];exact h.1) (by rw[t1,t2];exact h.2)]
 exact Ed.ext' t1 t2 rfl
structure oN (I:Sq) (L:List Sd):Prop where
 pos:∀s∈L,0<s.2
 bor:∀s∈L,∀i,i<s.2→tY I (qR s.1 i)
 all:∀e,tY I e→∃s∈L,∃i,i<s.2∧qR s.1 i=e
 once:∀(a b:Nat) (s t:Sd),L[a]?=some s→L[b]?=some t→∀i j:Nat,i<s.2→j<t.2→qR s.1 i=qR t.1 j→a=b
section
variable {I:Sq} {L:List Sd}
theorem oN.fst(h:oN I L){s:Sd}(hs:s∈L):tY I s.1:=by have:=h.bor s hs 0 (h.pos s hs);rwa [tH] at this
theorem oN.Gi(h:oN I L){s:Sd}(hs:s∈L):∀i,i<s.2→it I i s.1=qR s.1 i
 |0,_=>(tH s.1).symm
 |i+1,hi=>by rw[uz,h.Gi hs i (by omega)];exact MC (h.bor s hs (i+1) hi)
def F6(s:Sd):Ed:=qR s.1 (s.2-1)
theorem oN.last(h:oN I L){s:Sd}(hs:s∈L):tY I (F6 s)∧it I s.2 s.1=sc I (F6 s):=by
 have hp:=h.pos s hs
 refine⟨h.bor s hs _ (by omega),?_⟩
 have:s.2=(s.2-1)+1:=by omega
 rw[this,uz,h.Gi hs _ (by omega)];rfl
theorem oN.fin(h:oN I L):∃B,wD I B:=⟨L.flatMap fun s=>(List.range s.2).map fun i=>qR s.1 i,fun e he=>by
 obtain⟨s,hs,i,hi,rfl⟩:=h.all e he
 exact List.mem_flatMap.2 ⟨s,hs,List.mem_map.2 ⟨i,List.mem_range.2 hi,rfl⟩⟩⟩
def Nx(I:Sq)(L:List Sd)(a b:Nat):Prop:=∃s t,L[a]?=some s∧L[b]?=some t∧t.1=sc I (F6 s)
theorem oN.next(h:oN I L){a:Nat}(ha:a<L.length):∃b,b<L.length∧Nx I L a b:=by
 have hs:L[a]?=some L[a]:=List.getElem?_eq_getElem ha
 have hm:L[a]∈L:=List.getElem_mem ha
 obtain⟨h1,h2⟩:=h.last hm
 obtain⟨t,ht,i,hi,he⟩:=h.all _ (Jk h1)
 obtain⟨b,hb⟩:=List.mem_iff_getElem?.1 ht
 refine⟨b,(List.getElem?_eq_some_iff.1 hb).1,L[a],t,hs,hb,?_⟩
 cases i with
 |zero=>rw[tH] at he;exact he
 |succ i=>
  exfalso
  have h3:=h.bor t ht i (by omega)
  have h4:sc I (qR t.1 i)=qR t.1 (i+1):=MC (h.bor t ht (i+1) hi)
  have h5:qR t.1 i=F6 L[a]:=Jl h3 h1 (h4.trans he)
  have hp:=h.pos _ hm
  have h6:=h.once b a t L[a] hb hs i (L[a].2-1) (by omega) (by omega) h5
  subst h6
  rw[hs] at hb
  have:=Option.some.inj hb
  subst this
  have:=PG h5
  omega
theorem Nx.lt{a b:Nat}(h:Nx I L a b):a<L.length∧b<L.length:=by
 obtain⟨s,t,h1,h2,_⟩:=h
 exact⟨(List.getElem?_eq_some_iff.1 h1).1,(List.getElem?_eq_some_iff.1 h2).1⟩
theorem oN.WA(h:oN I L){a b b':Nat}(h1:Nx I L a b)(h2:Nx I L a b'):b=b':=by
 obtain⟨s,t,g1,g2,g3⟩:=h1
 obtain⟨s',t',k1,k2,k3⟩:=h2
 rw[g1] at k1
 have:=Option.some.inj k1
 subst this
 exact h.once b b' t t' g2 k2 0 0 (h.pos t (List.mem_of_getElem? g2)) (h.pos t' (List.mem_of_getElem? k2)) (by rw[tH,tH,g3,k3])
theorem oN.WB(h:oN I L){a a' b:Nat}(h1:Nx I L a b)(h2:Nx I L a' b):a=a':=by
 obtain⟨s,t,g1,g2,g3⟩:=h1
 obtain⟨s',t',k1,k2,k3⟩:=h2
 rw[g2] at k2
 have:=Option.some.inj k2
 subst this
 have p1:=h.pos s (List.mem_of_getElem? g1)
 have p2:=h.pos s' (List.mem_of_getElem? k1)
 exact h.once a a' s s' g1 k1 (s.2-1) (s'.2-1) (by omega) (by omega) (Jl (h.last (List.mem_of_getElem? g1)).1 (h.last (List.mem_of_getElem? k1)).1 (g3.symm.trans k3))
def Cn(I:Sq)(L:List Sd):Nat→List Nat→Prop
 |_,[]=>True
 |a,b::r=>Nx I L a b∧Cn I L b r
def J6(I:Sq)(L:List Sd)(r:List Nat):Prop:=∃a q,r=a::q∧Cn I L a q∧Nx I L (q.getLastD a) a∧r.Nodup
def gm(L:List Sd)(a:Nat):Sd:=L.getD a (⟨0,0,.E⟩,0)
theorem mK{a:Nat}{s:Sd}(h:L[a]?=some s):gm L a=s:=by unfold gm;rw[List.getD_eq_getElem?_getD,h];rfl
def Db(L:List Sd):List Nat→Nat
 |[]=>0
 |a::r=>(gm L a).2+Db L r
def EZ(L:List Sd):Dir→List Nat→List (Int×Int)
 |_,[]=>[]
 |d,a::r=>if d≠(gm L a).1.d then(gm L a).1.p::EZ L (gm L a).1.d r else EZ L (gm L a).1.d r
theorem Lu(h:oN I L){s:Sd}(hs:s∈L):A7 I s.2 s.1=if G6 I s.1=true then[s.1.p] else[]:=by
 obtain⟨k,hk⟩:∃k,s.2=k+1:=⟨s.2-1,by have:=h.pos s hs;omega⟩
 have h0:∀f∈walk I k (sc I s.1),G6 I f=false:=fun f hf=>by
  obtain⟨i,hi,rfl⟩:=kN.1 hf
  have h1:it I i (sc I s.1)=qR s.1 (i+1):=h.Gi hs (i+1) (by omega)
  have h2:pd I (qR s.1 (i+1))=qR s.1 i:=by
   rw[←MC (h.bor s hs (i+1) (by omega))]
   exact Cr (h.bor s hs i (by omega))
  rw[h1]
  unfold G6
  rw[h2]
  exact decide_eq_false (fun hh=>hh rfl)
 have h1:(walk I k (sc I s.1)).filter (G6 I)=[]:=List.filter_eq_nil_iff.2 fun f hf=>by rw[h0 f hf];simp
 unfold A7
 rw[hk]
 simp only[walk,List.filter_cons,h1]
 by_cases hc:G6 I s.1=true
 ·rw[if_pos hc,if_pos hc];rfl
 ·rw[if_neg hc,if_neg hc];rfl
theorem Nk(h:oN I L):∀(q:List Nat) (a:Nat) (s:Sd),L[a]?=some s→Cn I L a q→EZ L (pd I s.1).d (a::q)=A7 I (Db L (a::q)) s.1∧it I (Db L (a::q)) s.1=sc I (F6 (gm L (q.getLastD a)))
 |[],a,s,hs,_=>by
  have hm:=List.mem_of_getElem? hs
  simp only[Db,EZ,mK hs,Nat.add_zero,List.getLastD_nil]
  refine⟨?_,(h.last hm).2⟩
  rw[Lu h hm]
  unfold G6
  simp only[decide_eq_true_eq]
 | b::q,a,s,hs,hc=>by
  have hm:=List.mem_of_getElem? hs
  obtain⟨⟨s',t,g1,g2,g3⟩,hc2⟩:=hc
  rw[hs] at g1
  have:=Option.some.inj g1
  subst this
  have hl:=h.last hm
  have hit:it I s.2 s.1=t.1:=hl.2.trans g3.symm
  have hpd:(pd I t.1).d=s.1.d:=by rw[g3,Cr hl.1];rfl
  obtain⟨i1,i2⟩:=Nk h q b t g2 hc2
  have e1:Db L (a::b::q)=s.2+Db L (b::q):=by simp only[Db,mK hs]
  have e2:EZ L (pd I s.1).d (a::b::q)=(if G6 I s.1=true then[s.1.p] else[])++EZ L s.1.d (b::q):=by
   simp only[EZ,mK hs]
   unfold G6
   simp only[decide_eq_true_eq]
   by_cases hd:(pd I s.1).d≠s.1.d
   ·rw[if_pos hd,if_pos hd];rfl
   ·rw[if_neg hd,if_neg hd];rfl
  refine⟨?_,?_⟩
  ·rw[e2,e1,EU,Lu h hm,hit,←i1,hpd]
  ·rw[e1,Nat.add_comm,lh,hit,i2]
   cases q<;>rfl
theorem Cn.mem:∀{q:List Nat} {a:Nat},Cn I L a q→∀b∈q,b<L.length
 |c::q,a,h,b,hb=>by
  rcases List.mem_cons.1 hb with rfl|hb
  ·exact h.1.lt.2
  ·exact Cn.mem h.2 b hb
theorem Di(h:oN I L):∀(q:List Nat) (a:Nat) (s:Sd),L[a]?=some s→Cn I L a q→∀k,k<Db L (a::q)→∃b t i,b∈a::q∧L[b]?=some t∧i<t.2∧it I k s.1=qR t.1 i∧(b=a→(a::q).Nodup→k=i)
 | q,a,s,hs,hc,k,hk=>by
  have hm:=List.mem_of_getElem? hs
  by_cases h1:k<s.2
  ·exact⟨a,s,k,by simp,hs,h1,h.Gi hm k h1,fun _ _=>rfl⟩
  ·cases q with
   |nil=>simp only[Db,mK hs] at hk;omega
   | cons b q=>
    obtain⟨⟨s',t,g1,g2,g3⟩,hc2⟩:=hc
    rw[hs] at g1
    have:=Option.some.inj g1
    subst this
    have hit:it I s.2 s.1=t.1:=(h.last hm).2.trans g3.symm
    have e1:Db L (a::b::q)=s.2+Db L (b::q):=by simp only[Db,mK hs]
    obtain⟨c,u,i,j1,j2,j3,j4,j5⟩:=Di h q b t g2 hc2 (k-s.2) (by omega)
    refine⟨c,u,i,List.mem_cons_of_mem _ j1,j2,j3,?_,fun e hn=>?_⟩
    ·rw[←j4,←hit,←lh];congr 1;omega
    ·subst e
     exact absurd j1 (List.nodup_cons.1 hn).1
theorem Jq(h:oN I L):∀(q:List Nat) (a:Nat) (s:Sd),L[a]?=some s→Cn I L a q→∀b∈a::q,∀i,i<(gm L b).2→∃k,k<Db L (a::q)∧it I k s.1=qR (gm L b).1 i
 | q,a,s,hs,hc,b,hb,i,hi=>by
  have hm:=List.mem_of_getElem? hs
  rcases List.mem_cons.1 hb with rfl|hb
  ·rw[mK hs] at hi ⊢
   exact⟨i,by simp only[Db,mK hs];omega,h.Gi hm i hi⟩
  ·cases q with
   |nil=>cases hb
   |cons c q=>
    obtain⟨⟨s',t,g1,g2,g3⟩,hc2⟩:=hc
    rw[hs] at g1
    have:=Option.some.inj g1
    subst this
    have hit:it I s.2 s.1=t.1:=(h.last hm).2.trans g3.symm
    have e1:Db L (a::c::q)=s.2+Db L (c::q):=by simp only[Db,mK hs]
    obtain⟨k,k1,k2⟩:=Jq h q c t g2 hc2 b hb i hi
    exact⟨k+s.2,by omega,by rw[lh,hit,k2]⟩
theorem Oh(h:oN I L){a:Nat}{q:List Nat}{s:Sd}(hs:L[a]?=some s)(hc:Cn I L a q)(hn:Nx I L (q.getLastD a) a)(hd:(a::q).Nodup):DY I s.1 (Db L (a::q)):=by
 obtain⟨_,h2⟩:=Nk h q a s hs hc
 obtain⟨u,t,g1,g2,g3⟩:=hn
 rw[hs] at g2
 have:=Option.some.inj g2
 subst this
 rw[mK g1,←g3] at h2
 refine⟨?_,h2,fun k k1 k2 k3=>?_⟩
 ·have:=h.pos s (List.mem_of_getElem? hs)
  simp only[Db,mK hs];omega
 ·obtain⟨b,t,i,j1,j2,j3,j4,j5⟩:=Di h q a s hs hc k k2
  rw[k3] at j4
  have h6:=h.once a b s t hs j2 0 i (h.pos s (List.mem_of_getElem? hs)) j3 (by rw[tH];exact j4)
  subst h6
  rw[hs] at j2
  have:=Option.some.inj j2
  subst this
  have:=j5 rfl hd
  subst this
  rw[←tH s.1] at j4
  have:=PG (e:=s.1) (i:=0) (j:=k) (by rw[tH] at j4 ⊢;exact j4)
  omega
def Md(I:Sq)(e:Ed)(l:List (Int×Int)):Prop:=∃n,DY I e n∧l=A7 I n e
theorem Md.uniq{e:Ed}{l m:List (Int×Int)}(h:Md I e l)(k:Md I e m):l=m:=by
 obtain⟨n,h1,rfl⟩:=h
 obtain⟨n',h2,rfl⟩:=k
 rw[h1.uniq h2]
def oM(L:List Sd)(r:List Nat):List (Int×Int):=lr (EZ L (gm L (r.getLastD 0)).1.d r)
theorem vU(h:oN I L){r:List Nat}(hr:J6 I L r):∃e,A9 I e∧Md I e (oM L r)∧∃b∈r,∃i,i<(gm L b).2∧e=qR (gm L b).1 i:=by
 obtain⟨a,q,rfl,hc,hn,hd⟩:=hr
 obtain⟨B,hB⟩:=h.fin
 have ha:=hn.lt.2
 have hs:L[a]?=some L[a]:=List.getElem?_eq_getElem ha
 have hm:L[a]∈L:=List.getElem_mem ha
 have hp:=Oh h hs hc hn hd
 obtain⟨h1,_⟩:=Nk h q a _ hs hc
 obtain⟨j,hj,hl⟩:=OV (h.fst hm) hp
 have hlast:(gm L ((a::q).getLastD 0)).1.d=(pd I L[a].1).d:=by
  obtain⟨u,t,g1,g2,g3⟩:=hn
  rw[hs] at g2
  have:=Option.some.inj g2
  have e1:(a::q).getLastD 0=q.getLastD a:=by cases q<;>rfl
  rw[e1,mK g1]
  rw[←this] at g3
  rw[g3,Cr (h.last (List.mem_of_getElem? g1)).1];rfl
 refine⟨it I j L[a].1,hl,⟨_,hp.shift (h.fst hm) j,?_⟩,?_⟩
 ·unfold oM
  rw[hlast,h1]
  exact WG hB (h.fst hm) hp hj hl
 ·obtain⟨b,t,i,j1,j2,j3,j4,_⟩:=Di h q a _ hs hc j hj
  exact⟨b,j1,i,by rw[mK j2];exact j3,by rw[mK j2];exact j4⟩
theorem Qc(h:oN I L){r:List Nat}(hr:J6 I L r){e:Ed}(he:A9 I e){b:Nat}(hb:b∈r){i:Nat}(hi:i<(gm L b).2)(hbe:e=qR (gm L b).1 i):Md I e (oM L r):=by
 obtain⟨B,hB⟩:=h.fin
 obtain⟨f,f1,f2,c,c1,k,c2,c3⟩:=vU h hr
 obtain⟨a,q,rfl,hc,hn,hd⟩:=hr
 have ha:=hn.lt.2
 have hs:L[a]?=some L[a]:=List.getElem?_eq_getElem ha
 obtain⟨j,j1,j2⟩:=Jq h q a _ hs hc b hb i hi
 obtain⟨j',j1',j2'⟩:=Jq h q a _ hs hc c c1 k c2
 have hp:=Oh h hs hc hn hd
 have hm:L[a]∈L:=List.getElem_mem ha
 have g1:e=it I (j+(Db L (a::q)-j')) f:=by
  rw[c3,←j2',←lh,show j+(Db L (a::q)-j')+j'=j+Db L (a::q) from by omega,lh,hp.2.1,j2,hbe]
 have g2:f=it I (j'+(Db L (a::q)-j)) e:=by
  rw[hbe,←j2,←lh,show j'+(Db L (a::q)-j)+j=j'+Db L (a::q) from by omega,lh,hp.2.1,j2',c3]
 have g3:e.p=f.p:=by
  have n1:=f1.2 (j+(Db L (a::q)-j'))
  rw[←g1] at n1
  have n2:=he.2 (j'+(Db L (a::q)-j))
  rw[←g2] at n2
  rcases xR e.p f.p with h5|h5|h5
  ·exact absurd h5 n1
  ·exact h5
  ·exact absurd h5 n2
 rw[A9.uniq hB he f1 g3]
 exact f2
end
end Go.Proofs.YtblmajfbibbiaaaGreatDoor.PX
namespace Go.Proofs.YtblmajfbibbiaaaGreatDoor.PX
section
variable {I:Sq} {L:List Sd}
structure yU (I:Sq) (ls:List (List (Int×Int))):Prop where
 is:∀l∈ls,∃e,A9 I e∧Md I e l
 has:∀e,A9 I e→∃l∈ls,Md I e l
 ord:ls.Pairwise fun a b=>pl (a.headD (0,0)) (b.headD (0,0))
theorem Md.head{B:List Ed}(hB:wD I B){e:Ed}{l:List (Int×Int)}(he:A9 I e)(h:Md I e l):∃r,l=e.p::r:=by
 obtain⟨n,h1,rfl⟩:=h
 obtain⟨k,rfl⟩:∃k,n=k+1:=⟨n-1,by have:=h1.1;omega⟩
 unfold A7
 simp only[walk,List.filter_cons,he.GD hB,if_true,List.map_cons]
 exact⟨_,rfl⟩
theorem Md.headD{B:List Ed}(hB:wD I B){e:Ed}{l:List (Int×Int)}(he:A9 I e)(h:Md I e l):l.headD (0,0)=e.p:=by
 obtain⟨r,rfl⟩:=h.head hB he;rfl
theorem zJ:∀{a b:List (List (Int×Int))},a.Pairwise (fun x y=>pl (x.headD (0,0)) (y.headD (0,0)))→b.Pairwise (fun x y=>pl (x.headD (0,0)) (y.headD (0,0)))→(∀x,x∈a↔x∈b)→a=b
 |[],[],_,_,_=>rfl
 |[],y::b,_,_,h=>by have:=(h y).2 (by simp);cases this
 |x::a,[],_,_,h=>by have:=(h x).1 (by simp);cases this
 | x::a,y::b,ha,hb,h=>by
  obtain⟨a1,a2⟩:=List.pairwise_cons.1 ha
  obtain⟨b1,b2⟩:=List.pairwise_cons.1 hb
  have hxy:x=y:=by
   rcases List.mem_cons.1 ((h x).1 (by simp)) with h1|h1
   ·exact h1
   ·rcases List.mem_cons.1 ((h y).2 (by simp)) with h2|h2
    ·exact h2.symm
    ·exact absurd (Cq (a1 y h2) (b1 x h1)) (qD _)
  subst hxy
  congr 1
  refine zJ a2 b2 fun z=>⟨fun hz=>?_,fun hz=>?_⟩
  ·rcases List.mem_cons.1 ((h z).1 (by simp[hz])) with h1|h1
   ·subst h1;exact absurd (a1 z hz) (qD _)
   ·exact h1
  ·rcases List.mem_cons.1 ((h z).2 (by simp[hz])) with h1|h1
   ·subst h1;exact absurd (b1 z hz) (qD _)
   ·exact h1
theorem yU.uniq{a b:List (List (Int×Int))}(ha:yU I a)(hb:yU I b):a=b:=by
 refine zJ ha.ord hb.ord fun l=>⟨fun h=>?_,fun h=>?_⟩
 ·obtain⟨e,h1,h2⟩:=ha.is l h
  obtain⟨m,h3,h4⟩:=hb.has e h1
  rw[h2.uniq h4];exact h3
 ·obtain⟨e,h1,h2⟩:=hb.is l h
  obtain⟨m,h3,h4⟩:=ha.has e h1
  rw[h2.uniq h4];exact h3
structure Ac (I:Sq) (L:List Sd) (rs:List (List Nat)):Prop where
 row:∀r∈rs,J6 I L r
 all:∀a,a<L.length→∃r∈rs,a∈r
 once:rs.Pairwise fun r r'=>∀a∈r,a∉r'
theorem Vo{b i:Nat}(h:i<(gm L b).2):b<L.length:=by
 rcases Nat.lt_or_ge b L.length with h1|h1
 ·exact h1
 ·have:gm L b=(⟨0,0,.E⟩,0):=by unfold gm;rw[List.getD_eq_getElem?_getD,List.getElem?_eq_none h1];rfl
  rw[this] at h;cases h
theorem vZ{b:Nat}(h:b<L.length):L[b]?=some (gm L b):=by
 rw[mK (List.getElem?_eq_getElem h)];exact List.getElem?_eq_getElem h
theorem Ac.heads{rs:List (List Nat)}(hL:oN I L)(h:Ac I L rs):(rs.map (oM L)).Pairwise fun a b=>a.headD (0,0)≠b.headD (0,0):=by
 obtain⟨B,hB⟩:=hL.fin
 rw[List.pairwise_map]
 refine List.Pairwise.imp_of_mem (R:=fun r r'=>∀a∈r,a∉r') (fun{r r'} hr hr' hd heq=>?_) h.once
 obtain⟨e,e1,e2,b,b1,i,b2,b3⟩:=vU hL (h.row r hr)
 obtain⟨f,f1,f2,c,c1,j,c2,c3⟩:=vU hL (h.row r' hr')
 rw[e2.headD hB e1,f2.headD hB f1] at heq
 have:=A9.uniq hB e1 f1 heq
 subst this
 rw[b3] at c3
 have:=hL.once b c _ _ (vZ (Vo b2)) (vZ (Vo c2)) i j b2 c2 c3
 subst this
 exact hd b b1 c1
theorem Ac.is{rs:List (List Nat)}(hL:oN I L)(h:Ac I L rs):∀l∈rs.map (oM L),∃e,A9 I e∧Md I e l:=fun l hl=>by
 obtain⟨r,hr,rfl⟩:=List.mem_map.1 hl
 obtain⟨e,e1,e2,_⟩:=vU hL (h.row r hr)
 exact⟨e,e1,e2⟩
theorem Ac.has{rs:List (List Nat)}(hL:oN I L)(h:Ac I L rs):∀e,A9 I e→∃l∈rs.map (oM L),Md I e l:=fun e he=>by
 obtain⟨s,hs,i,hi,hse⟩:=hL.all e he.1
 obtain⟨b,hb⟩:=List.mem_iff_getElem?.1 hs
 obtain⟨r,hr,hbr⟩:=h.all b (List.getElem?_eq_some_iff.1 hb).1
 exact⟨_,List.mem_map.2 ⟨r,hr,rfl⟩,Qc hL (h.row r hr) he hbr (i:=i) (by rw[mK hb];exact hi) (by rw[mK hb];exact hse.symm)⟩
theorem Ac.outs{rs:List (List Nat)}{ls:List (List (Int×Int))}(hL:oN I L)(h:Ac I L rs)(hp:ls.Perm (rs.map (oM L)))(ho:ls.Pairwise fun a b=>pl (a.headD (0,0)) (b.headD (0,0))):yU I ls:=
 ⟨fun l hl=>h.is hL l (hp.mem_iff.1 hl),fun e he=>by obtain⟨l,h1,h2⟩:=h.has hL e he;exact⟨l,hp.mem_iff.2 h1,h2⟩,ho⟩
theorem P7(e:Ed):(sc I e).p=(e.tx,e.ty):=by
 unfold sc
 by_cases h1:lq I e.tx e.ty e.d=false
 ·rw[if_pos h1];rfl
 ·rw[if_neg h1]
  by_cases h2:lq I e.tx e.ty e.d.right=false
  ·rw[if_pos h2];rfl
  ·rw[if_neg h2];rfl
def Str(I:Sq):List Sd→Ed→Prop
 |[],_=>True
 |s::r,z=>0<s.2∧G6 I s.1=true∧(∀i,i<s.2→it I i s.1=qR s.1 i)∧it I s.2 s.1=(match r with|[]=>z|t::_=>t.1)∧Str I r z
def unit(s:Sd):List Ed:=(List.range s.2).map (qR s.1)
theorem PP{s:Sd}(h:∀i,i<s.2→it I i s.1=qR s.1 i):walk I s.2 s.1=unit s:=by
 apply List.ext_getElem?
 intro i
 by_cases hi:i<s.2
 ·rw[uD I s.2 s.1 i hi,h i hi]
  unfold unit
  rw[List.getElem?_map,List.getElem?_range hi];rfl
 ·rw[List.getElem?_eq_none (by rw[rJ];omega),List.getElem?_eq_none (by unfold unit;simp;omega)]
theorem UO{s:Sd}(h0:0<s.2)(hb:tY I s.1)(hc:G6 I s.1=true)(h:∀i,i<s.2→it I i s.1=qR s.1 i):A7 I s.2 s.1=[s.1.p]:=by
 obtain⟨k,hk⟩:∃k,s.2=k+1:=⟨s.2-1,by omega⟩
 have h1:(walk I k (sc I s.1)).filter (G6 I)=[]:=List.filter_eq_nil_iff.2 fun f hf=>by
  obtain⟨i,hi,rfl⟩:=kN.1 hf
  have h1:it I i (sc I s.1)=qR s.1 (i+1):=h (i+1) (by omega)
  have h2:pd I (qR s.1 (i+1))=qR s.1 i:=by
   rw[←h (i+1) (by omega),←h i (by omega),uz]
   exact Cr (rE hb i)
  rw[h1]
  unfold G6
  rw[h2]
  simp[qR]
 unfold A7
 rw[hk]
 simp only[walk,List.filter_cons,h1,hc,if_true];rfl
theorem stretches(I:Sq):∀(k:Nat) (e:Ed),tY I e→G6 I e=true→G6 I (it I k e)=true→∃sl:List Sd,Str I sl (it I k e)∧(0<k→∃m r,sl=(e,m)::r)∧sl.map (fun s=>s.1.p)=A7 I k e∧walk I k e=sl.flatMap unit:=by
 intro k
 induction k using Nat.strongRecOn with
 | _ k ih=>
  intro e he hc hz
  by_cases h0:k=0
  ·subst h0
   exact⟨[],trivial,fun h=>absurd h (Nat.lt_irrefl 0),rfl,rfl⟩
  ·obtain⟨m,⟨m1,m2⟩,m3⟩:=Iw (p:=fun n=>0<n∧G6 I (it I n e)=true) k ⟨by omega,hz⟩
   have mk:m≤k:=by
    rcases Nat.lt_or_ge k m with h|h
    ·exact absurd ⟨by omega,hz⟩ (m3 k h)
    ·exact h
   have hstr:∀i,i<m→it I i e=qR e i:=by
    intro i
    induction i with
    |zero=>intro _;exact(tH e).symm
    | succ i ihi=>
     intro hi
     have h1:=ihi (by omega)
     have h2:G6 I (it I (i+1) e)=false:=by
      cases hh:G6 I (it I (i+1) e) with
      |false=>rfl
      |true=>exact absurd ⟨by omega,hh⟩ (m3 (i+1) hi)
     have hbi:=rE he i
     have h3:(sc I (it I i e)).d=(it I i e).d:=by
      unfold G6 at h2
      rw[uz,Cr hbi] at h2
      simp only[decide_eq_false_iff_not,ne_eq,Decidable.not_not] at h2
      exact h2.symm
     rw[uz]
     have h4:=P7 (I:=I) (it I i e)
     rw[h1] at h3 h4 ⊢
     obtain⟨t1,t2⟩:=JZ e i
     exact Ed.ext' ((congrArg Prod.fst h4).trans t1) ((congrArg Prod.snd h4).trans t2) h3
   obtain⟨sl,s1,s2,s3,s4⟩:=ih (k-m) (by omega) (it I m e) (rE he m) m2 (by rw[←lh,show k-m+m=k from by omega];exact hz)
   rw[←lh,show k-m+m=k from by omega] at s1
   have ek:k=m+(k-m):=by omega
   refine⟨(e,m)::sl,⟨m1,hc,hstr,?_,s1⟩,fun _=>⟨m,sl,rfl⟩,?_,?_⟩
   ·by_cases hkm:0<k-m
    ·obtain⟨m',r,rfl⟩:=s2 hkm;rfl
    ·have:k=m:=by omega
     subst this
     cases sl with
     |nil=>rfl
     |cons s r=>
      exfalso
      rw[Nat.sub_self] at s3
      cases s3
   ·rw[ek,EU,List.map_cons,s3,UO (s:=(e,m)) m1 he hc hstr];rfl
   ·rw[ek,zz,s4,PP (s:=(e,m)) hstr];rfl
end
end Go.Proofs.YtblmajfbibbiaaaGreatDoor.PX
namespace Go.Proofs.YtblmajfbibbiaaaGreatDoor.PX
section
variable {I:Sq}
def Ip(z:Int×Int):List (Int×Int)→List ((Int×Int)×(Int×Int))
 |[]=>[]
 |x::r=>(x,r.headD z)::Ip z r
theorem WJ{s:Sd}(h0:0<s.2)(h:∀i,i<s.2→it I i s.1=qR s.1 i):(it I s.2 s.1).p=(qR s.1 s.2).p:=by
 obtain⟨k,hk⟩:∃k,s.2=k+1:=⟨s.2-1,by omega⟩
 rw[hk,uz,P7,h k (by omega)]
 obtain⟨t1,t2⟩:=JZ s.1 k
 rw[t1,t2];rfl
theorem JB:∀{sl:List Sd} {z:Ed},Str I sl z→Ip z.p (sl.map fun s=>s.1.p)=sl.map fun s=>(s.1.p,(qR s.1 s.2).p)
 |[],_,_=>rfl
 |s::r,z,⟨h0,_,h2,h3,h4⟩=>by
  rw[List.map_cons,List.map_cons]
  unfold Ip
  rw[JB h4]
  congr 1
  rw[Prod.mk.injEq]
  refine⟨rfl,?_⟩
  rw[←WJ h0 h2,h3]
  cases r with
  |nil=>rfl
  |cons t r=>rfl
def vx(y:Int)(e:Ed):Option Int:=
 match e.d with
 | .N=>if e.y=y then some e.x else none
 | .S=>if e.y=y+1 then some e.x else none
 |_=>none
def Qp(y:Int)(s:(Int×Int)×(Int×Int)):Bool:=decide (s.1.1=s.2.1)&&(decide (min s.1.2 s.2.2≤y)&&decide (y<max s.1.2 s.2.2))
theorem Dm(f:Nat→Option Int)(v:Int):∀(m j:Nat),(∀i,i<m→f i=if i=j then some v else none)→(List.range m).filterMap f=if j<m then[v] else[]
 |0,j,_=>by simp
 | m+1,j,h=>by
  rw[List.range_succ,List.filterMap_append,Dm f v m j fun i hi=>h i (by omega)]
  have hm:=h m (by omega)
  by_cases h1:j<m
  ·rw[if_pos h1,if_pos (by omega)]
   rw[if_neg (by omega)] at hm
   simp[hm]
  ·rw[if_neg h1]
   by_cases h2:m=j
   ·subst h2
    rw[if_pos rfl] at hm
    simp[hm]
   ·rw[if_neg h2] at hm
    rw[if_neg (by omega)]
    simp[hm]
theorem yG(f:Nat→Option Int)(m:Nat)(h:∀i,i<m→f i=none):(List.range m).filterMap f=[]:=by
 rw[List.filterMap_eq_nil_iff]
 intro i hi
 exact h i (List.mem_range.1 hi)
theorem TR(y:Int)(s:Sd)(h0:0<s.2):(unit s).filterMap (vx y)=if Qp y (s.1.p,(qR s.1 s.2).p)=true then[s.1.x] else[]:=by
 unfold unit
 rw[List.filterMap_map]
 have hc:Qp y (s.1.p,(qR s.1 s.2).p)=(decide (s.1.x=s.1.x+s.2*s.1.d.dx)&&(decide (min s.1.y (s.1.y+s.2*s.1.d.dy)≤y)&&decide (y<max s.1.y (s.1.y+s.2*s.1.d.dy)))):=rfl
 rw[hc]
 cases hd:s.1.d
 ·have hv:∀i,(vx y ∘ qR s.1) i=none:=fun i=>by simp only[Function.comp,vx,qR,hd]
  rw[yG _ _ fun i _=>hv i,if_neg]
  simp[Dir.dx];omega
 ·have hv:∀i:Nat,(vx y ∘ qR s.1) i=if s.1.y+i=y then some s.1.x else none:=fun i=>by
   simp only[Function.comp,vx,qR,hd,Dir.dx,Dir.dy]
   rw[Int.mul_one,Int.mul_zero,Int.add_zero]
  simp only[Dir.dx,Dir.dy,Int.mul_zero,Int.add_zero,Int.mul_one]
  by_cases hy:s.1.y≤y∧y<s.1.y+s.2
  ·rw[Dm _ s.1.x s.2 (y-s.1.y).toNat fun i _=>(hv i).trans ?_,if_pos (by omega),if_pos]
   ·have h1:min s.1.y (s.1.y+s.2)≤y:=by omega
    have h2:y<max s.1.y (s.1.y+s.2):=by omega
    simp[h1,h2]
   ·by_cases h1:s.1.y+i=y
    ·rw[if_pos h1,if_pos (by omega)]
    ·rw[if_neg h1,if_neg (by omega)]
  ·rw[yG _ _ fun i hi=>(hv i).trans (if_neg (by omega)),if_neg]
   simp only[Bool.and_eq_true,decide_eq_true_eq,not_and]
   omega
 ·have hv:∀i,(vx y ∘ qR s.1) i=none:=fun i=>by simp only[Function.comp,vx,qR,hd]
  rw[yG _ _ fun i _=>hv i,if_neg]
  simp[Dir.dx];omega
 ·have hv:∀i:Nat,(vx y ∘ qR s.1) i=if s.1.y-i=y+1 then some s.1.x else none:=fun i=>by
   simp only[Function.comp,vx,qR,hd,Dir.dx,Dir.dy]
   have e1:s.1.y+(i:Int)* -1=s.1.y-i:=by omega
   rw[e1,Int.mul_zero,Int.add_zero]
  have e1:∀n:Nat,s.1.y+(n:Int)*Dir.S.dy=s.1.y-n:=fun n=>by simp[Dir.dy];omega
  rw[e1]
  simp only[Dir.dx,Int.mul_zero,Int.add_zero]
  by_cases hy:s.1.y-s.2≤y∧y<s.1.y
  ·rw[Dm _ s.1.x s.2 (s.1.y-1-y).toNat fun i _=>(hv i).trans ?_,if_pos (by omega),if_pos]
   ·have h1:min s.1.y (s.1.y-s.2)≤y:=by omega
    have h2:y<max s.1.y (s.1.y-s.2):=by omega
    simp[h1,h2]
   ·by_cases h1:s.1.y-i=y+1
    ·rw[if_pos h1,if_pos (by omega)]
    ·rw[if_neg h1,if_neg (by omega)]
  ·rw[yG _ _ fun i hi=>(hv i).trans (if_neg (by omega)),if_neg]
   simp only[Bool.and_eq_true,decide_eq_true_eq,not_and]
   omega
structure Xj (I:Sq) (e:Ed) (n:Nat) (l:List (Int×Int)):Prop where
 len:4≤l.length
 ax:∀s∈Ip e.p l,(s.1.1=s.2.1)≠(s.1.2=s.2.2)
 crs:∀y,((Ip e.p l).filter (Qp y)).map (·.1.1)=(walk I n e).filterMap (vx y)
 pts:∀p∈l,∃f,tY I f∧f.p=p
theorem Str.pos:∀{sl:List Sd} {z:Ed},Str I sl z→∀s∈sl,0<s.2∧G6 I s.1=true
 |s::r,z,⟨h0,h1,_,_,h4⟩,t,ht=>by
  rcases List.mem_cons.1 ht with rfl|ht
  ·exact⟨h0,h1⟩
  ·exact Str.pos h4 t ht
theorem HZ(y:Int):∀{sl:List Sd} {z:Ed},Str I sl z→((sl.map fun s=>(s.1.p,(qR s.1 s.2).p)).filter (Qp y)).map (·.1.1)=(sl.flatMap unit).filterMap (vx y)
 |[],_,_=>rfl
 |s::r,z,⟨h0,_,_,_,h4⟩=>by
  rw[List.map_cons,List.filter_cons,List.flatMap_cons,List.filterMap_append,←HZ y h4,TR y s h0]
  by_cases hc:Qp y (s.1.p,(qR s.1 s.2).p)=true
  ·rw[if_pos hc,if_pos hc];rfl
  ·rw[if_neg hc,if_neg hc];rfl
def jK(f:Ed→Int):List Ed→Int
 |[]=>0
 |e::l=>f e+jK f l
theorem E9:∀(n:Nat) (e:Ed),jK (fun e=>e.d.dx) (walk I n e)=(it I n e).x-e.x∧jK (fun e=>e.d.dy) (walk I n e)=(it I n e).y-e.y
 |0,e=>⟨by simp[walk,jK,it],by simp[walk,jK,it]⟩
 |n+1,e=>by
  obtain⟨h1,h2⟩:=E9 n (sc I e)
  have h3:=P7 (I:=I) e
  have h4:(sc I e).x=e.x+e.d.dx:=congrArg Prod.fst h3
  have h5:(sc I e).y=e.y+e.d.dy:=congrArg Prod.snd h3
  simp only[walk,jK,it]
  constructor
  ·rw[h1];omega
  ·rw[h2];omega
theorem Kt{f:Ed→Int}:∀{l:List Ed},(∀e∈l,f e≤0)→(∃e∈l,f e<0)→jK f l<0
 |[],_,⟨_,h,_⟩=>by cases h
 | e::l,h,⟨e',h1,h2⟩=>by
  have hall:∀{l:List Ed},(∀e∈l,f e≤0)→jK f l≤0:=by
   intro l
   induction l with
   |nil=>intro _;exact Int.le_refl _
   |cons a l ih=>
    intro h
    have:=ih fun e he=>h e (by simp[he])
    have:=h a (by simp)
    simp only[jK];omega
  have h3:=h e (by simp)
  have h4:=hall (l:=l) fun e he=>h e (by simp[he])
  simp only[jK]
  rcases List.mem_cons.1 h1 with rfl|h1
  ·omega
  ·have:=Kt (l:=l) (fun e he=>h e (by simp[he])) ⟨e',h1,h2⟩
   omega
theorem Fp(f:Ed→Int):∀l:List Ed,jK (fun e=> - f e) l= - jK f l
 |[]=>rfl
 |e::l=>by simp only[jK];rw[Fp f l];omega
theorem IG{n:Nat}{e:Ed}(h:it I n e=e){f:Ed}(hf:f∈walk I n e):∃g∈walk I n e,g.d=f.d.left.left:=by
 obtain⟨s1,s2⟩:=E9 (I:=I) n e
 rw[h] at s1 s2
 have key:∀F:Ed→Int,jK F (walk I n e)=0→F f<0→∃g∈walk I n e,0<F g:=fun F hF hFf=>by
  cases Classical.em (∃g∈walk I n e,0<F g) with
  |inl h=>exact h
  | inr hno=>
   have:=Kt (f:=F) (l:=walk I n e) (fun g hg=>by
    have:¬0<F g:=fun hh=>hno ⟨g,hg,hh⟩
    omega) ⟨f,hf,hFf⟩
   omega
 have s1':jK (fun e=>e.d.dx) (walk I n e)=0:=by omega
 have s2':jK (fun e=>e.d.dy) (walk I n e)=0:=by omega
 have o1:jK (fun e=> - e.d.dx) (walk I n e)=0:=by rw[Fp];omega
 have o2:jK (fun e=> - e.d.dy) (walk I n e)=0:=by rw[Fp];omega
 cases hd:f.d
 ·obtain⟨g,hg,hp⟩:=key (fun e=> - e.d.dx) o1 (by show - f.d.dx<0;rw[hd];decide)
  refine⟨g,hg,?_⟩
  have hp:0< - g.d.dx:=hp
  cases hgd:g.d<;>rw[hgd] at hp<;>first|rfl|(simp[Dir.dx] at hp)
 ·obtain⟨g,hg,hp⟩:=key (fun e=> - e.d.dy) o2 (by show - f.d.dy<0;rw[hd];decide)
  refine⟨g,hg,?_⟩
  have hp:0< - g.d.dy:=hp
  cases hgd:g.d<;>rw[hgd] at hp<;>first|rfl|(simp[Dir.dy] at hp)
 ·obtain⟨g,hg,hp⟩:=key (fun e=>e.d.dx) s1' (by show f.d.dx<0;rw[hd];decide)
  refine⟨g,hg,?_⟩
  have hp:0<g.d.dx:=hp
  cases hgd:g.d<;>rw[hgd] at hp<;>first|rfl|(simp[Dir.dx] at hp)
 ·obtain⟨g,hg,hp⟩:=key (fun e=>e.d.dy) s2' (by show f.d.dy<0;rw[hd];decide)
  refine⟨g,hg,?_⟩
  have hp:0<g.d.dy:=hp
  cases hgd:g.d<;>rw[hgd] at hp<;>first|rfl|(simp[Dir.dy] at hp)
theorem Wv{n:Nat}{e:Ed}(he:tY I e)(h:DY I e n):pd I e∈walk I n e:=by
 refine kN.2 ⟨n-1,by have:=h.1;omega,?_⟩
 have h1:sc I (it I (n-1) e)=e:=by rw[←uz,show n-1+1=n from by have:=h.1;omega,h.2.1]
 have h2:=Cr (rE he (n-1))
 rw[h1] at h2;exact h2.symm
theorem Ql{l:List Dir}(h:∀d:Dir,d∈l):4≤l.length:=by
 have:=Dt (l:=[Dir.E,.N,.W,.S]) (m:=l) (by decide) fun d _=>h d
 simpa using this
theorem Jp{B:List Ed}(hB:wD I B){e:Ed}(he:A9 I e){n:Nat}(hn:DY I e n):Xj I e n (A7 I n e):=by
 obtain⟨sl,s1,s2,s3,s4⟩:=stretches I n e he.1 (he.GD hB) (by rw[hn.2.1];exact he.GD hB)
 rw[hn.2.1] at s1
 have hnx:Ip e.p (A7 I n e)=sl.map fun s=>(s.1.p,(qR s.1 s.2).p):=by rw[←s3];exact JB s1
 have hdirs:∀d:Dir,d∈sl.map fun s=>s.1.d:=by
  have mem:∀f∈walk I n e,f.d∈sl.map fun s=>s.1.d:=fun f hf=>by
   rw[s4] at hf
   obtain⟨s,hs,hf⟩:=List.mem_flatMap.1 hf
   unfold unit at hf
   obtain⟨i,_,rfl⟩:=List.mem_map.1 hf
   exact List.mem_map.2 ⟨s,hs,rfl⟩
  have m1:e∈walk I n e:=kN.2 ⟨0,hn.1,rfl⟩
  have m2:=Wv he.1 hn
  obtain⟨g1,k1,k2⟩:=IG hn.2.1 m1
  obtain⟨g2,k3,k4⟩:=IG hn.2.1 m2
  have q1:=mem _ m1
  have q2:=mem _ m2
  have q3:=mem _ k1
  have q4:=mem _ k3
  rw[k2] at q3
  rw[k4] at q4
  rcases he.ways hB with⟨w1,w2⟩|⟨w1,w2⟩<;>rw[w1] at q1 q3<;>rw[w2] at q2 q4<;>intro d<;>cases d<;>assumption
 refine⟨?_,fun s hs=>?_,fun y=>?_,fun p hp=>?_⟩
 ·have:=Ql hdirs
  rw[List.length_map] at this
  rw[←s3,List.length_map];exact this
 ·rw[hnx] at hs
  obtain⟨t,ht,rfl⟩:=List.mem_map.1 hs
  have h0:=(s1.pos t ht).1
  show(t.1.x=t.1.x+t.2*t.1.d.dx)≠(t.1.y=t.1.y+t.2*t.1.d.dy)
  cases t.1.d<;>simp only[Dir.dx,Dir.dy]<;>intro hh
  ·have:t.1.x=t.1.x+(t.2:Int)*1:=by rw[hh];omega
   omega
  ·have:t.1.y=t.1.y+(t.2:Int)*1:=by rw[←hh];omega
   omega
  ·have:t.1.x=t.1.x+(t.2:Int)* -1:=by rw[hh];omega
   omega
  ·have:t.1.y=t.1.y+(t.2:Int)* -1:=by rw[←hh];omega
   omega
 ·rw[hnx,HZ y s1,←s4]
 ·unfold A7 at hp
  obtain⟨f,hf,rfl⟩:=List.mem_map.1 hp
  obtain⟨i,_,rfl⟩:=kN.1 (List.mem_filter.1 hf).1
  exact⟨_,rE he.1 i,rfl⟩
end
end Go.Proofs.YtblmajfbibbiaaaGreatDoor.PX
namespace Go.Proofs.YtblmajfbibbiaaaGreatDoor.PX
section
variable {I:Sq}
def cl(x:Int)(l:List Int):Nat:=(l.filter fun z=>decide (z≤x)).length
theorem yU.steps{B:List Ed}(hB:wD I B):∀{ls:List (List (Int×Int))},(∀l∈ls,∃e,A9 I e∧Md I e l)→(ls.Pairwise fun a b=>pl (a.headD (0,0)) (b.headD (0,0)))→
  ∃ws:List (List Ed),ws.length=ls.length∧ws.flatten.Nodup∧(∀(i:Nat) (l:List (Int×Int)) (w:List Ed),ls[i]?=some l→ws[i]?=some w→∃e n,A9 I e∧DY I e n∧l=A7 I n e∧w=walk I n e∧Xj I e n l)∧
   (∀f∈ws.flatten,∃l∈ls,∃e n,A9 I e∧DY I e n∧l=A7 I n e∧f∈walk I n e)∧∀l∈ls,∀e n,A9 I e→DY I e n→l=A7 I n e→∀f∈walk I n e,f∈ws.flatten
 |[],_,_=>⟨[],rfl,by simp,fun i l w h=>by simp at h,fun f hf=>by simp at hf,fun l hl=>by cases hl⟩
 | l::ls,h,hp=>by
  obtain⟨p1,p2⟩:=List.pairwise_cons.1 hp
  obtain⟨ws,w1,w2,w3,w4,w5⟩:=yU.steps hB (ls:=ls) (fun l hl=>h l (by simp[hl])) p2
  obtain⟨e,he,n,hn,hl⟩:=h l (by simp)
  have head:∀{e n} {l:List (Int×Int)},A9 I e→DY I e n→l=A7 I n e→l.headD (0,0)=e.p:=fun he hn hl=>Md.headD hB he ⟨_,hn,hl⟩
  refine⟨walk I n e::ws,by simp[w1],?_,fun i l' w hi hw=>?_,fun f hf=>?_,fun l' hl' e' n' he' hn' hle f hf=>?_⟩
  ·rw[List.flatten_cons]
   refine List.nodup_append.2 ⟨hn.nodup he.1,w2,fun a ha b hb hab=>?_⟩
   subst hab
   obtain⟨l',hl',e',n',he',hn',hle,hf⟩:=w4 a hb
   obtain⟨i,hi,rfl⟩:=kN.1 ha
   obtain⟨j,hj,hij⟩:=kN.1 hf
   have g1:it I (i+(n'-j)) e=e':=by
    rw[Nat.add_comm,lh,←hij,←lh,show n'-j+j=n' from by omega,hn'.2.1]
   have g2:it I (j+(n-i)) e'=e:=by
    rw[Nat.add_comm,lh,hij,←lh,show n-i+i=n from by omega,hn.2.1]
   have hpe:e.p=e'.p:=by
    have q1:=he.2 (i+(n'-j))
    rw[g1] at q1
    have q2:=he'.2 (j+(n-i))
    rw[g2] at q2
    rcases xR e.p e'.p with h5|h5|h5
    ·exact absurd h5 q2
    ·exact h5
    ·exact absurd h5 q1
   have:=p1 l' hl'
   rw[head he hn hl,head he' hn' hle,hpe] at this
   exact qD _ this
  ·cases i with
   |zero=>
    simp at hi hw
    subst hi;subst hw
    exact⟨e,n,he,hn,hl,rfl,by rw[hl];exact Jp hB he hn⟩
   |succ i=>
    simp at hi hw
    exact w3 i l' w hi hw
  ·rw[List.flatten_cons] at hf
   rcases List.mem_append.1 hf with hf|hf
   ·exact⟨l,by simp,e,n,he,hn,hl,hf⟩
   ·obtain⟨l',hl',r⟩:=w4 f hf
    exact⟨l',by simp[hl'],r⟩
  ·rw[List.flatten_cons]
   rcases List.mem_cons.1 hl' with rfl|hl'
   ·have q1:=head he hn hl
    have q2:=head he' hn' hle
    have:=A9.uniq hB he he' (by rw[←q1,←q2])
    subst this
    rw[hn.uniq hn']
    exact List.mem_append_left _ hf
   ·exact List.mem_append_right _ (w5 l' hl' e' n' he' hn' hle f hf)
def Yd(y:Int)(l:List (Int×Int)):List Int:=((Ip (l.headD (0,0)) l).filter (Qp y)).map (·.1.1)
end
end Go.Proofs.YtblmajfbibbiaaaGreatDoor.PX
namespace Go.Proofs.YtblmajfbibbiaaaGreatDoor
open PX
def iA(p:Int×Int):ak:=⟨p.1,p.2⟩
def Jy(p:ak):Int×Int:=(p.X,p.Y)
def rQ(s:Sd):Int×Int:=(qR s.1 s.2).p
def toS(s:Sd):fJ:=⟨iA s.1.p,iA (rQ s)⟩
def Ev(d:Dir):ak:=⟨d.dx,d.dy⟩
theorem Si{d e:Dir}(h:Ev d=Ev e):d=e:=by
 have h1:=congrArg ak.X h
 have h2:=congrArg ak.Y h
 cases d<;>cases e<;>first|rfl|(simp[Ev,Dir.dx] at h1;done)|(simp[Ev,Dir.dy] at h2;done)|(simp[Ev,Dir.dx,Dir.dy] at h1 h2)
def VI(p:Int×Int):Prop:=(-1000000000≤p.1∧p.1≤1000000000)∧(-1000000000≤p.2∧p.2≤1000000000)
structure Ht (L:List Sd):Prop where
 len:L.length≤100000000
 pts:∀s∈L,VI s.1.p∧VI (rQ s)
theorem YQ{n:Nat}(h:0<n):min 1 (max (-1) ((n:Int)*1))=1:=by omega
theorem YP{n:Nat}(h:0<n):min 1 (max (-1) ((n:Int)* -1))= -1:=by omega
theorem Nf{s:Sd}(h:0<s.2)(hl:VI s.1.p∧VI (rQ s)):gI (toS s)=some (Ev s.1.d):=by
 obtain⟨⟨l1,l2⟩,l3,l4⟩:=hl
 have ex:(rQ s).1=s.1.x+s.2*s.1.d.dx:=rfl
 have ey:(rQ s).2=s.1.y+s.2*s.1.d.dy:=rfl
 have e1:(toS s).to_.X-(toS s).from_.X=s.2*s.1.d.dx:=by show(rQ s).1-s.1.x=_;rw[ex];omega
 have e2:(toS s).to_.Y-(toS s).from_.Y=s.2*s.1.d.dy:=by show(rQ s).2-s.1.y=_;rw[ey];omega
 have hx:s.1.p.1=s.1.x:=rfl
 have hy:s.1.p.2=s.1.y:=rfl
 unfold gI jY
 rw[e1,e2,bX (by omega) (by omega),bX (by omega) (by omega),ob,ob]
 congr 1
 unfold Ev
 cases hd:s.1.d<;>simp only[Dir.dx,Dir.dy,Int.mul_zero]<;>first|rw[YQ h];rfl|rw[YP h];rfl
theorem OI(p q:Int×Int):qa (iA p) (iA q)=some (decide (pl p q)):=by
 unfold qa
 congr 1
 rw[Bool.eq_iff_iff,decide_eq_true_eq]
 unfold pl iA
 simp
theorem Yb(p q:Int×Int):jV (iA p) (iA q)=decide (p=q):=by
 rw[Bool.eq_iff_iff,vI]
 unfold iA
 simp[Prod.ext_iff]
theorem VA(d e:Dir):jV (Ev d) (Ev e)=decide (d=e):=by
 rw[Bool.eq_iff_iff,vI,decide_eq_true_eq]
 exact⟨Si,fun h=>by rw[h]⟩
theorem BJ(L:List Sd):∀(q r:List Nat) (d:Dir),EZ L d (q++r)=EZ L d q++EZ L ((q.map fun a=>(gm L a).1.d).getLastD d) r
 |[],r,d=>rfl
 |a::q,r,d=>by
  simp only[List.cons_append,EZ]
  have hl:((a::q).map fun a=>(gm L a).1.d).getLastD d=(q.map fun a=>(gm L a).1.d).getLastD (gm L a).1.d:=by cases q<;>rfl
  rw[hl]
  split
  ·rw[BJ L q r];rfl
  ·exact BJ L q r _
theorem EY(L:List Sd):∀(q:List Nat) (d:Dir),(EZ L d q).length≤q.length
 |[],_=>Nat.le_refl _
 |a::q,d=>by
  have:=EY L q (gm L a).1.d
  simp only[EZ]
  split<;>simp only[List.length_cons]<;>omega
theorem Su(L:List Sd)(q:List Nat)(a:Nat)(d:Dir):EZ L d (q++[a])=EZ L d q++(if((q.map fun a=>(gm L a).1.d).getLastD d)≠(gm L a).1.d then[(gm L a).1.p] else[]):=by
 rw[BJ]
 congr 1
theorem R6:∀(l:List (Int×Int)) (b:Nat×(Int×Int)) (i n:Nat),b.1<n→i+l.length≤n→fl l b i<n
 |[],b,i,n,h,_=>h
 |p::l,b,i,n,h,h'=>by
  simp only[List.length_cons] at h'
  unfold fl
  split
  ·exact R6 l (i,p) (i+1) n (by show i<n;omega) (by omega)
  ·exact R6 l b (i+1) n h (by omega)
def Wq(c:List ak)(k:Nat):Option (List ak):=
 (cut c (k:Int) (c.length:Int)).bind fun YZ=>(Proofs.YtblmajfbibbiaaaGreatDoor.pre c (k:Int)).bind fun YY=>(kD [YZ,YY]).bind fun YI=>some YI
theorem Bw(c:List (Int×Int))(hc:c.length≤100000000):∀(suf q:List (Int×Int)) (m:Nat) (p:Int×Int),c=q++suf→c[m]?=some p→gp (c.map iA) (suf.map iA) q.length (m:Int)=Wq (c.map iA) (fl suf (m,p) q.length)
 |[],q,m,p,h,hm=>by
  show gp _ [] _ _=_
  rw[gp.eq_1];rfl
 | x::suf,q,m,p,h,hm=>by
  show gp _ (iA x::suf.map iA) _ _=_
  have hid:idx (c.map iA) (m:Int)=some (iA p):=by
   unfold idx
   rw[if_pos (by omega),Int.toNat_natCast,List.getElem?_map,hm];rfl
  have hx:c[q.length]?=some x:=by rw[h];simp
  have e1:=Bw c hc suf (q++[x]) q.length x (by rw[h];simp) hx
  have e2:=Bw c hc suf (q++[x]) m p (by rw[h];simp) hm
  rw[List.length_append] at e1 e2
  rw[gp.eq_2,hid,ob,OI,ob]
  unfold fl
  by_cases hp:pl x p
  ·rw[if_pos (by simpa using hp),if_pos hp];exact e1
  ·rw[if_neg (by simpa using hp),if_neg hp];exact e2
theorem UQ{a b:List ak}(h:a.length+b.length≤100000000):kD [a,b]=some (a++b):=by
 unfold kD
 have e1:bF (0+(a.length:Int))=a.length:=by rw[bX (by omega) (by omega)];omega
 have e2:bF ((a.length:Int)+(b.length:Int))=(a.length:Int)+b.length:=bX (by omega) (by omega)
 rw[gz.eq_2,e1,if_neg (by simp),gz.eq_2,e2,if_neg (by simp;omega),gz.eq_1]
 have e3:(Ya ((a.length:Int)+b.length):Option (List ak))=some []:=if_pos ⟨by omega,by omega⟩
 rw[e3,ob,gy.eq_2,lm (by simp;omega),ob,gy.eq_2,lm (by simp;omega),ob,gy.eq_1]
 simp
theorem Uf{c:List ak}{k:Nat}(hc:c.length≤100000000)(hk:k≤c.length):Wq c k=some (c.drop k++c.take k):=by
 unfold Wq
 have e1:cut c (k:Int) (c.length:Int)=some (c.drop k):=by
  unfold cut
  rw[if_pos (by omega)]
  simp
 have e2:Proofs.YtblmajfbibbiaaaGreatDoor.pre c (k:Int)=some (c.take k):=by
  unfold Proofs.YtblmajfbibbiaaaGreatDoor.pre
  rw[if_pos (by omega)]
  simp
 rw[e1,e2,ob,ob,UQ (by simp;omega)];rfl
theorem Fg{I:Sq}{L:List Sd}(hL:oN I L)(hb:Ht L)(row:List Nat)(hr:∀a∈row,a<L.length)(hlen:row.length≤100000000):∀(suf q:List Nat),row=q++suf→
  gM (row.map fun a=>toS (gm L a)) (suf.map fun a=>toS (gm L a)) q.length ((EZ L (gm L (row.getLastD 0)).1.d q).map iA)=gp ((EZ L (gm L (row.getLastD 0)).1.d row).map iA) ((EZ L (gm L (row.getLastD 0)).1.d row).map iA) 0 0
 |[],q,h=>by
  rw[List.append_nil] at h
  subst h
  show gM _ [] _ _=_
  rw[gM.eq_1]
 | a ::suf,q,h=>by
  have hdir:∀b∈row,gI (toS (gm L b))=some (Ev (gm L b).1.d):=fun b hb'=>by
   have hg:=vZ (hr b hb')
   have hm:=List.mem_of_getElem? hg
   exact Nf (hL.pos _ hm) (hb.pts _ hm)
  have hql:q.length≤100000000:=by rw[h] at hlen;simp at hlen;omega
  have hn:0<row.length:=by rw[h];simp;omega
  have hprev:∃b∈row,(md (bF ((bF ((q.length:Int)+((row.map fun a=>toS (gm L a)).length:Int)))-1)) ((row.map fun a=>toS (gm L a)).length:Int)).bind (fun q150=>idx (row.map fun a=>toS (gm L a)) q150)=some (toS (gm L b))∧(gm L b).1.d=(q.map fun a=>(gm L a).1.d).getLastD (gm L (row.getLastD 0)).1.d:=by
   rw[List.length_map,bX (x:=(q.length:Int)+row.length) (by omega) (by omega),bX (by omega) (by omega)]
   have hmd:md ((q.length:Int)+row.length-1) row.length=some (Int.tmod ((q.length:Int)+row.length-1) row.length):=by unfold md;rw[if_neg (by omega)]
   rw[hmd,ob]
   rcases List.eq_nil_or_concat q with hq|⟨q',b,hq⟩
   ·subst hq
    have e1:Int.tmod ((([]:List Nat).length:Int)+row.length-1) row.length=((row.length-1:Nat):Int):=by
     rw[Int.tmod_eq_emod_of_nonneg (by simp;omega),List.length_nil,Int.emod_eq_of_lt (by omega) (by omega)];omega
    have hne:row≠[]:=by rw[h];simp
    have hlast:row[row.length-1]?=some (row.getLastD 0):=by
     rw[List.getLastD_eq_getLast?,List.getLast?_eq_getElem?]
     rw[List.getElem?_eq_getElem (by omega)];rfl
    refine⟨row.getLastD 0,List.mem_of_getElem? hlast,?_,rfl⟩
    rw[e1]
    unfold idx
    rw[if_pos (by omega),Int.toNat_natCast,List.getElem?_map,hlast];rfl
   ·rw[List.concat_eq_append] at hq
    subst hq
    have e1:Int.tmod (((q'++[b]).length:Int)+row.length-1) row.length=(q'.length:Int):=by
     have:((q'++[b]).length:Int)+row.length-1=(q'.length:Int)+row.length:=by simp;omega
     rw[this,Int.tmod_eq_emod_of_nonneg (by omega),Int.add_emod_right,Int.emod_eq_of_lt (by omega) (by rw[h];simp;omega)]
    have hb2:row[q'.length]?=some b:=by rw[h];simp
    refine⟨b,List.mem_of_getElem? hb2,?_,by simp⟩
    rw[e1]
    unfold idx
    rw[if_pos (by omega),Int.toNat_natCast,List.getElem?_map,hb2];rfl
  obtain⟨b,hb1,hb2,hb3⟩:=hprev
  have ih:=Fg hL hb row hr hlen suf (q++[a]) (by rw[h];simp)
  rw[List.length_append,Su] at ih
  show gM _ (toS (gm L a)::suf.map _) _ _=_
  rw[gM.eq_2,hdir a (by rw[h];simp),ob]
  obtain⟨q150,hq1,hq2⟩:=Option.bind_eq_some_iff.1 hb2
  rw[hq1,ob,hq2,ob,hdir b hb1,ob,VA,hb3]
  have hcl:=EY L q (gm L (row.getLastD 0)).1.d
  generalize (q.map fun a=>(gm L a).1.d).getLastD (gm L (row.getLastD 0)).1.d=dp at ih ⊢
  generalize EZ L (gm L (row.getLastD 0)).1.d q=cq at ih hcl ⊢
  by_cases hd:dp=(gm L a).1.d
  ·rw[if_neg (by simp[hd])]
   rw[if_neg (by simpa using hd),List.append_nil] at ih
   exact ih
  ·rw[if_pos (by simp;exact fun hh=>hd hh.symm)]
   rw[if_pos hd,List.map_append] at ih
   rw[lm (by rw[List.length_map];simp;omega),ob]
   exact ih
theorem Nj{I:Sq}{L:List Sd}(hL:oN I L)(hb:Ht L){row:List Nat}(hr:∀a∈row,a<L.length)(hlen:row.length≤100000000)(hne:EZ L (gm L (row.getLastD 0)).1.d row≠[]):qx (row.map fun a=>toS (gm L a))=some ((oM L row).map iA):=by
 unfold qx
 have h1:=Fg hL hb row hr hlen row [] rfl
 rw[List.length_nil] at h1
 have h0:(EZ L (gm L (row.getLastD 0)).1.d []).map iA=[]:=rfl
 rw[h0] at h1
 rw[h1]
 unfold oM lr
 have hcl:=EY L row (gm L (row.getLastD 0)).1.d
 generalize EZ L (gm L (row.getLastD 0)).1.d row=c at hne hcl
 obtain⟨p,r,rfl⟩:=List.exists_cons_of_ne_nil hne
 have h2:=Bw (p::r) (by omega) (p::r) [] 0 p rfl rfl
 rw[List.length_nil] at h2
 have e0:((0:Nat):Int)=0:=rfl
 rw[e0] at h2
 rw[h2]
 have hk:=R6 (p::r) (0,p) 0 (p::r).length (by simp) (by simp)
 rw[Uf (by rw[List.length_map];omega) (by rw[List.length_map];omega)]
 simp only[List.headD_cons,List.map_append,List.map_drop,List.map_take]
open PX
theorem TT{I:Sq}{f e:Ed}(hf:tY I f)(he:tY I e)(hx:e.x=f.tx)(hy:e.y=f.ty)(hne:e≠sc I f):(sc I f).d=f.d.left:=by
 obtain⟨g1,g2⟩:=Ed.xu I f
 have f1:lq I f.tx f.ty f.d.left=true:=g1.trans hf.1
 have f2:lq I f.tx f.ty f.d.left.left=false:=g2.trans hf.2
 obtain⟨e1,e2⟩:=he
 rw[hx,hy] at e1 e2
 rcases xO hf with⟨_,h2⟩|⟨h1,h2,h3⟩|⟨h1,h2,h3⟩
 ·rw[h2]
 ·exfalso
  have hd:e.d=f.d:=by
   generalize f.d=d at f1 f2 h1 h2
   generalize e.d=d' at e1 e2
   cases d<;>cases d'<;>simp only[Dir.left,Dir.right] at* <;>first|rfl|(rw[e1] at f2;cases f2)|(rw[e2] at f1;cases f1)|(rw[e2] at h1;cases h1)|(rw[e1] at h2;cases h2)
  exact hne (by rw[h3];exact Ed.ext' hx hy hd)
 ·exfalso
  have hd:e.d=f.d.right:=by
   generalize f.d=d at f1 f2 h1 h2
   generalize e.d=d' at e1 e2
   cases d<;>cases d'<;>simp only[Dir.left,Dir.right] at* <;>first|rfl|(rw[e1] at f2;cases f2)|(rw[e2] at f1;cases f1)|(rw[e2] at h1;cases h1)|(rw[e2] at h2;cases h2)
  exact hne (by rw[h3];exact Ed.ext' hx hy hd)
theorem Us{I:Sq}{f e:Ed}(he:tY I e)(hx:e.x=f.tx)(hy:e.y=f.ty)(hd:e.d=f.d.left):e=sc I f:=by
 have h2:=he.2
 rw[hx,hy,hd,Dir.lr] at h2
 rw[Wi h2]
 exact Ed.ext' hx hy hd
theorem JF{s:Sd}(h:0<s.2):(F6 s).tx=(rQ s).1∧(F6 s).ty=(rQ s).2∧(F6 s).d=s.1.d:=by
 obtain⟨t1,t2⟩:=JZ s.1 (s.2-1)
 have e:s.2-1+1=s.2:=by omega
 rw[e] at t1 t2
 exact⟨t1,t2,rfl⟩
def xG(L:List Sd)(v:Int×Int):List Int:=((List.range L.length).filter fun a=>decide ((gm L a).1.p=v)).map fun a:Nat=>(a:Int)
theorem zQ{L:List Sd}{v:Int×Int}{j:Int}:j∈xG L v↔∃a,a<L.length∧(gm L a).1.p=v∧j=(a:Int):=by
 unfold xG
 simp only[List.mem_map,List.mem_filter,List.mem_range,decide_eq_true_eq]
 exact⟨fun⟨a,⟨h1,h2⟩,h3⟩=>⟨a,h1,h2,h3.symm⟩,fun⟨a,h1,h2,h3⟩=>⟨a,⟨h1,h2⟩,h3.symm⟩⟩
theorem M7(L:List Sd)(v:Int×Int):(xG L v).Nodup:=by
 unfold xG
 rw[List.Nodup,List.pairwise_map]
 exact(List.nodup_range.filter _).imp fun h hh=>h (by omega)
section
variable {I:Sq} {L:List Sd}
theorem JC(h:oN I L){a b:Nat}(hn:Nx I L a b):(gm L b).1.p=rQ (gm L a):=by
 obtain⟨s,t,h1,h2,h3⟩:=hn
 rw[mK h1,mK h2,h3,P7]
 have hp:=h.pos s (List.mem_of_getElem? h1)
 exact Prod.ext (JF hp).1 (JF hp).2.1
theorem Uz(h:oN I L){a b:Nat}(ha:a<L.length)(hb:b<L.length)(hv:(gm L b).1.p=rQ (gm L a)):(Nx I L a b↔(xG L (rQ (gm L a))).length=1∨(gm L b).1.d=(gm L a).1.d.left):=by
 have ga:=vZ ha
 have gb:=vZ hb
 have ma:=List.mem_of_getElem? ga
 have mb:=List.mem_of_getElem? gb
 obtain⟨t1,t2,t3⟩:=JF (h.pos _ ma)
 have hl:=(h.last ma).1
 have hx:(gm L b).1.x=(F6 (gm L a)).tx:=(congrArg Prod.fst hv).trans t1.symm
 have hy:(gm L b).1.y=(F6 (gm L a)).ty:=(congrArg Prod.snd hv).trans t2.symm
 have fb:=h.fst mb
 obtain⟨b',hb',hn⟩:=h.next ha
 have hm':(b':Int)∈xG L (rQ (gm L a)):=zQ.2 ⟨b',hb',JC h hn,rfl⟩
 have hm:(b:Int)∈xG L (rQ (gm L a)):=zQ.2 ⟨b,hb,hv,rfl⟩
 constructor
 ·intro hab
  have:=h.WA hab hn
  subst this
  cases Classical.em ((gm L b).1.d=(gm L a).1.d.left) with
  |inl hh=>exact .inr hh
  | inr hh=>
   left
   have hall:∀j∈xG L (rQ (gm L a)),j=(b:Int):=fun j hj=>by
    obtain⟨c,hc,hcv,rfl⟩:=zQ.1 hj
    have gc:=vZ hc
    have mc:=List.mem_of_getElem? gc
    obtain⟨s,t,k1,k2,k3⟩:=hab
    rw[ga] at k1
    rw[gb] at k2
    have k1:=Option.some.inj k1
    have k2:=Option.some.inj k2
    subst k1;subst k2
    cases Classical.em ((gm L c).1=sc I (F6 (gm L a))) with
    |inl he=>
     have:=h.WA ⟨_,_,ga,gc,he⟩ ⟨_,_,ga,gb,k3⟩
     rw[this]
    |inr he=>
     exfalso
     have:=TT hl (h.fst mc) ((congrArg Prod.fst hcv).trans t1.symm) ((congrArg Prod.snd hcv).trans t2.symm) he
     rw[←k3,t3] at this
     exact hh this
   have hnd:=M7 L (rQ (gm L a))
   match hq:xG L (rQ (gm L a)),hm,hall,hnd with
   |[x],_,_,_=>rfl
   |x::y::r,_,hall,hnd=>
    exfalso
    have e1:=hall x (by simp)
    have e2:=hall y (by simp)
    rw[e1,e2] at hnd
    simp at hnd
 ·intro hor
  rcases hor with h1|h1
  ·obtain⟨x,hx1⟩:=List.length_eq_one_iff.1 h1
   rw[hx1] at hm hm'
   simp at hm hm'
   have:b=b':=by omega
   rw[this];exact hn
  ·exact⟨_,_,ga,gb,Us fb hx hy (by rw[t3];exact h1)⟩
theorem Iz{κ α:Type}[DecidableEq κ](k:κ)(l:List α)(k':κ):∀m:List (κ×List α),qh (xe m k l) k'=if k=k' then l else qh m k'
 |[]=>by simp[xe,qh]
 | p::m=>by
  unfold xe
  by_cases h:p.1=k
  ·rw[if_pos h]
   by_cases h':k=k'
   ·simp[qh,h']
   ·simp[qh,h,h']
  ·rw[if_neg h]
   simp only[qh]
   rw[Iz k l k' m]
   by_cases h':k=k'
   ·subst h';simp[h]
   ·simp[h']
theorem Ot{p:Int×Int}(h:VI p):Kc p=true:=by
 obtain⟨⟨h1,h2⟩,h3,h4⟩:=h
 unfold Kc X7
 simp;omega
theorem K8(hb:Ht L)(N:Nat):∀(suf q:List Sd) (m:List ((Int×Int)×List Int)),L=q++suf→(∀v,qh m v=((List.range q.length).filter fun a=>decide ((gm L a).1.p=v)).map fun a:Nat=>(a:Int))→
  ∃m',(∀v,qh m' v=xG L v)∧eT N (L.map toS) (suf.map toS) q.length m=(Xq false ((L.map toS).length:Int)).bind fun Y2=>bW N (L.map toS) m' (L.map toS) 0 Y2 []
 |[],q,m,h,hm=>by
  rw[List.append_nil] at h
  subst h
  refine⟨m,hm,?_⟩
  show eT _ _ [] _ _=_
  rw[eT.eq_1]
 | s::suf,q,m,h,hm=>by
  have hg:L[q.length]?=some s:=by rw[h];simp
  have hs:=mK hg
  have hlim:=(hb.pts s (List.mem_of_getElem? hg)).1
  have hlen:=hb.len
  have hql:q.length≤100000000:=by rw[h] at hlen;simp at hlen;omega
  obtain⟨m',h1,h2⟩:=K8 hb N suf (q++[s]) (xe m s.1.p (qh m s.1.p++[(q.length:Int)])) (by rw[h];simp) (fun v=>by
   rw[Iz,List.length_append,List.length_singleton,List.range_succ,List.filter_append,List.map_append,hm v]
   by_cases hv:s.1.p=v
   ·subst hv
    rw[if_pos rfl,hm]
    simp[hs]
   ·rw[if_neg hv]
    simp[hs,hv])
  refine⟨m',h1,?_⟩
  rw[List.length_append] at h2
  show eT _ _ (toS s::suf.map toS) _ _=_
  have e1:ul Kc m ((toS s).from_.X,(toS s).from_.Y)=some (qh m s.1.p):=if_pos (Ot hlim)
  have hkl:(qh m s.1.p).length≤q.length:=by rw[hm,List.length_map];exact Nat.le_trans (List.length_filter_le _ _) (Nat.le_of_eq List.length_range)
  rw[eT.eq_2,e1,ob,lm (by simp;omega),ob]
  exact h2
theorem Ut{s:Sd}(h:0<s.2)(hl:VI s.1.p∧VI (rQ s)):lD (toS s)=some (Ev s.1.d.left):=by
 unfold lD
 rw[Nf h hl,ob]
 congr 1
 unfold Ev
 cases s.1.d<;>simp only[Dir.dx,Dir.dy,Dir.left]<;>rfl
variable {m:List ((Int×Int)×List Int)}
theorem OW(hm:∀v,qh m v=xG L v){s:Sd}(h:VI (rQ s)):ul Kc m ((toS s).to_.X,(toS s).to_.Y)=some (xG L (rQ s)):=by
 show ul Kc m (rQ s)=_
 unfold ul
 rw[if_pos (Ot h),hm]
theorem IV(h:oN I L)(hb:Ht L)(hm:∀v,qh m v=xG L v){a b:Nat}(ha:a<L.length)(hb':b<L.length)(hv:(gm L b).1.p=rQ (gm L a)):
  ∃g,fG (toS (gm L a)) (toS (gm L b)) m=some g∧(g=true↔Nx I L a b):=by
 have ma:=List.mem_of_getElem? (vZ ha)
 have mb:=List.mem_of_getElem? (vZ hb')
 have e1:ul Kc m ((toS (gm L a)).to_.X,(toS (gm L a)).to_.Y)=some (xG L (rQ (gm L a))):=OW hm (hb.pts _ ma).2
 unfold fG
 rw[e1,ob,Nf (h.pos _ mb) (hb.pts _ mb),Ut (h.pos _ ma) (hb.pts _ ma)]
 simp only[ob,VA]
 rw[Uz h ha hb' hv]
 by_cases h1:(xG L (rQ (gm L a))).length=1
 ·rw[if_pos (by simp;omega)]
  exact⟨true,rfl,by simp[h1]⟩
 ·rw[if_neg (by simp;omega)]
  exact⟨_,rfl,by simp[h1]⟩
theorem Iq(h:oN I L)(hb:Ht L)(hm:∀v,qh m v=xG L v){a b:Nat}(ha:a<L.length)(hn:Nx I L a b){u:List Bool}(hu:u.length=L.length)(hub:u[b]?=some false):∀(l:List Int) (i:Nat),(∀j∈l,j∈xG L (rQ (gm L a)))→(b:Int)∈l→
  bU (toS (gm L a)) u (L.map toS) m l i=some (b:Int)
 | j::l,i,hl,hbl=>by
  obtain⟨c,hc,hcv,rfl⟩:=zQ.1 (hl j (by simp))
  obtain⟨g,g1,g2⟩:=IV h hb hm ha hc hcv
  have hid:idx u (c:Int)=some u[c]:=JK (by omega)
  have hid2:idx (L.map toS) (c:Int)=some (toS (gm L c)):=by
   unfold idx
   rw[if_pos (by omega),Int.toNat_natCast,List.getElem?_map,vZ hc];rfl
  rw[bU.eq_2,hid,ob,hid2,ob,g1,ob]
  by_cases hcb:c=b
  ·subst hcb
   have hf:u[c]=false:=by
    have:=List.getElem?_eq_getElem (l:=u) (i:=c) (by omega)
    rw[hub] at this;exact(Option.some.inj this).symm
   rw[hf,if_pos (by rfl),ob,if_pos (g2.2 hn)]
  ·have hg:g=false:=by
    cases hg:g with
    |false=>rfl
    |true=>exact absurd (h.WA (g2.1 hg) hn) hcb
   have hres:∀z:Bool,(if(!z)=true then some g else some false)=some false:=fun z=>by cases z<;>simp[hg]
   rw[hres,ob,if_neg (by simp)]
   refine Iq h hb hm ha hn hu hub l (i+1) (fun j hj=>hl j (by simp[hj])) ?_
   rcases List.mem_cons.1 hbl with hbl|hbl
   ·exact absurd (by omega) hcb
   ·exact hbl
theorem RB(h:oN I L)(hb:Ht L)(hm:∀v,qh m v=xG L v){a b:Nat}(ha:a<L.length)(hn:Nx I L a b){u:List Bool}(hu:u.length=L.length)(hub:u[b]?=some false):fE (toS (gm L a)) m u (L.map toS) m=some (b:Int):=by
 have ma:=List.mem_of_getElem? (vZ ha)
 have e1:ul Kc m ((toS (gm L a)).to_.X,(toS (gm L a)).to_.Y)=some (xG L (rQ (gm L a))):=OW hm (hb.pts _ ma).2
 unfold fE
 rw[e1,ob]
 exact Iq h hb hm ha hn hu hub _ 0 (fun _ hj=>hj) (zQ.2 ⟨b,hn.lt.2,JC h hn,rfl⟩)
end
open PX Go.Sort
section
variable {I:Sq} {L:List Sd}
theorem Pp:∀{q:List Nat} {a c:Nat},Cn I L a q→Nx I L (q.getLastD a) c→Cn I L a (q++[c])
 |[],a,c,_,h=>⟨h,trivial⟩
 |b::q,a,c,⟨h1,h2⟩,h=>⟨h1,Pp h2 (by cases q<;>exact h)⟩
theorem Dv:∀{q:List Nat} {a:Nat},q.getLastD a∈a::q
 |[],a=>by simp
 |b::q,a=>by
  have:(b::q).getLastD a=q.getLastD b:=by cases q<;>rfl
  rw[this]
  exact List.mem_cons_of_mem _ Dv
theorem JU:∀{q:List Nat} {a:Nat},Cn I L a q→(a::q).Nodup→∀c∈q,∃p∈a::q,Nx I L p c∧p≠q.getLastD a
 | b::q,a,⟨h1,h2⟩,hn,c,hc=>by
  have e:(b::q).getLastD a=q.getLastD b:=by cases q<;>rfl
  rw[e]
  obtain⟨n1,n2⟩:=List.nodup_cons.1 hn
  rcases List.mem_cons.1 hc with rfl|hc
  ·exact⟨a,by simp,h1,fun hh=>n1 (by rw[hh];exact Dv)⟩
  ·obtain⟨p,p1,p2,p3⟩:=JU h2 n2 c hc
   exact⟨p,List.mem_cons_of_mem _ p1,p2,p3⟩
theorem Qd(h:oN I L){r:List Nat}(hr:J6 I L r){a b:Nat}(hb:b∈r)(hn:Nx I L a b):a∈r:=by
 obtain⟨i,q,rfl,h1,h2,h3⟩:=hr
 rcases List.mem_cons.1 hb with rfl|hb
 ·rw[h.WB hn h2];exact Dv
 ·obtain⟨p,p1,p2,_⟩:=JU h1 h3 b hb
  rw[h.WB hn p2];exact p1
structure Zh (I:Sq) (L:List Sd) (u:List Bool) (rs:List (List Nat)):Prop where
 len:u.length=L.length
 use:∀a,u[a]?=some true↔∃r∈rs,a∈r
 row:∀r∈rs,J6 I L r
 once:rs.Pairwise fun r r'=>∀a∈r,a∉r'
theorem zM:∀{n:Nat} {l:List Nat},l.Nodup→(∀a∈l,a<n)→l.length≤n
 |0,[],_,_=>Nat.le_refl _
 |0,a::l,_,h=>absurd (h a (by simp)) (Nat.not_lt_zero _)
 | n+1,l,hn,h=>by
  have ih:=zM (n:=n) (l:=l.erase n) (hn.erase n) fun a ha=>by
   obtain⟨h1,h2⟩:=hn.mem_erase_iff.1 ha
   have:=h a h2
   omega
  rw[List.length_erase] at ih
  split at ih<;>omega
theorem not_true{u:List Bool}{a:Nat}(h:a<u.length)(hn:¬u[a]?=some true):u[a]?=some false:=by
 rw[List.getElem?_eq_getElem h] at hn ⊢
 cases hu:u[a] with
 |true=>exact absurd (congrArg some hu) hn
 |false=>rfl
theorem IU:∀{u:List Bool} {b:Nat},u[b]?=some false→(u.set b true).count false+1=u.count false
 |[],b,h=>by simp at h
 |x::u,0,h=>by simp at h;subst h;simp
 |x::u,b+1,h=>by
  have:=IU (u:=u) (b:=b) (by simpa using h)
  simp only[List.set_cons_succ,List.count_cons]
  omega
variable {m:List ((Int×Int)×List Int)}
theorem WO{b:Nat}(h:b<L.length):idx (L.map toS) (b:Int)=some (toS (gm L b)):=by
 unfold idx
 rw[if_pos (by omega),Int.toNat_natCast,List.getElem?_map,vZ h];rfl
theorem KL(h:oN I L)(hb:Ht L)(hm:∀v,qh m v=xG L v){i:Nat}{rs:List (List Nat)}(hrs:∀r∈rs,J6 I L r)(hir:∀r∈rs,i∉r)(out:List (List ak))(k:List Bool→List (List ak)→Option (List (List ak))):
  ∀(fuel:Nat) (q:List Nat) (b:Nat) (u:List Bool) (t:List Nat),q++[b]=i::t→Cn I L i t→(i::t).Nodup→(∀a∈i::t,∀r∈rs,a∉r)→b<L.length→(∀a∈q,a<L.length)→u.length=L.length→(∀a,u[a]?=some true↔(∃r∈rs,a∈r)∨a∈q)→u.count false<fuel→
  ∃(r:List Nat) (u':List Bool),J6 I L r∧i∈r∧(∀a∈r,∀r'∈rs,a∉r')∧(∀a∈r,a<L.length)∧u'.length=L.length∧(∀a,u'[a]?=some true↔(∃r'∈rs,a∈r')∨a∈r)∧r.length≤L.length∧
   iM (L.map toS) m out k (toS (gm L i)) fuel u (q.map fun a=>toS (gm L a)) (b:Int)=iN out k u' (r.map fun a=>toS (gm L a))
 |0,_,_,u,_,_,_,_,_,_,_,_,_,hf=>absurd hf (Nat.not_lt_zero _)
 | fuel+1,q,b,u,t,ht,hcn,hnd,hfree,hbl,hql,hu,huse,hf=>by
  have hlast:t.getLastD i=b:=by
   have e1:(q++[b]).getLastD 0=b:=by simp
   rw[ht] at e1
   have e2:(i::t).getLastD 0=t.getLastD i:=by cases t<;>rfl
   rw[←e2,e1]
  have hbm:b∈i::t:=by rw[←ht];simp
  have him:i∈q++[b]:=by rw[ht];simp
  have hil:i<L.length:=by
   rcases List.mem_append.1 him with h1|h1
   ·exact hql i h1
   ·rw[List.mem_singleton.1 h1];exact hbl
  have hbq:b∉q:=by
   rw[←ht] at hnd
   intro hh
   exact(List.nodup_append.1 hnd).2.2 b hh b (by simp) rfl
  have hub:u[b]?=some false:=not_true (by omega) fun hh=>by
   rcases(huse b).1 hh with⟨r,h1,h2⟩|h1
   ·exact hfree b hbm r h1 h2
   ·exact hbq h1
  have hid:idx u (b:Int)=some false:=by
   unfold idx
   rw[if_pos (by omega),Int.toNat_natCast,hub]
  have hset:sets u (b:Int) true=some (u.set b true):=by
   unfold sets
   rw[if_pos (by omega),Int.toNat_natCast]
  have huse':∀a,(u.set b true)[a]?=some true↔(∃r∈rs,a∈r)∨a∈q++[b]:=fun a=>by
   rw[List.getElem?_set]
   by_cases hab:b=a
   ·subst hab
    rw[if_pos rfl,if_pos (by omega)]
    simp
   ·rw[if_neg hab,huse a]
    have:a∈q++[b]↔a∈q:=by simp;exact fun hh=>absurd hh.symm hab
    rw[this]
  have hql':∀a∈q++[b],a<L.length:=fun a ha=>by
   rcases List.mem_append.1 ha with h1|h1
   ·exact hql a h1
   ·rw[List.mem_singleton.1 h1];exact hbl
  have hqn:q.length≤L.length:=zM (by rw[←ht] at hnd;exact(List.nodup_append.1 hnd).1) hql
  have hqn':(q++[b]).length≤L.length:=zM (by rw[ht];exact hnd) hql'
  have hlen:=hb.len
  rw[iM.eq_2,if_pos (by simp),hid,ob,hset,ob,WO hbl,ob,lm (by rw[List.length_map];simp;omega),ob,ob]
  have hg:∃g,(if(jV (toS (gm L b)).to_ (toS (gm L i)).from_) then((some (toS (gm L b))).bind fun YN=>(fG YN (toS (gm L i)) m).bind fun YD=>some YD) else some false)=some g∧(g=true↔Nx I L b i):=by
   have e1:jV (toS (gm L b)).to_ (toS (gm L i)).from_=decide (rQ (gm L b)=(gm L i).1.p):=Yb _ _
   rw[e1]
   by_cases hp:rQ (gm L b)=(gm L i).1.p
   ·rw[if_pos (by simpa using hp)]
    obtain⟨g,g1,g2⟩:=IV h hb hm hbl hil hp.symm
    refine⟨g,?_,g2⟩
    rw[ob,g1];rfl
   ·rw[if_neg (by simpa using hp)]
    exact⟨false,rfl,⟨fun hh=>(nomatch hh),fun hn=>absurd (JC h hn).symm hp⟩⟩
  obtain⟨g,g1,g2⟩:=hg
  have hmapq:(q.map fun a=>toS (gm L a))++[toS (gm L b)]=(q++[b]).map fun a=>toS (gm L a):=by simp
  rw[g1,ob,hmapq]
  by_cases hgt:g=true
  ·rw[if_pos hgt]
   refine⟨q++[b],u.set b true,?_,him,fun a ha=>hfree a (by rw[←ht];exact ha),hql',by rw[List.length_set];exact hu,huse',hqn',rfl⟩
   rw[ht]
   exact⟨i,t,rfl,hcn,by rw[hlast];exact g2.1 hgt,hnd⟩
  ·rw[if_neg hgt]
   obtain⟨c,hc,hn⟩:=h.next hbl
   have hcr:∀r∈rs,c∉r:=fun r hr hh=>hfree b hbm r hr (Qd h (hrs r hr) hh hn)
   have hcq:c∉i::t:=fun hh=>by
    rcases List.mem_cons.1 hh with rfl|hh
    ·exact hgt (g2.2 hn)
    ·obtain⟨p,p1,p2,p3⟩:=JU hcn hnd c hh
     rw[hlast] at p3
     exact p3 (h.WB p2 hn)
   have huc:(u.set b true)[c]?=some false:=not_true (by rw[List.length_set];omega) fun hh=>by
    rcases(huse' c).1 hh with⟨r,h1,h2⟩|h1
    ·exact hcr r h1 h2
    ·rw[ht] at h1;exact hcq h1
   rw[ob,RB h hb hm hbl hn (by rw[List.length_set];exact hu) huc,ob]
   have hcnt:=IU hub
   exact KL h hb hm hrs hir out k fuel (q++[b]) c (u.set b true) (t++[c]) (by rw[ht];rfl) (Pp hcn (by rw[hlast];exact hn))
    (by rw[←List.cons_append];exact List.nodup_append.2 ⟨hnd,by simp,fun x hx y hy=>by rw[List.mem_singleton.1 hy];exact fun e=>hcq (e▸hx)⟩)
    (fun a ha r hr hh=>by
     rw[←List.cons_append] at ha
     rcases List.mem_append.1 ha with h1|h1
     ·exact hfree a h1 r hr hh
     ·rw[List.mem_singleton.1 h1] at hh;exact hcr r hr hh) hc hql' (by rw[List.length_set];exact hu) huse' (by omega)
theorem Sr(h:oN I L){r:List Nat}(hr:J6 I L r):EZ L (gm L (r.getLastD 0)).1.d r≠[]:=fun hh=>by
 obtain⟨B,hB⟩:=h.fin
 obtain⟨e,e1,e2,_⟩:=vU h hr
 obtain⟨t,ht⟩:=e2.head hB e1
 unfold oM at ht
 rw[hh] at ht
 cases ht
def told(L:List Sd)(rs:List (List Nat)):List (List ak):=(rs.map (oM L)).map (List.map iA)
theorem GK(h:oN I L)(hb:Ht L)(hm:∀v,qh m v=xG L v){N:Nat}(hN:L.length<N):∀(suf q:List Sd) (u:List Bool) (rs:List (List Nat)),L=q++suf→Zh I L u rs→(∀a,a<q.length→∃r∈rs,a∈r)→rs.length≤q.length→
  ∃rs',Ac I L rs'∧bW N (L.map toS) m (suf.map toS) q.length u (told L rs)=Fz (told L rs') dR
 |[],q,u,rs,hL,inv,hall,_=>by
  rw[List.append_nil] at hL
  subst hL
  refine⟨rs,⟨inv.row,hall,inv.once⟩,?_⟩
  show bW _ _ _ [] _ _ _=_
  rw[bW.eq_1]
  show(Fz (told L rs) dR).bind some=_
  cases Fz (told L rs) dR<;>rfl
 | s ::suf,q,u,rs,hL,inv,hall,hrs=>by
  have hg:L[q.length]?=some s:=by rw[hL];simp
  have hil:=(List.getElem?_eq_some_iff.1 hg).1
  have hlen:=hb.len
  have hu:=inv.len
  rw[List.map_cons,bW.eq_2,JK (l:=u) (i:=q.length) (by omega),ob]
  by_cases hx:u[q.length]=true
  ·rw[if_pos hx]
   obtain⟨rs',h1,h2⟩:=GK h hb hm hN suf (q++[s]) u rs (by rw[hL];simp) inv (fun a ha=>by
    rw[List.length_append,List.length_singleton] at ha
    rcases Nat.lt_or_ge a q.length with h3|h3
    ·exact hall a h3
    ·have:a=q.length:=by omega
     subst this
     exact(inv.use _).1 (by rw[List.getElem?_eq_getElem (by omega),hx])) (by simp;omega)
   rw[List.length_append] at h2
   exact⟨rs',h1,h2⟩
  ·rw [if_neg hx]
   have hir:∀r∈rs,q.length∉r:=fun r hr hh=>by
    have:=(inv.use q.length).2 ⟨r,hr,hh⟩
    rw[List.getElem?_eq_getElem (by omega)] at this
    exact hx (Option.some.inj this)
   have hcl:u.count false≤u.length:=List.count_le_length
   obtain⟨r,u',r1,r2,r3,r4,r5,r6,r7,r8⟩:=KL h hb hm inv.row hir (told L rs) (bW N (L.map toS) m (suf.map toS) (q.length+1)) N [] q.length u [] rfl trivial (by simp) (fun a ha r hr=>by
    rw[List.mem_singleton.1 ha];exact hir r hr) hil (fun a ha=>(nomatch ha)) hu (fun a=>by rw[inv.use a];simp) (by omega)
   have e1:gm L q.length=s:=mK hg
   rw[e1] at r8
   rw[List.map_nil] at r8
   rw[r8]
   unfold iN
   have hout:(rs.map (oM L)).map (List.map iA)++[(oM L r).map iA]=told L (rs++[r]):=by unfold told;simp
   rw[Nj h hb r4 (by omega) (Sr h r1),ob,lm (by unfold told;simp;omega),ob]
   show ∃rs',_∧bW N (L.map toS) m (suf.map toS) (q.length+1) u' ((rs.map (oM L)).map (List.map iA)++[(oM L r).map iA])=_
   rw[hout]
   obtain⟨rs',h1,h2⟩:=GK h hb hm hN suf (q++[s]) u' (rs++[r]) (by rw[hL];simp) ⟨r5,fun a=>by
     rw[r6 a]
     constructor
     ·rintro(⟨r',g1,g2⟩|g1)
      ·exact⟨r',by simp[g1],g2⟩
      ·exact⟨r,by simp,g1⟩
     ·rintro⟨r',g1,g2⟩
      rcases List.mem_append.1 g1 with g1|g1
      ·exact .inl ⟨r',g1,g2⟩
      ·rw[List.mem_singleton.1 g1] at g2;exact .inr g2,fun r' hr'=>by
     rcases List.mem_append.1 hr' with g1|g1
     ·exact inv.row r' g1
     ·rw[List.mem_singleton.1 g1];exact r1,List.pairwise_append.2 ⟨inv.once,by simp,fun x hx y hy a ha hh=>by
     rw[List.mem_singleton.1 hy] at hh
     exact r3 a hh x hx ha⟩⟩ (fun a ha=>by
    rw[List.length_append,List.length_singleton] at ha
    rcases Nat.lt_or_ge a q.length with h3|h3
    ·obtain⟨r',g1,g2⟩:=hall a h3
     exact⟨r',by simp[g1],g2⟩
    ·have:a=q.length:=by omega
     subst this
     exact⟨r,by simp,r2⟩) (by simp;omega)
   rw[List.length_append] at h2
   exact⟨rs',h1,h2⟩
theorem WX{l m:List (Int×Int)}{p q p1 q1:Int×Int}{r s:List (Int×Int)}(hl:l=p::p1::r)(hm:m=q::q1::s)(hne:p=q→l=m):dR (l.map iA) (m.map iA)=some (if pl p q then -1 else 1):=by
 subst hl;subst hm
 unfold dR
 have i0:∀(a b:ak) (t:List ak),idx (a::b::t) 0=some a:=fun a b t=>by unfold idx;simp
 have i1:∀(a b:ak) (t:List ak),idx (a::b::t) 1=some b:=fun a b t=>by unfold idx;simp
 simp only[List.map_cons,i0,i1,ob,OI,Yb]
 by_cases h1:pl p q
 ·simp[h1,gN]
 ·simp only[h1,decide_false,Bool.false_eq_true,if_false]
  by_cases h2:p=q
  ·have h3:=hne h2
   simp only[List.cons.injEq] at h3
   obtain⟨_,h4,_⟩:=h3
   subst h4
   simp[h2,qD,gN]
  ·simp[h2,gN]
theorem MN{α β:Type}{f:α→β}:∀{l:List α},l.Pairwise (fun a b=>f a≠f b)→∀a∈l,∀b∈l,f a=f b→a=b
 | x::l,h,a,ha,b,hb,e=>by
  obtain⟨h1,h2⟩:=List.pairwise_cons.1 h
  rcases List.mem_cons.1 ha with ea|ea
  ·rcases List.mem_cons.1 hb with eb|eb
   ·rw[ea,eb]
   ·rw[ea] at e;exact absurd e (h1 b eb)
  ·rcases List.mem_cons.1 hb with eb|eb
   ·rw[eb] at e;exact absurd e.symm (h1 a ea)
   ·exact MN h2 a ea b eb e
theorem QP{l:List (Int×Int)}(h:4≤l.length):∃q r,l=l.headD (0,0)::q::r:=by
 match l,h with
 |p::q::r,_=>exact⟨q,r,rfl⟩
theorem Uq{β:Type}{c:β→β→Option Int}{x y:β}{k:Int}(h:c x y=some k):F5 c x y=decide (k<0):=by unfold F5;rw[h];rfl
theorem Ua{lo:List (List (Int×Int))}(hlen:lo.length≤100000000)(h4:∀l∈lo,4≤l.length)(hh:lo.Pairwise fun a b=>a.headD (0,0)≠b.headD (0,0)):
  ∃ls:List (List (Int×Int)),ls.Perm lo∧(ls.Pairwise fun a b=>pl (a.headD (0,0)) (b.headD (0,0)))∧Fz (lo.map (List.map iA)) dR=some (ls.map (List.map iA)):=by
 have hc:∀a∈lo,∀b∈lo,dR (a.map iA) (b.map iA)=some (if pl (a.headD (0,0)) (b.headD (0,0)) then -1 else 1):=fun a ha b hb=>by
  obtain⟨q,r,e1⟩:=QP (h4 a ha)
  obtain⟨q',r',e2⟩:=QP (h4 b hb)
  exact WX e1 e2 (MN hh a ha b hb)
 have hlt:∀a∈lo,∀b∈lo,F5 dR (a.map iA) (b.map iA)=decide (pl (a.headD (0,0)) (b.headD (0,0))):=fun a ha b hb=>by
  rw[Uq (hc a ha b hb)]
  by_cases hp:pl (a.headD (0,0)) (b.headD (0,0))
  ·rw[if_pos hp,decide_eq_true hp];rfl
  ·rw[if_neg hp,decide_eq_false hp];rfl
 have hmm:∀{x},x∈lo.map (List.map iA)→∃a∈lo,a.map iA=x:=fun hx=>by
  obtain⟨a,h1,h2⟩:=List.mem_map.1 hx;exact⟨a,h1,h2⟩
 have hok:tJ dR (lo.map (List.map iA)):=by
  refine⟨by rw[List.length_map];omega,fun x hx y hy=>?_,fun x hx=>?_,fun x hx y hy z hz g1 g2=>?_,fun x hx y hy z hz g1 g2=>?_⟩
  ·obtain⟨a,ha,rfl⟩:=hmm hx
   obtain⟨b,hb,rfl⟩:=hmm hy
   exact⟨_,hc a ha b hb⟩
  ·obtain⟨a,ha,rfl⟩:=hmm hx
   rw[hlt a ha a ha]
   exact decide_eq_false (qD _)
  ·obtain⟨a,ha,rfl⟩:=hmm hx
   obtain⟨b,hb,rfl⟩:=hmm hy
   obtain⟨c,hc',rfl⟩:=hmm hz
   rw[hlt a ha b hb] at g1
   rw[hlt b hb c hc'] at g2
   rw[hlt a ha c hc']
   exact decide_eq_true (Cq (of_decide_eq_true g1) (of_decide_eq_true g2))
  ·obtain⟨a,ha,rfl⟩:=hmm hx
   obtain⟨b,hb,rfl⟩:=hmm hy
   obtain⟨c,hc',rfl⟩:=hmm hz
   rw[hlt a ha b hb] at g1
   rw[hlt b hb c hc'] at g2
   rw[hlt a ha c hc']
   have g1:=of_decide_eq_false g1
   have g2:=of_decide_eq_false g2
   refine decide_eq_false fun g3=>?_
   rcases xR (b.headD (0,0)) (c.headD (0,0)) with h5|h5|h5
   ·exact g2 h5
   ·rw[←h5] at g3;exact g1 g3
   ·exact g1 (Cq g3 h5)
 have hap:Apart dR (lo.map (List.map iA)):=fun x hx y hy g1 g2=>by
  obtain⟨a,ha,rfl⟩:=hmm hx
  obtain⟨b,hb,rfl⟩:=hmm hy
  rw[hlt a ha b hb] at g1
  rw[hlt b hb a ha] at g2
  have g1:=of_decide_eq_false g1
  have g2:=of_decide_eq_false g2
  rcases xR (a.headD (0,0)) (b.headD (0,0)) with h5|h5|h5
  ·exact absurd h5 g1
  ·rw[MN hh a ha b hb h5]
  ·exact absurd h5 g2
 obtain⟨r,hr⟩:=T9 hok hap
 obtain⟨_,_,hp,hs⟩:=H7 hr
 have hback:∀l:List (Int×Int),(l.map iA).map Jy=l:=fun l=>by rw[List.map_map];exact List.map_id _
 have hforth:∀l:List ak,(l.map Jy).map iA=l:=fun l=>by rw[List.map_map];exact List.map_id _
 have hrr:(r.map (List.map Jy)).map (List.map iA)=r:=by
  rw[List.map_map]
  have:(List.map iA ∘ List.map Jy)=id:=funext hforth
  rw[this,List.map_id]
 have hperm:(r.map (List.map Jy)).Perm lo:=by
  have:=hp.map (List.map Jy)
  rw[List.map_map] at this
  have e:(List.map Jy ∘ List.map iA)=id:=funext hback
  rwa [e,List.map_id] at this
 refine⟨r.map (List.map Jy),hperm,?_,by rw[hrr];exact hr⟩
 rw[←hrr,List.pairwise_map] at hs
 have hd:(r.map (List.map Jy)).Pairwise fun a b=>a.headD (0,0)≠b.headD (0,0):=hperm.symm.pairwise hh fun{a b} g e=>g e.symm
 refine(hs.and hd).imp_of_mem fun{a b} ha hb ⟨g1,g2⟩=>?_
 rw[hlt b (hperm.mem_iff.1 hb) a (hperm.mem_iff.1 ha)] at g1
 have g1:=of_decide_eq_false g1
 rcases xR (a.headD (0,0)) (b.headD (0,0)) with h5|h5|h5
 ·exact h5
 ·exact absurd h5 g2
 ·exact absurd h5 g1
theorem PU(h:oN I L){rs:List (List Nat)}(hr:∀r∈rs,J6 I L r):∀l∈rs.map (oM L),4≤l.length:=fun l hl=>by
 obtain⟨B,hB⟩:=h.fin
 obtain⟨r,h1,rfl⟩:=List.mem_map.1 hl
 obtain⟨e,e1,⟨n,e2,e3⟩,_⟩:=vU h (hr r h1)
 rw[e3]
 exact(Jp hB e1 e2).len
theorem Rm(h:oN I L){rs:List (List Nat)}(hr:Ac I L rs):rs.length≤L.length:=by
 have h1:(rs.map fun r=>r.headD 0).Nodup:=by
  rw[List.Nodup,List.pairwise_map]
  refine List.Pairwise.imp_of_mem (R:=fun r r'=>∀a∈r,a∉r') (fun{r r'} h1 h2 hd he=>?_) hr.once
  obtain⟨a,q,rfl,_⟩:=hr.row r h1
  obtain⟨b,q',rfl,_⟩:=hr.row r' h2
  exact hd a (by simp) (by have:a=b:=he;rw[this];simp)
 have h2:=zM (n:=L.length) h1 fun a ha=>by
  obtain⟨r,g1,rfl⟩:=List.mem_map.1 ha
  obtain⟨b,q,rfl,_,hn,_⟩:=hr.row r g1
  exact hn.lt.2
 rwa [List.length_map] at h2
theorem Sv:∀{q:List Nat} {a:Nat},Cn I L a q→∀p∈a::q,p=q.getLastD a∨∃c∈q,Nx I L p c
 |[],a,_,p,hp=>.inl (by simpa using hp)
 | b::q,a,⟨h1,h2⟩,p,hp=>by
  rcases List.mem_cons.1 hp with rfl|hp
  ·exact .inr ⟨b,by simp,h1⟩
  ·have e:(b::q).getLastD a=q.getLastD b:=by cases q<;>rfl
   rw[e]
   rcases Sv h2 p hp with h3|⟨c,h3,h4⟩
   ·exact .inl h3
   ·exact .inr ⟨c,by simp[h3],h4⟩
theorem MJ(r:List Nat):(oM L r).length≤r.length:=by
 unfold oM lr
 have h1:=EY L r (gm L (r.getLastD 0)).1.d
 rw[List.length_append,List.length_drop,List.length_take]
 omega
theorem Rl(h:oN I L){rs:List (List Nat)}(hr:Ac I L rs):(rs.map (oM L)).flatten.length≤L.length:=by
 have h1:rs.flatten.Nodup:=by
  rw[List.Nodup,List.pairwise_flatten]
  refine⟨fun r hrm=>?_,hr.once.imp (fun{r r'} (hd:∀a∈r,a∉r') x hx y hy (e:x=y)=>hd x hx (by rw[e];exact hy))⟩
  obtain⟨a,q,rfl,_,_,hn⟩:=hr.row r hrm
  exact hn
 have h2:=zM (n:=L.length) h1 fun a ha=>by
  obtain⟨r,hrm,har⟩:=List.mem_flatten.1 ha
  obtain⟨i,q,rfl,hc,hn,_⟩:=hr.row r hrm
  rcases Sv hc a har with e|⟨c,_,hx⟩
  ·rw[e];exact hn.lt.1
  ·exact hx.lt.1
 have h3:∀rs:List (List Nat),(rs.map (oM L)).flatten.length≤rs.flatten.length:=by
  intro rs
  induction rs with
  |nil=>exact Nat.le_refl _
  |cons r rs ih=>
   have:=MJ (L:=L) r
   rw[List.map_cons,List.flatten_cons,List.flatten_cons,List.length_append,List.length_append]
   omega
 exact Nat.le_trans (h3 rs) h2
theorem Ns(h:oN I L)(hb:Ht L){N:Nat}(hN:L.length<N):∃ls,yU I ls∧ls.length≤L.length∧ls.flatten.length≤L.length∧eT N (L.map toS) (L.map toS) 0 []=some (ls.map (List.map iA)):=by
 obtain⟨m',h1,h2⟩:=K8 hb N L [] [] rfl (fun v=>by simp[qh])
 have hlen:=hb.len
 rw[List.length_nil] at h2
 rw[h2]
 have hmk:(Xq false ((L.map toS).length:Int))=some (List.replicate L.length false):=by
  unfold Xq
  rw[if_pos (by simp;omega)]
  simp
 rw[hmk,ob]
 obtain⟨rs,r1,r2⟩:=GK h hb h1 hN L [] (List.replicate L.length false) [] rfl ⟨by simp,fun a=>by simp[List.getElem?_replicate],fun r hr=>(nomatch hr),.nil⟩ (fun a ha=>(nomatch ha)) (Nat.le_refl _)
 rw[List.length_nil] at r2
 have e0:told L []=[]:=rfl
 rw[e0] at r2
 rw[r2]
 have hrl:=Rm h r1
 obtain⟨ls,l1,l2,l3⟩:=Ua (lo:=rs.map (oM L)) (by rw[List.length_map];omega) (PU h r1.row) (r1.heads h)
 exact⟨ls,r1.outs h l1 l2,by rw[l1.length_eq,List.length_map];exact hrl,by rw[l1.flatten.length_eq];exact Rl h r1,l3⟩
end
theorem Lx(zs:List Int)(x:Int):x∈Lib.compact zs↔x∈zs:=by
 unfold Lib.compact Lib.compactUpTo
 constructor
 ·intro h
  obtain⟨j,hj,rfl⟩:=List.mem_map.1 h
  have hj:=List.mem_range.1 (List.mem_filter.1 hj).1
  show zs.toArray[j]! ∈zs
  rw[getElem!_pos zs.toArray j (by simpa using hj)]
  simp
 ·intro h
  have key:∀(j:Nat),(hj:j<zs.length)→∃i,i<zs.length∧Lib.keeps zs.toArray i=true∧zs.toArray[i]! =zs[j]:=by
   intro j
   induction j with
   |zero=>intro hj;exact⟨0,hj,Lib.keeps_lt_one _ 0 (by omega),by rw[getElem!_pos zs.toArray 0 (by simpa using hj)];simp⟩
   | succ j ih=>
    intro hj
    by_cases hk:Lib.keeps zs.toArray (j+1)=true
    ·exact⟨j+1,hj,hk,by rw[getElem!_pos zs.toArray (j+1) (by simpa using hj)];simp⟩
    ·have he:zs.toArray[j+1]! =zs.toArray[j]! :=by
      unfold Lib.keeps at hk
      simp at hk
      simpa using hk
     rw[getElem!_pos zs.toArray (j+1) (by simpa using hj),getElem!_pos zs.toArray j (by simp;omega)] at he
     simp at he
     obtain⟨i,h1,h2,h3⟩:=ih (by omega)
     exact⟨i,h1,h2,by rw[h3,he]⟩
  obtain⟨j,hj,rfl⟩:=List.mem_iff_getElem.1 h
  obtain⟨i,h1,h2,h3⟩:=key j hj
  exact List.mem_map.2 ⟨i,List.mem_filter.2 ⟨List.mem_range.2 h1,h2⟩,h3⟩
theorem GG{zs:List Int}(h:zs.Pairwise fun x y=>x≤y):(Lib.compact zs).Pairwise fun x y=>x<y:=by
 unfold Lib.compact Lib.compactUpTo
 rw[List.pairwise_map]
 have hr:((List.range zs.length).filter (Lib.keeps zs.toArray)).Pairwise (fun i j=>i<j):=(List.pairwise_lt_range).filter _
 refine List.Pairwise.imp_of_mem (fun{i j} hi hj hij=>?_) hr
 have hj1:=List.mem_range.1 (List.mem_filter.1 hj).1
 have hj2:=(List.mem_filter.1 hj).2
 show zs.toArray[i]! <zs.toArray[j]!
 unfold Lib.keeps at hj2
 simp at hj2
 have hne:zs.toArray[j]! ≠zs.toArray[j-1]! :=by
  rcases hj2 with h0|h0
  ·omega
  ·simpa using h0
 rw[getElem!_pos zs.toArray j (by simpa using hj1),getElem!_pos zs.toArray (j-1) (by simp;omega)] at hne
 rw[getElem!_pos zs.toArray j (by simpa using hj1),getElem!_pos zs.toArray i (by simp;omega)]
 simp at hne ⊢
 rw[List.pairwise_iff_getElem] at h
 have a1:zs[j-1]≤zs[j]:=h (j-1) j (by omega) hj1 (by omega)
 have a2:zs[i]≤zs[j-1]:=by
  rcases Nat.lt_or_eq_of_le (show i≤j-1 by omega) with hlt|heq
  ·exact h i (j-1) (by omega) (by omega) hlt
  ·subst heq;exact Int.le_refl _
 omega
def xE(l:List Int):List Int:=Lib.compact (l.mergeSort fun x y=>decide (x≤y))
theorem uG(l:List Int)(x:Int):x∈xE l↔x∈l:=by
 unfold xE
 rw[Lx]
 exact(List.mergeSort_perm l _).mem_iff
theorem sP(l:List Int):(xE l).Pairwise fun x y=>x<y:=by
 unfold xE
 refine GG ?_
 have:=List.pairwise_mergeSort (le:=fun x y:Int=>decide (x≤y)) (fun a b c h1 h2=>by simp at*;omega) (fun a b=>by simp;omega) l
 exact this.imp (by simp)
theorem N9{l:List Int}(h:l.length<4611686018427387904):((G8 l).bind fun y=>WU y)=some (xE l):=by
 unfold G8 WU xE
 rw[if_pos h];rfl
theorem Jh{l:List Int}(h:l.length<4611686018427387904):G8 l=some (l.mergeSort fun x y=>decide (x≤y)):=if_pos h
end Go.Proofs.YtblmajfbibbiaaaGreatDoor
