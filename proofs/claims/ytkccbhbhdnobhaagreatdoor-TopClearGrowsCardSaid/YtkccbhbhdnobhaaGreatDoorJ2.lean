/- Rules of the walks, or plain laws about the plain functions. Conditions: none beyond each theorem's own. -/
import Derived.Test.YtkccbhbhdnobhaaGreatDoorJ1
import Derived.Lib.LazyBuf
import Derived.Shelf.SlSortCmp.NoneTotal
import Derived.Deep.Draws
import Derived.Shelf.Sort.Plain
import Derived.Shelf.Slices.In.SortNone
import Derived.Shelf.Slices.CompactI
import Derived.Maps.Keyed
import Derived.Carry
import Derived.Laws.MakeOwn
import Derived.Laws.OwnMore
import Derived.Shelf.Strings.Builder1
import Derived.Lib.FrozenHead
import Derived.Shelf.Strconv.Itoa3
import Derived.Shelf.Strings.Cut
import Derived.Shelf.Strings.Split
import Derived.Shelf.Strings.SlTrimAscii
import Derived.Shelf.Strconv.Atoi
import Derived.Lib.SmallJoins
namespace Go.Proofs.YtkccbhbhdnobhaaGreatDoor
open Go.RowKit
structure qy (Y:Nat→Prop) (W W':World):Prop where
 os:W'.os=W.os
 tape:W'.tape=W.tape
 output:W'.output=W.output
 size:W.heap.size≤W'.heap.size
 block:∀b,b<W.heap.size→¬Y b→W'.heap[b]?=W.heap[b]?
 drawn:W.drawn≤W'.drawn
section
variable {W W' W'':World} {Y Z:Nat→Prop}
theorem qy.of_below(h:Below W.heap.size W W'):qy Y W W':=⟨h.os,h.tape,h.output,h.size,fun b hb _=>h.block b hb,h.drawn⟩
theorem qy.below(h:qy Y W W')(hY:∀b,¬Y b):Below W.heap.size W W':=⟨h.os,h.tape,h.output,h.size,fun b hb=>h.block b hb (hY b),h.drawn⟩
theorem qy.trans(h:qy Y W W')(k:qy Z W' W'')(hyz:∀b,Y b→Z b):qy Z W W'':=
 ⟨k.os.trans h.os,k.tape.trans h.tape,k.output.trans h.output,Nat.le_trans h.size k.size,fun b hb hz=>(k.block b (Nat.lt_of_lt_of_le hb h.size) hz).trans (h.block b hb (fun hy=>hz (hyz b hy))),Nat.le_trans h.drawn k.drawn⟩
theorem qy.refl(W:World):qy Y W W:=⟨rfl,rfl,rfl,Nat.le_refl _,fun _ _ _=>rfl,Nat.le_refl _⟩
end
theorem Eh{W W' W'':World}(h:Below W.heap.size W W')(k:Below W'.heap.size W' W''):Below W.heap.size W W'':=h.trans (k.mono h.size)
def Nk:Exit→Act→World→Prop:=fun _ _ _=>False
section
variable {P:Program} {ops:Array Oper} {m:Nat} {Y:Nat→Nat→Prop} {L:Array Bool→Act→World→Prop}
def rf(P:Program)(ops:Array Oper)(m:Nat)(Y:Nat→Nat→Prop)(L:Array Bool→Act→World→Prop):Nat→Array Bool→Act→World→Prop
 |0,listed,a,W=>∀W2,Below W.heap.size W W2→L listed a W2
 | f+1,listed,a,W=>Region.ready .any ops listed≠[]∧∀i∈Region.ready .any ops listed,i<m∧∀W2,Below W.heap.size W W2→
   wpOp P ops Nk i (fun a' W'=>qy (Y i) W2 W'∧rf P ops m Y L f (listed.setIfInBounds i true) a' W') a W2
theorem rf.later:∀{f:Nat} {listed:Array Bool} {a:Act} {W W2:World},rf P ops m Y L f listed a W→Below W.heap.size W W2→rf P ops m Y L f listed a W2
 |0,_,_,_,_,h,hb=>fun W3 h3=>h W3 (Eh hb h3)
 |_+1,_,_,_,_,h,hb=>⟨h.1,fun i hi=>⟨(h.2 i hi).1,fun W3 h3=>(h.2 i hi).2 W3 (Eh hb h3)⟩⟩
theorem GY{Q Q':Exit→Act→World→Prop}{i:Nat}{a:Act}{w:World}{K:Act→World→Prop}(hQ:∀e a w,Q e a w→Q' e a w)(hL:¬LetsOut Q)(hh:wpOp P ops Q i K a w):wpOp P ops Q' i K a w:=by
 unfold wpOp at*
 split
 ·simpa[*] using hh
 ·rename_i o ho
  simp only[ho] at hh
  split
  ·rename_i hw
   simp only[hw,if_true] at hh
   rcases hh with hh|hh
   ·left
    unfold Oper.wp at*
    generalize (execOp a.eval o).run P w=r at*
    cases r with
    | ok n w'=>
     cases n<;>simp only[Oper.upon] at hh ⊢ <;>
      first
       |exact hh
       |exact Calls.mono hh (fun e w'' he=>by cases e<;>first|exact he|exact hQ _ _ _ he|exact absurd he hL)
       |exact Rows.mono hh (fun _ _ he=>he)
    |halt x w'=>cases x<;>simp only[Oper.upon] at hh ⊢ <;>first|exact hQ _ _ _ hh|exact hh
   ·exact absurd hh.2 hL
  ·rename_i hw;simp only[hw] at hh;simpa using hh
theorem EI:¬LetsOut Nk:=by
 intro h
 unfold LetsOut Nk at h
 first|exact h|exact h _ _|simp at h
theorem rf.run{g:Nat}{Q:Exit→Act→World→Prop}(hL:∀listed a w,L listed a w→wpAny P .any ops Q g listed a w):
  ∀(f:Nat) (listed:Array Bool) (a:Act) (W:World),rf P ops m Y L f listed a W→wpAny P .any ops Q (f+g) listed a W
 |0,listed,a,W,h=>by rw[Nat.zero_add];exact hL _ _ _ (h W (Below.refl _ _))
 |f+1,listed,a,W,h=>by
  rw[Nat.add_right_comm]
  exact⟨fun e=>absurd e h.1,fun i hi=>GY (Q:=Nk) (fun _ _ _ h=>h.elim) EI (wpOp_mono (fun a' W' hh=>rf.run hL f _ a' W' hh.2) ((h.2 i hi).2 W (Below.refl _ _)))⟩
theorem JB{j:Nat}{oi oj:Oper}{v:Value}{Yp:Act→Prop}(hj:ops[j]?=some oj)(hap:oi.apart ops oj=true)
  (hsj:∀cs b,oj.op≠ .select cs b) (keep:∀a u,Yp a→Yp (a.put oj.dst u)) (keepD:∀a d,Yp a→Yp {a with defers:=d::a.defers})
  {K:Act→World→Prop} {a:Act} {w:World} (hy:Yp a) (h:wpOp P ops Nk j K (a.put oi.dst v) w):
  wpOp P ops Nk j (fun a' w'=>Yp a'∧K (a'.put oi.dst v) w') a w:=by
 obtain⟨h1,h2,h3⟩:=Oper.apart_spec hap
 unfold wpOp at*
 simp only[hj] at*
 rw[wanted_put oj a oi.dst v h1] at h
 split
 ·rename_i hw
  simp only[hw,if_true] at h
  rcases h with h|⟨hasks,hlets⟩
  case inr=>exact absurd hlets EI
  refine .inl ?_
  unfold Oper.wp at*
  rw[execOp_put oj hsj a oi.dst v h1] at h
  generalize (execOp a.eval oj).run P w=r at*
  cases r with
  | ok n w'=>
   cases n<;>simp only[Oper.upon] at h ⊢
   case value u=>exact⟨keep a u hy,by rw[←Act.put_comm a v u h2];exact h⟩
   case skip=>exact⟨keep a _ hy,by rw[←Act.put_comm a v undef h2];exact h⟩
   case defer d=>
    refine⟨keep _ _ (keepD _ d hy),?_⟩
    rw[←Act.put_comm _ v undef h2,←Act.put_defers]
    exact h
   case enter f args=>
    refine Calls.mono h fun e w'' he=>?_
    cases e with
    |returned u=>exact⟨keep a u hy,by rw[←Act.put_comm a v u h2];exact he⟩
    |panicked c=>exact he.elim
    |outgrown=>exact absurd he EI
   case row row args=>exact Rows.mono h fun u w'' he=>⟨keep a u hy,by rw[←Act.put_comm a v u h2];exact he⟩
  |halt x w'=>
   cases x<;>simp only[Oper.upon] at h ⊢
   case panic u=>exact h.elim
 ·rename_i hw
  simp only[hw] at h
  exact⟨keep a _ hy,by rw[←Act.put_comm a v undef h2];exact h⟩
theorem rf.first{i:Nat}{oi:Oper}{v:Value}{Z:Nat→Prop}(hi:ops[i]?=some oi)(hsel:Region.noSelect ops=true)(hs:m=ops.size∨Region.sinkB .any ops m=true∧Region.chainB .any ops m=true)
  (him:i<m) (hdone:∀listed a W,L listed a W→∀j∈Region.ready .any ops listed,m≤j):
  ∀(f:Nat) (listed:Array Bool) (a:Act) (W:World),HeadInv .any ops m listed→i∈Region.ready .any ops listed→
   (∀W',qy Z W W'→YieldsIn P ops (fun W''=>Below W'.heap.size W' W'') oi v a)→
   (∀j oj,ops[j]?=some oj→j≠i→listed.getD j true=false→(∀e∈oj.after,Region.binds .any e=true→e.on≠i)→oi.apart ops oj=true∧∀b,Y j b→Z b)→
   rf P ops m Y L f (listed.setIfInBounds i true) (a.put oi.dst v) W→rf P ops m Y L (f+1) listed a W:=by
 have nosel:=Region.noSelect_spec hsel
 have hsz:∀{listed:Array Bool} {j:Nat},j∈Region.ready .any ops listed→j<ops.size:=fun hj=>by
  obtain⟨_,_,h,_⟩:=mem_ready.1 hj
  exact(Array.getElem?_eq_some_iff.1 h).1
 intro f
 induction f with
 | zero=>
  intro listed a W inv hr hy _ H
  refine⟨fun e=>(by rw[e] at hr;cases hr),fun j hj=>?_⟩
  have hjn:j<m:=Nat.lt_of_not_le fun h=>hs.elim (fun e=>by have:=hsz hj;omega) (fun⟨hs,hc⟩=>tail_waits hs hc (Nat.lt_of_le_of_lt h (hsz hj)) inv _ i rfl him (mem_ready.1 hr).1 j h hj)
  by_cases e:j=i
  ·subst e
   exact⟨hjn,fun W2 h2=>wpOp_of_qOp (C:=fun W''=>Below W2.heap.size W2 W'') (Below.refl _ _) (fun a' W' hb (hh:rf P ops m Y L 0 _ a' W2)=>⟨qy.of_below hb,hh.later hb⟩) ((hy W2 (qy.of_below h2)).qOp hi (H.later h2))⟩
  ·exact absurd (hdone _ _ _ (H W (Below.refl _ _)) j (ready_mono hj e)) (by omega)
 | succ f ih=>
  intro listed a W inv hr hy hfree H
  refine⟨fun e=>(by rw[e] at hr;cases hr),fun j hj=>?_⟩
  have hjn:j<m:=Nat.lt_of_not_le fun h=>hs.elim (fun e=>by have:=hsz hj;omega) (fun⟨hs,hc⟩=>tail_waits hs hc (Nat.lt_of_le_of_lt h (hsz hj)) inv _ i rfl him (mem_ready.1 hr).1 j h hj)
  by_cases e:j=i
  ·subst e
   exact⟨hjn,fun W2 h2=>wpOp_of_qOp (C:=fun W''=>Below W2.heap.size W2 W'') (Below.refl _ _) (fun a' W' hb (hh:rf P ops m Y L (f+1) _ a' W2)=>⟨qy.of_below hb,hh.later hb⟩) ((hy W2 (qy.of_below h2)).qOp hi (H.later h2))⟩
  refine⟨hjn,fun W2 h2=>?_⟩
  obtain⟨hun,oj,hoj,hall⟩:=mem_ready.1 hj
  have hnw:∀x∈oj.after,Region.binds .any x=true→x.on≠i:=fun x hx hb he=>by
   have h1:=hall x hx hb
   rw[he,getD_both (mem_ready.1 hr).1] at h1
   cases h1
  obtain⟨hap,hYZ⟩:=hfree j oj hoj e hun hnw
  obtain⟨_,_,h3⟩:=Oper.apart_spec hap
  have hq:=JB (Yp:=fun a'=>∀W',qy Z W W'→YieldsIn P ops (fun W''=>Below W'.heap.size W' W'') oi v a') hoj hap (fun cs b=>nosel j oj cs b hoj)
   (fun a u hh W' hW'=>(hh W' hW').of_same (execOp_put oi (fun cs b=>nosel i oi cs b hi) a oj.dst u h3) (wanted_put oi a oj.dst u h3)) (fun a d hh W' hW'=>(hh W' hW').of_same rfl rfl) hy ((H.2 j (ready_mono hj e)).2 W2 h2)
  refine wpOp_mono (fun a' W' ⟨hy',hk,hK⟩=>⟨hk,ih (listed.setIfInBounds j true) a' W' (inv.set hj hjn) (ready_mono hr (Ne.symm e)) (fun W3 h3=>hy' W3 (((qy.of_below (Y:=fun _=>False) h2).trans hk (fun _ hf=>hf.elim)).trans h3 hYZ)) (fun k ok hk' hki hkun hno=>?_) ?_⟩) hq
  ·refine hfree k ok hk' hki ?_ hno
   by_cases ejk:j=k
   ·subst ejk;exact hun
   ·rw[getD_set_ne true ejk] at hkun;exact hkun
  ·rw[Array.setIfInBounds_comm _ _ e];exact hK
end
def LT(P:Program)(l:List Oper)(m:Nat)(Q:Exit→Act→World→Prop):Array Bool→Act→World→Prop:=
 fun listed a W=>Region.seqB .any l.toArray (l.length-m) m listed=true∧wpList P l.toArray Q (l.drop m) a W
structure Tn where
 ys:List (Nat×(Nat→Prop))
 zs:List Nat
 s0:Nat
def Tn.Y(t:Tn)(j b:Nat):Prop:=(∃p∈t.ys,p.1=j∧p.2 b)∨(j∈t.zs∧t.s0≤b)
def Ib(l:List Oper)(m:Nat):Bool:=Region.noSelect l.toArray&&(decide (m=l.length)||(decide (m<l.length)&&Region.sinkB .any l.toArray m&&Region.chainB .any l.toArray m))
def qB(l:List Oper)(m i:Nat)(listed:Array Bool)(ks:List Nat):Bool:=
 decide (i<m)&&(Region.ready .any l.toArray listed).contains i&&Region.free .any l.toArray listed i&&
 ks.all fun j=>j==i||listed.getD j true||match l[j]? with
  |some oj=>oj.after.any fun e=>Region.binds .any e&&e.on==i
  |none=>true
def eB(l:List Oper)(m i:Nat)(listed:Array Bool):Bool:=decide (i<m)&&decide (Region.ready .any l.toArray listed=[i])
def SI(l:List Oper)(m i j:Nat)(listed:Array Bool):Bool:=decide (i<m)&&decide (j<m)&&decide (Region.ready .any l.toArray listed=[i,j])
def Dr(P:Program)(w:Bs)(n:Nat)(l:List Oper)(m:Nat)(t:Tn)(Q:Exit→Act→World→Prop)(fu:Nat)(listed:Array Bool)(f:Nat→Option Value)(E:Nat→iL):Prop:=
 HeadInv .any l.toArray m listed→Tr w n f E (fun a W=>t.s0≤W.heap.size→rf P l.toArray m t.Y (LT P l m Q) fu listed a W)
def St(P:Program)(w:Bs)(n:Nat)(l:List Oper)(m:Nat)(t:Tn)(Q:Exit→Act→World→Prop)(fu:Nat)(listed:Array Bool)(f:Nat→Option Value)(E:Nat→iL)(i:Nat):Prop:=
 HeadInv .any l.toArray m (listed.setIfInBounds i true)→Tr w n f E (fun a W=>t.s0≤W.heap.size→wpOp P l.toArray Nk i (fun a' W'=>qy (t.Y i) W W'∧rf P l.toArray m t.Y (LT P l m Q) fu (listed.setIfInBounds i true) a' W') a W)
section
variable {P:Program} {w:Bs} {n:Nat} {f:Nat→Option Value} {E:Nat→iL} {l:List Oper} {m:Nat} {t:Tn} {Q:Exit→Act→World→Prop} {fu:Nat} {listed:Array Bool}
theorem qa{id:Nat}(m:Nat)(ys:List (Nat×(Nat→Prop)))(zs:List Nat)(hm:P.follows .mixedOrders=true)(hB:Ib l m=true)
  (h:∀s0,w.W.heap.size≤s0→(∀k b,(E k).S b→b<s0)→Dr P w n l m ⟨ys,zs,s0⟩ Q m (Array.replicate l.length false) f E):Tr w n f E ((Code.region id l.toArray true).wp P Q):=by
 intro a W0 h1 h2
 simp only[Ib,Bool.and_eq_true,Bool.or_eq_true,decide_eq_true_eq] at hB
 obtain⟨hsel,hT⟩:=hB
 have hn:m≤l.length:=hT.elim (fun h=>Nat.le_of_eq h) (fun h=>Nat.le_of_lt h.1.1)
 have inv0:HeadInv .any l.toArray m (Array.replicate l.length false):=
  ⟨by simp,fun j oj _ hl=>(by rw[getD_replicate_false] at hl;cases hl),fun t _ ht=>getD_in (by simpa using ht) (getD_replicate_false _ _)⟩
 have hb0:Below W0.heap.size W0 {W0 with drawn:=W0.drawn+1}:=⟨rfl,rfl,rfl,Nat.le_refl _,fun _ _=>rfl,by simp⟩
 have H:=rf.run (g:=l.length-m) (Q:=Q) (fun listed a w ⟨k1,k2⟩=>by
  have hdl:(l.drop m).length=l.length-m:=by simp
  have:=wpAny_of_seq (md:=.any) (P:=P) (ops:=l.toArray) (Q':=Q) (l.drop m) m listed a w (fun j=>by simp[List.getElem?_drop]) (by rw[hdl];exact k1) k2
  rwa [hdl] at this) m _ a _ ((h W0.heap.size h2.size (fun k b hb=>(h2.bd k b hb).2) inv0 a W0 h1 h2 (Nat.le_refl _)).later hb0)
 rw[show m+(l.length-m)=l.length by omega] at H
 exact wp_region_any hm (by simpa using H)
theorem rH(hB:Region.seqB .any l.toArray (l.length-m) m listed=true)(h:Tr w n f E (wpList P l.toArray Q (l.drop m))):Dr P w n l m t Q 0 listed f E:=
 fun _ a _ h1 h2 _ W2 hb=>⟨hB,h a W2 h1 (h2.later hb)⟩
theorem Dr.use{listed':Array Bool}{lf:List (Nat×Value)}{le:List (Nat×iL)}(h:Dr P w n l m t Q fu listed' (LF lf) (LE le))(hl:listed=listed')(hf:xC f lf)(he:wL E le):Dr P w n l m t Q fu listed f E:=by
 subst hl
 exact fun inv a W h1 h2=>h inv a W (h1.vC hf) (h2.vC he)
theorem iF{o:Oper}{d:Nat}{v:Value}{Em:Nat→iL}(i:Nat)(fs:List (Nat×Value))(fl:List Nat)(fz:Bool)(hC:Ib l m=true)(hi:l[i]?=some o)(hd:o.dst=some d)(hB:qB l m i listed ((t.ys.map (·.1)).filter (fun j=> !fl.contains j)++(if fz=true then[] else t.zs))=true)
  (hE:∀W W',HF w W E→t.s0≤W.heap.size→qy (fun b=>(∃p∈t.ys,p.1∈fl∧p.2 b)∨(fz=true∧t.s0≤b)) W W'→HF w W' Em)
  (h:Tq P w n l.toArray f Em (fun a _=>FR n (LF fs) a) [o]) (hv:LF fs d=some v) (hdn:Nat.blt d n=true) (K:Dr P w n l m t Q fu (listed.setIfInBounds i true) (uf f d v) E):Dr P w n l m t Q (fu+1) listed f E:=by
 intro inv a W h1 h2 hs0
 simp only[Ib,Bool.and_eq_true,Bool.or_eq_true,decide_eq_true_eq] at hC
 obtain⟨hsel,hT⟩:=hC
 have hs:m=l.toArray.size∨Region.sinkB .any l.toArray m=true∧Region.chainB .any l.toArray m=true:=hT.imp (fun h=>by simpa using h) (fun h=>⟨h.1.2,h.2⟩)
 simp only[qB,Bool.and_eq_true,decide_eq_true_eq] at hB
 obtain⟨⟨⟨him,hr⟩,hfr⟩,hks⟩:=hB
 have hr:i∈Region.ready .any l.toArray listed:=by simpa using hr
 have hi':(l.toArray)[i]?=some o:=by simpa using hi
 have hlt:=Nat.le_of_ble_eq_true hdn
 have hyl:∀W',qy (fun b=>(∃p∈t.ys,p.1∈fl∧p.2 b)∨(fz=true∧t.s0≤b)) W W'→YieldsIn P l.toArray (fun W''=>Below W'.heap.size W' W'') o v a:=fun W' hk=>by
  have hq:=h a W' h1 (hE W W' h2 hs0 hk)
  obtain⟨v',hy,hK'⟩:=yieldsIn_of_qOp (K:=fun a=>∀W2,Below W'.heap.size W' W2→FR n (LF fs) a) hi' (show qOp P l.toArray _ i _ a by unfold qOp;simp only[hi'];simpa[wpQuiet] using hq)
  have hK:=hK' W' (Below.refl _ _)
  have:v'=v:=by
   have h3:=hK.get d v hv
   rw[hd,zy (by rw[h1.size];exact hlt)] at h3
   exact Option.some.inj h3
  rw[←this];exact hy
 refine rf.first (oi:=o) (v:=v) (Z:=fun b=>(∃p∈t.ys,p.1∈fl∧p.2 b)∨(fz=true∧t.s0≤b)) hi' hsel hs him (fun _ _ _ hL=>seqB_ready hL.1) fu listed a W inv hr hyl (fun j oj hj hji hun hno=>⟨Region.free_spec hi' hfr j oj hj hji hun hno,fun b hb=>?_⟩) ?_
 ·have hwaits:∀ks:List Nat,(∀x∈ks,x∈(t.ys.map (·.1)).filter (fun j=> !fl.contains j)++(if fz=true then[] else t.zs))→j∈ks→False:=fun ks hsub hmem=>by
   have:=List.all_eq_true.1 hks j (hsub j hmem)
   have hj':l[j]?=some oj:=by simpa using hj
   rw[hj'] at this
   simp only[Bool.or_eq_true,beq_iff_eq,hji,false_or,hun,Bool.false_eq_true] at this
   obtain⟨e,he,hb2⟩:=Array.any_eq_true'.1 this
   simp only[Bool.and_eq_true,beq_iff_eq] at hb2
   exact hno e he hb2.1 hb2.2
  rcases hb with⟨p,hp,rfl,hb⟩|⟨hjz,hb⟩
  ·by_cases hjf:p.1∈fl
   ·exact .inl ⟨p,hp,hjf,hb⟩
   ·exact(hwaits [p.1] (fun x hx=>by
     simp at hx;subst hx
     exact List.mem_append_left _ (List.mem_filter.2 ⟨List.mem_map.2 ⟨_,hp,rfl⟩,by simpa using hjf⟩)) (by simp)).elim
  ·cases hfz:fz with
   |true=>exact .inr ⟨rfl,hb⟩
   | false=>exact(hwaits [j] (fun x hx=>by
     simp at hx;subst hx
     exact List.mem_append_right _ (by rw[hfz];simpa using hjz)) (by simp)).elim
 ·rw[hd]
  exact K (inv.set hr him) _ W (h1.put hlt v) h2 hs0
theorem gM{o:Oper}{d:Nat}{v:Value}(i:Nat)(fs:List (Nat×Value))(hC:Ib l m=true)(hi:l[i]?=some o)(hd:o.dst=some d)(hB:qB l m i listed (t.ys.map (·.1)++t.zs)=true)
  (h:Tq P w n l.toArray f E (fun a _=>FR n (LF fs) a) [o]) (hv:LF fs d=some v) (hdn:Nat.blt d n=true) (K:Dr P w n l m t Q fu (listed.setIfInBounds i true) (uf f d v) E):Dr P w n l m t Q (fu+1) listed f E:=
 iF i fs [] false hC hi hd (by
  have e:(t.ys.map (·.1)).filter (fun j=> !([]:List Nat).contains j)=t.ys.map (·.1):=List.filter_eq_self.2 (fun _ _=>by simp)
  rw[e];exact hB) (fun W W' h2 _ hk=>h2.later (hk.below (fun b hb=>by rcases hb with⟨_,_,hj,_⟩|⟨hj,_⟩<;>cases hj))) h hv hdn K
theorem bE{o:Oper}{d:Nat}{v:Value}(i:Nat)(hC:Ib l m=true)(hi:l[i]?=some o)(hw:Wn l.toArray f o)(hd:o.dst=some d)(hB:qB l m i listed []=true)(hr:∀(a:Act) (W:World),FR n f a→(execOp a.eval o).run P W= .ok (.value v) W)
  (hdn:Nat.blt d n=true) (K:Dr P w n l m t Q fu (listed.setIfInBounds i true) (uf f d v) E):Dr P w n l m t Q (fu+1) listed f E:=by
 intro inv a W h1 h2 hs0
 simp only[Ib,Bool.and_eq_true,Bool.or_eq_true,decide_eq_true_eq] at hC
 obtain⟨hsel,hT⟩:=hC
 have hs:m=l.toArray.size∨Region.sinkB .any l.toArray m=true∧Region.chainB .any l.toArray m=true:=hT.imp (fun h=>by simpa using h) (fun h=>⟨h.1.2,h.2⟩)
 simp only[qB,Bool.and_eq_true,decide_eq_true_eq] at hB
 obtain⟨⟨⟨him,hrd⟩,hfr⟩,_⟩:=hB
 have hrd:i∈Region.ready .any l.toArray listed:=by simpa using hrd
 have hi':(l.toArray)[i]?=some o:=by simpa using hi
 have hyl:∀W',qy (fun _=>True) W W'→YieldsIn P l.toArray (fun W''=>Below W'.heap.size W' W'') o v a:=fun W' _=>.inl ⟨hw n a h1,fun W'' _=>by
  unfold Oper.quietAt
  rw[hr a W'' h1]
  exact⟨rfl,rfl⟩⟩
 refine rf.first (oi:=o) (v:=v) (Z:=fun _=>True) hi' hsel hs him (fun _ _ _ hL=>seqB_ready hL.1) fu listed a W inv hrd hyl (fun j oj hj hji hun hno=>⟨Region.free_spec hi' hfr j oj hj hji hun hno,fun b hb=>trivial⟩) ?_
 rw[hd]
 exact K (inv.set hrd him) _ W (h1.put (Nat.le_of_ble_eq_true hdn) v) h2 hs0
theorem HF.pW{W W':World}{le:List (Nat×iL)}{ks:List (Nat×(Nat→Prop))}{Z:Nat→Prop}{s0:Nat}(fz:Bool)(h:HF w W E)(hk:qy Z W W')(hlo:fz=true→w.W.heap.size≤s0)(hE:wL E le)(hz:∀b,Z b→(∃p∈ks,p.2 b)∨(fz=true∧s0≤b∧∀p∈le,∀b,p.2.S b→b<s0))(hks:∀p∈ks,∀b,p.2 b→(E p.1).S b)(hdis:(le.all fun p=>ks.all fun q=>p.1 !=q.1)=true):HF w W' (LE le):=by
 have hcases:∀k,(LE le k=E k∧(∀q∈ks,k≠q.1)∧∃p∈le,p.2=E k)∨LE le k=emp:=by
  intro k
  clear hz hks hk h
  induction le with
  |nil=>exact .inr rfl
  | cons p le ih=>
   obtain⟨k',e⟩:=p
   simp only[List.all_cons,Bool.and_eq_true] at hdis
   unfold LE
   rcases dC (LE le) k' e k with⟨h1,h2⟩|⟨_,h2⟩<;>rw[h2]
   ·subst h1
    refine .inl ⟨hE.1.symm,fun q hq=>?_,⟨_,List.mem_cons_self,hE.1.symm⟩⟩
    have:=List.all_eq_true.1 hdis.1 q hq
    simpa using this
   ·rcases ih hE.2 hdis.2 with⟨a1,a2,p,a3,a4⟩|a
    ·exact .inl ⟨a1,a2,p,List.mem_cons_of_mem _ a3,a4⟩
    ·exact .inr a
 have hsame:∀k b,(∀q∈ks,k≠q.1)→(∃p∈le,p.2=E k)→(E k).S b→W'.heap[b]?=W.heap[b]?:=fun k b hne ⟨p0,hp0,hpe⟩ hs=>hk.block b (h.bd k b hs).2 (fun hzb=>by
  rcases hz b hzb with⟨p,hp,hpb⟩|⟨_,hb,hle⟩
  ·exact h.mX k p.1 b (hne p hp) hs (hks p hp b hpb)
  ·have:=hle p0 hp0 b (by rw[hpe];exact hs)
   omega)
 have hold:∀b,w.R b→W'.heap[b]?=W.heap[b]?:=fun b hb=>hk.block b (h.DU hb) (fun hzb=>by
  rcases hz b hzb with⟨p,hp,hpb⟩|⟨hf,hb',_⟩
  ·exact(h.bd p.1 b (hks p hp b hpb)).1 hb
  ·have:=w.lt b hb
   have:=hlo hf
   omega)
 refine⟨hk.os.trans h.os,hk.tape.trans h.tape,hk.output.trans h.output,Nat.le_trans h.size hk.size,Nat.le_trans h.drawn hk.drawn,fun b hb=>(hold b hb).trans (h.keep b hb),fun k=>?_,fun k=>?_,fun k b=>?_,fun i j b hij=>?_⟩
 ·rcases hcases k with⟨e,hne,hp⟩|e<;>rw[e]
  ·exact(h.loc k).at_ _ W W' (fun b hb=>by
    rcases hb with hb|hb
    ·exact hold b (.inl hb)
    ·exact hsame k b hne hp hb) (h.phi k)
  ·trivial
 ·rcases hcases k with⟨e,_⟩|e<;>rw[e]
  ·exact h.loc k
  ·exact sK
 ·rcases hcases k with⟨e,_⟩|e<;>rw[e]
  ·exact fun hs=>⟨(h.bd k b hs).1,Nat.lt_of_lt_of_le (h.bd k b hs).2 hk.size⟩
  ·exact fun hh=>hh.elim
 ·rcases hcases i with⟨e,_⟩|e<;>rcases hcases j with⟨e',_⟩|e'<;>rw[e,e']
  ·exact h.mX i j b hij
  ·exact fun _ hh=>hh.elim
  ·exact fun hh=>hh.elim
  ·exact fun hh=>hh.elim
theorem yJ{i:Nat}(h:St P w n l m t Q fu listed f E i)(inv:HeadInv .any l.toArray m (listed.setIfInBounds i true)){a:Act}{W:World}(h1:FR n f a)(h2:HF w W E)(hs:t.s0≤W.heap.size):
  ∀W2,Below W.heap.size W W2→wpOp P l.toArray Nk i (fun a' W'=>qy (t.Y i) W2 W'∧rf P l.toArray m t.Y (LT P l m Q) fu (listed.setIfInBounds i true) a' W') a W2:=
 fun W2 hb=>h inv a W2 h1 (h2.later hb) (Nat.le_trans hs hb.size)
theorem Dr.one(i:Nat)(hB:eB l m i listed=true)(h:St P w n l m t Q fu listed f E i):Dr P w n l m t Q (fu+1) listed f E:=by
 intro inv a W h1 h2 hs
 simp only[eB,Bool.and_eq_true,decide_eq_true_eq] at hB
 have hr:i∈Region.ready .any l.toArray listed:=by rw[hB.2];simp
 refine⟨by rw[hB.2];simp,fun j hj=>?_⟩
 rw[hB.2] at hj
 have:j=i:=by simpa using hj
 subst this
 exact⟨hB.1,yJ h (inv.set hr hB.1) h1 h2 hs⟩
theorem Dr.pair(i j:Nat)(hB:SI l m i j listed=true)(h1:St P w n l m t Q fu listed f E i)(h2:St P w n l m t Q fu listed f E j):Dr P w n l m t Q (fu+1) listed f E:=by
 intro inv a W k1 k2 hs
 simp only[SI,Bool.and_eq_true,decide_eq_true_eq] at hB
 have hri:i∈Region.ready .any l.toArray listed:=by rw[hB.2];simp
 have hrj:j∈Region.ready .any l.toArray listed:=by rw[hB.2];simp
 refine⟨by rw[hB.2];simp,fun x hx=>?_⟩
 rw[hB.2] at hx
 have:x=i∨x=j:=by simpa using hx
 rcases this with rfl|rfl
 ·exact⟨hB.1.1,yJ h1 (inv.set hri hB.1.1) k1 k2 hs⟩
 ·exact⟨hB.1.2,yJ h2 (inv.set hrj hB.1.2) k1 k2 hs⟩
def Sm:List Nat→Array Bool→Array Bool
 |[],a=>a
 |i::l,a=>Sm l (a.setIfInBounds i true)
theorem Dr.cut{U:Type}(is:List Nat)(fu2:Nat)(Φ:U→Prop)(lf:U→List (Nat×Value))(le:U→List (Nat×iL))(h:(∀u,Φ u→Dr P w n l m t Q fu2 (Sm is listed) (LF (lf u)) (LE (le u)))→Dr P w n l m t Q fu listed f E)
  (C:∀u,Φ u→Dr P w n l m t Q fu2 (Sm is listed) (LF (lf u)) (LE (le u))):Dr P w n l m t Q fu listed f E:=h C
theorem Ir{o:Oper}(i:Nat)(hi:l[i]?=some o)(hw:Wn l.toArray f o){f':Nat→Option Value}{E':Nat→iL}
  (h:∀a W,FR n f a→HF w W E→∀K:Act→World→Prop,(∀a' W',FR n f' a'→HF w W' E'→qy (t.Y i) W W'→K a' W')→o.wp P a W K Nk)
  (K:Dr P w n l m t Q fu (listed.setIfInBounds i true) f' E'):St P w n l m t Q fu listed f E i:=by
 intro inv a W h1 h2 hs
 have hi':(l.toArray)[i]?=some o:=by simpa using hi
 unfold wpOp
 simp only[hi',hw n a h1,if_true]
 exact .inl (h a W h1 h2 _ (fun a' W' k1 k2 k3=>⟨k3,K inv a' W' k1 k2 (Nat.le_trans hs k3.size)⟩))
theorem yh{U:Type}{o:Oper}(i:Nat)(hi:l[i]?=some o)(hw:Wn l.toArray f o)(Φ:U→Prop){f':U→Nat→Option Value}{E':U→Nat→iL}
  (h:∀a W,FR n f a→HF w W E→t.s0≤W.heap.size→∀K:Act→World→Prop,(∀u a' W',Φ u→FR n (f' u) a'→HF w W' (E' u)→qy (t.Y i) W W'→K a' W')→o.wp P a W K Nk)
  (K:∀u,Φ u→Dr P w n l m t Q fu (listed.setIfInBounds i true) (f' u) (E' u)):St P w n l m t Q fu listed f E i:=by
 intro inv a W h1 h2 hs
 have hi':(l.toArray)[i]?=some o:=by simpa using hi
 unfold wpOp
 simp only[hi',hw n a h1,if_true]
 exact .inl (h a W h1 h2 hs _ (fun u a' W' k0 k1 k2 k3=>⟨k3,K u k0 inv a' W' k1 k2 (Nat.le_trans hs k3.size)⟩))
variable {d ty T T':Nat} {pos:String} {af:Array Edge} {g:Option (Nat×Bool)} {p q:Operand} {u v:Value}
theorem St.alloc(i κ:Nat){cs:List Value}(hi:l[i]?=some ⟨some d,.alloc T,ty,pos,af,g⟩)(hw:Wn l.toArray f ⟨some d,.alloc T,ty,pos,af,g⟩)(hdn:Nat.blt d n=true)(hz:zeroOf P T=some cs)
  (K:∀b,t.s0≤b→Dr P w n l m t Q fu (listed.setIfInBounds i true) (uf f d (.pointer (some ⟨b,0,none⟩))) (up E κ (bx b cs.toArray T))):St P w n l m t Q fu listed f E i:=
 yh (U:=Nat) i hi hw (t.s0≤ ·) (fun a W h1 h2 hs K' hK=>by
  unfold Oper.wp
  rw[xQ hz]
  exact hK W.heap.size _ _ hs (h1.put (Nat.le_of_ble_eq_true hdn) _) (h2.alloc κ cs.toArray T) (qy.of_below ((Below.refl _ _).alloc (Nat.le_refl _) _))) K
theorem SB(i κ:Nat){cs:List Value}(hi:l[i]?=some ⟨some d,.box T p,ty,pos,af,g⟩)(hw:Wn l.toArray f ⟨some d,.box T p,ty,pos,af,g⟩)(hdn:Nat.blt d n=true)(hp:ev f p=some v)(hc:v.cells=cs.toArray)
  (K:∀b,t.s0≤b→Dr P w n l m t Q fu (listed.setIfInBounds i true) (uf f d (.pointer (some ⟨b,0,none⟩))) (up E κ (bx b cs.toArray T))):St P w n l m t Q fu listed f E i:=
 yh (U:=Nat) i hi hw (t.s0≤ ·) (fun a W h1 h2 hs K' hK=>by
  unfold Oper.wp
  rw[IL (h1.ev hp) hc]
  exact hK W.heap.size _ _ hs (h1.put (Nat.le_of_ble_eq_true hdn) _) (h2.alloc κ cs.toArray T) (qy.of_below ((Below.refl _ _).alloc (Nat.le_refl _) _))) K
theorem jX(i κ:Nat){len e:Nat}{ps:List (Nat×Operand)}{vs:List (Nat×Value)}{cs:List Value}(hi:l[i]?=some ⟨some d,.buildSlice T len ps.toArray,ty,pos,af,g⟩)(hw:Wn l.toArray f ⟨some d,.buildSlice T len ps.toArray,ty,pos,af,g⟩)(hdn:Nat.blt d n=true)
  (hv:evs f ps vs) (hb:tC P T len vs=some (e,cs))
  (K:∀b,t.s0≤b→Dr P w n l m t Q fu (listed.setIfInBounds i true) (uf f d (.slice (some ⟨b,0,none⟩) len len)) (up E κ (bx b cs.toArray e))):St P w n l m t Q fu listed f E i:=
 yh (U:=Nat) i hi hw (t.s0≤ ·) (fun a W h1 h2 hs K' hK=>by
  unfold Oper.wp
  rw[run_buildSlice (CK hv a h1) hb]
  exact hK W.heap.size _ _ hs (h1.put (Nat.le_of_ble_eq_true hdn) _) (h2.alloc κ cs.toArray e) (qy.of_below ((Below.refl _ _).alloc (Nat.le_refl _) _))) K
theorem vk(i κ:Nat){b o T2:Nat}{vs cs:List Value}(vs':List Value)(hi:l[i]?=some ⟨none,.store T p q,ty,pos,af,g⟩)(hw:Wn l.toArray f ⟨none,.store T p q,ty,pos,af,g⟩)(hy:t.Y i b)
  (hp:ev f p=some (.pointer (some ⟨b,o,none⟩))) (hq:ev f q=some v) (hv:v.cells=cs.toArray)
  (hk:E κ=bx b vs.toArray T2) (hs:kD P T=some cs.length) (hfit:Nat.ble (o+cs.length) vs.length=true) (h1:cs.all (·.oneCell')=true) (hvs:vs.take o++cs++vs.drop (o+cs.length)=vs')
  (K:Dr P w n l m t Q fu (listed.setIfInBounds i true) f (up E κ (bx b vs'.toArray T2))):St P w n l m t Q fu listed f E i:=
 Ir i hi hw (fun a W k1 k2 K' hK=>by
  unfold Oper.wp
  rw[run_store hs (k1.ev hp) (k1.ev hq) hv (k2.bx hk) hfit h1,hvs]
  refine hK _ _ k1 (k2.setRow hk vs'.toArray) ⟨rfl,rfl,rfl,by simp[World.setRow],fun x hx hne=>?_,Nat.le_refl _⟩
  have hbx:¬b=x:=fun e=>hne (e▸hy)
  simp only[World.setRow,Array.getElem?_modify]
  rw[if_neg hbx]) K
theorem Qp{α:Type}(i κ:Nat){A:Option Addr}{c e fo o:Nat}{ix:Int}{t':Fl α}{ll l':List α}{x:α}(x':α){cs:List Value}(hY:∀b,(ow A c e t' ll).S b→t.Y i b)(hi:l[i]?=some ⟨none,.store T p q,ty,pos,af,g⟩)(hw:Wn l.toArray f ⟨none,.store T p q,ty,pos,af,g⟩)
  (hp:ev f p=some (.pointer (some ⟨mY A,o,none⟩))) (hq:ev f q=some v) (hv:v.cells=cs.toArray) (ho:o=qj A+ix.toNat*t'.sz+fo) (hk:E κ=ow A c e t' ll) (hx:ll[ix.toNat]?=some x) (hs:kD P T=some cs.length) (h1:cs.all (·.oneCell')=true)
  (hup:∀u,t'.ok w.O w.W u x→∃u',t'.ok w.O w.W u' x'∧t'.enc u' x'=(t'.enc u x).take fo++cs++(t'.enc u x).drop (fo+cs.length)) (hfit:Nat.ble (fo+cs.length) t'.sz=true) (hset:sets ll ix x'=some l')
  (K:Dr P w n l m t Q fu (listed.setIfInBounds i true) f (up E κ (ow A c e t' l'))):St P w n l m t Q fu listed f E i:=
 Ir i hi hw (fun a W k1 k2 K' hK=>by
  subst ho
  have hA:=(k2.sl hk).form.2.2 (by have:=(List.getElem?_eq_some_iff.1 hx).1;omega)
  obtain⟨vs,hh,hle,hnew⟩:=EC κ k2 hk hx hup (Nat.le_of_ble_eq_true hfit)
  rw[xN hset] at hnew
  unfold Oper.wp
  rw[run_store hs (k1.ev hp) (k1.ev hq) hv hh (Nat.ble_eq_true_of_le hle) h1]
  refine hK _ _ k1 hnew ⟨rfl,rfl,rfl,by simp[World.setRow],fun b hb hne=>?_,Nat.le_refl _⟩
  have hbx:¬mY A=b:=fun e=>hne (hY b (by
   show(Value.slice A ll.length c).ownBlock=some b
   rw[hA,←e];rfl))
  simp only[World.setRow,Array.getElem?_modify]
  rw[if_neg hbx]) K
theorem St.freeze{α:Type}{i:Nat}(κ:Nat){A:Option Addr}{c T:Nat}{t':Fl α}{ll:List α}(hk:E κ=ow A c T t' ll)(K:∀w',w.Le w'→Sl w'.O w'.W t' A c ll→St P w' n l m t Q fu listed f (up E κ emp) i):St P w n l m t Q fu listed f E i:=
 fun inv=>Tr.freeze κ hk fun w' h1 h2=>K w' h1 h2 inv
theorem St.append{α:Type}(i κ:Nat){A:Option Addr}{c e inb b o c2:Nat}{t':Fl α}{ll l2 l':List α}(hY:∀b,(ow A c e t' ll).S b→t.Y i b)(hi:l[i]?=some ⟨some d,.call ⟨.builtin .append,#[p,q],#[T,T]⟩,ty,pos,af,g⟩)(hw:Wn l.toArray f ⟨some d,.call ⟨.builtin .append,#[p,q],#[T,T]⟩,ty,pos,af,g⟩)(hdn:Nat.blt d n=true)
  (hp:ev f p=some (.slice A ll.length c)) (hk:E κ=ow A c e t' ll) (hq:ev f q=some (.slice (some ⟨b,o,none⟩) l2.length c2)) (hr:∀W,HF w W E→∃css,Al (rp t' w.O w.W) css l2∧aF W b o css.flatten)
  (hu:P.underlying T=some (.slice e)) (hs:kD P e=some t'.sz) (hz:(zeroOf P e).map List.length=some t'.sz) (hsz:0<t'.sz) (hby:(P.info? e).map (·.bytes)=some inb) (hib:Nat.ble inb 32768=true) (hap:vD ll l2=some l')
  (K:∀A' c',cO A' l'.length c'→Dr P w n l m t Q fu (listed.setIfInBounds i true) (uf f d (.slice A' l'.length c')) (up E κ (ow A' c' e t' l'))):St P w n l m t Q fu listed f E i:=
 yh (U:=Option Addr×Nat) i hi hw (fun u=>cO u.1 l'.length u.2) (fun a W h1 h2 hs0 K' hK=>by
  obtain⟨hlen,hl'⟩:=tN hap
  subst hl'
  cases hin:P.info? e with
  |none=>rw[hin] at hby;cases hby
  | some inf=>
   rw[hin] at hby;simp at hby;subst hby
   unfold zeroOf at hz
   unfold kD at hs
   rw[hin] at hz hs
   simp only[ob,Option.map_some,Option.some.injEq] at hz hs
   cases hze:inf.zero with
   |none=>rw[hze] at hz;cases hz
   | some z=>
    rw[hze] at hz
    simp at hz
    obtain⟨css0,hal0,hown⟩:=h2.ow hk
    obtain⟨css2,hal2,hc2⟩:=hr W h2
    have hbytes:(ll.length+l2.length)*inf.bytes≤140737488355328:=Nat.le_trans (Nat.mul_le_mul hlen (Nat.le_of_ble_eq_true hib)) (by decide)
    have hsm:ll.length+l2.length≤maxLen:=by unfold maxLen;omega
    obtain⟨v',W',hrun,ho,hg,_,hat⟩:=run_append_own_at (P:=P) W 0 T ty e inf z t'.sz inf.bytes hu hin hze hs rfl hz hsz _ _ _ hown ⟨b,o,none⟩ l2.length c2 css2.flatten (pY hal2)
     (fun j u hj=>by rw[Addr.add_lit];exact hc2 j u hj) (fun u hu=>by
      obtain⟨i,cs,k,h1,h2,_⟩:=Gj hal2 (List.getElem?_of_mem hu).choose_spec
      have hlt:i<l2.length:=by rw[←hal2.len];exact(List.getElem?_eq_some_iff.1 h1).1
      obtain⟨cs',h3,h4⟩:=hal2.at_ (List.getElem?_eq_getElem hlt)
      rw[h1] at h3;cases h3
      exact h4.one u (List.mem_of_getElem? h2)) hsm hbytes (Nat.zero_le _)
    rw[←List.flatten_append,←List.length_append] at ho
    obtain⟨A',c',rfl,hf,h3⟩:=Cx h2 hk (xP _ _ _ _ hrun) hg ((hal0.mono (fun _ _ hr=>hr.off h2)).append hal2) ho (fun b' hb'=>by
     rcases hat with hat|hat
     ·exact .inl (hat▸hb')
     ·rw[hat] at hb';simp at hb';subst hb';exact .inr (Nat.le_refl _))
    obtain⟨g1,g2,g3,g4,g5⟩:=hg
    unfold Oper.wp execOp
    simp only[resolve,invoke,builtin,Sem.run_bind,Sem.run_pure,Result.andThen_ok,List.map_toArray,List.map_cons,List.map_nil,h1.ev hp,h1.ev hq,hrun,Oper.upon_value]
    exact hK (A',c') _ _ hf (h1.put (Nat.le_of_ble_eq_true hdn) _) h3 ⟨g1,g2,g3,g4,fun b hb hy=>g5 b hb (fun e=>hy (hY b e.symm)),xP _ _ _ _ hrun⟩) (fun u hu=>K u.1 u.2 hu)
theorem Be{W W':World}{E1:Nat→iL}{ins:List iL}{Y:Nat→Prop}{w':Bs}(h:HF w W E)(hle:(h.sub (nk ins)).Le w')(h':HF w' W' E1)(hY:∀b,nk ins b→Y b):qy Y W W':=
 ⟨h'.os.trans hle.os,h'.tape.trans hle.tape,h'.output.trans hle.output,Nat.le_trans hle.size h'.size,fun b hb hy=>by
  have hr:(h.sub (nk ins)).R b:=.inr ⟨hb,fun hi=>hy (hY b hi)⟩
  exact(h'.keep b (hle.r b hr)).trans (hle.blk b hr),Nat.le_trans hle.drawn h'.drawn⟩
theorem IP{W W':World}{ins outs:List iL}{w':Bs}{s0:Nat}(h:HF w W E)(hb:HF w' W' (iZ outs))(hs:s0≤W.heap.size)(hle:(h.sub (nk ins)).Le w'):∀b,nk outs b→s0≤b∨nk ins b:=fun b ⟨e,he,hS⟩=>by
 obtain⟨j,hj⟩:=List.getElem?_of_mem he
 have h1:(iZ outs j).S b:=by rw[M5 hj];exact hS
 have h2:=(hb.bd j b h1).1
 by_cases hi:nk ins b
 ·exact .inr hi
 ·exact .inl (Nat.le_of_not_lt fun hlt=>h2 (hle.r b (.inr ⟨Nat.lt_of_lt_of_le hlt hs,hi⟩)))
theorem GK{U:Type}{fn:Nat}{xs:List Operand}{vs:List Value}{ts:Array Nat}(i:Nat)(ks:List Nat)(ins:List iL)(V:U→Value)(Φ:U→Prop)(outs:U→List iL)(hn:decide ks.Nodup=true)(hp:Pk E ks ins)(hl:∀u,(outs u).length=ks.length)
  (hY:∀b,nk ins b→t.Y i b) (hi:l[i]?=some ⟨some d,.call ⟨.value (.func fn),xs.toArray,ts⟩,ty,pos,af,g⟩) (hw:Wn l.toArray f ⟨some d,.call ⟨.value (.func fn),xs.toArray,ts⟩,ty,pos,af,g⟩) (hdn:Nat.blt d n=true)
  (hg:∀args W,(callFunc fn args).run P W= .ok (.enter fn args) W) (hx:Ec f xs vs)
  (hc:∀W (hW:HF w W E) (_:Pk E ks ins),HF (hW.sub (nk ins)) W (iZ ins)→Calls P fn vs.toArray W fun e W'=>∃u,e= .returned (V u)∧Φ u∧HF (hW.sub (nk ins)) W' (iZ (outs u)))
  (K:∀u,Φ u→(∀b,nk (outs u) b→t.s0≤b∨nk ins b)→Dr P w n l m t Q fu (listed.setIfInBounds i true) (uf f d (V u)) (Ky E ks (outs u))):St P w n l m t Q fu listed f E i:=
 yh i hi hw (fun u=>Φ u∧∀b,nk (outs u) b→t.s0≤b∨nk ins b) (fun a W h1 h2 hs0 K' hK=>by
  have hn':=of_decide_eq_true hn
  unfold Oper.wp
  rw[uS h1 hg hx]
  refine(hc W h2 hp (h2.JY hn' hp)).mono fun e W' ⟨u,he,hu,hb⟩=>?_
  subst he
  exact hK u _ _ ⟨hu,IP h2 hb hs0 (.refl _)⟩ (h1.put (Nat.le_of_ble_eq_true hdn) _) (HF.La (h2.ve hp (.refl _)) (fun _ h=>h) (h2.back hn' hp (.refl _) hb (hl u))) (Be h2 (.refl _) hb hY)) (fun u hu=>K u hu.1 hu.2)
theorem RD{U:Type}{fn:Nat}{xs:List Operand}{vs:List Value}{ts:Array Nat}(i:Nat)(ks:List Nat)(ins:List iL)(V:U→Value)(Φ:(Nat→Prop)→World→U→Prop)(outs:U→List iL)(hn:decide ks.Nodup=true)(hp:Pk E ks ins)(hl:∀u,(outs u).length=ks.length)
  (hY:∀b,nk ins b→t.Y i b) (hi:l[i]?=some ⟨some d,.call ⟨.value (.func fn),xs.toArray,ts⟩,ty,pos,af,g⟩) (hw:Wn l.toArray f ⟨some d,.call ⟨.value (.func fn),xs.toArray,ts⟩,ty,pos,af,g⟩) (hdn:Nat.blt d n=true)
  (hg:∀args W,(callFunc fn args).run P W= .ok (.enter fn args) W) (hx:Ec f xs vs)
  (hc:∀W (hW:HF w W E) (_:Pk E ks ins),HF (hW.sub (nk ins)) W (iZ ins)→Calls P fn vs.toArray W fun e W'=>∃w' u,(hW.sub (nk ins)).Le w'∧e= .returned (V u)∧Φ w'.O w'.W u∧HF w' W' (iZ (outs u)))
  (K:∀w' u,w.Le w'→Φ w'.O w'.W u→(∀b,nk (outs u) b→t.s0≤b∨nk ins b)→Dr P w' n l m t Q fu (listed.setIfInBounds i true) (uf f d (V u)) (Ky E ks (outs u))):St P w n l m t Q fu listed f E i:=by
 intro inv a W h1 h2 hs
 have hi':(l.toArray)[i]?=l[i]?:=by simp
 rw[hi] at hi'
 have hn':=of_decide_eq_true hn
 unfold wpOp
 simp only[hi',hw n a h1,if_true]
 refine .inl ?_
 unfold Oper.wp
 rw[uS h1 hg hx]
 refine(hc W h2 hp (h2.JY hn' hp)).mono fun e W' ⟨w',u,hle,he,hu,hb⟩=>?_
 subst he
 have hkeep:=Be (Y:=t.Y i) h2 hle hb hY
 exact⟨hkeep,K (h2.after hle) u (h2.ve hp hle) hu (IP h2 hb hs hle) inv _ W' (h1.put (Nat.le_of_ble_eq_true hdn) _) (h2.back hn' hp hle hb (hl u)) (Nat.le_trans hs hkeep.size)⟩
end
open Go.RowKit
section
variable {P:Program} {ρ:Operand→Value} {W:World} {dd:Option Tmp} {ty T T' e:TypeId} {pos:String} {af:Array Edge} {g:Option (Nat×Bool)} {p q:Operand} {A:Option Addr} {n c:Nat}
theorem Hg(hu:P.underlying T=some (.slice e))(hp:ρ p= .slice A n c)(hq:ρ q= .slice none 0 0):(execOp ρ ⟨dd,.binOp .eql T p q T',ty,pos,af,g⟩).run P W= .ok (.value (.bool A.isNone)) W:=by
 simp[execOp,hp,hq,Lib.run_eql_slice_nil W T e A n c 0 0 hu,eqGuard]
theorem K4{α:Type}{l:List α}{c:Nat}(h:cO none l.length c):l=[]:=by
 cases l with
 |nil=>rfl
 |cons x l=>have:=h.2.2 (by simp);cases this
end
open Go.RowKit
structure Bs.Ext (B B':Bs):Prop where
 o:∀b,B.O b→B'.O b
 r:∀b,B.R b→B'.R b
 blk:∀b,B.R b→B'.W.heap[b]?=B.W.heap[b]?
theorem Bs.Ext.refl(B:Bs):B.Ext B:=⟨fun _ h=>h,fun _ h=>h,fun _ _=>rfl⟩
theorem Bs.Ext.trans{A B C:Bs}(h:A.Ext B)(k:B.Ext C):A.Ext C:=⟨fun b hb=>k.o b (h.o b hb),fun b hb=>k.r b (h.r b hb),fun b hb=>(k.blk b (h.r b hb)).trans (h.blk b hb)⟩
theorem Bs.Le.ext{B B':Bs}(h:B.Le B'):B.Ext B':=⟨h.sub,h.r,h.blk⟩
theorem Bs.Ext.cells{B B':Bs}(h:B.Ext B'){b o:Nat}{cs:List Value}(hb:B.R b)(hc:aF B.W b o cs):aF B'.W b o cs:=hc.loc (h.blk b hb)
section
variable {α:Type} {w w':Bs} {W W':World} {E:Nat→iL} {t:Fl α} {A:Option Addr} {c T k b:Nat} {l:List α} {ks:List Nat} {ins:List iL} {vs:List Value}
theorem Sl.ext(h:Sl w.R w.W t A c l)(he:w.Ext w'):Sl w'.R w'.W t A c l:=h.go he.r he.blk
theorem Sl.kC(h:Sl w.O w.W t A c l)(he:w.Ext w'):Sl w'.O w'.W t A c l:=h.go he.o (fun b hb=>he.blk b (.inl hb))
theorem HF.Sd(hW:HF w W E)(hp:Pk E ks ins)(hb:w.R b):(hW.sub (nk ins)).R b:=by
 rcases hb with hb|hb
 ·exact .inl hb
 ·refine .inr ⟨hW.DU (.inr hb),fun hi=>?_⟩
  obtain⟨k,_,_,hs⟩:=xh hW hp hi
  exact(hW.bd k b hs).1 (.inr hb)
theorem HF.QQ(hW:HF w W E)(hp:Pk E ks ins)(hk:ks.contains k=false)(hb:(E k).S b):(hW.sub (nk ins)).R b:=by
 refine .inr ⟨(hW.bd k b hb).2,fun hi=>?_⟩
 obtain⟨k',j,hj,hs⟩:=xh hW hp hi
 refine hW.mX k k' b (fun e=>?_) hb hs
 subst e
 have:k∈ks:=List.mem_of_getElem? hj
 simp[this] at hk
theorem HF.bU(hW:HF w W E):w.Ext hW.all:=⟨fun _ h=>h,fun _ hb=>hW.MJ (hW.DU hb),hW.keep⟩
theorem HF.dU(hW:HF w W E)(hp:Pk E ks ins):w.Ext (hW.sub (nk ins)):=⟨fun _ h=>h,fun _ hb=>hW.Sd hp hb,hW.keep⟩
theorem HF.Ha(hW:HF w W E)(hk:E k=Proofs.YtkccbhbhdnobhaaGreatDoor.ow A c T t l)(hp:Pk E ks ins)(hn:ks.contains k=false):Sl (hW.sub (nk ins)).R (hW.sub (nk ins)).W t A c l:=
 (hW.sl hk).mono (fun b hb=>by
  rcases hb with hb|hb
  ·exact .inl hb
  ·exact hW.QQ hp hn hb)
theorem HF.MG(hW:HF w W E)(hk:E k=Proofs.YtkccbhbhdnobhaaGreatDoor.bx b vs.toArray T)(hp:Pk E ks ins)(hn:ks.contains k=false):(hW.sub (nk ins)).R b:=hW.QQ hp hn (by rw[hk];rfl)
theorem HF.Qi(hW:HF w W E)(hk:E k=Proofs.YtkccbhbhdnobhaaGreatDoor.bx b vs.toArray T):aF (hW.sub (nk ins)).W b 0 vs:=bR hW hk 0
theorem bg:Pk E [] []:=trivial
theorem aN{e:iL}{es:List iL}(h:E k=e)(h2:Pk E ks es):Pk E (k::ks) (e::es):=⟨h,h2⟩
end
section
variable {P:Program} {w:Bs} {n:Nat} {f:Nat→Option Value} {E:Nat→iL} {X Y:Act→World→Prop} {Q:Exit→Act→World→Prop} {ops:Array Oper} {rest l:List Oper}
theorem bP(m:Nat)(fs:List (Nat×Value))(es:List (Nat×iL))(h:Tr w n f E (wpList P ops (Exit.then (fun a W=>FR n (LF fs) a∧HF w W (LE es)) Q) (l.take m)))
  (h2:Tr w n (LF fs) (LE es) (wpList P ops Q (l.drop m))):Tr w n f E (wpList P ops Q l):=by
 intro a W h1 h3
 have:=vE (rest:=l.drop m) _ a W (h a W h1 h3) (fun a W ⟨k1,k2⟩=>h2 a W k1 k2)
 rwa [List.take_append_drop] at this
theorem aS{fs:List (Nat×Value)}{es:List (Nat×iL)}(hf:xC f fs)(he:wL E es):Tr w n f E (Exit.then (fun a W=>FR n (LF fs) a∧HF w W (LE es)) Q .normal):=fun _ _ h1 h2=>⟨h1.vC hf,h2.vC he⟩
theorem Da{e:iL}(k K:Nat)(hk:E k=e)(hK:E K=emp)(hne:Nat.beq k K=false)(h:Tr w n f (up (up E k emp) K e) X):Tr w n f E X:=fun a W h1 h2=>by
 have hne':k≠K:=fun e=>by subst e;simp at hne
 refine h a W h1 ?_
 have key:∀j,(j=K∧up (up E k emp) K e j=E k)∨(j≠K∧j=k∧up (up E k emp) K e j=emp)∨(j≠K∧j≠k∧up (up E k emp) K e j=E j):=fun j=>by
  rcases dC (up E k emp) K e j with⟨a1,a2⟩|⟨a1,a2⟩
  ·exact .inl ⟨a1,by rw[a2,hk]⟩
  ·rcases dC E k emp j with⟨b1,b2⟩|⟨b1,b2⟩
   ·exact .inr (.inl ⟨a1,b1,by rw[a2,b2]⟩)
   ·exact .inr (.inr ⟨a1,b1,by rw[a2,b2]⟩)
 refine⟨h2.os,h2.tape,h2.output,h2.size,h2.drawn,h2.keep,fun j=>?_,fun j=>?_,fun j b=>?_,fun i j b hij=>?_⟩
 ·rcases key j with⟨_,e1⟩|⟨_,_,e1⟩|⟨_,_,e1⟩<;>rw[e1]
  ·exact h2.phi k
  ·trivial
  ·exact h2.phi j
 ·rcases key j with⟨_,e1⟩|⟨_,_,e1⟩|⟨_,_,e1⟩<;>rw[e1]
  ·exact h2.loc k
  ·exact sK
  ·exact h2.loc j
 ·rcases key j with⟨_,e1⟩|⟨_,_,e1⟩|⟨_,_,e1⟩<;>rw[e1]
  ·exact h2.bd k b
  ·exact fun hh=>hh.elim
  ·exact h2.bd j b
 ·rcases key i with⟨a1,e1⟩|⟨a1,b1,e1⟩|⟨a1,b1,e1⟩<;>rcases key j with⟨a2,e2⟩|⟨a2,b2,e2⟩|⟨a2,b2,e2⟩<;>rw[e1,e2]
  ·exact absurd (a1.trans a2.symm) hij
  ·exact fun _ hh=>hh.elim
  ·exact h2.mX k j b (Ne.symm b2)
  ·exact fun hh=>hh.elim
  ·exact fun hh=>hh.elim
  ·exact fun hh=>hh.elim
  ·exact h2.mX i k b b1
  ·exact fun _ hh=>hh.elim
  ·exact h2.mX i j b hij
theorem GH(k:Nat)(h:Tr w n f (up E k emp) X):Tr w n f E X:=fun a W h1 h2=>h a W h1 (h2.drop k)
end
theorem Sl.el{α:Type}{S:Nat→Prop}{W:World}{t:Fl α}{A:Option Addr}{c:Nat}{l:List α}(h:Sl S W t A c l){i:Nat}{x:α}(hx:l[i]?=some x):∃u,S (mY A)∧t.ok S W u x∧aF W (mY A) (qj A+i*t.sz) (t.enc u x):=by
 obtain⟨h1,u,h2,h3⟩:=h.cells i x hx
 exact⟨u,h1,h2,h3⟩
open Go.RowKit
def pre{α:Type}(l:List α)(hi:Int):Option (List α):=if 0≤hi∧hi≤(l.length:Int) then some (l.take hi.toNat) else none
theorem pre_some{α:Type}{l l':List α}{hi:Int}(h:pre l hi=some l'):(0≤hi∧hi≤(l.length:Int))∧l.take hi.toNat=l':=by
 unfold pre at h
 split at h
 ·exact⟨by assumption,Option.some.inj h⟩
 ·cases h
theorem NA{α:Type}{l l':List α}{hi:Int}(h:pre l hi=some l'):l'.length=hi.toNat:=by
 obtain⟨h1,rfl⟩:=pre_some h
 simp;omega
theorem Ci{α:Type}{l l':List α}{hi:Int}{A:Option Addr}{c:Nat}(hf:cO A l.length c)(h:pre l hi=some l'):cO A l'.length c:=by
 have hl:=NA h
 obtain⟨⟨h1,h2⟩,_⟩:=pre_some h
 obtain⟨f1,f2,f3⟩:=hf
 exact⟨by omega,f2,fun hp=>f3 (by omega)⟩
theorem Sl.pre{α:Type}{S:Nat→Prop}{W:World}{t:Fl α}{A:Option Addr}{c:Nat}{l l':List α}{hi:Int}(h:Sl S W t A c l)(hc:Proofs.YtkccbhbhdnobhaaGreatDoor.pre l hi=some l'):Sl S W t A c l':=by
 refine⟨Ci h.form hc,fun i x hx=>?_⟩
 obtain⟨_,hl⟩:=pre_some hc
 rw[←hl,List.getElem?_take] at hx
 split at hx
 ·exact h.cells i x hx
 ·cases hx
section
variable {P:Program} {ρ:Operand→Value} {W:World} {d:Option Tmp} {ty T:TypeId} {pos:String} {af:Array Edge} {g:Option (Nat×Bool)} {p r:Operand} {j:Int} {α:Type} {l l':List α} {e sz c:Nat} {A:Option Addr}
theorem IK(he:elemOf? P T=some (e,sz))(hp:ρ p= .slice A l.length c)(hf:cO A l.length c)(hr:ρ r= .int .i64 j)(hc:pre l j=some l'):
  (execOp ρ ⟨d,.slice T p none (some r) none,ty,pos,af,g⟩).run P W= .ok (.value (.slice A l'.length c)) W:=by
 obtain⟨⟨h1,h2⟩,hl⟩:=pre_some hc
 have hc':cut l 0 j=some l':=by
  unfold cut
  rw[if_pos ⟨by omega,h1,h2⟩,←hl]
  simp
 rw[Lg he hp hf hr hc',Nat.sub_zero]
 unfold vU
 split
 ·rfl
 ·cases A with
  |none=>rfl
  |some a=>simp[Addr.add]
end
section
variable {P:Program} {w:Bs} {n:Nat} {f:Nat→Option Value} {E:Nat→iL} {X:Act→World→Prop}
theorem Io{α:Type}(κ:Nat){A:Option Addr}{c e:Nat}{t:Fl α}{l l':List α}{hi:Int}(hc:pre l hi=some l')(hk:E κ=ow A c e t l)(K:Tr w n f (up E κ (ow A c e t l')) X):Tr w n f E X:=by
 obtain⟨⟨h1,h2⟩,hl⟩:=pre_some hc
 exact Ke κ hi.toNat (by omega) hk (by rw[hl];exact K)
theorem jc{t:Nat}{v v':Value}(h:f t=some v)(e:v=v'):f t=some v':=e▸h
theorem J4{k b T:Nat}{vs vs':Array Value}(h:E k=bx b vs T)(e:vs=vs'):E k=bx b vs' T:=e▸h
theorem NS{es:List iL}{Y:Nat→Prop}(h:es=List.replicate es.length emp):∀b,nk es b→Y b:=fun b ⟨e,he,hs⟩=>by
 rw[h] at he
 have:=List.eq_of_mem_replicate he
 subst this
 exact hs.elim
end
open Go.RowKit Go.Sort Go.Proofs Go.Shelf
theorem below_grow{w W:World}(h:Proofs.YtkccbhbhdnobhaaGreatDoor.Below w.heap.size w W):∃q os,W=Go.Sort.grow (w.drewN q) os:=by
 refine⟨W.drawn-w.drawn,W.heap.extract w.heap.size W.heap.size,?_⟩
 have hh:W.heap=w.heap++W.heap.extract w.heap.size W.heap.size:=by
  apply Array.ext_getElem?
  intro i
  by_cases hi:i<w.heap.size
  ·rw[Array.getElem?_append_left hi,h.block i hi]
  ·rw[Array.getElem?_append_right (by omega)]
   by_cases hW:i<W.heap.size
   ·rw[Array.getElem?_extract];simp;rw[if_pos (by omega)];congr 1;omega
   ·have:=h.size
    rw[Array.getElem?_eq_none (by omega),Array.getElem?_eq_none (by simp;omega)]
 have hd:=h.drawn
 cases W with
 |mk heap tape drawn os output=>
  have e1:=h.os;have e2:=h.tape;have e3:=h.output
  simp only at e1 e2 e3 hd hh
  subst e1 e2 e3
  simp only[Go.Sort.grow,World.drewN,World.mk.injEq,true_and,and_true]
  exact⟨hh,by omega⟩
section
variable {α:Type}
def Kz(c:α→α→Option Int)(x y:α):Bool:=decide ((c x y).getD 0<0)
structure yR (c:α→α→Option Int) (l:List α):Prop where
 len:l.length<4611686018427387904
 tot:∀x∈l,∀y∈l,∃k,c x y=some k
 irr:∀x∈l,Kz c x x=false
 tr:∀x∈l,∀y∈l,∀z∈l,Kz c x y=true→Kz c y z=true→Kz c x z=true
 ntr:∀x∈l,∀y∈l,∀z∈l,Kz c x y=false→Kz c y z=false→Kz c x z=false
def Pd(c:α→α→Option Int)(l:List α)(x y:{x // x∈l}):Int:=(c x.1 y.1).getD 0
theorem yR.swo{c:α→α→Option Int}{l:List α}(h:yR c l):SWO (ltOf (Pd c l)):=
 ⟨fun x=>h.irr x.1 x.2,fun x y z=>h.tr x.1 x.2 y.1 y.2 z.1 z.2,fun x y z=>h.ntr x.1 x.2 y.1 y.2 z.1 z.2⟩
def sI(c:α→α→Option Int)(l:List α)(i:Inhabited {x // x∈l}):Array {x // x∈l}:=pdq (ltOf (Pd c l)) l.attach.toArray 0 l.attach.toArray.size (Lib.bitLen l.attach.toArray.size) true true
open Classical in
noncomputable def Dn(l:List α)(c:α→α→Option Int):Option (List α):=
 if yR c l then some (if h:∃x,x∈l then((sI c l ⟨⟨Classical.choose h,Classical.choose_spec h⟩⟩).toList.map (·.1)) else[]) else none
theorem DI(c:α→α→Option Int)(l:List α)(i:Inhabited {x // x∈l})(h:yR c l):((sI c l i).toList.map (·.1)).Perm l∧((sI c l i).toList.map (·.1)).Pairwise (fun x y=>Kz c y x=false)∧(sI c l i).size=l.attach.toArray.size:=by
 have hp:=pdq_sorts (ltOf (Pd c l)) h.swo l.attach.toArray 0 l.attach.toArray.size (Lib.bitLen l.attach.toArray.size) true true (Nat.zero_le _) (Nat.le_refl _) (Or.inl rfl)
 obtain⟨⟨h1,_,h3⟩,h4⟩:=hp
 have hsz:(sI c l i).size=l.attach.toArray.size:=h1
 refine⟨?_,?_,hsz⟩
 ·have e1:((sI c l i).extract 0 l.attach.toArray.size)=sI c l i:=by rw[←hsz];simp
  have e2:(l.attach.toArray.extract 0 l.attach.toArray.size)=l.attach.toArray:=Array.extract_size
  have h3':((sI c l i).extract 0 l.attach.toArray.size).toList.Perm (l.attach.toArray.extract 0 l.attach.toArray.size).toList:=h3
  rw[e1,e2] at h3'
  have:=h3'.map (·.1)
  simpa using this
 ·rw[List.pairwise_map,List.pairwise_iff_getElem]
  intro a b ha hb hab
  have ha':a<(sI c l i).size:=by simpa using ha
  have hb':b<(sI c l i).size:=by simpa using hb
  have:=h4 a b (Nat.zero_le _) hab (by rw[←hsz];exact hb')
  have g1:(sI c l i)[b]! =(sI c l i)[b]'hb':=getElem!_pos (sI c l i) b hb'
  have g2:(sI c l i)[a]! =(sI c l i)[a]'ha':=getElem!_pos (sI c l i) a ha'
  have this:ltOf (Pd c l) (sI c l i)[b]! (sI c l i)[a]! =false:=this
  rw[g1,g2] at this
  have this:decide ((c (sI c l i)[b].val (sI c l i)[a].val).getD 0<0)=false:=this
  simpa[Kz] using this
theorem Np{l:List α}{c:α→α→Option Int}(h:yR c l):∃m,Dn l c=some m:=by
 unfold Dn
 rw[if_pos h]
 exact⟨_,rfl⟩
theorem DF{l m:List α}{c:α→α→Option Int}(h:Dn l c=some m):yR c l∧m.Perm l∧m.Pairwise (fun x y=>Kz c y x=false):=by
 unfold Dn at h
 split at h
 ·rename_i hs
  refine⟨hs,?_⟩
  have:=Option.some.inj h
  subst this
  split
  ·rename_i hx
   obtain⟨a,b,_⟩:=DI c l ⟨⟨Classical.choose hx,Classical.choose_spec hx⟩⟩ hs
   exact⟨a,b⟩
  ·rename_i hx
   have:l=[]:=List.eq_nil_iff_forall_not_mem.2 fun x hm=>hx ⟨x,hm⟩
   subst this
   exact⟨.refl _,.nil⟩
 ·cases h
end
theorem JO{w:World}{g n:Nat}{os:Array Obj}{cur:Array Value}{e:TypeId}{fr:Nat×Nat}(d:Array Value)(hb:w.heap[g]?=some (.cells cur e fr)):
  (grow (putRow id (Sort.ahead w n) g 0 d) os).heap[g]?=some (.cells (putCells id 0 d cur) e fr):=by
 have hg:g<w.heap.size:=(Array.getElem?_eq_some_iff.1 hb).1
 rw[heap_grow_old _ _ (by simpa using hg)]
 simp[putRow,mapBlock,Sort.ahead,Array.getElem?_modify,hb,onCells]
theorem Cf{w:World}{g n k:Nat}{os:Array Obj}(d:Array Value)(hk:k<w.heap.size)(hne:k≠g):(grow (putRow id (Sort.ahead w n) g 0 d) os).heap[k]?=w.heap[k]?:=by
 rw[heap_grow_old _ _ (by simpa using hk)]
 have:g≠k:=fun e=>hne e.symm
 simp[putRow,mapBlock,Sort.ahead,Array.getElem?_modify,this]
theorem Ah{w:World}{g n:Nat}{os:Array Obj}(d:Array Value):w.heap.size≤(grow (putRow id (Sort.ahead w n) g 0 d) os).heap.size:=by simp
theorem JN(cur:Array Value)(d:Array Value)(h:d.size≤cur.size):(putCells id 0 d cur).toList.take d.size=d.toList:=by
 apply List.ext_getElem?
 intro j
 by_cases hj:j<d.size
 ·rw[List.getElem?_take_of_lt hj,Array.getElem?_toList,Array.getElem?_toList]
  simp[putCells,hj,show j<cur.size by omega]
 ·rw[List.getElem?_take_eq_none (by omega),List.getElem?_eq_none (by simp;omega)]
theorem H9{α:Type}[Inhabited α](enc:α→List Value)(k:Nat)(hk:∀x,(enc x).length=k)(d:Array α):(flatK enc k d).toList=(d.toList.map enc).flatten:=by
 have hlen:∀(l:List α),((l.map enc).flatten).length=l.length*k:=fun l=>by
  induction l with
  |nil=>simp
  |cons a l ih=>simp[List.flatten_cons,hk,ih,Nat.succ_mul,Nat.add_comm]
 have hat:∀(l:List α) (i j:Nat) (hi:i<l.length) (hj:j<k),((l.map enc).flatten)[i*k+j]?=(enc l[i])[j]?:=fun l=>by
  induction l with
  |nil=>intro i j hi;simp at hi
  | cons a l ih=>
   intro i j hi hj
   cases i with
   |zero=>rw[List.map_cons,List.flatten_cons,Nat.zero_mul,Nat.zero_add,List.getElem?_append_left (by rw[hk];exact hj)];rfl
   |succ i=>
    rw[List.map_cons,List.flatten_cons,List.getElem?_append_right (by rw[hk,Nat.succ_mul];omega),hk]
    rw[show(i+1)*k+j-k=i*k+j by rw[Nat.succ_mul];omega,ih i j (by simpa using hi) hj]
    rfl
 apply List.ext_getElem?
 intro t
 by_cases ht:t<d.size*k
 ·have hk0:0<k:=by
   rcases Nat.eq_zero_or_pos k with h|h
   ·subst h;simp at ht
   ·exact h
  have hi:t / k<d.size:=Nat.div_lt_of_lt_mul (by rw[Nat.mul_comm];exact ht)
  have hj:t%k<k:=Nat.mod_lt _ hk0
  have e:=hat d.toList (t / k) (t%k) (by simpa using hi) hj
  rw[Nat.div_add_mod' t k] at e
  rw[e,Array.getElem?_toList,Array.getElem?_eq_getElem (by simpa using ht)]
  have g:=get_flatK enc k d t ht
  rw[getElem!_pos _ _ (by simpa using ht)] at g
  rw[g,getElem!_pos d _ hi,getElem!_pos _ _ (by rw[hk];exact hj),List.getElem?_eq_getElem (by rw[hk];exact hj)]
  simp
 ·rw[List.getElem?_eq_none (by simpa using ht),List.getElem?_eq_none (by rw[hlen];simpa using ht)]
section
variable {P:Program} {ρ:Ren} {α:Type} {w:Bs} {t:Fl α} {e:α→List Value} {A:Option Addr} {c T:Nat} {l r:List α} {cmp:α→α→Option Int} {fid:Nat} {cap:List Value}
theorem Il(he:∀u x,t.enc u x=e x){O:Nat→Prop}{W:World}{css:List (List Value)}{l:List α}(h:Al (rp t O W) css l):css=l.map e:=by
 induction h with
 |nil=>rfl
 |cons h1 _ ih=>obtain⟨u,_,rfl⟩:=h1;rw[ih,he];rfl
theorem Dp(L:SlLaysF0.n6 P ρ)(aE:∀w,(isAgg (ρ.t 24)).run P w= .ok true w)(zE:∀w,(Go.sizeOf (ρ.t 24)).run P w= .ok t.sz w)(he:∀u x,t.enc u x=e x)(ht:t.E8)(u0:t.Ad)
  (hg:∀args w,(callFunc fid args).run P w= .ok (.enter fid args) w)
  (hf:∀(w':Bs),w.Ext w'→∀(z0 z1:α),∀y,cmp z0 z1=some y→Calls P fid (([.agg (e z0).toArray,.agg (e z1).toArray]:List Value)++cap).toArray w'.W fun e W''=>e= .returned (.int .i64 y)∧HF w' W'' E0)
  (H:Dn l cmp=some r) (hE:HF w w.W (iZ [ow A c T t l])):
  Calls P (ρ.f 6) [.slice A l.length c,.func (.func fid) #[] cap.toArray].toArray w.W fun e W'=>∃u:Unit,e= .returned (.tuple #[])∧(r.length=l.length)∧HF w W' (iZ [ow A c T t r]):=by
 have hke:∀x,(e x).length=t.sz:=fun x=>by rw[←he u0 x];exact t.len u0 x
 have h1e:∀x,∀v∈e x,v.oneCell'=true:=fun x v hv=>t.one u0 x v (by rw[he];exact hv)
 obtain⟨hok,hperm,_⟩:=DF H
 have hrl:r.length=l.length:=hperm.length_eq
 have hrp:∀(W:World) (m:List α),Al (rp t w.O W) (m.map e) m:=fun W m=>Al.of_map (fun x=>⟨u0,ht _ _ _ _,(he u0 x).symm⟩) m
 obtain⟨css,hal,hlen,hown⟩:=hE.ow (k:=0) rfl
 rcases hown with⟨ev,h0⟩|⟨g,cap',cur,ev,hb0,hh,hn,hc,hs,htk⟩
 ·have hl:l=[]:=List.eq_nil_of_length_eq_zero h0
  subst hl
  have hr:r=[]:=List.eq_nil_of_length_eq_zero hrl
  subst hr
  refine(AnyF.slices_SortFunc_none L A c (.func (.func fid) #[] cap.toArray) w.W).mono fun e' W' ⟨h1,h2⟩=>?_
  subst h2
  exact⟨(),h1,rfl,hE⟩
 ·simp at ev
  obtain⟨rfl,rfl⟩:=ev
  by_cases hx:∃x,x∈l
  ·have i:Inhabited {x // x∈l}:=⟨⟨Classical.choose hx,Classical.choose_spec hx⟩⟩
   have hr:r=(sI cmp l ⟨⟨Classical.choose hx,Classical.choose_spec hx⟩⟩).toList.map (·.1):=by
    unfold Dn at H
    rw[if_pos hok,dif_pos hx] at H
    exact(Option.some.inj H).symm
   letI:Inhabited {x // x∈l}:=⟨⟨Classical.choose hx,Classical.choose_spec hx⟩⟩
   have hcss:=Il he hal
   have hsz:l.attach.toArray.size=l.length:=by simp
   have hflat:∀(d:Array {x // x∈l}),(flatK (fun x=>e x.1) t.sz d).toList=((d.toList.map (·.1)).map e).flatten:=fun d=>by
    rw[H9 (fun x:{x // x∈l}=>e x.1) t.sz (fun x=>hke x.1)];simp[List.map_map,Function.comp_def]
   have hgw:g<w.W.heap.size:=(Array.getElem?_eq_some_iff.1 hh).1
   have hcur:l.length*t.sz≤cur.size:=by rw[hs];exact Nat.mul_le_mul_right _ hn
   have hH:HoldsK (fun x:{x // x∈l}=>e x.1) t.sz w.W g 0 l.attach.toArray:=by
    intro j hj
    have hj':j<l.length*t.sz:=by simpa using hj
    refine⟨?_,by simp[World.frozen?,hh]⟩
    have e1:(cur.toList.take (l.length*t.sz))[j]?=(flatK (fun x:{x // x∈l}=>e x.1) t.sz l.attach.toArray).toList[j]?:=by
     rw[htk,hflat,hcss];simp
    rw[List.getElem?_take_of_lt hj'] at e1
    simp only[World.cell?,hh,Nat.zero_add]
    simp only[Option.isSome_none,Bool.false_eq_true,if_false]
    rw[←Array.getElem?_toList,e1,Array.getElem?_toList,Array.getElem?_eq_getElem (by simpa using hj),getElem!_pos _ _ (by simpa using hj)]
    rfl
   have hgR:¬w.R g:=(hE.bd 0 g rfl).1
   have hcmp:CmpLays P fid cap.toArray (fun x:{x // x∈l}=>e x.1) t.sz (Pd cmp l) g 0 l.attach.toArray.size w.W:=by
    intro m os dk hdk x y
    obtain⟨k,hk⟩:=hok.tot x.1 x.2 y.1 y.2
    have hS:w.W.heap.size≤(sortWorldK (fun x:{x // x∈l}=>e x.1) t.sz w.W g 0 m dk os).heap.size:=Ah _
    have hext:w.Ext ⟨sortWorldK (fun x:{x // x∈l}=>e x.1) t.sz w.W g 0 m dk os,w.O,fun b=>b<(sortWorldK (fun x:{x // x∈l}=>e x.1) t.sz w.W g 0 m dk os).heap.size,fun b hb=>by
      rcases hb with hb|hb
      ·exact Nat.lt_of_lt_of_le (w.lt b (.inl hb)) hS
      ·exact hb⟩:=⟨fun _ h=>h,fun b hb=>.inr (Nat.lt_of_lt_of_le (w.lt b hb) hS),fun b hb=>Cf _ (w.lt b hb) (fun e=>hgR (e▸hb))⟩
    have:=hf _ hext x.1 y.1 k hk
    have hargs:(([.agg (e x.1).toArray,.agg (e y.1).toArray]:List Value)++cap).toArray= #[.agg (e x.1).toArray,.agg (e y.1).toArray]++cap.toArray:=by simp
    rw[hargs] at this
    refine this.mono fun e' W'' ⟨h1,h2⟩=>⟨by rw[h1];simp[Pd,hk],?_⟩
    exact below_grow ⟨h2.os,h2.tape,h2.output,h2.size,fun b hb=>h2.keep b (.inr hb),h2.drawn⟩
   have main:=AnyQ.slices_SortFunc_eq L t.sz aE zE (fun x:{x // x∈l}=>e x.1) (fun x=>hke x.1) (fun x=>h1e x.1) (Pd cmp l) hok.swo fid cap.toArray g 0 c l.attach.toArray w.W hg hcmp hH hgw (by rw[hsz];exact hok.len)
   rw[hsz] at main
   refine main.mono fun e' W' ⟨h1,n,os,h2⟩=>⟨(),h1,hrl,?_⟩
   have hD:sI cmp l ⟨⟨Classical.choose hx,Classical.choose_spec hx⟩⟩=pdq (ltOf (Pd cmp l)) l.attach.toArray 0 l.length (Lib.bitLen l.length) true true:=by unfold sI;rw[hsz]
   rw[←hD] at h2
   obtain⟨_,_,hDs⟩:=DI cmp l ⟨⟨Classical.choose hx,Classical.choose_spec hx⟩⟩ hok
   generalize sI cmp l ⟨⟨Classical.choose hx,Classical.choose_spec hx⟩⟩=D at h2 hr hDs
   have hW:W'=grow (putRow id (Sort.ahead w.W n) g 0 (flatK (fun x:{x // x∈l}=>e x.1) t.sz D)) os:=h2
   have hfs:(flatK (fun x:{x // x∈l}=>e x.1) t.sz D).size=l.length*t.sz:=by rw[size_flatK,hDs,hsz]
   subst hW
   refine(hE.mod (E:=iZ [ow (some ⟨g,0,none⟩) c T t l]) (W':=grow (putRow id (Sort.ahead w.W n) g 0 (flatK (fun x:{x // x∈l}=>e x.1) t.sz D)) os) 0 (ow (some ⟨g,0,none⟩) c T t r) rfl rfl rfl (Ah _) (Nat.le_add_right _ _) (fun b hb hs=>Cf _ hb (fun e=>hs (by rw[e];rfl))) (lL _ _ _ _ _) ?_ (fun b hb=>?_)).weaken (fun k=>?_)
   ·refine⟨r.map e,hrp _ r,by rw[pY (hrp w.W r)],.inr ⟨g,c,_,by rw[hrl],Nat.zero_le _,JO _ hh,by rw[hrl];exact hn,hc,by simp[putCells,hs],?_⟩⟩
    rw[hrl,←hfs,JN _ _ (by rw[hfs];exact hcur),hflat,←hr]
   ·have hb:(Value.slice (some ⟨g,0,none⟩) r.length c).ownBlock=some b:=hb
    simp[Value.ownBlock] at hb
    subst hb
    exact⟨.inl rfl,Nat.lt_of_lt_of_le hgw (Ah _)⟩
   ·cases k with
    |zero=>exact .inl rfl
    |succ k=>exact .inr rfl
  ·have hl:l=[]:=List.eq_nil_iff_forall_not_mem.2 fun x hm=>hx ⟨x,hm⟩
   subst hl
   have hr:r=[]:=List.eq_nil_of_length_eq_zero hrl
   subst hr
   refine(AnyF.slices_SortFunc_none L _ c (.func (.func fid) #[] cap.toArray) w.W).mono fun e' W' ⟨h1,h2⟩=>?_
   subst h2
   exact⟨(),h1,rfl,hE⟩
end
open Go.RowKit Go.Sort Go.Proofs Go.Shelf
def G7(l:List Int):Option (List Int):=if l.length<4611686018427387904 then some (l.mergeSort fun x y=>decide (x≤y)) else none
def Re(l:List Int):Option (List Int):=some (Lib.compact l)
theorem Jr(l:List Int):(Lib.compact l).length≤l.length:=by
 unfold Lib.compact Lib.compactUpTo
 rw[List.length_map]
 exact Nat.le_trans (List.length_filter_le _ _) (by simp)
section
variable {P:Program} {ρ:Ren} {w:Bs} {A:Option Addr} {c T:Nat}
theorem Me{α:Type}{t:Fl α}{l r:List α}{g:Nat}{W':World}{cur cur':Array Value}{css:List (List Value)}(hE:HF w w.W (iZ [ow (some ⟨g,0,none⟩) c T t l]))(hh:w.W.heap[g]?=some (.cells cur T (0,0)))
  (hn:l.length≤c) (hc:c≤maxLen) (hs:cur.size=c*t.sz) (hrl:r.length≤l.length) (hh':W'.heap[g]?=some (.cells cur' T (0,0))) (hs':cur'.size=cur.size)
  (ho:W'.os=w.W.os) (htp:W'.tape=w.W.tape) (hou:W'.output=w.W.output) (hd:w.W.drawn≤W'.drawn) (hsz:w.W.heap.size≤W'.heap.size) (hother:∀b,b<w.W.heap.size→b≠g→W'.heap[b]?=w.W.heap[b]?)
  (hal:Al (rp t w.O W') css r) (htk:cur'.toList.take (r.length*t.sz)=css.flatten):HF w W' (iZ [ow (some ⟨g,0,none⟩) c T t r]):=by
 have hgw:g<w.W.heap.size:=(Array.getElem?_eq_some_iff.1 hh).1
 refine(hE.mod (E:=iZ [ow (some ⟨g,0,none⟩) c T t l]) (W':=W') 0 (ow (some ⟨g,0,none⟩) c T t r) ho htp hou hsz hd (fun b hb hs=>hother b hb (fun e=>hs (by rw[e];rfl))) (lL _ _ _ _ _) ?_ (fun b hb=>?_)).weaken (fun k=>?_)
 ·exact⟨css,hal,by rw[pY hal],.inr ⟨g,c,cur',rfl,Nat.zero_le _,hh',Nat.le_trans hrl hn,hc,by rw[hs',hs],htk⟩⟩
 ·have hb:(Value.slice (some ⟨g,0,none⟩) r.length c).ownBlock=some b:=hb
  simp[Value.ownBlock] at hb
  subst hb
  exact⟨.inl rfl,Nat.lt_of_lt_of_le hgw hsz⟩
 ·cases k with
  |zero=>exact .inl rfl
  |succ k=>exact .inr rfl
theorem JP{w:World}{g n:Nat}{os:Array Obj}{cur:Array Value}{e:TypeId}{fr:Nat×Nat}(d:Array Int)(hb:w.heap[g]?=some (.cells cur e fr)):
  (grow (putRow (Value.int .i64) (Sort.ahead w n) g 0 d) os).heap[g]?=some (.cells (putCells (Value.int .i64) 0 d cur) e fr):=by
 have hg:g<w.heap.size:=(Array.getElem?_eq_some_iff.1 hb).1
 rw[heap_grow_old _ _ (by simpa using hg)]
 simp[putRow,mapBlock,Sort.ahead,Array.getElem?_modify,hb,onCells]
theorem Hr{w:World}{g n k:Nat}{os:Array Obj}(d:Array Int)(hk:k<w.heap.size)(hne:k≠g):(grow (putRow (Value.int .i64) (Sort.ahead w n) g 0 d) os).heap[k]?=w.heap[k]?:=by
 rw[heap_grow_old _ _ (by simpa using hk)]
 have:g≠k:=fun e=>hne e.symm
 simp[putRow,mapBlock,Sort.ahead,Array.getElem?_modify,this]
theorem Ht{w:World}{g n:Nat}{cur:Array Value}{e:TypeId}{fr:Nat×Nat}(d:Array Int)(hb:w.heap[g]?=some (.cells cur e fr)):
  (putRow (Value.int .i64) (Sort.ahead w n) g 0 d).heap[g]?=some (.cells (putCells (Value.int .i64) 0 d cur) e fr):=by
 simp[putRow,mapBlock,Sort.ahead,Array.getElem?_modify,hb,onCells]
theorem FQ{w:World}{g n k:Nat}(d:Array Int)(hne:k≠g):(putRow (Value.int .i64) (Sort.ahead w n) g 0 d).heap[k]?=w.heap[k]?:=by
 have:g≠k:=fun e=>hne e.symm
 simp[putRow,mapBlock,Sort.ahead,Array.getElem?_modify,this]
theorem DW(cur:Array Value)(ts:List Int)(k:Nat)(hk:k≤ts.length)(h:ts.length≤cur.size):(putCells (Value.int .i64) 0 ts.toArray cur).toList.take k=(ts.take k).map (Value.int .i64):=by
 apply List.ext_getElem?
 intro j
 by_cases hj:j<k
 ·rw[List.getElem?_take_of_lt hj,Array.getElem?_toList,List.getElem?_map,List.getElem?_take_of_lt hj]
  simp[putCells,show j<ts.length by omega,show j<cur.size by omega]
 ·rw[List.getElem?_take_eq_none (by omega),List.getElem?_eq_none (by simp;omega)]
theorem Md{w:World}{g:Nat}{cur:Array Value}{e:TypeId}{ss:List Int}(hb:w.heap[g]?=some (.cells cur e (0,0)))(ht:cur.toList.take ss.length=ss.map (Value.int .i64)):Holds (Value.int .i64) w g 0 ss.toArray:=by
 intro j hj
 have hj':j<ss.length:=by simpa using hj
 refine⟨?_,by simp[World.frozen?,hb]⟩
 have h1:(cur.toList.take ss.length)[j]?=(ss.map (Value.int .i64))[j]?:=by rw[ht]
 rw[List.getElem?_take_of_lt hj'] at h1
 simp only[World.cell?,hb,Nat.zero_add]
 simp only[Option.isSome_none,Bool.false_eq_true,if_false]
 rw[←Array.getElem?_toList,h1]
 simp[hj']
variable {t:Fl Int} {l r:List Int}
theorem Jj(l:List Int):(l.map fun x=>[Value.int .i64 x]).flatten=l.map (Value.int .i64):=by
 induction l with
 |nil=>rfl
 |cons a l ih=>simp[List.flatten_cons,ih]
theorem G9(L:Lays.n189 P ρ)(h1:t.sz=1)(he:∀u x,t.enc u x=[Value.int .i64 x])(ht:t.E8)(u0:t.Ad)(H:G7 l=some r)(hE:HF w w.W (iZ [ow A c T t l])):
  Calls P (ρ.f 189) [.slice A l.length c].toArray w.W fun e W'=>∃u:Unit,e= .returned (.tuple #[])∧(r.length=l.length)∧HF w W' (iZ [ow A c T t r]):=by
 unfold G7 at H
 split at H
 ·rename_i hlt
  have hr:=Option.some.inj H
  have hrl:r.length=l.length:=by rw[←hr,List.length_mergeSort]
  obtain⟨css,hal,hlen,hown⟩:=hE.ow (k:=0) rfl
  rcases hown with⟨ev,h0⟩|⟨g,cap',cur,ev,hb0,hh,hn,hc,hs,htk⟩
  ·have hl:l=[]:=List.eq_nil_of_length_eq_zero h0
   subst hl
   have hr0:r=[]:=List.eq_nil_of_length_eq_zero hrl
   subst hr0
   refine(Any.slices_Sort_int_none L A c w.W).mono fun e' W' ⟨h1,h2⟩=>?_
   subst h2
   exact⟨(),h1,rfl,hE⟩
  ·simp at ev
   obtain⟨rfl,rfl⟩:=ev
   have hcss:=Il he hal
   have htk':cur.toList.take l.length=l.map (Value.int .i64):=by rw[hcss,Jj,h1,Nat.mul_one] at htk;exact htk
   have hgw:g<w.W.heap.size:=(Array.getElem?_eq_some_iff.1 hh).1
   refine(Any.slices_Sort_int L g 0 c l w.W (Md hh htk') hgw hlt).mono fun e' W' ⟨g1,n,os,g2⟩=>⟨(),g1,hrl,?_⟩
   rw[hr] at g2
   subst g2
   have hcs:r.length≤cur.size:=by rw[hs,hrl,h1];omega
   refine Me hE (css:=r.map fun x=>[Value.int .i64 x]) hh hn hc hs (Nat.le_of_eq hrl) (JP _ hh) (by simp[putCells]) rfl rfl rfl (Nat.le_add_right _ _) (by simp) (fun b hb hne=>Hr _ hb hne) (Al.of_map (fun x=>⟨u0,ht _ _ _ _,(he u0 x).symm⟩) r) ?_
   rw[Jj,h1,Nat.mul_one,DW _ _ _ (Nat.le_refl _) hcs,List.take_length]
 ·cases H
theorem Dt(L:Lays2.n20 P ρ)(h1:t.sz=1)(he:∀u x,t.enc u x=[Value.int .i64 x])(ht:t.E8)(u0:t.Ad)(H:Re l=some r)(hE:HF w w.W (iZ [ow A c T t l])):
  Calls P (ρ.f 20) [.slice A l.length c].toArray w.W fun e W'=>∃u:(Option Addr×Nat),e= .returned (.slice u.1 r.length u.2)∧(cO u.1 r.length u.2)∧HF w W' (iZ [ow u.1 u.2 T t r]):=by
 have hr:=Option.some.inj H
 obtain⟨css,hal,hlen,hown⟩:=hE.ow (k:=0) rfl
 rcases hown with⟨h0,ev⟩|⟨g,cap',cur,ev,hb0,hh,hn,hc,hs,htk⟩
 ·have hl:l=[]:=List.eq_nil_of_length_eq_zero ev
  subst hl
  have hr0:r=[]:=by rw[←hr];rfl
  subst hr0
  refine(Any.slices_Compact_int_empty L A c w.W).mono fun e' W' ⟨g1,g2⟩=>?_
  subst g2
  have:A=none∧c=0:=by simpa using h0
  obtain⟨rfl,rfl⟩:=this
  exact⟨(none,0),g1,gZ,hE⟩
 ·simp at ev
  obtain⟨rfl,rfl⟩:=ev
  have hcss:=Il he hal
  have htk':cur.toList.take l.length=l.map (Value.int .i64):=by rw[hcss,Jj,h1,Nat.mul_one] at htk;exact htk
  have hrl:r.length≤l.length:=by rw[←hr];exact Jr l
  refine(Any.slices_Compact_int L g 0 c l w.W (Md hh htk') (Nat.le_trans hn hc) hn).mono fun e' W' ⟨g1,n,g2⟩=>⟨(some ⟨g,0,none⟩,c),by rw[g1,hr],⟨Nat.le_trans hrl hn,hc,fun _=>rfl⟩,?_⟩
  rw[hr] at g2
  subst g2
  have hfl:(r++List.replicate (l.length-r.length) (0:Int)).length=l.length:=by simp;omega
  refine Me hE (css:=r.map fun x=>[Value.int .i64 x]) hh hn hc hs hrl (Ht _ hh) (by simp[putCells]) rfl rfl rfl (Nat.le_add_right _ _) (by simp[putRow,mapBlock,Sort.ahead]) (fun b hb hne=>FQ _ hne) (Al.of_map (fun x=>⟨u0,ht _ _ _ _,(he u0 x).symm⟩) r) ?_
  rw[Jj,h1,Nat.mul_one,DW _ _ _ (by omega) (by rw[hfl,hs,h1];omega),List.take_left]
end
open Go.RowKit
theorem Gi(zc:List Value):∀(n i:Nat),i<n*zc.length→((List.replicate n zc).flatten)[i]?=zc[i%zc.length]?
 |0,i,h=>by simp at h
 |n+1,i,h=>by
  rw[List.replicate_succ,List.flatten_cons]
  by_cases hi:i<zc.length
  ·rw[List.getElem?_append_left hi,Nat.mod_eq_of_lt hi]
  ·rw[List.getElem?_append_right (by omega),Gi zc n (i-zc.length) (by rw[Nat.succ_mul] at h;omega),←Nat.mod_eq_sub_mod (by omega)]
theorem zK(zc:List Value)(n:Nat):((List.replicate n zc).flatten).length=n*zc.length:=by
 induction n with
 |zero=>simp
 |succ n ih=>rw[List.replicate_succ,List.flatten_cons,List.length_append,ih,Nat.succ_mul,Nat.add_comm]
theorem wV(zc:List Value)(n:Nat):(Builtin.zeroCells zc.toArray n).toList=(List.replicate n zc).flatten:=by
 apply List.ext_getElem?
 intro i
 by_cases h:i<n*zc.length
 ·have hz:0<zc.length:=by
   rcases Nat.eq_zero_or_pos zc.length with e|e
   ·rw[e] at h;simp at h
   ·exact e
  rw[Gi zc n i h]
  unfold Builtin.zeroCells
  have hm:i%zc.length<zc.length:=Nat.mod_lt _ hz
  simp[h,hm]
 ·rw[List.getElem?_eq_none (by unfold Builtin.zeroCells;simp;omega),List.getElem?_eq_none (by rw[zK];omega)]
theorem Al.Nh{α β:Type}{R:α→β→Prop}{a:α}{b:β}(h:R a b):∀n:Nat,Al R (List.replicate n a) (List.replicate n b)
 |0=>.nil
 |n+1=>.cons h (Al.Nh h n)
def MC{α:Type}(l:List α)(lo:Int)(m:Nat)(z:α):List α:=l.take lo.toNat++List.replicate m z
theorem Oq{α:Type}{l l':List α}{lo:Int}(z:α)(h:cut l lo l.length=some l'):(MC l lo l'.length z).length=l.length:=by
 have:=zN h
 obtain⟨⟨h1,h2,_⟩,_⟩:=tL h
 unfold MC
 rw[List.length_append,List.length_take,List.length_replicate]
 omega
section
variable {P:Program} {w:Bs} {n:Nat} {f:Nat→Option Value} {E:Nat→iL} {Q:Exit→Act→World→Prop} {ops:Array Oper} {rest:List Oper}
variable {ty T:Nat} {pos:String} {af:Array Edge} {g:Option (Nat×Bool)} {p:Operand}
theorem GJ{α:Type}(κ:Nat){A:Option Addr}{c e m:Nat}{lo:Int}{t:Fl α}{l l':List α}(z:α){zc:List Value}(hw:Wn ops f ⟨none,.call ⟨.builtin .clear,#[p],#[T]⟩,ty,pos,af,g⟩)(hp:ev f p=some (.slice (vU A lo.toNat t.sz c) l'.length (c-lo.toNat)))
  (hcut:Proofs.YtkccbhbhdnobhaaGreatDoor.cut l lo l.length=some l') (hk:E κ=ow A c e t l) (hu:P.underlying T=some (.slice e)) (hz:zeroOf P e=some zc) (hzr:∃u,t.ok w.O w.W u z∧t.enc u z=zc) (h1:zc.all (·.oneCell')=true) (hm:l'.length=m)
  (K:Tr w n f (up E κ (ow A c e t (MC l lo m z))) (wpList P ops Q rest)):
  Tr w n f E (wpList P ops Q (⟨none,.call ⟨.builtin .clear,#[p],#[T]⟩,ty,pos,af,g⟩::rest)):=
 Tr.op hw fun a W k1 k2=>by
  subst hm
  unfold MC at K
  have hl:=zN hcut
  obtain⟨⟨c1,c2,_⟩,_⟩:=tL hcut
  obtain⟨zu,hzok,hzenc⟩:=hzr
  have hzl:zc.length=t.sz:=by rw[←hzenc];exact t.len zu z
  have hlo:lo.toNat≤l.length:=by omega
  have hll:l'.length=l.length-lo.toNat:=by omega
  obtain⟨css,hal,hlen,hown⟩:=k2.ow hk
  unfold Oper.wp
  by_cases h0:l'.length=0
  ·have hrun:(execOp a.eval ⟨none,.call ⟨.builtin .clear,#[p],#[T]⟩,ty,pos,af,g⟩).run P W= .ok (.value (.tuple #[])) W:=by
    have hpe:=k1.ev hp
    rw[h0] at hpe
    cases hA:vU A lo.toNat t.sz c<;>rw[hA] at hpe<;>simp[execOp,resolve,invoke,builtin,hpe,Builtin.clear_,run_underlying hu]
   rw[hrun]
   have hE0:l.take lo.toNat++List.replicate l'.length z=l:=by rw[h0,List.take_of_length_le (by omega)];simp
   rw[hE0] at K
   simp only[Oper.upon]
   exact K _ W (by simpa[Act.put] using k1) (k2.weaken fun k=>by
    rcases dC E κ (ow A c e t l) k with⟨h1,h2⟩|⟨_,h2⟩<;>rw[h2]
    ·subst h1;exact .inl hk.symm
    ·exact .inl rfl)
  rcases hown with⟨ev,hz0⟩|⟨gg,cap',cur,ev,hb0,hh,hn,hc,hs,htk⟩
  ·omega
  ·simp at ev
   obtain⟨rfl,rfl⟩:=ev
   have hgw:gg<W.heap.size:=(Array.getElem?_eq_some_iff.1 hh).1
   have hAd:vU (some ⟨gg,0,none⟩) lo.toNat t.sz c=some ⟨gg,lo.toNat*t.sz,none⟩:=by
    unfold vU
    rw[if_neg (by omega)]
    simp[Addr.add_lit]
   have hpe:=k1.ev hp
   rw[hAd] at hpe
   have hzv:∃zv,(zeroValue e).run P W= .ok zv W∧zv.cells=zc.toArray:=BX hz
   obtain⟨zv,hz1,hz2⟩:=hzv
   have hcur:l.length*t.sz≤cur.size:=by rw[hs];exact Nat.mul_le_mul_right _ hn
   have hct:cur.toList.length=cur.size:=Array.length_toList
   have hfl:((List.replicate l'.length zc).flatten).length=l'.length*t.sz:=by rw[zK,hzl]
   have hsum:lo.toNat*t.sz+l'.length*t.sz=l.length*t.sz:=by rw[←Nat.add_mul];congr 1;omega
   have hst:=run_storeCells_at P gg (lo.toNat*t.sz) e (List.replicate l'.length zc).flatten 0 cur W hh (by rw[hfl];omega) (fun v hv=>by
    obtain⟨x,hx,hv⟩:=List.mem_flatten.1 hv
    rw[List.eq_of_mem_replicate hx] at hv
    exact List.all_eq_true.1 h1 v hv)
   rw[←wV,Nat.add_zero,←hz2] at hst
   have hrun:(execOp a.eval ⟨none,.call ⟨.builtin .clear,#[p],#[T]⟩,ty,pos,af,g⟩).run P W= .ok (.value (.tuple #[])) (W.setRow gg (cur.toList.take (lo.toNat*t.sz)++(Builtin.zeroCells zv.cells l'.length).toList++cur.toList.drop (lo.toNat*t.sz+(Builtin.zeroCells zv.cells l'.length).toList.length)).toArray):=by
    obtain⟨m',hm'⟩:∃m',l'.length=m'+1:=⟨l'.length-1,by omega⟩
    rw[hm'] at hpe hst ⊢
    simp[execOp,resolve,invoke,builtin,hpe,Builtin.clear_,run_underlying hu,hz1,hst]
   rw[hrun]
   simp only[Oper.upon]
   rw[hz2,wV,hfl]
   refine K _ _ (by simpa[Act.put] using k1) ?_
   have hgO:¬w.R gg:=(k2.bd κ gg (by rw[hk];rfl)).1
   have hne:∀vs,∀b,b≠gg→(W.setRow gg vs).heap[b]?=W.heap[b]?:=fun vs b hb=>by
    simp only[World.setRow,Array.getElem?_modify]
    rw[if_neg (fun e=>hb e.symm)]
   refine k2.mod κ (Proofs.YtkccbhbhdnobhaaGreatDoor.ow (some ⟨gg,0,none⟩) c e t (l.take lo.toNat++List.replicate l'.length z)) rfl rfl rfl (by simp[World.setRow]) (Nat.le_refl _) (fun b hb hsb=>hne _ b (fun e=>hsb (by rw[hk,e];rfl))) (lL _ _ _ _ _) ?_ (fun b hb=>?_)
   ·have hrz:rp t w.O W zc z:=⟨zu,t.loc hzok (fun _ hb=>hb) (fun b hb=>k2.keep b (.inl hb)),hzenc.symm⟩
    have hal':=(hal.take lo.toNat).append (Al.Nh hrz l'.length)
    have hlen':(l.take lo.toNat++List.replicate l'.length z).length=l.length:=by simp;omega
    refine⟨css.take lo.toNat++List.replicate l'.length zc,hal'.mono (fun _ _ hr=>hr.loc (fun _ hb=>hb) (fun b hb=>hne _ b (fun e=>hgO (.inl (e▸hb))))),by rw[pY hal'],.inr ⟨gg,c,_,by rw[hlen'],Nat.zero_le _,setRow_heap W gg cur _ e _ hh,by rw[hlen'];exact hn,hc,?_,?_⟩⟩
    ·rw[List.size_toArray,List.length_append,List.length_append,List.length_take,List.length_drop,Array.length_toList,hfl];omega
    ·rw[hlen',List.flatten_append,D8 hal,←htk,List.take_take,Nat.min_eq_left (by omega)]
     show List.take (l.length*t.sz) (cur.toList.take (lo.toNat*t.sz)++(List.replicate l'.length zc).flatten++cur.toList.drop (lo.toNat*t.sz+l'.length*t.sz))=_
     rw[List.take_append_of_le_length (by rw[List.length_append,List.length_take,hct,hfl];omega),List.take_of_length_le (by rw[List.length_append,List.length_take,hct,hfl];omega)]
   ·have hb:(Value.slice (some ⟨gg,0,none⟩) (l.take lo.toNat++List.replicate l'.length z).length c).ownBlock=some b:=hb
    simp[Value.ownBlock] at hb
    subst hb
    exact⟨.inl (by rw[hk];rfl),by simp[World.setRow];exact hgw⟩
end
open Go.RowKit
section
variable {P:Program} {ρ:Operand→Value} {W:World} {d:Option Tmp} {ty:TypeId} {pos:String} {af:Array Edge} {g:Option (Nat×Bool)} {p q r:Operand} {k:IntKind} {i j m:Int}
theorem LP:(Builtin.max2 (.int k i) (.int k j)).run P W= .ok (.int k (max i j)) W:=by
 simp[Builtin.max2,Int.max_def]
 split<;>split<;>first|rfl|omega|(congr 2;omega)
theorem Lc(hp:ρ p= .int k i)(hq:ρ q= .int k j)(hr:ρ r= .int k m)(ts:Array TypeId):(execOp ρ ⟨d,.call ⟨.builtin .max,#[p,q,r],ts⟩,ty,pos,af,g⟩).run P W= .ok (.value (.int k (max (max i j) m))) W:=by
 simp[execOp,go_sem,hp,hq,hr,Builtin.max_,LP]
end
theorem yf{P:Program}{w:Bs}{n:Nat}{f:Nat→Option Value}{E:Nat→iL}{fu:Func}{R:Ending→World→Prop}(h:Tr w n f E (bodyPost P fu R .ret)):Tr w n f E (bodyPost P fu R .normal):=fun a W h1 h2=>h a W h1 h2
open Go.RowKit
section
variable {P:Program} {w:Bs} {n:Nat} {ops:Array Oper} {f:Nat→Option Value} {E:Nat→iL} {Q:Exit→Act→World→Prop} {rest:List Oper} {d:Nat} {ty:TypeId} {pos:String} {af:Array Edge} {g:Option (Nat×Bool)}
theorem JJ{a:Act}{W:World}{fn:Nat}{x:Operand}{xs:List Operand}{vs:List Value}{ts:Array Nat}{dd:Option Nat}(h1:FR n f a)(hxf:ev f x=some (.func (.func fn) #[] #[]))(hg:∀args W,(callFunc fn args).run P W= .ok (.enter fn args) W)(hx:Ec f xs vs):
  (execOp a.eval ⟨dd,.call ⟨.value x,xs.toArray,ts⟩,ty,pos,af,g⟩).run P W= .ok (.enter fn vs.toArray) W:=by
 have:=vR hx a h1
 simp[execOp,resolve,invoke,Deferred.ofValue,h1.ev hxf,hg,this]
theorem El{U:Type}{fn:Nat}{x:Operand}{xs:List Operand}{vs:List Value}{ts:Array Nat}(ks:List Nat)(ins:List iL)(V:U→Value)(Φ:(Nat→Prop)→World→U→Prop)(outs:U→List iL)(hn:decide ks.Nodup=true)(hp:Pk E ks ins)(hl:∀u,(outs u).length=ks.length)
  (hw:Wn ops f ⟨some d,.call ⟨.value x,xs.toArray,ts⟩,ty,pos,af,g⟩) (hdn:Nat.blt d n=true) (hxf:ev f x=some (.func (.func fn) #[] #[]))
  (hg:∀args W,(callFunc fn args).run P W= .ok (.enter fn args) W) (hx:Ec f xs vs)
  (hc:∀W (hW:HF w W E) (_:Pk E ks ins),HF (hW.sub (nk ins)) W (iZ ins)→Calls P fn vs.toArray W fun e W'=>∃w' u,(hW.sub (nk ins)).Le w'∧e= .returned (V u)∧Φ w'.O w'.W u∧HF w' W' (iZ (outs u)))
  (K:∀w' u,w.Le w'→Φ w'.O w'.W u→Tr w' n (uf f d (V u)) (Ky E ks (outs u)) (wpList P ops Q rest)):Tr w n f E (wpList P ops Q (⟨some d,.call ⟨.value x,xs.toArray,ts⟩,ty,pos,af,g⟩::rest)):=
 Tr.op hw fun a W h1 h2=>by
  unfold Oper.wp
  rw[JJ h1 hxf hg hx]
  have hn':=of_decide_eq_true hn
  refine(hc W h2 hp (h2.JY hn' hp)).mono fun e W' ⟨w',u,hle,he,hu,hb⟩=>?_
  subst he
  exact K (h2.after hle) u (h2.ve hp hle) hu _ _ (h1.put (Nat.le_of_ble_eq_true hdn) _) (h2.back hn' hp hle hb (hl u))
end
open Go.RowKit
abbrev iv(n:Int):Value:=.int .i64 n
abbrev sv(s:ByteArray):Value:=.string s
abbrev bV(b:Bool):Value:=.bool b
abbrev pV(b:Nat):Value:=.pointer (some ⟨b,0,none⟩)
abbrev sL{α:Type}(A:Option Addr)(l:List α)(c:Nat):Value:=.slice A l.length c
theorem oI{α:Type}{a b:α}(h:some a=some b):a=b:=Option.some.inj h
section
variable {P:Program} {w:Bs} {n:Nat} {ops:Array Oper} {f:Nat→Option Value} {E:Nat→iL} {Q:Exit→Act→World→Prop} {X:Act→World→Prop} {rest:List Oper} {d ty:Nat} {pos:String} {af:Array Edge} {p:Operand} {v:Value} {x y:Code} {id:Nat} {l:List Oper} {op:Op}
theorem aC(hdn:Nat.blt d n=true)(hr:∀a W,FR n f a→HF w W E→(execOp a.eval ⟨some d,op,ty,pos,af,none⟩).run P W= .ok (.value v) W)(k:Tr w n (uf f d v) E (wpList P ops Q rest)):Tr w n f E (wpList P ops Q (⟨some d,op,ty,pos,af,none⟩::rest)):=Tr.val (wn rfl) hdn hr k
theorem bv(hdn:Nat.blt d n=true)(hr:∀a W,FR n f a→HF w W E→(execOp a.eval ⟨some d,op,ty,pos,af,none⟩).run P W= .ok (.value v) W)(k:Tq P w n ops (uf f d v) E X rest):Tq P w n ops f E X (⟨some d,op,ty,pos,af,none⟩::rest):=Tq.val (wn rfl) hdn hr k
theorem Ry(hdn:Nat.blt d n=true)(hp:ev f p=some v)(k:Tr w n (uf f d v) E (wpList P ops Q rest)):Tr w n f E (wpList P ops Q (⟨some d,.move p,ty,pos,af,none⟩::rest)):=aC hdn (fun _ _ h1 _=>run_move (h1.ev hp)) k
theorem Qo(hdn:Nat.blt d n=true)(hp:ev f p=some v)(k:Tr w n (uf f d v) E (wpList P ops Q rest)):Tr w n f E (wpList P ops Q (⟨some d,.assign p,ty,pos,af,none⟩::rest)):=aC hdn (fun _ _ h1 _=>run_assign (h1.ev hp)) k
theorem Rz(hdn:Nat.blt d n=true)(hp:ev f p=some v)(k:Tq P w n ops (uf f d v) E X rest):Tq P w n ops f E X (⟨some d,.move p,ty,pos,af,none⟩::rest):=bv hdn (fun _ _ h1 _=>run_move (h1.ev hp)) k
theorem nD(hdn:Nat.blt d n=true)(hp:ev f p=some v)(k:Tq P w n ops (uf f d v) E X rest):Tq P w n ops f E X (⟨some d,.assign p,ty,pos,af,none⟩::rest):=bv hdn (fun _ _ h1 _=>run_assign (h1.ev hp)) k
theorem ai(h:Tr w n f E (wpList P l.toArray (Exit.then (y.wp P Q) Q) l)):Tr w n f E ((Code.seq (Code.region id l.toArray false) y).wp P Q):=av (Tr.region h)
end
open Go.RowKit
section
variable {P:Program} {w:Bs} {n:Nat} {ops:Array Oper} {f:Nat→Option Value} {E:Nat→iL} {Q:Exit→Act→World→Prop} {rest:List Oper} {d:Nat} {ty:TypeId} {pos:String} {af:Array Edge} {g:Option (Nat×Bool)}
theorem JK{a:Act}{W:World}{fn:Nat}{x:Operand}{xs:List Operand}{vs caps:List Value}{ts:Array Nat}{dd:Option Nat}(h1:FR n f a)(hxf:ev f x=some (.func (.func fn) #[] caps.toArray))(hg:∀args W,(callFunc fn args).run P W= .ok (.enter fn args) W)(hx:Ec f xs vs):
  (execOp a.eval ⟨dd,.call ⟨.value x,xs.toArray,ts⟩,ty,pos,af,g⟩).run P W= .ok (.enter fn (vs++caps).toArray) W:=by
 have:=vR hx a h1
 simp[execOp,resolve,invoke,Deferred.ofValue,h1.ev hxf,hg,this]
theorem AA{U:Type}{fn:Nat}{x:Operand}{xs:List Operand}{vs caps:List Value}{ts:Array Nat}(ks:List Nat)(ins:List iL)(V:U→Value)(Φ:U→Prop)(outs:U→List iL)(hn:decide ks.Nodup=true)(hp:Pk E ks ins)(hl:∀u,(outs u).length=ks.length)
  (hw:Wn ops f ⟨some d,.call ⟨.value x,xs.toArray,ts⟩,ty,pos,af,g⟩) (hdn:Nat.blt d n=true) (hxf:ev f x=some (.func (.func fn) #[] caps.toArray))
  (hg:∀args W,(callFunc fn args).run P W= .ok (.enter fn args) W) (hx:Ec f xs vs)
  (hc:∀W (hW:HF w W E) (_:Pk E ks ins),HF (hW.sub (nk ins)) W (iZ ins)→Calls P fn (vs++caps).toArray W fun e W'=>∃u,e= .returned (V u)∧Φ u∧HF (hW.sub (nk ins)) W' (iZ (outs u)))
  (K:∀u,Φ u→Tr w n (uf f d (V u)) (Ky E ks (outs u)) (wpList P ops Q rest)):Tr w n f E (wpList P ops Q (⟨some d,.call ⟨.value x,xs.toArray,ts⟩,ty,pos,af,g⟩::rest)):=
 Tr.op hw fun a W h1 h2=>by
  unfold Oper.wp
  rw[JK h1 hxf hg hx]
  have hn':=of_decide_eq_true hn
  refine(hc W h2 hp (h2.JY hn' hp)).mono fun e W' ⟨u,he,hu,hb⟩=>?_
  subst he
  exact K u hu _ _ (h1.put (Nat.le_of_ble_eq_true hdn) _) (HF.La (h2.ve hp (.refl _)) (fun _ h=>h) (h2.back hn' hp (.refl _) hb (hl u)))
end
open Go.RowKit Go.Proofs
open Go.ChangeMaps Go.MapKept
open Go.Maps (Keyed int_keyed keyOf_int_mk)
def Nj(k:Int):Bool:=decide (-9223372036854775808≤k)&&decide (k≤9223372036854775807)
section
variable {P:Program} {w:Bs} {n:Nat} {f:Nat→Option Value} {E:Nat→iL} {X:Act→World→Prop} {Q:Exit→Act→World→Prop} {ops:Array Oper} {rest:List Oper}
variable {d ty T MT KT VT:Nat} {pos:String} {af:Array Edge} {g:Option (Nat×Bool)} {p q x:Operand} {b:Nat}
def JW(W:World)(b:Nat)(kv:List (Value×Value)):Prop:=∃es clock,W.heap[b]?=some (.map es clock)∧es.toList.map (fun x=>(x.key,x.val))=kv
theorem LJ{W W':World}{b:Nat}{kv:List (Value×Value)}(h:W'.heap[b]?=W.heap[b]?)(hp:JW W b kv):JW W' b kv:=by
 obtain⟨es,clock,h1,h2⟩:=hp
 exact⟨es,clock,h.trans h1,h2⟩
theorem HF.split{W:World}(h:HF w W E){κ κ':Nat}{e1 e2:iL}(hne:κ'≠κ)(l1:e1.loc)(l2:e2.loc)(p1:e1.φ w.O W)(p2:e2.φ w.O W)(s1:∀b,e1.S b→(E κ).S b)(s2:∀b,e2.S b→(E κ).S b)(hd:∀b,e1.S b→¬e2.S b):
  HF w W (up (up E κ e1) κ' e2) where
 os:=h.os
 tape:=h.tape
 output:=h.output
 size:=h.size
 drawn:=h.drawn
 keep:=h.keep
 phi j:=by
  rcases dC (up E κ e1) κ' e2 j with⟨_,h2⟩|⟨_,h2⟩<;>rw[h2]
  ·exact p2
  ·rcases dC E κ e1 j with⟨_,h2⟩|⟨_,h2⟩<;>rw[h2]
   ·exact p1
   ·exact h.phi j
 loc j:=by
  rcases dC (up E κ e1) κ' e2 j with⟨_,h2⟩|⟨_,h2⟩<;>rw[h2]
  ·exact l2
  ·rcases dC E κ e1 j with⟨_,h2⟩|⟨_,h2⟩<;>rw[h2]
   ·exact l1
   ·exact h.loc j
 bd j x:=by
  rcases dC (up E κ e1) κ' e2 j with⟨_,h2⟩|⟨_,h2⟩<;>rw[h2]
  ·exact fun hx=>h.bd κ x (s2 x hx)
  ·rcases dC E κ e1 j with⟨_,h2⟩|⟨_,h2⟩<;>rw[h2]
   ·exact fun hx=>h.bd κ x (s1 x hx)
   ·exact h.bd j x
 mX j j' x hjj:=by
  rcases dC (up E κ e1) κ' e2 j with⟨a1,a2⟩|⟨a1,a2⟩<;>rw[a2]
  ·rcases dC (up E κ e1) κ' e2 j' with⟨b1,b2⟩|⟨b1,b2⟩<;>rw[b2]
   ·exact absurd (a1.trans b1.symm) hjj
   ·rcases dC E κ e1 j' with⟨c1,c2⟩|⟨c1,c2⟩<;>rw[c2]
    ·exact fun hx hy=>hd x hy hx
    ·exact fun hx=>h.mX κ j' x (fun e=>c1 e.symm) (s2 x hx)
  ·rcases dC (up E κ e1) κ' e2 j' with⟨b1,b2⟩|⟨b1,b2⟩<;>rw[b2]
   ·rcases dC E κ e1 j with⟨c1,c2⟩|⟨c1,c2⟩<;>rw[c2]
    ·exact fun hx=>hd x hx
    ·exact fun hx hy=>h.mX j κ x c1 hx (s2 x hy)
   ·rcases dC E κ e1 j with⟨c1,c2⟩|⟨c1,c2⟩<;>rw[c2]
    ·rcases dC E κ e1 j' with⟨d1,d2⟩|⟨d1,d2⟩<;>rw[d2]
     ·exact absurd (c1.trans d1.symm) hjj
     ·exact fun hx=>h.mX κ j' x (fun e=>d1 e.symm) (s1 x hx)
    ·rcases dC E κ e1 j' with⟨d1,d2⟩|⟨d1,d2⟩<;>rw[d2]
     ·exact fun hx hy=>h.mX j κ x c1 hx (s1 x hy)
     ·exact h.mX j j' x hjj
theorem HF.merge{W W':World}(h:HF w W E){κ κ':Nat}(e:iL)(hne:κ'≠κ)(hos:W'.os=W.os)(htp:W'.tape=W.tape)(hou:W'.output=W.output)(hsz:W.heap.size≤W'.heap.size)(hdr:W.drawn≤W'.drawn)
  (hbl:∀x,x<W.heap.size→¬(E κ).S x→W'.heap[x]?=W.heap[x]?) (he:e.loc) (hp:e.φ w.O W') (hS:∀x,e.S x→(E κ).S x∨(E κ').S x):HF w W' (up (up E κ' emp) κ e) where
 os:=hos.trans h.os
 tape:=htp.trans h.tape
 output:=hou.trans h.output
 size:=Nat.le_trans h.size hsz
 drawn:=Nat.le_trans h.drawn hdr
 keep x hx:=(hbl x (h.DU hx) (fun hs=>(h.bd κ x hs).1 hx)).trans (h.keep x hx)
 phi j:=by
  rcases dC (up E κ' emp) κ e j with⟨_,h2⟩|⟨h1,h2⟩<;>rw[h2]
  ·exact hp
  ·rcases dC E κ' emp j with⟨_,h3⟩|⟨h4,h3⟩<;>rw[h3]
   ·trivial
   ·refine(h.loc j).at_ _ W W' (fun x hx=>?_) (h.phi j)
    rcases hx with hx|hx
    ·exact hbl x (h.DU (.inl hx)) (fun hs=>(h.bd κ x hs).1 (.inl hx))
    ·exact hbl x (h.bd j x hx).2 (fun hs=>h.mX j κ x h1 hx hs)
 loc j:=by
  rcases dC (up E κ' emp) κ e j with⟨_,h2⟩|⟨_,h2⟩<;>rw[h2]
  ·exact he
  ·rcases dC E κ' emp j with⟨_,h2⟩|⟨_,h2⟩<;>rw[h2]
   ·exact sK
   ·exact h.loc j
 bd j x:=by
  rcases dC (up E κ' emp) κ e j with⟨_,h2⟩|⟨_,h2⟩<;>rw[h2]
  ·intro hx
   rcases hS x hx with hx|hx
   ·exact⟨(h.bd κ x hx).1,Nat.lt_of_lt_of_le (h.bd κ x hx).2 hsz⟩
   ·exact⟨(h.bd κ' x hx).1,Nat.lt_of_lt_of_le (h.bd κ' x hx).2 hsz⟩
  ·rcases dC E κ' emp j with⟨_,h2⟩|⟨_,h2⟩<;>rw[h2]
   ·exact fun hx=>hx.elim
   ·exact fun hx=>⟨(h.bd j x hx).1,Nat.lt_of_lt_of_le (h.bd j x hx).2 hsz⟩
 mX j j' x hjj:=by
  rcases dC (up E κ' emp) κ e j with⟨a1,a2⟩|⟨a1,a2⟩<;>rw[a2]
  ·rcases dC (up E κ' emp) κ e j' with⟨b1,b2⟩|⟨b1,b2⟩<;>rw[b2]
   ·exact absurd (a1.trans b1.symm) hjj
   ·rcases dC E κ' emp j' with⟨c1,c2⟩|⟨c1,c2⟩<;>rw[c2]
    ·exact fun _ hy=>hy
    ·intro hx
     rcases hS x hx with hx|hx
     ·exact h.mX κ j' x (fun e=>b1 e.symm) hx
     ·exact h.mX κ' j' x (fun e=>c1 e.symm) hx
  ·rcases dC (up E κ' emp) κ e j' with⟨b1,b2⟩|⟨b1,b2⟩<;>rw[b2]
   ·rcases dC E κ' emp j with⟨c1,c2⟩|⟨c1,c2⟩<;>rw[c2]
    ·exact fun hx=>hx.elim
    ·intro hx hy
     rcases hS x hy with hy|hy
     ·exact h.mX j κ x a1 hx hy
     ·exact h.mX j κ' x c1 hx hy
   ·rcases dC E κ' emp j with⟨c1,c2⟩|⟨c1,c2⟩<;>rw[c2]
    ·exact fun hx=>hx.elim
    ·rcases dC E κ' emp j' with⟨d1,d2⟩|⟨d1,d2⟩<;>rw[d2]
     ·exact fun _ hy=>hy
     ·exact h.mX j j' x hjj
theorem Am{k:Int}(h:Nj k=true):(Lit.int .i64 k).wf=true:=by
 unfold Nj at h
 simp only[Bool.and_eq_true,decide_eq_true_eq] at h
 have e1:IntKind.min .i64= -9223372036854775808:=by decide
 have e2:IntKind.max .i64=9223372036854775807:=by decide
 simp[Lit.wf,e1,e2,h]
theorem Ca{W:World}{kvs:List (Value×Value)}{k:Int}{val:Value}(hMT:P.underlying MT=some (.map KT VT))(hKT:P.underlying KT=some (.int .i64))(hr:Nj k=true)(hb:JW W b kvs)(hkeys:∀p∈kvs,∃k',p.1=Value.int .i64 k'∧Nj k'=true):
  ∃W',(Instr.mapUpdate MT (.map (some b)) (.int .i64 k) val).run P W= .ok () W'∧W'.os=W.os∧W'.tape=W.tape∧W'.output=W.output∧W'.heap.size=W.heap.size∧W'.drawn=W.drawn∧(∀x,x≠b→W'.heap[x]?=W.heap[x]?)∧
   (((∀p∈kvs,p.1≠Value.int .i64 k)∧JW W' b (kvs++[(Value.int .i64 k,val)]))∨∃j v,kvs[j]?=some (Value.int .i64 k,v)∧JW W' b (kvs.set j (Value.int .i64 k,val))):=by
 obtain⟨es,clock,hb,rfl⟩:=hb
 have K:=int_keyed hKT
 have hkey:=keyOf_int_mk hKT (Am hr)
 have hks:∀e∈es.toList,∃l,keyOf P KT e.key=some l:=fun e he=>by
  obtain⟨k',h1,h2⟩:=hkeys (e.key,e.val) (List.mem_map_of_mem (f:=fun x:MapEntry=>(x.key,x.val)) he)
  simp only at h1
  exact⟨_,by rw[h1];exact keyOf_int_mk hKT (Am h2)⟩
 rcases K.find W hkey es.toList hks with⟨f1,f2⟩|⟨j,e0,f1,f2,f3⟩
 ·refine⟨setBlock W b (.map (es.push ⟨.int .i64 k,val,clock⟩) (clock+1)),?_,rfl,rfl,rfl,by simp[setBlock],rfl,fun x hx=>heap_setBlock_other hb _ hx,.inl ⟨fun p hp=>?_,?_⟩⟩
  ·simp[Instr.mapUpdate,run_underlying hMT,MapKept.run_getObj_map hb,K.check W false hkey,f1,MapKept.run_setObj_map _ hb,Result.andThen,setBlock]
  ·obtain⟨x,hx,rfl⟩:=List.mem_map.1 hp
   exact f2 x hx
  ·exact⟨_,_,heap_setBlock_same hb _,by simp⟩
 ·have hj:es[j]?=some e0:=by simpa using f2
  have hlist:(es.modify j (fun e'=>{e' with key:=.int .i64 k,val:=val})).toList=es.toList.set j {e0 with key:=.int .i64 k,val:=val}:=by rw[Array.toList_modify,modify_eq_set _ _ _ _ f2]
  refine⟨setBlock W b (.map (es.modify j fun e'=>{e' with key:=.int .i64 k,val:=val}) clock),?_,rfl,rfl,rfl,by simp[setBlock],rfl,fun x hx=>heap_setBlock_other hb _ hx,.inr ⟨j,e0.val,?_,?_⟩⟩
  ·simp[Instr.mapUpdate,run_underlying hMT,MapKept.run_getObj_map hb,K.check W false hkey,f1,hj,f3,K.stays W hkey,MapKept.run_setObj_map _ hb,Result.andThen,setBlock]
  ·rw[List.getElem?_map,f2,Option.map_some,f3]
  ·exact⟨_,_,heap_setBlock_same hb _,by rw[hlist,List.map_set]⟩
end
open Go.RowKit Go.Proofs
open Go.ChangeMaps Go.MapKept
open Go.Maps (Keyed int_keyed keyOf_int_mk)
section words
def I1{α:Type}(z:α)(m:Int):Option (List α):=if 0≤m∧m≤4294967296 then some (List.replicate m.toNat z) else none
def wJ:List (Int×Int)→Int→Option Int
 |[],_=>none
 |p::m,k=>if p.1=k then some p.2 else wJ m k
def Bq:List (Int×Int)→Int→Int→List (Int×Int)
 |[],k,v=>[(k,v)]
 |p::m,k,v=>if p.1=k then(k,v)::m else p::Bq m k v
def Cw(m:List (Int×Int))(k:Int):Option (Int×Bool):=if Nj k=true then some ((wJ m k).getD 0,(wJ m k).isSome) else none
def Cu(m:List (Int×Int))(k v:Int):Option (List (Int×Int)):=if Nj k=true then some (Bq m k v) else none
theorem Ao{β:Type}(z:β):∀k:Nat,(List.replicate k [z]).flatten=List.replicate k z
 |0=>rfl
 |k+1=>by rw[List.replicate_succ,List.flatten_cons,Ao z k];rfl
theorem Qr(k:Int):∀m:List (Int×Int),((∀p∈m,p.1≠k)∧wJ m k=none∧∀v,Bq m k v=m++[(k,v)])∨∃a v z,m=a++(k,v)::z∧(∀p∈a,p.1≠k)∧wJ m k=some v∧∀u,Bq m k u=a++(k,u)::z
 |[]=>.inl ⟨fun _ h=>(nomatch h),rfl,fun _=>rfl⟩
 | p::m=>by
  by_cases h:p.1=k
  ·obtain⟨a,b⟩:=p
   simp only at h
   subst h
   exact .inr ⟨[],b,m,rfl,fun _ h=>(nomatch h),by simp[wJ],fun u=>by simp[Bq]⟩
  ·rcases Qr k m with⟨h1,h2,h3⟩|⟨a,v,z,h1,h2,h3,h4⟩
   ·refine .inl ⟨fun q hq=>?_,by simp[wJ,h,h2],fun v=>by simp[Bq,h,h3]⟩
    rcases List.mem_cons.1 hq with rfl|hq
    ·exact h
    ·exact h1 q hq
   ·refine .inr ⟨p::a,v,z,by rw[h1];rfl,fun q hq=>?_,by simp[wJ,h,h3],fun u=>by simp[Bq,h,h4]⟩
    rcases List.mem_cons.1 hq with rfl|hq
    ·exact h
    ·exact h2 q hq
end words
section
variable {P:Program} {w:Bs} {n:Nat} {f:Nat→Option Value} {E:Nat→iL} {X:Act→World→Prop} {Q:Exit→Act→World→Prop} {ops:Array Oper} {rest:List Oper}
variable {d ty T MT KT VT:Nat} {pos:String} {af:Array Edge} {g:Option (Nat×Bool)} {p q x:Operand} {α:Type} {t:Fl α} {b:Nat}
theorem zS(κ:Nat)(t:Fl α)(z:α){e i:Nat}{m:Int}{z0:Value}{l:List α}(hw:Wn ops f ⟨some d,.makeSlice T p q,ty,pos,af,g⟩)(hdn:Nat.blt d n=true)(hp:ev f p=some (.int .i64 m))(hq:ev f q=some (.int .i64 m))
  (hu:P.underlying T=some (.slice e)) (hs:kD P e=some t.sz) (h1:t.sz=1) (hz:zeroOf P e=some [z0]) (hby:(P.info? e).map (·.bytes)=some i) (hi:Nat.ble i 32768=true) (hr:∃u,(∀S W,t.ok S W u z)∧t.enc u z=[z0]) (hm:I1 z m=some l)
  (K:∀b,cO (some ⟨b,0,none⟩) l.length l.length→Tr w n (uf f d (.slice (some ⟨b,0,none⟩) l.length l.length)) (up E κ (ow (some ⟨b,0,none⟩) l.length e t l)) (wpList P ops Q rest)):
  Tr w n f E (wpList P ops Q (⟨some d,.makeSlice T p q,ty,pos,af,g⟩::rest)):=by
 unfold I1 at hm
 split at hm
 ·rename_i hm0
  have hm:=(Option.some.inj hm).symm
  obtain⟨k,rfl⟩:∃k:Nat,m=(k:Int):=⟨m.toNat,by omega⟩
  have hl:l=List.replicate k z:=by rw[hm,Int.toNat_natCast]
  have hlen:l.length=k:=by rw[hl,List.length_replicate]
  have hk:k≤4294967296:=by omega
  have hmax:k≤maxLen:=by unfold maxLen;omega
  obtain⟨u,hu1,hu2⟩:=hr
  have hform:∀b:Nat,cO (some ⟨b,0,none⟩) l.length l.length:=fun b=>⟨Nat.le_refl _,by rw[hlen];exact hmax,fun _=>rfl⟩
  refine vV (V:=fun W=>.slice (some ⟨W.heap.size,0,none⟩) l.length l.length) (W1:=fun W=>W.alloc (.cells (madeCells #[z0] k) e)) (E1:=fun W=>up E κ (ow (some ⟨W.heap.size,0,none⟩) l.length e t l)) hw hdn (fun a W k1 k2=>?_) (fun W _=>K W.heap.size (hform _))
  cases hin:P.info? e with
  |none=>rw[hin] at hby;cases hby
  | some inf=>
   rw[hin] at hby;simp at hby;subst hby
   unfold zeroOf at hz
   unfold kD at hs
   rw[hin] at hz hs
   simp only[ob,Option.map_some,Option.some.injEq] at hz hs
   cases hze:inf.zero with
   |none=>rw[hze] at hz;cases hz
   | some zv=>
    rw[hze] at hz
    simp only[Option.map_some,Option.some.injEq] at hz
    have hzc:zv.cells= #[z0]:=by rw[←Array.toArray_toList (xs:=zv.cells),hz]
    have hby:inf.bytes*k≤281474976710656:=Nat.le_trans (Nat.mul_le_mul (Nat.le_of_ble_eq_true hi) hk) (by decide)
    have hrun:=run_make (P:=P) W T e inf zv hu hin hze .i64 .i64 (k:Int) (k:Int) (by omega) (Int.le_refl _) (by rw[←Int.natCast_mul];omega) (by omega)
    rw[hs,h1,Int.toNat_natCast,Nat.mul_one,hzc] at hrun
    refine⟨?_,?_⟩
    ·simp only[execOp,k1.ev hp,k1.ev hq,hlen]
     simp[hrun]
    ·refine k2.add κ ((Below.refl _ _).alloc (Nat.le_refl _) _) _ (lL _ _ _ _ _) ⟨List.replicate k [z0],?_,?_⟩ (fun b hb=>?_)
     ·rw[hl]
      have:∀j:Nat,Al (rp t w.O (W.alloc (.cells (madeCells #[z0] k) e))) (List.replicate j [z0]) (List.replicate j z):=by
       intro j
       induction j with
       |zero=>exact .nil
       |succ j ih=>exact .cons ⟨u,hu1 _ _,hu2.symm⟩ ih
      exact this k
     ·rw[Ao,hlen,h1]
      refine⟨by rw[List.length_replicate,Nat.mul_one],.inr ⟨W.heap.size,k,madeCells #[z0] k,rfl,Nat.zero_le _,heap_alloc_new W _,Nat.le_refl _,hmax,by rw[size_madeCells,Nat.mul_one],?_⟩⟩
      rw[toList_madeCells_one,Nat.mul_one,List.take_of_length_le (by rw[List.length_replicate];exact Nat.le_refl _)]
     ·have hb:some W.heap.size=some b:=hb
      simp at hb;subst hb
      exact⟨Nat.le_refl _,by simp⟩
 ·cases hm
def mi(b:Nat)(m:List (Int×Int)):iL:=
 ⟨fun x=>x=b,fun _ W=>JW W b (m.map fun e=>(Value.int .i64 e.1,Value.int .i64 e.2))∧(∀e∈m,Nj e.1=true)∧m.Pairwise fun e e'=>e.1≠e'.1⟩
theorem LH(b:Nat)(m:List (Int×Int)):(mi b m).loc:=⟨fun O W W' h hp=>⟨LJ (h b (.inr rfl)) hp.1,hp.2⟩,fun _ _ _ _ hp=>hp⟩
theorem Bj(κ:Nat)(hw:Wn ops f ⟨some d,.makeMap MT none,ty,pos,af,g⟩)(hdn:Nat.blt d n=true)
  (K:∀b,Tr w n (uf f d (.map (some b))) (up E κ (mi b [])) (wpList P ops Q rest)):Tr w n f E (wpList P ops Q (⟨some d,.makeMap MT none,ty,pos,af,g⟩::rest)):=
 vV hw hdn (fun _ W _ h2=>⟨rfl,h2.add κ ((Below.refl _ _).alloc (Nat.le_refl _) _) (mi W.heap.size []) (LH _ _)
  ⟨⟨#[],0,heap_alloc_new W _,rfl⟩,fun _ h=>(nomatch h),.nil⟩ (fun b hb=>by
   have hb:b=W.heap.size:=hb
   subst hb;exact⟨Nat.le_refl _,by simp⟩)⟩) (fun W _=>K W.heap.size)
theorem FE{ρ:Operand→Value}{W:World}{dd:Option Nat}{m:List (Int×Int)}{k v:Int}{o:Bool}(hMT:P.underlying MT=some (.map KT VT))(hKT:P.underlying KT=some (.int .i64))(hz:(P.info? VT).bind (·.zero)=some (.int .i64 0))
  (hp:ρ p= .map (some b)) (hq:ρ q= .int .i64 k) (h2:HF w W E) {κ:Nat} (hk:E κ=mi b m) (hm:Cw m k=some (v,o)):(execOp ρ ⟨dd,.lookup MT p q true,ty,pos,af,g⟩).run P W= .ok (.value (.tuple #[.int .i64 v,.bool o])) W:=by
 unfold Cw at hm
 split at hm
 ·rename_i hr
  have hm:=Option.some.inj hm
  have hφ:=h2.phi κ
  rw[hk] at hφ
  obtain⟨⟨es,clock,hb,hes⟩,g2,g3⟩:=hφ
  have K:=int_keyed hKT
  have hkey:=keyOf_int_mk hKT (Am hr)
  have hkeys:∀e∈es.toList,∃l,keyOf P KT e.key=some l:=fun e he=>by
   have:(e.key,e.val)∈m.map fun e=>(Value.int .i64 e.1,Value.int .i64 e.2):=by rw[←hes];exact List.mem_map_of_mem (f:=fun x:MapEntry=>(x.key,x.val)) he
   obtain⟨e',he',h3⟩:=List.mem_map.1 this
   have h4:=congrArg Prod.fst h3
   simp only at h4
   exact⟨_,by rw[←h4];exact keyOf_int_mk hKT (Am (g2 e' he'))⟩
  have hzr:(zeroValue VT).run P W= .ok (.int .i64 0) W:=by
   cases hi:P.info? VT with
   |none=>rw[hi] at hz;cases hz
   |some inf=>
    rw[hi] at hz
    simp only[ob] at hz
    simp[zeroValue,typeInfo,hi,hz]
  have main:(Instr.lookup MT (.map (some b)) (.int .i64 k) true).run P W= .ok (.tuple #[.int .i64 v,.bool o]) W:=by
   rcases K.find W hkey es.toList hkeys with⟨f1,f2⟩|⟨j,e0,f1,f2,f3⟩
   ·have hno:∀e∈m,e.1≠k:=fun e he hek=>by
     have:(Value.int .i64 e.1,Value.int .i64 e.2)∈es.toList.map fun x=>(x.key,x.val):=by rw[hes];exact List.mem_map_of_mem (f:=fun e:Int×Int=>(Value.int .i64 e.1,Value.int .i64 e.2)) he
     obtain⟨x0,hx0,h3⟩:=List.mem_map.1 this
     exact f2 x0 hx0 ((congrArg Prod.fst h3).trans (by show Value.int .i64 e.1=_;rw[hek]))
    rcases Qr k m with⟨_,q3,_⟩|⟨a0,e,z,q1,q2,_⟩
    ·rw[q3] at hm
     simp at hm
     obtain⟨rfl,rfl⟩:=hm
     simp[Instr.lookup,run_underlying hMT,MapKept.run_getObj_map hb,K.check W _ hkey,f1,hzr,Result.andThen]
    ·exact absurd rfl (hno (k,e) (by rw[q1];simp))
   ·have hm0:e0∈es.toList:=List.mem_of_getElem? f2
    have hin:(e0.key,e0.val)∈m.map fun e=>(Value.int .i64 e.1,Value.int .i64 e.2):=by rw[←hes];exact List.mem_map_of_mem (f:=fun x:MapEntry=>(x.key,x.val)) hm0
    obtain⟨e',he',h3⟩:=List.mem_map.1 hin
    have h4:Value.int .i64 e'.1=e0.key:=congrArg Prod.fst h3
    have h5:Value.int .i64 e'.2=e0.val:=congrArg Prod.snd h3
    have hek:e'.1=k:=by rw[f3] at h4;simpa using h4
    rcases Qr k m with⟨q1,_⟩|⟨a0,e,z,q1,q2,q3,_⟩
    ·exact absurd hek (q1 e' he')
    ·have:e'=(k,e):=by
      rw[q1] at he' g3
      obtain⟨_,pw2,_⟩:=List.pairwise_append.1 g3
      obtain⟨pw4,_⟩:=List.pairwise_cons.1 pw2
      rcases List.mem_append.1 he' with he'|he'
      ·exact absurd hek (q2 e' he')
      ·rcases List.mem_cons.1 he' with he'|he'
       ·exact he'
       ·exact absurd hek.symm (pw4 e' he')
     subst this
     rw[q3] at hm
     simp at hm
     obtain⟨rfl,rfl⟩:=hm
     simp only at h5
     simp[Instr.lookup,run_underlying hMT,MapKept.run_getObj_map hb,K.check W _ hkey,f1,←h5,Result.andThen]
  simp[execOp,hp,hq,main]
 ·cases hm
theorem De(κ:Nat){m m':List (Int×Int)}{k v:Int}(hw:Wn ops f ⟨none,.mapUpdate MT p q x,ty,pos,af,g⟩)(hMT:P.underlying MT=some (.map KT VT))(hKT:P.underlying KT=some (.int .i64))
  (hp:ev f p=some (.map (some b))) (hq:ev f q=some (.int .i64 k)) (hx:ev f x=some (.int .i64 v)) (hk:E κ=mi b m) (hm':Cu m k v=some m')
  (K:Tr w n f (up E κ (mi b m')) (wpList P ops Q rest)):Tr w n f E (wpList P ops Q (⟨none,.mapUpdate MT p q x,ty,pos,af,g⟩::rest)):=by
 unfold Cu at hm'
 split at hm'
 ·rename_i hr
  have hm':=(Option.some.inj hm').symm
  subst hm'
  refine Tr.op hw fun a W h1 h2=>?_
  have hφ:=h2.phi κ
  rw[hk] at hφ
  obtain⟨g1,g2,g3⟩:=hφ
  obtain⟨W',r1,r2,r3,r4,r5,r6,r7,r8⟩:=Ca (P:=P) (val:=.int .i64 v) hMT hKT hr g1 (fun p hp=>by
   obtain⟨e,he,rfl⟩:=List.mem_map.1 hp
   exact⟨e.1,rfl,g2 e he⟩)
  have hrun:(execOp a.eval ⟨none,.mapUpdate MT p q x,ty,pos,af,g⟩).run P W= .ok .skip W':=by
   simp[execOp,h1.ev hp,h1.ev hq,h1.ev hx,r1]
  unfold Oper.wp
  rw[hrun]
  refine K _ W' (by exact h1) (h2.mod κ (mi b (Bq m k v)) r2 r3 r4 (Nat.le_of_eq r5.symm) (by first|exact Nat.le_of_eq r6.symm|exact Nat.le_refl 0) (fun x _ hs=>r7 x (fun e=>hs (by rw[hk];exact e))) (LH _ _) ?_ (fun y hy=>?_))
  ·rcases Qr k m with⟨q1,q2,q3⟩|⟨a0,e,z,q1,q2,q3,q4⟩
   ·rw[q3]
    refine⟨?_,fun e he=>?_,?_⟩
    ·rcases r8 with⟨_,r8⟩|⟨j,u,r8,_⟩
     ·simpa using r8
     ·obtain⟨e',he',h3⟩:=List.mem_map.1 (List.mem_of_getElem? r8)
      have:e'.1=k:=by have:=congrArg Prod.fst h3;simpa using this
      exact absurd this (q1 e' he')
    ·rcases List.mem_append.1 he with he|he
     ·exact g2 e he
     ·simp at he;subst he;exact hr
    ·rw[List.pairwise_append]
     refine⟨g3,by simp,fun e1 he1 e2 he2=>?_⟩
     simp at he2;subst he2
     exact q1 e1 he1
   ·rw [q1] at g3
    obtain⟨pw1,pw2,pw3⟩:=List.pairwise_append.1 g3
    obtain⟨pw4,pw5⟩:=List.pairwise_cons.1 pw2
    rw[q4]
    refine⟨?_,fun e' he'=>?_,?_⟩
    ·rcases r8 with⟨r8,_⟩|⟨j,u,r8,r9⟩
     ·exact absurd rfl (r8 (Value.int .i64 k,Value.int .i64 e) (List.mem_map_of_mem (f:=fun e:Int×Int=>(Value.int .i64 e.1,Value.int .i64 e.2)) (a:=(k,e)) (by rw[q1];simp)))
     ·have hj:j=a0.length:=by
       rw[q1,List.map_append,List.map_cons] at r8
       rcases Nat.lt_trichotomy j a0.length with h|h|h
       ·rw[List.getElem?_append_left (by simpa using h),List.getElem?_map] at r8
        obtain⟨e',h3,h4⟩:=Option.map_eq_some_iff.1 r8
        have:e'.1=k:=by have:=congrArg Prod.fst h4;simpa using this
        exact absurd this (q2 e' (List.mem_of_getElem? h3))
       ·exact h
       ·rw[List.getElem?_append_right (by simp;omega),List.length_map] at r8
        obtain⟨i,hi⟩:∃i,j-a0.length=i+1:=⟨j-a0.length-1,by omega⟩
        rw[hi,List.getElem?_cons_succ,List.getElem?_map] at r8
        obtain⟨e',h3,h4⟩:=Option.map_eq_some_iff.1 r8
        have:e'.1=k:=by have:=congrArg Prod.fst h4;simpa using this
        exact absurd this.symm (pw4 e' (List.mem_of_getElem? h3))
      subst hj
      rw[q1,List.map_append,List.map_cons,List.set_append_right _ _ (by simp)] at r9
      simpa using r9
    ·rcases List.mem_append.1 he' with he'|he'
     ·exact g2 e' (by rw[q1];exact List.mem_append_left _ he')
     ·rcases List.mem_cons.1 he' with rfl|he'
      ·exact hr
      ·exact g2 e' (by rw[q1];exact List.mem_append_right _ (List.mem_cons_of_mem _ he'))
    ·rw[List.pairwise_append,List.pairwise_cons]
     refine⟨pw1,⟨fun e' he'=>pw4 e' he',pw5⟩,fun e1 he1 e2 he2=>?_⟩
     rcases List.mem_cons.1 he2 with rfl|he2
     ·exact q2 e1 he1
     ·exact pw3 e1 he1 e2 (List.mem_cons_of_mem _ he2)
  ·have hy:y=b:=hy
   subst hy
   have hS:(E κ).S y:=by rw[hk];rfl
   exact⟨.inl hS,by rw[r5];exact(h2.bd κ y hS).2⟩
 ·cases hm'
end
open Go.RowKit Go.Proofs
structure Hd where
 A:Option Addr
 n:Nat
 c:Nat
def Ml:Fl Hd:=Fl.flat 1 (fun h=>[.slice h.A h.n h.c]) (fun _=>rfl) (fun _ u h=>by
 simp at h
 subst h;rfl)
structure NE (α:Type) where
 A:Option Addr
 c:Nat
 l:List α
 own:Bool
def NE.hd{α:Type}(e:NE α):Hd:=⟨e.A,e.l.length,e.c⟩
def NE.blk{α:Type}(e:NE α)(x:Nat):Prop:=e.own=true∧(Value.slice e.A e.l.length e.c).ownBlock=some x
theorem oV(A:Option Addr)(n m c d:Nat):(Value.slice A n c).ownBlock=(Value.slice A m d).ownBlock:=by cases A<;>rfl
section
variable {P:Program} {w:Bs} {n:Nat} {f:Nat→Option Value} {E:Nat→iL} {X:Act→World→Prop} {Q:Exit→Act→World→Prop} {ops:Array Oper} {rest:List Oper}
variable {d ty T T0 T' e:Nat} {pos:String} {af:Array Edge} {g:Option (Nat×Bool)} {p q x:Operand} {α:Type} {t:Fl α} {A:Option Addr} {c b:Nat} {ms:List (NE α)} {ls:List (List α)}
def ins(T':Nat)(t:Fl α)(ms:List (NE α)):iL:=
 ⟨fun x=>∃e∈ms,e.blk x,fun O W=>(∀e∈ms,cO e.A e.l.length e.c∧(e.own=true→(ow e.A e.c T' t e.l).φ O W))∧ms.Pairwise fun e e'=>∀x,e.blk x→¬e'.blk x⟩
theorem qF(T':Nat)(t:Fl α)(ms:List (NE α)):(ins T' t ms).loc:=⟨fun O W W' h hp=>⟨fun e he=>⟨(hp.1 e he).1,fun ho=>(lL e.A e.c T' t e.l).at_ O W W' (fun x hx=>h x (hx.imp id fun hx=>⟨e,he,ho,hx⟩)) ((hp.1 e he).2 ho)⟩,hp.2⟩,
 fun O O' W h hp=>⟨fun e he=>⟨(hp.1 e he).1,fun ho=>(lL e.A e.c T' t e.l).up O O' W h ((hp.1 e he).2 ho)⟩,hp.2⟩⟩
def no(A:Option Addr)(n c T0 T':Nat)(t:Fl α)(ms:List (NE α)):iL:=
 ⟨fun x=>(Value.slice A n c).ownBlock=some x∨∃e∈ms,e.blk x,fun O W=>n=ms.length∧(ow A c T0 Ml (ms.map NE.hd)).φ O W∧(ins T' t ms).φ O W∧∀e∈ms,∀x,e.blk x→¬(Value.slice A n c).ownBlock=some x⟩
theorem Hz(A:Option Addr)(n c T0 T':Nat)(t:Fl α)(ms:List (NE α)):(no A n c T0 T' t ms).loc:=⟨fun O W W' h hp=>⟨hp.1,(lL _ _ _ _ _).at_ O W W' (fun x hx=>h x (hx.imp id fun hx=>.inl ((oV _ _ _ _ _).trans hx))) hp.2.1,(qF _ _ _).at_ O W W' (fun x hx=>h x (hx.imp id fun hx=>.inr hx)) hp.2.2.1,hp.2.2.2⟩,
 fun O O' W h hp=>⟨hp.1,(lL _ _ _ _ _).up O O' W h hp.2.1,(qF _ _ _).up O O' W h hp.2.2.1,hp.2.2.2⟩⟩
def NC(ms:List (NE α))(ls:List (List α)):Prop:=ms.map (·.l)=ls∧∀e∈ms,e.own=true
def NH(ms:List (NE α))(ls:List (List α))(i:Nat)(A:Option Addr)(n c:Nat):Prop:=ms.map (·.l)=ls∧(∀j e,ms[j]?=some e→j≠i→e.own=true)∧∃e,ms[i]?=some e∧e.own=false∧e.A=A∧e.l.length=n∧e.c=c
theorem NC.nil:NC ([]:List (NE α)) []:=⟨rfl,fun _ h=>(nomatch h)⟩
theorem NC.len(h:NC ms ls):ls.length=ms.length:=by rw[←h.1];simp
theorem HF.IX{W:World}(h:HF w W E){κ κ' n0:Nat}(hk:E κ=no A n0 c T0 T' t ms)(hne:κ'≠κ):HF w W (up (up E κ (Proofs.YtkccbhbhdnobhaaGreatDoor.ow A c T0 Ml (ms.map NE.hd))) κ' (ins T' t ms)):=by
 have hφ:=h.phi κ
 rw[hk] at hφ
 obtain⟨h1,h2,h3,h4⟩:=hφ
 refine h.split hne (lL _ _ _ _ _) (qF _ _ _) h2 h3 (fun x hx=>?_) (fun x hx=>?_) (fun x hx hy=>?_)
 ·rw[hk];exact .inl ((oV _ _ _ _ _).trans hx)
 ·rw[hk];exact .inr hx
 ·obtain⟨e,he,hx'⟩:=hy
  exact h4 e he x hx' ((oV _ _ _ _ _).trans hx)
theorem HF.IY{W:World}(h:HF w W E){κ κ' n0:Nat}(hk:E κ=Proofs.YtkccbhbhdnobhaaGreatDoor.ow A c T0 Ml (ms.map NE.hd))(hk':E κ'=ins T' t ms)(hne:κ'≠κ)(hn:n0=ms.length):HF w W (up (up E κ' emp) κ (no A n0 c T0 T' t ms)):=by
 have h1:=h.phi κ
 rw[hk] at h1
 have h2:=h.phi κ'
 rw[hk'] at h2
 refine h.merge (no A n0 c T0 T' t ms) hne rfl rfl rfl (Nat.le_refl _) (Nat.le_refl _) (fun _ _ _=>rfl) (Hz _ _ _ _ _ _ _) ⟨hn,h1,h2,fun e he x hx hy=>?_⟩ (fun x hx=>?_)
 ·exact h.mX κ κ' x (fun e=>hne e.symm) (by rw[hk];exact(oV _ _ _ _ _).trans hy) (by rw[hk'];exact⟨e,he,hx⟩)
 ·rcases hx with hx|hx
  ·exact .inl (by rw[hk];exact(oV _ _ _ _ _).trans hx)
  ·exact .inr (by rw[hk'];exact hx)
theorem HF.L6{W:World}(h:HF w W E){κ κ' i c':Nat}{A':Option Addr}{l':List α}{e0:NE α}(hk:E κ=ins T' t ms)(hk':E κ'=Proofs.YtkccbhbhdnobhaaGreatDoor.ow A' c' T' t l')(hne:κ'≠κ)(he:ms[i]?=some e0)(hf:cO A' l'.length c'):HF w W (up (up E κ' emp) κ (ins T' t (ms.set i ⟨A',c',l',true⟩))):=by
 have h1:=h.phi κ
 rw[hk] at h1
 have h2:=h.phi κ'
 rw[hk'] at h2
 obtain⟨h1,h3⟩:=h1
 have hi:i<ms.length:=(List.getElem?_eq_some_iff.1 he).1
 have hmem:∀e∈ms.set i ⟨A',c',l',true⟩,e=⟨A',c',l',true⟩∨e∈ms:=fun e he=>by
  obtain⟨j,hj⟩:=List.getElem?_of_mem he
  by_cases hij:i=j
  ·subst hij
   rw[List.getElem?_set_self hi] at hj
   exact .inl (Option.some.inj hj).symm
  ·rw[List.getElem?_set_ne hij] at hj
   exact .inr (List.mem_of_getElem? hj)
 have hd:∀e∈ms,∀x,e.blk x→¬(⟨A',c',l',true⟩:NE α).blk x:=fun e he x hx hy=>h.mX κ κ' x (fun e=>hne e.symm) (by rw[hk];exact⟨e,he,hx⟩) (by rw[hk'];exact hy.2)
 refine h.merge (ins T' t (ms.set i ⟨A',c',l',true⟩)) hne rfl rfl rfl (Nat.le_refl _) (Nat.le_refl _) (fun _ _ _=>rfl) (qF _ _ _) ⟨fun e he=>?_,?_⟩ (fun x hx=>?_)
 ·rcases hmem e he with rfl|he
  ·exact⟨hf,fun _=>h2⟩
  ·exact h1 e he
 ·have hms:ms.set i ⟨A',c',l',true⟩=ms.take i++⟨A',c',l',true⟩::ms.drop (i+1):=List.set_eq_take_append_cons_drop.trans (if_pos hi)
  have hms2:ms=ms.take i++e0::ms.drop (i+1):=by
   have:=List.take_append_drop i ms
   rw[List.drop_eq_getElem_cons hi] at this
   have h4:ms[i]=e0:=(List.getElem?_eq_some_iff.1 he).2
   rw[h4] at this;exact this.symm
  rw[hms2] at h3
  obtain⟨p1,p2,p3⟩:=List.pairwise_append.1 h3
  obtain⟨p4,p5⟩:=List.pairwise_cons.1 p2
  rw[hms,List.pairwise_append,List.pairwise_cons]
  refine⟨p1,⟨fun e' he' x hx hy=>hd e' (List.mem_of_mem_drop he') x hy hx,p5⟩,fun e1 he1 e2 he2=>?_⟩
  rcases List.mem_cons.1 he2 with rfl|he2
  ·exact fun x hx=>hd e1 (List.mem_of_mem_take he1) x hx
  ·exact p3 e1 he1 e2 (List.mem_cons_of_mem _ he2)
 ·obtain⟨e,he,hx⟩:=hx
  rcases hmem e he with rfl|he
  ·right;rw[hk'];exact hx.2
  ·left;rw[hk];exact⟨e,he,hx⟩
theorem Dc(κ T0 T':Nat)(t:Fl α)(K:Tr w n f (up E κ (no none 0 0 T0 T' t [])) X):Tr w n f E X:=
 fun a W h1 h2=>K a W h1 (h2.mod κ _ rfl rfl rfl (Nat.le_refl _) (Nat.le_refl _) (fun _ _ _=>rfl) (Hz _ _ _ _ _ _ _)
  ⟨rfl,⟨[],.nil,by simp,.inl ⟨rfl,rfl⟩⟩,⟨fun _ h=>(nomatch h),.nil⟩,fun _ h=>(nomatch h)⟩ (fun b hb=>by
   rcases hb with hb|⟨e,he,_⟩
   ·cases hb
   ·cases he))
theorem QD{κ κ':Nat}{e0 e1 e2:iL}(hk':E κ'=emp)(hne:κ'≠κ){E3:Nat→iL}(h3:∀j,j≠κ→j≠κ'→E3 j=E j):∀k,up E κ e0 k=up (up E3 κ' emp) κ e0 k∨up E κ e0 k=emp:=by
 intro k
 rcases dC E κ e0 k with⟨a1,a2⟩|⟨a1,a2⟩
 ·subst a1
  exact .inl (by rw[a2,gq])
 ·rcases dC E3 κ' emp k with⟨b1,b2⟩|⟨b1,b2⟩
  ·subst b1
   exact .inr (by rw[a2,hk'])
  ·exact .inl (by rw[a2,dS a1,b2,h3 k a1 b1])
theorem Bi(κ κ' κb:Nat){i:Nat}{ls':List (List α)}(hκ:E κ'=emp)(hne:Nat.beq κ' κ=false)(hnb:Nat.beq κb κ=false)(hnb':Nat.beq κb κ'=false)(hw:Wn ops f ⟨some d,.call ⟨.builtin .append,#[p,q],#[T,T]⟩,ty,pos,af,g⟩)(hdn:Nat.blt d n=true)
  (hp:ev f p=some (.slice A ls.length c)) (hk:E κ=no A ls.length c e T' t ms) (hm:NC ms ls) (hq:ev f q=some (.slice (some ⟨b,0,none⟩) 1 1)) (hb:E κb=bx b #[.slice none 0 0] e)
  (hu:P.underlying T=some (.slice e)) (hs:kD P e=some 1) (hz:(zeroOf P e).map List.length=some 1) (hby:(P.info? e).map (·.bytes)=some i) (hi:Nat.ble i 32768=true) (hap:vD ls [[]]=some ls')
  (K:∀A' c' ms',NC ms' ls'→cO A' ls'.length c'→Tr w n (uf f d (.slice A' ls'.length c')) (up E κ (no A' ls'.length c' e T' t ms')) (wpList P ops Q rest)):
  Tr w n f E (wpList P ops Q (⟨some d,.call ⟨.builtin .append,#[p,q],#[T,T]⟩,ty,pos,af,g⟩::rest)):=by
 have hne:κ'≠κ:=fun e=>by subst e;simp at hne
 have hnb:κb≠κ:=fun e=>by subst e;simp at hnb
 have hnb':κb≠κ':=fun e=>by subst e;simp at hnb'
 obtain⟨ha1,ha2⟩:=tN hap
 subst ha2
 have hlen:=hm.len
 have hml:(ms.map NE.hd).length=ls.length:=by simp[hlen]
 intro a W h1 h2
 have h3:=h2.IX hk hne
 refine Tr.append (P:=P) (E:=up (up E κ (ow A c e Ml (ms.map NE.hd))) κ' (ins T' t ms)) κ (t:=Ml) (l:=ms.map NE.hd) (l2:=[⟨none,0,0⟩]) (l':=ms.map NE.hd++[⟨none,0,0⟩]) (b:=b) (o:=0) (c2:=1) hw hdn (by rw[hml];exact hp) (by rw[dS (fun e=>hne e.symm),gq]) hq (fun W' hW=>?_) hu hs hz (by decide) hby hi ?_ (fun A' c' hf=>?_) a W h1 h3
 ·refine⟨[[.slice none 0 0]],.cons ⟨(),trivial,rfl⟩ .nil,?_⟩
  exact bR (k:=κb) (vs:=[.slice none 0 0]) (T:=e) hW (by rw[dS hnb',dS hnb,hb]) 0
 ·unfold vD
  rw[if_pos (by simp only[List.length_map,List.length_cons,List.length_nil] at*;omega)]
 ·intro a2 W2 f1 f2
  have hl2:(ms.map NE.hd++[(⟨none,0,0⟩:Hd)]).length=(ls++[[]]).length:=by simp[hlen]
  rw[hl2] at hf f1
  have hmap:(ms++[(⟨none,0,[],true⟩:NE α)]).map NE.hd=ms.map NE.hd++[⟨none,0,0⟩]:=by simp[NE.hd]
  have f3:HF w W2 (up (up (up (up E κ (ow A c e Ml (ms.map NE.hd))) κ' (ins T' t ms)) κ (ow A' c' e Ml ((ms++[(⟨none,0,[],true⟩:NE α)]).map NE.hd))) κ' (ins T' t (ms++[(⟨none,0,[],true⟩:NE α)]))):=by
   rw[hmap]
   refine f2.mod κ' _ rfl rfl rfl (Nat.le_refl _) (Nat.le_refl _) (fun _ _ _=>rfl) (qF _ _ _) ?_ (fun y hy=>?_)
   ·have hφ:=f2.phi κ'
    rw[dS hne,gq] at hφ
    obtain⟨g1,g2⟩:=hφ
    refine⟨fun e' he'=>?_,?_⟩
    ·rcases List.mem_append.1 he' with he'|he'
     ·exact g1 e' he'
     ·simp at he';subst he'
      exact⟨gZ,fun _=>⟨[],.nil,by simp,.inl ⟨rfl,rfl⟩⟩⟩
    ·rw[List.pairwise_append]
     refine⟨g2,by simp,fun e1 he1 e2 he2=>?_⟩
     simp at he2;subst he2
     intro x _ hx
     exact absurd hx.2 (by simp[Value.ownBlock])
   ·obtain⟨e',he',hx⟩:=hy
    have hin:(up (up (up E κ (ow A c e Ml (ms.map NE.hd))) κ' (ins T' t ms)) κ (ow A' c' e Ml (ms.map NE.hd++[⟨none,0,0⟩])) κ').S y:=by
     rw[dS hne,gq]
     rcases List.mem_append.1 he' with he'|he'
     ·exact⟨e',he',hx⟩
     ·simp at he';subst he'
      exact absurd hx.2 (by simp[Value.ownBlock])
    exact⟨.inl hin,(f2.bd κ' y hin).2⟩
  have f4:=f3.IY (n0:=(ls++[[]]).length) (by rw[dS (fun e=>hne e.symm),gq]) (gq _ _ _) hne (by simp[hlen])
  refine K A' c' (ms++[⟨none,0,[],true⟩]) ⟨by simp[hm.1],fun e' he'=>?_⟩ hf a2 W2 f1 (f4.weaken (QD (e1:=emp) (e2:=emp) hκ hne fun j hj hj'=>?_))
  ·rcases List.mem_append.1 he' with he'|he'
   ·exact hm.2 e' he'
   ·simp at he';subst he';rfl
  ·rw[dS hj',dS hj,dS hj',dS hj]
theorem zC{β γ:Type}{g:β→γ}{l:List β}{j:Nat}{e x:β}(h:l[j]?=some e)(hg:g x=g e):(l.set j x).map g=l.map g:=by
 apply List.ext_getElem?
 intro k
 rw[List.getElem?_map,List.getElem?_map]
 by_cases hk:j=k
 ·subst hk
  rw[List.getElem?_set_self (List.getElem?_eq_some_iff.1 h).1,h,Option.map_some,Option.map_some,hg]
 ·rw[List.getElem?_set_ne hk]
theorem Bh(κ κ':Nat){i:Int}{l:List α}(hk:E κ=no A ls.length c T0 T' t ms)(hne:Nat.beq κ' κ=false)(hm:NC ms ls)(hl:idx ls i=some l)
  (K:∀ms' A1 c1,NH ms' ls i.toNat A1 l.length c1→cO A1 l.length c1→Tr w n f (up (up E κ (no A ls.length c T0 T' t ms')) κ' (ow A1 c1 T' t l)) X):Tr w n f E X:=by
 intro a W h1 h2
 have hne:κ'≠κ:=fun e=>by subst e;simp at hne
 obtain⟨hm1,hm2⟩:=hm
 obtain⟨hi0,hi1,hi2⟩:=bi hl
 have hlen:ls.length=ms.length:=by rw[←hm1];simp
 have hφ:=h2.phi κ
 rw[hk] at hφ
 obtain⟨g1,g2,⟨g3,g4⟩,g5⟩:=hφ
 generalize hj:i.toNat=j at*
 rw[←hm1,List.getElem?_map] at hi2
 obtain⟨e0,he0,rfl⟩:=Option.map_eq_some_iff.1 hi2
 have hjm:j<ms.length:=by omega
 have he0m:=List.mem_of_getElem? he0
 have ho:=hm2 e0 he0m
 have hset:ms.set j {e0 with own:=false}=ms.take j++{e0 with own:=false}::ms.drop (j+1):=List.set_eq_take_append_cons_drop.trans (if_pos hjm)
 have hms2:ms=ms.take j++e0::ms.drop (j+1):=by
  have:=List.take_append_drop j ms
  rw[List.drop_eq_getElem_cons hjm] at this
  have h4:ms[j]=e0:=(List.getElem?_eq_some_iff.1 he0).2
  rw[h4] at this;exact this.symm
 have hmem:∀e∈ms.set j {e0 with own:=false},e={e0 with own:=false}∨e∈ms.take j∨e∈ms.drop (j+1):=fun e he=>by
  rw[hset] at he
  rcases List.mem_append.1 he with he|he
  ·exact .inr (.inl he)
  ·rcases List.mem_cons.1 he with rfl|he
   ·exact .inl rfl
   ·exact .inr (.inr he)
 have hmem2:∀e,(e∈ms.take j∨e∈ms.drop (j+1))→e∈ms:=fun e he=>he.elim List.mem_of_mem_take List.mem_of_mem_drop
 have hnb:∀x,¬({e0 with own:=false}:NE α).blk x:=fun x hx=>by cases hx.1
 have hmap:(ms.set j {e0 with own:=false}).map NE.hd=ms.map NE.hd:=zC he0 rfl
 have hmapl:(ms.set j {e0 with own:=false}).map (·.l)=ms.map (·.l):=zC he0 rfl
 have g4':=g4
 rw[hms2] at g4'
 obtain⟨p1,p2,p3⟩:=List.pairwise_append.1 g4'
 obtain⟨p4,p5⟩:=List.pairwise_cons.1 p2
 refine K (ms.set j {e0 with own:=false}) e0.A e0.c ⟨by rw[hmapl,hm1],fun k e' hk' hkj=>?_,⟨{e0 with own:=false},List.getElem?_set_self hjm,rfl,rfl,rfl,rfl⟩⟩ (g3 e0 he0m).1 a W h1 (h2.split hne (Hz _ _ _ _ _ _ _) (lL _ _ _ _ _) ⟨by rw[g1,List.length_set],by rw[hmap];exact g2,⟨fun e' he'=>?_,?_⟩,fun e' he' x hx=>?_⟩ ((g3 e0 he0m).2 ho) (fun x hx=>?_) (fun x hx=>?_) (fun x hx hy=>?_))
 ·rw[List.getElem?_set_ne (fun e=>hkj e.symm)] at hk'
  exact hm2 e' (List.mem_of_getElem? hk')
 ·rcases hmem e' he' with rfl|he'
  ·exact⟨(g3 e0 he0m).1,fun h=>by cases h⟩
  ·exact g3 e' (hmem2 e' he')
 ·rw[hset,List.pairwise_append,List.pairwise_cons]
  refine⟨p1,⟨fun e' he' x hx=>absurd hx (hnb x),p5⟩,fun e1 he1 e2 he2=>?_⟩
  rcases List.mem_cons.1 he2 with rfl|he2
  ·exact fun x _=>hnb x
  ·exact p3 e1 he1 e2 (List.mem_cons_of_mem _ he2)
 ·rcases hmem e' he' with rfl|he'
  ·exact absurd hx (hnb x)
  ·exact g5 e' (hmem2 e' he') x hx
 ·rw[hk]
  rcases hx with hx|⟨e',he',hx⟩
  ·exact .inl hx
  ·rcases hmem e' he' with rfl|he'
   ·exact absurd hx (hnb x)
   ·exact .inr ⟨e',hmem2 e' he',hx⟩
 ·rw[hk]
  exact .inr ⟨e0,he0m,ho,hx⟩
 ·have hy:e0.blk x:=⟨ho,hy⟩
  rcases hx with hx|⟨e',he',hx⟩
  ·exact g5 e0 he0m x hy hx
  ·rcases hmem e' he' with rfl|he'
   ·exact hnb x hx
   ·rcases he' with he'|he'
    ·exact p3 e' he' e0 List.mem_cons_self x hx hy
    ·exact p4 e' he' x hy hx
theorem zn{ρ:Operand→Value}{W:World}{dd:Option Nat}{i n1 c1 o:Nat}{A1:Option Addr}(ha:jg P T=some false)(hp:ρ p= .pointer (some ⟨mY A,o,none⟩))(ho:o=qj A+i*1)(h2:HF w W E){κ:Nat}{n0:Nat}(hk:E κ=no A n0 c T0 T' t ms)(hm:NH ms ls i A1 n1 c1):
  (execOp ρ ⟨dd,.load T p,ty,pos,af,g⟩).run P W= .ok (.value (.slice A1 n1 c1)) W:=by
 obtain⟨m1,m2,e0,m3,m4,m5,m6,m7⟩:=hm
 have hφ:=h2.phi κ
 rw[hk] at hφ
 obtain⟨g1,⟨css,g2,g2'⟩,_⟩:=hφ
 have hsl:=sJ g2 g2'
 obtain⟨_,u,_,hc⟩:=hsl.cells i e0.hd (by rw[List.getElem?_map,m3];rfl)
 subst ho
 refine ah ha hp hc ?_
 show some (Value.slice e0.A e0.l.length e0.c)=_
 rw[m5,m6,m7]
theorem Db(κ κ' κ'':Nat){i:Int}{A1 A':Option Addr}{n1 c1 c' o:Nat}{l':List α}{ls':List (List α)}(hκ:E κ''=emp)(hne:Nat.beq κ' κ=false)(hne':Nat.beq κ'' κ=false)(hne'':Nat.beq κ'' κ'=false)(hw:Wn ops f ⟨none,.store T p q,ty,pos,af,g⟩)
  (hp:ev f p=some (.pointer (some ⟨mY A,o,none⟩))) (ho:o=qj A+i.toNat*1) (hq:ev f q=some (.slice A' l'.length c')) (hk:E κ=no A ls.length c T0 T' t ms) (hk':E κ'=ow A' c' T' t l') (hm:NH ms ls i.toNat A1 n1 c1) (hf:cO A' l'.length c') (hs:kD P T=some 1) (hset:sets ls i l'=some ls')
  (K:∀ms',NC ms' ls'→Tr w n f (up (up E κ' emp) κ (no A ls'.length c T0 T' t ms')) (wpList P ops Q rest)):Tr w n f E (wpList P ops Q (⟨none,.store T p q,ty,pos,af,g⟩::rest)):=by
 have hne:κ'≠κ:=fun e=>by subst e;simp at hne
 have hne':κ''≠κ:=fun e=>by subst e;simp at hne'
 have hne'':κ''≠κ':=fun e=>by subst e;simp at hne''
 obtain⟨m1,m2,e0,m3,m4,m5,m6,m7⟩:=hm
 have hlen:ls.length=ms.length:=by rw[←m1];simp
 have hil:i.toNat<ms.length:=(List.getElem?_eq_some_iff.1 m3).1
 have hi0:0≤i:=by
  unfold sets at hset
  split at hset
  ·rename_i h;exact h.1
  ·cases hset
 have hls':=xN hset
 have hlen':=lv hset
 intro a W h1 h2
 have h3:=h2.IX (κ':=κ'') hk hne'
 refine kg (P:=P) (E:=up (up E κ (ow A c T0 Ml (ms.map NE.hd))) κ'' (ins T' t ms)) κ (t:=Ml) (l:=ms.map NE.hd) (l':=(ms.map NE.hd).set i.toNat ⟨A',l'.length,c'⟩) (i:=i) (fo:=0) (x:=e0.hd) (⟨A',l'.length,c'⟩:Hd) (cs:=[.slice A' l'.length c']) (v:=.slice A' l'.length c') hw hp hq rfl (by rw[ho];rfl) (by rw[dS (fun e=>hne' e.symm),gq]) (by rw[List.getElem?_map,m3];rfl) hs rfl (fun u _=>⟨(),trivial,rfl⟩) rfl ?_ ?_ a W h1 h3
 ·unfold sets
  rw[if_pos ⟨hi0,by simp;omega⟩]
 ·intro a2 W2 f1 f2
  have hmap:(ms.set i.toNat (⟨A',c',l',true⟩:NE α)).map NE.hd=(ms.map NE.hd).set i.toNat ⟨A',l'.length,c'⟩:=by rw[List.map_set];rfl
  have f3:=f2.L6 (κ:=κ'') (κ':=κ') (i:=i.toNat) (e0:=e0) (A':=A') (c':=c') (l':=l') (by rw[dS hne',gq]) (by rw[dS hne,dS (fun e=>hne'' e.symm),dS hne,hk']) (fun e=>hne'' e.symm) m3 hf
  have f4:=f3.IY (κ:=κ) (κ':=κ'') (A:=A) (c:=c) (T0:=T0) (n0:=ls'.length) (by rw[dS (fun e=>hne' e.symm),dS (fun e=>hne e.symm),gq,hmap]) (gq _ _ _) hne' (by rw[List.length_set];omega)
  refine K (ms.set i.toNat ⟨A',c',l',true⟩) ⟨by rw[List.map_set,m1,←hls'],fun e' he'=>?_⟩ a2 W2 f1 (f4.weaken fun k=>?_)
  ·obtain⟨j,hj⟩:=List.getElem?_of_mem he'
   by_cases hij:i.toNat=j
   ·rw[←hij,List.getElem?_set_self hil] at hj
    rw[←Option.some.inj hj]
   ·rw[List.getElem?_set_ne hij] at hj
    exact m2 j e' hj (fun e=>hij e.symm)
  ·by_cases k1:k=κ
   ·subst k1;exact .inl (by rw[gq,gq])
   ·by_cases k2:k=κ'
    ·subst k2;exact .inr (by rw[dS k1,gq])
    ·by_cases k3:k=κ''
     ·subst k3;exact .inr (by rw[dS k1,dS k2,hκ])
     ·exact .inl (by rw[dS k1,dS k2,dS k1,dS k3,dS k3,dS k2,dS k1,dS k3,dS k1])
theorem yH(κ:Nat)(tl:Fl (List α))(hk:E κ=no A ls.length c T0 T' t ms)(hm:NC ms ls)(hsz:tl.sz=1)(htl:∀(A:Option Addr) (c:Nat) (l:List α),∃u,tl.enc u l=[.slice A l.length c]∧∀S W,Sl S W t A c l→tl.ok S W u l)
  (K:∀w',w.Le w'→Sl w'.O w'.W tl A c ls→Tr w' n f (up E κ emp) X):Tr w n f E X:=by
 intro a W h1 h2
 refine K (h2.raise κ) (h2.Ce κ) ?_ a W h1 (h2.raised κ)
 obtain⟨hm1,hm2⟩:=hm
 have hφ:=h2.phi κ
 rw[hk] at hφ
 obtain⟨g1,⟨css,g2,g2'⟩,⟨g3,_⟩,_⟩:=hφ
 have hsl:=sJ g2 g2'
 have hform:=hsl.form
 have hl2:(ms.map NE.hd).length=ls.length:=by rw[←hm1];simp
 rw[hl2] at hform
 refine⟨hform,fun i x hx=>?_⟩
 rw[←hm1,List.getElem?_map] at hx
 obtain⟨e0,he0,rfl⟩:=Option.map_eq_some_iff.1 hx
 have hem:=List.mem_of_getElem? he0
 obtain⟨s1,u,s2,s3⟩:=hsl.cells i e0.hd (by rw[List.getElem?_map,he0];rfl)
 obtain⟨u',q1,q2⟩:=htl e0.A e0.c e0.l
 obtain⟨css',r1,r2⟩:=(g3 e0 hem).2 (hm2 e0 hem)
 have hin:=sJ r1 r2
 refine⟨?_,u',q2 _ _ (hin.mono fun y hy=>?_),?_⟩
 ·rcases s1 with s1|s1
  ·exact .inl s1
  ·exact .inr (by rw[hk];exact .inl ((oV _ _ _ _ _).trans s1))
 ·rcases hy with hy|hy
  ·exact .inl hy
  ·exact .inr (by rw[hk];exact .inr ⟨e0,hem,hm2 e0 hem,hy⟩)
 ·rw[q1,hsz];exact s3
end
open Go.RowKit
structure Qu (α:Type) where
 Ad:Type
 sz:Nat
 enc:Ad→α→List Value
 okb:(Nat→Prop)→World→Ad→α→Prop
 ua:Ad→Option Addr×Nat
 sub:α→List α
 len:∀u x,(enc u x).length=sz
 one:∀u x,∀v∈enc u x,v.oneCell'=true
 loc:∀{S S':Nat→Prop} {W W':World} {u:Ad} {x:α},okb S W u x→(∀b,S b→S' b)→(∀b,S b→W'.heap[b]?=W.heap[b]?)→okb S' W' u x
namespace Qu
def Ni{α:Type}(F:Qu α):Nat→(Nat→Prop)→World→F.Ad→α→Prop
 |0,_,_,_,_=>False
 |k+1,S,W,u,x=>F.okb S W u x∧cO (F.ua u).1 (F.sub x).length (F.ua u).2∧∀(i:Nat) (y:α),(F.sub x)[i]?=some y→S (mY (F.ua u).1)∧∃v,Ni F k S W v y∧aF W (mY (F.ua u).1) (qj (F.ua u).1+i*F.sz) (F.enc v y)
variable {α:Type} (F:Qu α) {S S':Nat→Prop} {W W':World} {u:F.Ad} {x:α}
theorem IW:∀(k:Nat) {u:F.Ad} {x:α},F.Ni k S W u x→(∀b,S b→S' b)→(∀b,S b→W'.heap[b]?=W.heap[b]?)→F.Ni k S' W' u x
 |0,_,_,h,_,_=>h.elim
 | k+1,_,_,h,hs,hb=>⟨F.loc h.1 hs hb,h.2.1,fun i y hy=>by
   obtain⟨h1,v,h2,h3⟩:=h.2.2 i y hy
   exact⟨hs _ h1,v,IW k h2 hs hb,h3.loc (hb _ h1)⟩⟩
theorem FV:∀(k:Nat) {u:F.Ad} {x:α},F.Ni k S W u x→F.Ni (k+1) S W u x
 |0,_,_,h=>h.elim
 | k+1,_,_,h=>⟨h.1,h.2.1,fun i y hy=>by
   obtain⟨h1,v,h2,h3⟩:=h.2.2 i y hy
   exact⟨h1,v,FV k h2,h3⟩⟩
theorem FW{k k':Nat}(hk:k≤k'){u:F.Ad}{x:α}(h:F.Ni k S W u x):F.Ni k' S W u x:=by
 induction hk with
 |refl=>exact h
 |step _ ih=>exact F.FV _ ih
def fix:Fl α where
 Ad:=F.Ad
 sz:=F.sz
 enc:=F.enc
 ok S W u x:=∃k,F.Ni k S W u x
 len:=F.len
 one:=F.one
 loc h hs hb:=by obtain⟨k,h⟩:=h;exact⟨k,F.IW k h hs hb⟩
theorem P7:F.fix.ok S W u x↔F.okb S W u x∧Sl S W F.fix (F.ua u).1 (F.ua u).2 (F.sub x):=by
 constructor
 ·rintro⟨k,h⟩
  cases k with
  |zero=>exact h.elim
  |succ k=>
   refine⟨h.1,h.2.1,fun i y hy=>?_⟩
   obtain⟨h1,v,h2,h3⟩:=h.2.2 i y hy
   exact⟨h1,v,⟨k,h2⟩,h3⟩
 ·rintro⟨h,hf,hc⟩
  have key:∀(l:List α) (o:Nat),(∀(i:Nat) (y:α),l[i]?=some y→S (mY (F.ua u).1)∧∃v,(∃k,F.Ni k S W v y)∧aF W (mY (F.ua u).1) (o+i*F.sz) (F.enc v y))→
    ∃k,∀(i:Nat) (y:α),l[i]?=some y→S (mY (F.ua u).1)∧∃v,F.Ni k S W v y∧aF W (mY (F.ua u).1) (o+i*F.sz) (F.enc v y):=by
   intro l
   induction l with
   |nil=>intro o _;exact⟨0,fun i y h=>by simp at h⟩
   | cons z l ih=>
    intro o hl
    obtain⟨k1,hk1⟩:=ih (o+F.sz) (fun i y hy=>by
     have:=hl (i+1) y (by simpa using hy)
     rwa [show o+(i+1)*F.sz=o+F.sz+i*F.sz by rw[Nat.succ_mul];omega] at this)
    obtain⟨h1,v,⟨k2,h2⟩,h3⟩:=hl 0 z rfl
    refine⟨max k1 k2,fun i y hy=>?_⟩
    cases i with
    |zero=>
     simp at hy;subst hy
     exact⟨h1,v,F.FW (Nat.le_max_right _ _) h2,h3⟩
    |succ i=>
     obtain⟨g1,v',g2,g3⟩:=hk1 i y (by simpa using hy)
     refine⟨g1,v',F.FW (Nat.le_max_left _ _) g2,?_⟩
     rwa [show o+(i+1)*F.sz=o+F.sz+i*F.sz by rw[Nat.succ_mul];omega]
  obtain⟨k,hk⟩:=key (F.sub x) (qj (F.ua u).1) hc
  exact⟨k+1,h,hf,hk⟩
end Qu
end Go.Proofs.YtkccbhbhdnobhaaGreatDoor
set_option linter.unusedVariables false
namespace Go.Proofs.YtkccbhbhdnobhaaGreatDoor
open Go.RowKit Go.Proofs Go.Shelf
def sb(T e b:Nat)(A:Option Addr)(c:Nat)(s:ByteArray):iL:=
 ⟨fun x=>x=b∨(Value.slice A s.size c).ownBlock=some x,fun _ W=>∃p,(p= .pointer none∨p= .pointer (some ⟨b,0,none⟩))∧Lib.BuilderAtF T e 0 b p (Lib.strCells s) W∧W.heap[b]?=some (.cells #[p,.slice A s.size c] T (0,0))∧∀x,(Value.slice A s.size c).ownBlock=some x→x<W.heap.size⟩
theorem Cj{W W':World}{v:Value}{e n:Nat}{xs:List Value}(h:W.ownsRowF 0 e 1 v n xs)(hb:∀g,v.ownBlock=some g→W'.heap[g]?=W.heap[g]?):W'.ownsRowF 0 e 1 v n xs:=by
 refine⟨h.1,?_⟩
 rcases h.2 with h2|⟨g,cap,cur,fz,hv,h0,hh,r⟩
 ·exact .inl h2
 ·exact .inr ⟨g,cap,cur,fz,hv,h0,(hb g (by rw[hv];rfl)).trans hh,r⟩
theorem K9(T e b:Nat)(A:Option Addr)(c:Nat)(s:ByteArray):(sb T e b A c s).loc:=⟨fun O W W' h hp=>by
 obtain⟨p,h0,⟨_,v,h1,h2,h3⟩,h4,h5⟩:=hp
 have hv:v= .slice A s.size c:=by rw[h4] at h1;simpa using h1.symm
 subst hv
 have hb:W'.heap[b]?=W.heap[b]?:=h b (.inr (.inl rfl))
 have hown:=Cj h2 (W':=W') (fun g hg=>h g (.inr (.inr hg)))
 refine⟨p,h0,⟨Nat.zero_le _,_,hb.trans h4,hown,h3⟩,hb.trans h4,fun x hx=>?_⟩
 rcases hown.2 with⟨hv,_⟩|⟨g,cap,cur,fz,hv,_,hh,_⟩
 ·rw[hv] at hx;simp[Value.ownBlock] at hx
 ·rw[hv] at hx;simp[Value.ownBlock] at hx;subst hx;exact(Array.getElem?_eq_some_iff.1 hh).1,
 fun _ _ _ _ h=>h⟩
section
variable {P:Program} {ρ:Ren} {w:Bs} {A:Option Addr} {c b:Nat} {s x:ByteArray}
theorem PO{T e:Nat}:(sb T e b A c s).Any:=fun _ _ _ h=>h
theorem MU{n T e ty d:Nat}{f:Nat→Option Value}{E:Nat→iL}{Q:Exit→Act→World→Prop}{ops:Array Oper}{rest:List Oper}{pos:String}{af:Array Edge}{g:Option (Nat×Bool)}(κ:Nat)(hw:Wn ops f ⟨some d,.alloc T,ty,pos,af,g⟩)(hdn:Nat.blt d n=true)(hz:zeroOf P T=some [.pointer none,.slice none 0 0])
  (K:∀b,Tr w n (uf f d (.pointer (some ⟨b,0,none⟩))) (up E κ (sb T e b none 0 ByteArray.empty)) (wpList P ops Q rest)):Tr w n f E (wpList P ops Q (⟨some d,.alloc T,ty,pos,af,g⟩::rest)):=
 vV hw hdn (fun _ W _ h2=>⟨xQ hz,h2.add κ ((Below.refl _ _).alloc (Nat.le_refl _) _) (sb T e W.heap.size none 0 ByteArray.empty) (K9 _ _ _ _ _ _)
  ⟨.pointer none,.inl rfl,⟨Nat.zero_le _,_,heap_alloc_new W _,⟨rfl,.inl ⟨rfl,rfl⟩⟩,by simp[Value.ownBlock]⟩,heap_alloc_new W _,fun x h=>by simp[Value.ownBlock] at h⟩ (fun b hb=>by
   rcases hb with hb|hb
   ·subst hb;exact⟨Nat.le_refl _,by simp⟩
   ·simp[Value.ownBlock] at hb)⟩) (fun W _=>K W.heap.size)
def QT(s x:ByteArray):Option ByteArray:=if s.size+x.size≤140737488355328 then some (s++x) else none
def RL(s:ByteArray):Option (ByteArray×ByteArray):=if s.size≠0 then some (s,s) else none
def Sg(s:ByteArray):Option (Int×ByteArray):=some ((s.size:Int),s)
theorem Ez(s x:ByteArray):Lib.strCells (s++x)=Lib.strCells s++Lib.strCells x:=by simp[Lib.strCells]
theorem K8{T e:Nat}{A':Option Addr}{c':Nat}{s':ByteArray}{W':World}(hE:HF w w.W (iZ [sb T e b A c s]))(ho:W'.os=w.W.os)(htp:W'.tape=w.W.tape)(hou:W'.output=w.W.output)(hsz:w.W.heap.size≤W'.heap.size)(hd:w.W.drawn≤W'.drawn)
  (hother:∀k,k<w.W.heap.size→k≠b→some k≠(Value.slice A s.size c).ownBlock→W'.heap[k]?=w.W.heap[k]?) {p:Value} (h0:p= .pointer none∨p= .pointer (some ⟨b,0,none⟩))
  (h1:Lib.BuilderAtF T e 0 b p (Lib.strCells s') W') (h2:W'.heap[b]?=some (.cells #[p,.slice A' s'.size c'] T (0,0))) (h3:∀g,(Value.slice A' s'.size c').ownBlock=some g→g<W'.heap.size∧((Value.slice A s.size c).ownBlock=some g∨w.W.heap.size≤g)):
  HF w W' (iZ [sb T e b A' c' s']):=by
 have hb:b<w.W.heap.size:=by
  obtain⟨p,_,_,h,_⟩:=hE.phi 0
  exact(Array.getElem?_eq_some_iff.1 h).1
 refine(hE.mod (E:=iZ [sb T e b A c s]) (W':=W') 0 (sb T e b A' c' s') ho htp hou hsz hd (fun k hk hs=>hother k hk (fun e=>hs (.inl e)) (fun e=>hs (.inr e.symm))) (K9 _ _ _ _ _ _) ?_ (fun k hk=>?_)).weaken (fun k=>?_)
 ·exact⟨p,h0,h1,h2,fun g hg=>(h3 g hg).1⟩
 ·rcases hk with hk|hk
  ·subst hk;exact⟨.inl (.inl rfl),Nat.lt_of_lt_of_le hb hsz⟩
  ·exact⟨(h3 k hk).2.imp (fun h=>.inr h) id,(h3 k hk).1⟩
 ·cases k with
  |zero=>exact .inl rfl
  |succ k=>exact .inr rfl
theorem Ik(w:World)(t u ty e:TypeId)(i:TypeInfo)(ht:P.underlying t=some (.slice e))(hu:P.underlying u=some .string)(hi:P.info? e=some i)(hz:i.zero=some (.int .u8 0))
  (hsize:i.size=1) (hby:i.bytes=1) (v:Value) (n:Nat) (xs:List Value) (hown:w.ownsRowF 0 e 1 v n xs) (s:ByteArray) (h63:n+s.size≤maxLen) (hbytes:n+s.size≤140737488355328) {v':Value} {w':World}
  (hr:(Builtin.append_ #[t,u] ty #[v,.string s]).run P w= .ok v' w'):∀g,v'.ownBlock=some g→v.ownBlock=some g∨w.heap.size≤g:=by
 intro k hk
 rcases hown.2 with⟨rfl,rfl⟩|⟨g,cap,cur,fz,rfl,hbg,hg,hfz,hnc,hcm,hcs,htake⟩
 ·obtain⟨v2,w2,h1,h2,h3,h4⟩:=Lib.run_append_own_string (P:=P) w w.heap.size t u ty e i ht hu hi hz hsize hby (.slice none 0 0) 0 xs ⟨hown.1,.inl ⟨rfl,rfl⟩⟩ s h63 hbytes (Nat.le_refl _)
  rw[hr] at h1
  simp only[Result.ok.injEq] at h1
  obtain⟨rfl,rfl⟩:=h1
  rcases h2.2 with⟨hv,_⟩|⟨g,cap,cur,hv,hbg,_⟩
  ·rw[hv] at hk;simp[Value.ownBlock] at hk
  ·rw[hv] at hk;simp[Value.ownBlock] at hk;subst hk;exact .inr hbg
 ·have hxl:xs.length=n:=by simpa using hown.1
  by_cases hroom:n+s.size≤cap
  ·have hcs':cur.size=cap:=by simpa using hcs
   have h1:=Lib.run_append_room_stringF (P:=P) w t u ty e i ht hu hi hsize g n cap cur fz hg (by simpa using hfz) s hroom (by omega)
   rw[hr] at h1
   simp only[Result.ok.injEq] at h1
   obtain⟨rfl,rfl⟩:=h1
   exact .inl hk
  ·have holds:∀j u,xs[j]?=some u→w.cell? ((⟨g,0,none⟩:Addr).add j)=some u:=hown.cells (g:=g) rfl
   have h1:=Lib.run_append_grow_string (P:=P) w t u ty e i (.int .u8 0) ht hu hi hz ⟨g,0,none⟩ n cap xs (by rw[hsize];simpa using hxl) holds s (by omega) (by omega) (by rw[hby];exact growslice_fits (by omega) (by omega))
   rw[hr] at h1
   simp only[Result.ok.injEq] at h1
   obtain⟨rfl,rfl⟩:=h1
   simp[Value.ownBlock] at hk
   exact .inr (by omega)
theorem E9{ops:Array Oper}{rest:List Oper}{o:Oper}{a:Act}{Q:Exit→Act→World→Prop}(w:World)(hgd:o.guard=none)(sl y:Operand)(t u:TypeId)
  (ho:o.op= .call {callee:=.builtin .append,args:= #[sl,y],argTypes:= #[t,u]})
  (e:TypeId) (i:TypeInfo) (ht:P.underlying t=some (.slice e)) (hu:P.underlying u=some .string) (hi:P.info? e=some i) (hz:i.zero=some (.int .u8 0))
  (hsize:i.size=1) (hby:i.bytes=1) (v:Value) (n:Nat) (xs:List Value) (hs:a.eval sl=v) (hown:w.ownsRowF 0 e 1 v n xs) (s:ByteArray) (hx:a.eval y= .string s)
  (h63:n+s.size≤maxLen) (hbytes:n+s.size≤140737488355328)
  (h:∀v' w',w'.ownsRowF 0 e 1 v' (n+s.size) (xs++Lib.strCells s)→w.grownBy w' v.ownBlock→w.drawn≤w'.drawn→(∀g,v'.ownBlock=some g→v.ownBlock=some g∨w.heap.size≤g)→wpList P ops Q rest (a.put o.dst v') w'):wpList P ops Q (o::rest) a w:=by
 refine wpList_plain hgd fun K hK=>?_
 obtain⟨v',w',hr,h2,h3,h4⟩:=Lib.run_append_own_stringF (P:=P) w 0 t u o.type e i ht hu hi hz hsize hby v n xs hown s h63 hbytes (Nat.zero_le _)
 have hdr:=xP _ _ _ _ hr
 unfold Oper.wp execOp
 simp only[ho,resolve,invoke,builtin,Sem.run_bind,Sem.run_pure,Result.andThen_ok,List.map_toArray,List.map_cons,List.map_nil,hs,hx,hr]
 exact hK _ _ (h v' w' h2 h3 hdr (Ik w t u o.type e i ht hu hi hz hsize hby v n xs hown s h63 hbytes hr))
set_option maxHeartbeats 2000000 in
set_option maxRecDepth 100000 in
theorem K7(L:Lays.n166 P ρ)(X:Builder.Extra P ρ){r:ByteArray}(H:QT s x=some r)(hE:HF w w.W (iZ [sb (ρ.t 72) (ρ.t 5) b A c s])):
  Calls P (ρ.f 166) [.pointer (some ⟨b,0,none⟩),.string x].toArray w.W fun e W'=>∃u:(Option Addr×Nat),e= .returned (.tuple #[.int .i64 x.size,.nilIface])∧(True)∧HF w W' (iZ [sb (ρ.t 72) (ρ.t 5) b u.1 u.2 r]):=by
 unfold QT at H
 split at H
 case isFalse=>cases H
 rename_i hlen
 have hr:=Option.some.inj H
 obtain⟨p,hp,hB,hbk,hlt⟩:=hE.phi 0
 have hB0:=hB
 have hslt:∀g,(Value.slice A s.size c).ownBlock=some g→g<w.W.heap.size:=hlt
 obtain⟨_,v,hbk2,hown,hne⟩:=hB
 have hv:v= .slice A s.size c:=by rw[hbk] at hbk2;simpa using hbk2.symm
 subst hv
 obtain⟨i0,hi,hz0,hz1,hz2⟩:=info_parts X.infoByte
 have mixed:=L.mixed
 have t72:=L.t72;have a72:=L.a72;have z72:=L.z72;have v72:=L.v72;have u72:=run_underlying L.t72
 have t70:=L.t70;have a70:=L.a70;have z70:=L.z70;have v70:=L.v70;have u70:=run_underlying L.t70
 have t37:=L.t37;have a37:=L.a37;have z37:=L.z37;have v37:=L.v37;have u37:=run_underlying L.t37
 have t3:=L.t3;have a3:=L.a3;have z3:=L.z3;have v3:=L.v3;have u3:=run_underlying L.t3
 have t9:=L.t9;have a9:=L.a9;have z9:=L.z9;have v9:=L.v9;have u9:=run_underlying L.t9
 have t4:=L.t4;have a4:=L.a4;have z4:=L.z4;have v4:=L.v4;have u4:=run_underlying L.t4
 have t164:=L.t164;have a164:=L.a164;have z164:=L.z164;have v164:=L.v164;have u164:=run_underlying L.t164
 have t5:=X.t5;have a5:=X.a5;have z5:=X.z5;have v5:=X.v5;have u5:=run_underlying X.t5
 have e240:∀args w,(callFunc (ρ.f 240) args).run P w= .ok (.enter (ρ.f 240) args) w:=enters_of L.f240 (by kernel_rfl) rfl
 have hcc:Calls P (ρ.f 240) #[.pointer (some ⟨b,0,none⟩)] w.W fun e w1=>e= .returned (.tuple #[])∧w1.os=w.W.os∧w1.tape=w.W.tape∧w1.output=w.W.output∧w1.drawn=w.W.drawn∧w1.heap.size=w.W.heap.size∧(∀k,k≠b→w1.heap[k]?=w.W.heap[k]?)∧w1.heap[b]?=some (.cells #[.pointer (some ⟨b,0,none⟩),.slice A s.size c] (ρ.t 72) (0,0)):=by
  rcases hp with rfl|rfl
  ·refine(Any.Builder_copyCheck_fresh {L with} X.toX72 b w.W hB0.cell0 hB0.shape hB0.frozen0).mono ?_
   rintro e w' ⟨rfl,rfl⟩
   refine⟨rfl,rfl,rfl,rfl,rfl,by simp[World.setCell],fun k hk=>Below.heap_setCell _ _ _ _ (fun e=>hk (by simp[e])),?_⟩
   simp[World.setCell,Array.getElem?_modify,hbk]
  ·refine(Any.Builder_copyCheck_used {L with} X.toX72 b w.W hB0.cell0).mono ?_
   rintro e w' ⟨rfl,rfl⟩
   exact⟨rfl,rfl,rfl,rfl,rfl,rfl,fun _ _=>rfl,hbk⟩
 go_enter L.f166,Body.n166_ntmps ρ
 go_wp2_with (go_at_fn (ρ.f 240);refine hcc.mono ?_)
 rintro e w1 ⟨rfl,f1,f2,f3,f4,f5,f6,hbk1⟩
 have hown1:=Cj hown (W':=w1) (fun g hg=>f6 g (fun e=>hne (by rw[hg,e])))
 rw[Lib.strCells_length] at hown1
 have c0:w1.cell? ⟨b,0,none⟩=some (.pointer (some ⟨b,0,none⟩)):=by rw[Lib.cell_of_heap hbk1];rfl
 have c1:w1.cell? ⟨b,1,none⟩=some (.slice A s.size c):=by rw[Lib.cell_of_heap hbk1];rfl
 go_wp2_with (at_builtin;refine E9 w1 rfl _ _ (ρ.t 37) (ρ.t 9) rfl (ρ.t 5) i0 L.t37 L.t9 hi hz0 hz1 hz2 _ _ _ rfl hown1 x rfl ?c3 ?c4 ?_)
 case c3=>unfold maxLen;omega
 case c4=>exact hlen
 intro v' w2 hown' hgrow hdr hblk
 have hb1:b<w1.heap.size:=(Array.getElem?_eq_some_iff.1 hbk1).1
 have hb2:w2.heap[b]?=some (.cells #[.pointer (some ⟨b,0,none⟩),.slice A s.size c] (ρ.t 72) (0,0)):=by
  rw[hgrow.block b hb1 (fun e=>hne e.symm)];exact hbk1
 have d0:w2.cell? ⟨b,0,none⟩=some (.pointer (some ⟨b,0,none⟩)):=by rw[Lib.cell_of_heap hb2];rfl
 have d1:w2.cell? ⟨b,1,none⟩=some (.slice A s.size c):=by rw[Lib.cell_of_heap hb2];rfl
 have g1:w2.frozen? ⟨b,1,none⟩=false:=Lib.frozen_of_heap hb2 1
 have hsz:r.size=s.size+x.size:=by rw[←hr];simp
 rw[←hsz,←Ez,hr] at hown'
 clear hsz
 obtain⟨ao,cap,rfl⟩:∃ao cap,v'= .slice ao r.size cap:=by
  rcases hown'.2 with⟨hv,h0⟩|⟨g,cap,cur,fz,hv,_⟩
  ·exact⟨none,0,by rw[hv,h0]⟩
  ·exact⟨_,_,hv⟩
 have hown2:w2.ownsRowF 0 (ρ.t 5) 1 (.slice ao r.size cap) (Lib.strCells r).length (Lib.strCells r):=by
  rw[Lib.strCells_length];exact hown'
 go_wp2
 go_ret2
 refine⟨(ao,cap),rfl,trivial,K8 hE (p:=.pointer (some ⟨b,0,none⟩)) ?_ ?_ ?_ ?_ ?_ ?_ (.inr rfl) (Lib.BuilderAtF.put (T:=(ρ.t 72)) (e:=(ρ.t 5)) (Nat.zero_le _) hb2 hown2 X.neB5) ?_ ?_⟩
 ·exact hgrow.os.trans f1
 ·exact hgrow.tape.trans f2
 ·exact hgrow.output.trans f3
 ·simp[World.setCell];have:=hgrow.size;omega
 ·show w.W.drawn≤w2.drawn;omega
 ·intro k hk hkb hkg
  rw[Below.heap_setCell _ _ _ _ (fun e=>hkb (by simp[e])),hgrow.block k (by omega) hkg];exact f6 k hkb
 ·simp[World.setCell,Array.getElem?_modify,hb2]
 ·intro g hg
  rcases hown'.2 with⟨hv,_⟩|⟨g',cap',cur,fz,hv,_,hh,_⟩
  ·rw[hv] at hg;simp[Value.ownBlock] at hg
  ·have hg2:=hg
   rw[hv] at hg;simp[Value.ownBlock] at hg;subst hg
   exact⟨by simp[World.setCell];exact(Array.getElem?_eq_some_iff.1 hh).1,(hblk _ hg2).imp id (fun h=>by omega)⟩
set_option maxHeartbeats 1000000 in
set_option maxRecDepth 100000 in
theorem PN(L:Lays.n170 P ρ){e:Nat}{r:Int×ByteArray}(H:Sg s=some r)(hE:HF w w.W (iZ [sb (ρ.t 72) e b A c s])):
  Calls P (ρ.f 170) [.pointer (some ⟨b,0,none⟩)].toArray w.W fun e' W'=>∃u:(Option Addr×Nat),e'= .returned (.int .i64 r.1)∧(True)∧HF w W' (iZ [sb (ρ.t 72) e b u.1 u.2 r.2]):=by
 have hr:=Option.some.inj H
 subst hr
 obtain⟨p,hp,hB,hbk,hlt⟩:=hE.phi 0
 have c1:w.W.cell? ⟨b,1,none⟩=some (.slice A s.size c):=by rw[Lib.cell_of_heap hbk];rfl
 have mixed:=L.mixed
 have t72:=L.t72;have a72:=L.a72;have z72:=L.z72;have v72:=L.v72;have u72:=run_underlying L.t72
 have t70:=L.t70;have a70:=L.a70;have z70:=L.z70;have v70:=L.v70;have u70:=run_underlying L.t70
 have t37:=L.t37;have a37:=L.a37;have z37:=L.z37;have v37:=L.v37;have u37:=run_underlying L.t37
 have t3:=L.t3;have a3:=L.a3;have z3:=L.z3;have v3:=L.v3;have u3:=run_underlying L.t3
 go_enter L.f170,Body.n170_ntmps ρ
 go_wp2
 go_ret
 first|exact⟨(A,c),rfl,trivial,hE⟩|exact⟨rfl,A,c,hE⟩|exact⟨rfl,A,c,trivial,hE⟩
set_option maxHeartbeats 1000000 in
set_option maxRecDepth 100000 in
theorem JI(L:Lays.n169 P ρ)(X:Builder.Extra P ρ){r:ByteArray×ByteArray}(H:RL s=some r)(hE:HF w w.W (iZ [sb (ρ.t 72) (ρ.t 5) b A c s])):
  Calls P (ρ.f 169) [.pointer (some ⟨b,0,none⟩)].toArray w.W fun e W'=>∃u:(Option Addr×Nat),e= .returned (.string r.1)∧(True)∧HF w W' (iZ [sb (ρ.t 72) (ρ.t 5) b u.1 u.2 r.2]):=by
 unfold RL at H
 split at H
 case isFalse=>cases H
 rename_i h0
 have hr:=Option.some.inj H
 subst hr
 obtain⟨p,hp,hB,hbk,hlt⟩:=hE.phi 0
 have hA:=hB
 obtain⟨_,v,hbk2,hown,hne⟩:=hB
 have hv:v= .slice A s.size c:=by rw[hbk] at hbk2;simpa using hbk2.symm
 subst hv
 rw[Lib.strCells_length] at hown
 obtain⟨g,cap,cur,fz,hv,hbg,hg,hfz,hnc,hcm,hcs,htake⟩:∃g cap cur fz,Value.slice A s.size c= .slice (some ⟨g,0,none⟩) s.size cap∧0≤g∧w.W.heap[g]?=some (.cells cur (ρ.t 5) fz)∧fz.2≤s.size*1∧s.size≤cap∧cap≤maxLen∧cur.size=cap*1∧cur.toList.take (s.size*1)=Lib.strCells s:=by
  rcases hown.2 with⟨_,hz⟩|⟨g,cap,cur,fz,hv,r⟩
  ·exact absurd hz h0
  ·exact⟨g,cap,cur,fz,hv,r⟩
 simp at hv
 obtain⟨rfl,rfl⟩:=hv
 have hl0:s.data.toList≠[]:=by
  intro e
  have:s.data.toList.length=0:=by rw[e];rfl
  exact h0 (by simpa using this)
 have hls:s.data.toList.length=s.size:=by simp
 have c1:w.W.drew.cell? ⟨b,1,none⟩=some (.slice (some ⟨g,0,none⟩) s.size c):=by
  have:w.W.drew.heap[b]?=some (.cells #[p,.slice (some ⟨g,0,none⟩) s.size c] (ρ.t 72) (0,0)):=hbk
  rw[Lib.cell_of_heap this];rfl
 have hSD:(Builtin.unsafeSliceData_ #[(ρ.t 37)] (ρ.t 127) #[.slice (some ⟨g,0,none⟩) s.size c]).run P w.W.drew= .ok (.pointer (some ⟨g,0,none⟩)) w.W.drew:=
  Lib.run_unsafeSliceData_row _ _ _ _ _ _ (by omega)
 have hUS:(Builtin.unsafeString_ #[(ρ.t 127),(ρ.t 3)] (ρ.t 9) #[.pointer (some ⟨g,0,none⟩),.int .i64 s.size]).run P w.W.drew= .ok (.string s) (w.W.drew.freeze ⟨g,0,none⟩ s.size):=by
  have:=Lib.run_unsafeString_row (P:=P) w.W.drew (ρ.t 127) (ρ.t 3) (ρ.t 9) (ρ.t 5) L.t127 X.cellsByte g cur.size (by have hg':w.W.drew.heap[g]?=some (.cells cur (ρ.t 5) fz):=hg;simp[World.shape?,hg']) s.data.toList hl0 (by omega) (by unfold maxLen at hcm;omega) (by
   intro j x hx
   exact hown.cells (g:=g) rfl j (.int .u8 x.toNat) (by simp[Lib.strCells,hx]))
  rw[hls] at this
  simpa using this
 have mixed:=L.mixed
 have t72:=L.t72;have a72:=L.a72;have z72:=L.z72;have v72:=L.v72;have u72:=run_underlying L.t72
 have t70:=L.t70;have a70:=L.a70;have z70:=L.z70;have v70:=L.v70;have u70:=run_underlying L.t70
 have t37:=L.t37;have a37:=L.a37;have z37:=L.z37;have v37:=L.v37;have u37:=run_underlying L.t37
 have t127:=L.t127;have a127:=L.a127;have z127:=L.z127;have v127:=L.v127;have u127:=run_underlying L.t127
 have t3:=L.t3;have a3:=L.a3;have z3:=L.z3;have v3:=L.v3;have u3:=run_underlying L.t3
 have t9:=L.t9;have a9:=L.a9;have z9:=L.z9;have v9:=L.v9;have u9:=run_underlying L.t9
 have t5:=X.t5;have a5:=X.a5;have z5:=X.z5;have v5:=X.v5;have u5:=run_underlying X.t5
 have hgb:g≠b:=fun e=>hne (by simp[Value.ownBlock,e])
 have hF:Lib.BuilderAtF (ρ.t 72) (ρ.t 5) 0 b p (Lib.strCells s) (w.W.drew.freeze ⟨g,0,none⟩ s.size):=by
  have hA2:Lib.BuilderAtF (ρ.t 72) (ρ.t 5) 0 b p (Lib.strCells s) w.W.drew:=⟨Nat.zero_le _,_,hbk,by rw[Lib.strCells_length];exact hown,hne⟩
  have:=hA2.froze (g:=g) (cap:=c) (by rw[Lib.strCells_length];exact c1)
  rwa [Lib.strCells_length] at this
 have hfr:∀k,k≠g→(w.W.drew.freeze ⟨g,0,none⟩ s.size).heap[k]?=w.W.heap[k]?:=by
  intro k hk
  unfold World.freeze
  rw[if_neg h0]
  simp only[Array.getElem?_modify]
  rw[if_neg (fun e=>hk e.symm)]
  rfl
 have fin:HF w (w.W.drew.freeze ⟨g,0,none⟩ s.size) (iZ [sb (ρ.t 72) (ρ.t 5) b (some ⟨g,0,none⟩) c s]):=by
  have hfs:(w.W.drew.freeze ⟨g,0,none⟩ s.size).heap.size=w.W.heap.size:=by
   unfold World.freeze
   rw[if_neg h0]
   simp only[Array.size_modify];rfl
  have hfd:(w.W.drew.freeze ⟨g,0,none⟩ s.size).os=w.W.os∧(w.W.drew.freeze ⟨g,0,none⟩ s.size).tape=w.W.tape∧(w.W.drew.freeze ⟨g,0,none⟩ s.size).output=w.W.output∧w.W.drawn≤(w.W.drew.freeze ⟨g,0,none⟩ s.size).drawn:=by
   unfold World.freeze
   rw[if_neg h0]
   exact⟨rfl,rfl,rfl,Nat.le_succ _⟩
  refine K8 hE (p:=p) hfd.1 hfd.2.1 hfd.2.2.1 (Nat.le_of_eq hfs.symm) hfd.2.2.2 (fun k _ hkb hkg=>hfr k (fun e=>hkg (by simp[Value.ownBlock,e]))) hp hF ((hfr b hgb.symm).trans hbk) (fun k hk=>?_)
  simp[Value.ownBlock] at hk
  subst hk
  exact⟨by rw[hfs];exact(Array.getElem?_eq_some_iff.1 hg).1,.inl (by simp[Value.ownBlock])⟩
 go_enter L.f169,Body.n169_ntmps ρ
 go_wp2
 go_region_o
 all_goals (go_wp2;go_ret;first|exact⟨(some ⟨g,0,none⟩,c),rfl,trivial,fin⟩|exact⟨rfl,some ⟨g,0,none⟩,c,fin⟩|exact⟨rfl,some ⟨g,0,none⟩,c,trivial,fin⟩)
end
open Go.RowKit Go.Proofs Go.Shelf Go.Sort
def OG(P:Program)(w:Bs):Prop:=∃g,P.globals.findIdx? (·.name== "internal/bytealg.MaxLen")=some g∧w.R g∧∃m,w.W.cell? ⟨g,0,none⟩=some (.int .i64 m)
def RB(P:Program)(w:Bs):Prop:=∃g,P.globalNamed "internal/strconv.uint64pow10" =some g∧w.R g∧Lib.TabIs P w.W "internal/strconv.uint64pow10" .u64 Lib.pow10Tab
def Dx(P:Program)(w:Bs):Prop:=RB P w∧OG P w
section
variable {P:Program} {ρ:Ren} {w w':Bs}
theorem Dx.ext(h:Dx P w)(e:w.Ext w'):Dx P w':=by
 obtain⟨⟨g,h1,h2,h3⟩,g',k1,k2,m,k3⟩:=h
 refine⟨⟨g,h1,e.r g h2,?_⟩,g',k1,e.r g' k2,m,?_⟩
 ·unfold Lib.TabIs World.var? at h3 ⊢
  rw[h1] at h3 ⊢
  simp only[ob] at h3 ⊢
  rw[e.blk g h2];exact h3
 ·unfold World.cell? at k3 ⊢
  rw[e.blk g' k2];exact k3
def D6(n:Int):Option ByteArray:=if -9223372036854775808≤n∧n≤9223372036854775807 then some ⟨(Lib.itoa n).toArray⟩ else none
theorem H5(L:LaysM.n171 P ρ)(hT:Dx P w){n:Int}{r:ByteArray}(H:D6 n=some r)(hE:HF w w.W E0):
  Calls P (ρ.f 171) [.int .i64 n].toArray w.W fun e W'=>e= .returned (.string r)∧HF w W' E0:=by
 unfold D6 at H
 split at H
 case isFalse=>cases H
 rename_i hn
 have hr:=Option.some.inj H
 subst hr
 obtain⟨⟨g,_,_,h3⟩,_⟩:=hT
 exact(Any.strconv_Itoa L n hn.1 hn.2 w.W h3).mono fun e W' ⟨h1,k,os,h2⟩=>⟨h1,hE.later (by
  subst h2
  exact⟨rfl,rfl,rfl,by simp[grow,World.drewN],fun b hb=>heap_grow_old _ _ (by simpa[World.drewN] using hb),(by first|exact Nat.le_add_right _ _|exact Nat.le_refl 0)⟩)⟩
end
open Go.RowKit
def CF(P:Program)(T i:Nat):Option (Nat×Nat):=match P.underlying T with
 |some (.struct fs)=>(fs[i]?).map fun f=>(f.offset,f.type)
 |_=>none
section
variable {P:Program} {ρ:Operand→Value} {W:World} {d:Option Tmp} {ty T:TypeId} {pos:String} {af:Array Edge} {g:Option (Nat×Bool)} {p:Operand} {v:Value} {i fo ft:Nat} {cs:Array Value}
theorem Hf(hf:CF P T i=some (fo,ft))(ha:jg P ft=some false)(hp:ρ p= .agg cs)(hv:cs[fo]?=some v):(execOp ρ ⟨d,.field T p i,ty,pos,af,g⟩).run P W= .ok (.value v) W:=by
 unfold CF at hf
 split at hf
 ·rename_i fs hu
  obtain⟨f,h1,h2⟩:=Option.map_eq_some_iff.1 hf
  simp only[Prod.mk.injEq] at h2
  obtain⟨rfl,rfl⟩:=h2
  simp[execOp,Instr.field,run_underlying hu,h1,hp,asAgg,uT ha hv]
 ·cases hf
end
open Go.RowKit
def Raw{α:Type}(t:Fl α):Type:={cs:List Value // cs.length=t.sz∧cs.all (·.oneCell')=true}
def raw{α:Type}(t:Fl α)(cs:List Value)(h1:cs.length=t.sz)(h2:cs.all (·.oneCell')=true):Raw t:=⟨cs,h1,h2⟩
def QW{α:Type}(t:Fl α)(u:t.Ad)(x:α):Raw t:=raw t (t.enc u x) (t.len u x) (List.all_eq_true.2 (t.one u x))
def HV{α:Type}(t:Fl α):Fl (α ⊕ Raw t) where
 Ad:=t.Ad
 sz:=t.sz
 enc u x:=match x with| .inl x=>t.enc u x| .inr cs=>cs.1
 ok S W u x:=match x with| .inl x=>t.ok S W u x| .inr _=>True
 len u x:=by cases x with
  |inl x=>exact t.len u x
  |inr cs=>exact cs.2.1
 one u x v h:=by cases x with
  |inl x=>exact t.one u x v h
  |inr cs=>exact List.all_eq_true.1 cs.2.2 v h
 loc {_ _ _ _ _ x} h hs hb:=by cases x with
  |inl x=>exact t.loc h hs hb
  |inr cs=>trivial
def qo{α:Type}{t:Fl α}(l:List α)(i:Nat)(cs:Raw t):List (α ⊕ Raw t):=(l.map Sum.inl).set i (.inr cs)
section
variable {α:Type} {t:Fl α} {l:List α} {i:Nat} {cs:Raw t} {O:Nat→Prop} {W:World} {w:Bs} {n:Nat} {f:Nat→Option Value} {E:Nat→iL} {X:Act→World→Prop} {A:Option Addr} {c T:Nat}
theorem xg:(qo l i cs).length=l.length:=by simp[qo]
theorem BC(hi:i<l.length):(qo l i cs)[i]?=some (.inr cs):=by simp[qo,hi]
theorem Qk{css:List (List Value)}(h:Al (rp t O W) css l):Al (rp (HV t) O W) css (l.map Sum.inl):=by
 induction h with
 |nil=>exact .nil
 |cons h1 _ ih=>
  obtain⟨u,h2,h3⟩:=h1
  exact .cons ⟨u,h2,h3⟩ ih
theorem Gz:∀{l:List α} {css:List (List Value)},Al (rp (HV t) O W) css (l.map Sum.inl)→Al (rp t O W) css l
 |[],_,h=>by cases h;exact .nil
 | x::l,_,h=>by
  cases h with
  |cons h1 h2=>
   obtain⟨u,h3,h4⟩:=h1
   exact .cons ⟨u,h3,h4⟩ (Gz h2)
theorem Fx{β:Type}{l:List β}{i:Nat}{x:β}(h:l[i]?=some x):l.set i x=l:=by
 apply List.ext_getElem?
 intro j
 rw[List.getElem?_set]
 split
 ·rename_i e;subst e
  split
  ·exact h.symm
  ·rename_i hh;rw[List.getElem?_eq_none (by omega)]
 ·rfl
theorem Ip(κ:Nat){x:α}(hk:E κ=ow A c T t l)(hx:l[i]?=some x)(K:∀u,t.ok w.O w.W u x→Tr w n f (up E κ (ow A c T (HV t) (qo l i (QW t u x)))) X):Tr w n f E X:=fun a W h1 h2=>by
 obtain⟨css,hal,hlen,h0⟩:=h2.ow hk
 obtain⟨cs0,hcs0,u,hu,rfl⟩:=hal.at_ hx
 have hu':t.ok w.O w.W u x:=t.loc hu (fun _ hb=>hb) (fun b hb=>(h2.keep b (.inl hb)).symm)
 refine K u hu' a W h1 (h2.mod κ _ rfl rfl rfl (Nat.le_refl _) (Nat.le_refl _) (fun _ _ _=>rfl) (lL _ _ _ _ _) ?_ (fun b hb=>?_))
 ·have hs:=(Qk hal).set (i:=i) (x:=t.enc u x) (y:=.inr (QW t u x)) ⟨u,trivial,rfl⟩
  rw[Fx hcs0] at hs
  refine⟨css,hs,?_⟩
  show W.ownsRow 0 T t.sz (.slice A (qo l i _).length c) (qo l i _).length css.flatten
  rw[xg];exact⟨hlen,h0⟩
 ·have hb:(Value.slice A (qo l i _).length c).ownBlock=some b:=hb
  rw[xg] at hb
  have hb':(E κ).S b:=by rw[hk];exact hb
  exact⟨.inl hb',(h2.bd κ b hb').2⟩
theorem GD(κ:Nat)(hk:E κ=ow A c T (HV t) (qo l i cs))(u:t.Ad)(x:α)(hu:t.ok w.O w.W u x)(he:t.enc u x=cs.1)(K:Tr w n f (up E κ (ow A c T t (l.set i x))) X):Tr w n f E X:=fun a W h1 h2=>by
 obtain⟨css,hal,hlen,h0⟩:=h2.ow hk
 refine K a W h1 (h2.mod κ _ rfl rfl rfl (Nat.le_refl _) (Nat.le_refl _) (fun _ _ _=>rfl) (lL _ _ _ _ _) ?_ (fun b hb=>?_))
 ·refine⟨css,Gz ?_,?_⟩
  ·by_cases hi:i<l.length
   ·obtain⟨cs0,hcs0,u0,_,e0⟩:=hal.at_ (BC (cs:=cs) hi)
    have e0:cs0=cs.1:=e0
    have hs:=hal.set (i:=i) (x:=cs0) (y:=.inl x) ⟨u,t.loc hu (fun _ hb=>hb) (fun b hb=>h2.keep b (.inl hb)),by rw[e0];exact he.symm⟩
    rw[Fx hcs0] at hs
    have:(qo l i cs).set i (.inl x)=(l.set i x).map Sum.inl:=by simp[qo,List.map_set]
    rwa [this] at hs
   ·have e1:qo l i cs=l.map Sum.inl:=by
     unfold qo;exact List.set_eq_of_length_le (by simpa using hi)
    rw[e1] at hal
    rw[List.set_eq_of_length_le (by omega)];exact hal
  ·have hm:(qo l i cs).length=(l.set i x).length:=by rw[xg,List.length_set]
   rw[←hm];exact⟨hlen,h0⟩
 ·have hb:(Value.slice A (l.set i x).length c).ownBlock=some b:=hb
  have hb':(E κ).S b:=by
   rw[hk]
   show(Value.slice A (qo l i cs).length c).ownBlock=some b
   rw[xg,←List.length_set (a:=x) (i:=i)];exact hb
  exact⟨.inl hb',(h2.bd κ b hb').2⟩
theorem Ta(hW:HF w W E){κ:Nat}(hk:E κ=ow A c T (HV t) (qo l i cs))(hi:i<l.length):aF W (mY A) (qj A+i*t.sz) cs.1:=by
 obtain⟨u,_,h⟩:=hW.RV hk (BC hi)
 exact h
end
section
variable {α:Type} {P:Program} {w:Bs} {n:Nat} {f:Nat→Option Value} {E:Nat→iL} {Q:Exit→Act→World→Prop} {ops:Array Oper} {rest:List Oper} {ty T:Nat} {pos:String} {af:Array Edge} {g:Option (Nat×Bool)} {p q:Operand} {v:Value}
theorem bn{ρ:Operand→Value}{W:World}{d:Option Tmp}{a:Addr}(hp:ρ p= .pointer (some a)):(execOp ρ ⟨d,.nilCheck p,ty,pos,af,g⟩).run P W= .ok (.value (.pointer (some a))) W:=by
 simp[execOp,hp]
theorem GA(κ:Nat){A:Option Addr}{c e fo o i:Nat}{t:Fl α}{l:List α}{ds:Raw t}(ds':Raw t){cs:List Value}(hw:Wn ops f ⟨none,.store T p q,ty,pos,af,g⟩)(hp:ev f p=some (.pointer (some ⟨mY A,o,none⟩)))(hq:ev f q=some v)(hv:v.cells=cs.toArray)
  (ho:o=qj A+i*t.sz+fo) (hk:E κ=ow A c e (HV t) (qo l i ds)) (hi:i<l.length) (hs:kD P T=some cs.length) (h1:cs.all (·.oneCell')=true)
  (hup:ds'.1=ds.1.take fo++cs++ds.1.drop (fo+cs.length)) (hfit:Nat.ble (fo+cs.length) t.sz=true)
  (K:Tr w n f (up E κ (ow A c e (HV t) (qo l i ds'))) (wpList P ops Q rest)):Tr w n f E (wpList P ops Q (⟨none,.store T p q,ty,pos,af,g⟩::rest)):=
 Tr.op hw fun a W k1 k2=>by
  subst ho
  obtain⟨vs,hh,hle,hnew⟩:=EC (t:=HV t) (x':=.inr ds') κ k2 hk (BC hi) (fun u _=>⟨u,trivial,hup⟩) (Nat.le_of_ble_eq_true hfit)
  have e1:(qo l i ds).set i (.inr ds')=qo l i ds':=by simp[qo]
  rw[e1] at hnew
  unfold Oper.wp
  rw[run_store hs (k1.ev hp) (k1.ev hq) hv hh (Nat.ble_eq_true_of_le hle) h1]
  exact K _ _ k1 hnew
end
open Go.RowKit
theorem St.own{P:Program}{w:Bs}{n:Nat}{f:Nat→Option Value}{E:Nat→iL}{l:List Oper}{m:Nat}{t:Tn}{Q:Exit→Act→World→Prop}{fu:Nat}{listed:Array Bool}{α:Type}{i:Nat}(κ:Nat){b T:Nat}{vs:List Value}(t':Fl α)(ll:List α){css:List (List Value)}(hk:E κ=bx b vs.toArray T)(hal:Al (rp t' w.O w.W) css ll)(hl:css.flatten=vs)(hsz:0<t'.sz)(hm:ll.length≤maxLen)
  (K:St P w n l m t Q fu listed f (up E κ (ow (some ⟨b,0,none⟩) ll.length T t' ll)) i):St P w n l m t Q fu listed f E i:=
 fun inv=>Tr.own κ t' ll hk hal hl hsz hm (K inv)
theorem Dr.own{P:Program}{w:Bs}{n:Nat}{f:Nat→Option Value}{E:Nat→iL}{l:List Oper}{m:Nat}{t:Tn}{Q:Exit→Act→World→Prop}{fu:Nat}{listed:Array Bool}{α:Type}(κ:Nat){b T:Nat}{vs:List Value}(t':Fl α)(ll:List α){css:List (List Value)}(hk:E κ=bx b vs.toArray T)(hal:Al (rp t' w.O w.W) css ll)(hl:css.flatten=vs)(hsz:0<t'.sz)(hm:ll.length≤maxLen)
  (K:Dr P w n l m t Q fu listed f (up E κ (ow (some ⟨b,0,none⟩) ll.length T t' ll))):Dr P w n l m t Q fu listed f E:=
 fun inv=>Tr.own κ t' ll hk hal hl hsz hm (K inv)
open Go.RowKit Go.Proofs
structure Lens {α β:Type} (t:Fl α) (ti:Fl β) where
 get:α→List β
 ga:t.Ad→Option Addr×Nat
 okR:(Nat→Prop)→World→t.Ad→α→Prop
 ok:∀S W u x,okR S W u x→Sl S W ti (ga u).1 (ga u).2 (get x)→t.ok S W u x
 locR:∀{S S':Nat→Prop} {W W':World} {u:t.Ad} {x:α},okR S W u x→(∀b,S b→S' b)→(∀b,S b→W'.heap[b]?=W.heap[b]?)→okR S' W' u x
section
variable {α β:Type} {t:Fl α} {ti:Fl β}
structure DE (t:Fl α) where
 u:t.Ad
 x:α
 own:Bool
def ne(L:Lens t ti)(d:DE t):NE β:=⟨(L.ga d.u).1,(L.ga d.u).2,L.get d.x,d.own⟩
def Ea(L:Lens t ti):Fl (DE t) where
 Ad:=Unit
 sz:=t.sz
 enc _ d:=t.enc d.u d.x
 ok S W _ d:=L.okR S W d.u d.x
 len _ d:=t.len d.u d.x
 one _ d:=t.one d.u d.x
 loc h hs hb:=L.locR h hs hb
def dq(A:Option Addr)(n c T T':Nat)(L:Lens t ti)(ms:List (DE t)):iL:=
 ⟨fun x=>(Value.slice A n c).ownBlock=some x∨∃e∈ms.map (ne L),e.blk x,fun O W=>n=ms.length∧(ow A c T (Ea L) ms).φ O W∧(ins T' ti (ms.map (ne L))).φ O W∧∀e∈ms.map (ne L),∀x,e.blk x→¬(Value.slice A n c).ownBlock=some x⟩
theorem Mt(A:Option Addr)(n c T T':Nat)(L:Lens t ti)(ms:List (DE t)):(dq A n c T T' L ms).loc:=⟨fun O W W' h hp=>⟨hp.1,(lL _ _ _ _ _).at_ O W W' (fun x hx=>h x (hx.imp id fun hx=>.inl ((oV _ _ _ _ _).trans hx))) hp.2.1,(qF _ _ _).at_ O W W' (fun x hx=>h x (hx.imp id fun hx=>.inr hx)) hp.2.2.1,hp.2.2.2⟩,
 fun O O' W h hp=>⟨hp.1,(lL _ _ _ _ _).up O O' W h hp.2.1,(qF _ _ _).up O O' W h hp.2.2.1,hp.2.2.2⟩⟩
def DC(ms:List (DE t))(l:List α):Prop:=ms.map (·.x)=l∧∀d∈ms,d.own=true
end
section
variable {P:Program} {w:Bs} {n:Nat} {f:Nat→Option Value} {E:Nat→iL} {X:Act→World→Prop} {Q:Exit→Act→World→Prop} {ops:Array Oper} {rest:List Oper}
variable {d ty T T0 T' e:Nat} {pos:String} {af:Array Edge} {g:Option (Nat×Bool)} {p q:Operand} {α β:Type} {t:Fl α} {ti:Fl β} {L:Lens t ti} {A:Option Addr} {c b:Nat} {ms:List (DE t)} {ls:List α}
theorem DC.nil:DC ([]:List (DE t)) []:=⟨rfl,fun _ h=>(nomatch h)⟩
theorem DC.len(h:DC ms ls):ls.length=ms.length:=by rw[←h.1];simp
theorem HF.Jp{W:World}(h:HF w W E){κ κ' n0:Nat}(hk:E κ=dq A n0 c T0 T' L ms)(hne:κ'≠κ):HF w W (up (up E κ (Proofs.YtkccbhbhdnobhaaGreatDoor.ow A c T0 (Ea L) ms)) κ' (ins T' ti (ms.map (Proofs.YtkccbhbhdnobhaaGreatDoor.ne L)))):=by
 have hφ:=h.phi κ
 rw[hk] at hφ
 obtain⟨h1,h2,h3,h4⟩:=hφ
 refine h.split hne (lL _ _ _ _ _) (qF _ _ _) h2 h3 (fun x hx=>?_) (fun x hx=>?_) (fun x hx hy=>?_)
 ·rw[hk];exact .inl ((oV _ _ _ _ _).trans hx)
 ·rw[hk];exact .inr hx
 ·obtain⟨e,he,hx'⟩:=hy
  exact h4 e he x hx' ((oV _ _ _ _ _).trans hx)
theorem HF.Jq{W:World}(h:HF w W E){κ κ' n0:Nat}(hk:E κ=Proofs.YtkccbhbhdnobhaaGreatDoor.ow A c T0 (Ea L) ms)(hk':E κ'=ins T' ti (ms.map (Proofs.YtkccbhbhdnobhaaGreatDoor.ne L)))(hne:κ'≠κ)(hn:n0=ms.length):HF w W (up (up E κ' emp) κ (dq A n0 c T0 T' L ms)):=by
 have h1:=h.phi κ
 rw[hk] at h1
 have h2:=h.phi κ'
 rw[hk'] at h2
 refine h.merge (dq A n0 c T0 T' L ms) hne rfl rfl rfl (Nat.le_refl _) (Nat.le_refl _) (fun _ _ _=>rfl) (Mt _ _ _ _ _ _ _) ⟨hn,h1,h2,fun e he x hx hy=>?_⟩ (fun x hx=>?_)
 ·exact h.mX κ κ' x (fun e=>hne e.symm) (by rw[hk];exact(oV _ _ _ _ _).trans hy) (by rw[hk'];exact⟨e,he,hx⟩)
 ·rcases hx with hx|hx
  ·exact .inl (by rw[hk];exact(oV _ _ _ _ _).trans hx)
  ·exact .inr (by rw[hk'];exact hx)
theorem MX(κ T0 T':Nat)(L:Lens t ti)(K:Tr w n f (up E κ (dq none 0 0 T0 T' L [])) X):Tr w n f E X:=
 fun a W h1 h2=>K a W h1 (h2.mod κ _ rfl rfl rfl (Nat.le_refl _) (Nat.le_refl _) (fun _ _ _=>rfl) (Mt _ _ _ _ _ _ _)
  ⟨rfl,⟨[],.nil,by simp,.inl ⟨rfl,rfl⟩⟩,⟨fun _ h=>(nomatch h),.nil⟩,fun _ h=>(nomatch h)⟩ (fun b hb=>by
   rcases hb with hb|⟨e,he,_⟩
   ·cases hb
   ·cases he))
theorem HF.NT{W:World}(h:HF w W E){κ κ':Nat}{m1 m2:List (NE β)}(hk:E κ=ins T' ti m1)(hk':E κ'=ins T' ti m2)(hne:κ'≠κ):HF w W (up (up E κ' emp) κ (ins T' ti (m1++m2))):=by
 have h1:=h.phi κ
 rw[hk] at h1
 have h2:=h.phi κ'
 rw[hk'] at h2
 refine h.merge (ins T' ti (m1++m2)) hne rfl rfl rfl (Nat.le_refl _) (Nat.le_refl _) (fun _ _ _=>rfl) (qF _ _ _) ⟨fun e he=>?_,?_⟩ (fun x hx=>?_)
 ·rcases List.mem_append.1 he with he|he
  ·exact h1.1 e he
  ·exact h2.1 e he
 ·rw[List.pairwise_append]
  exact⟨h1.2,h2.2,fun e1 he1 e2 he2 x hx hy=>h.mX κ κ' x (fun e=>hne e.symm) (by rw[hk];exact⟨e1,he1,hx⟩) (by rw[hk'];exact⟨e2,he2,hy⟩)⟩
 ·obtain⟨e,he,hx⟩:=hx
  rcases List.mem_append.1 he with he|he
  ·exact .inl (by rw[hk];exact⟨e,he,hx⟩)
  ·exact .inr (by rw[hk'];exact⟨e,he,hx⟩)
theorem HF.PZ{W:World}(h:HF w W E){κ:Nat}{A':Option Addr}{c':Nat}{l':List β}(hk:E κ=Proofs.YtkccbhbhdnobhaaGreatDoor.ow A' c' T' ti l')(hf:cO A' l'.length c'):HF w W (up E κ (ins T' ti [⟨A',c',l',true⟩])):=by
 have h1:=h.phi κ
 rw[hk] at h1
 refine h.mod κ _ rfl rfl rfl (Nat.le_refl _) (Nat.le_refl _) (fun _ _ _=>rfl) (qF _ _ _) ⟨fun e he=>?_,by simp⟩ (fun x hx=>?_)
 ·simp at he;subst he;exact⟨hf,fun _=>h1⟩
 ·obtain⟨e,he,hx⟩:=hx
  simp at he;subst he
  have:(E κ).S x:=by rw[hk];exact hx.2
  exact⟨.inl this,(h.bd κ x this).2⟩
theorem yz{a b:Nat}(h:Nat.beq a b=false):a≠b:=fun e=>by subst e;simp at h
theorem HF.NR{W:World}(h:HF w W E){κ κ' j:Nat}{m1:List (NE β)}{e0:NE β}(hk:E κ=ins T' ti m1)(hne:κ'≠κ)(he0:m1[j]?=some e0)(ho:e0.own=true):
  HF w W (up (up E κ (ins T' ti (m1.set j {e0 with own:=false}))) κ' (Proofs.YtkccbhbhdnobhaaGreatDoor.ow e0.A e0.c T' ti e0.l))∧cO e0.A e0.l.length e0.c:=by
 have hφ:=h.phi κ
 rw[hk] at hφ
 obtain⟨g3,g4⟩:=hφ
 have hjm:j<m1.length:=(List.getElem?_eq_some_iff.1 he0).1
 have he0m:=List.mem_of_getElem? he0
 have hset:m1.set j {e0 with own:=false}=m1.take j++{e0 with own:=false}::m1.drop (j+1):=List.set_eq_take_append_cons_drop.trans (if_pos hjm)
 have hms2:m1=m1.take j++e0::m1.drop (j+1):=by
  have:=List.take_append_drop j m1
  rw[List.drop_eq_getElem_cons hjm] at this
  have h4:m1[j]=e0:=(List.getElem?_eq_some_iff.1 he0).2
  rw[h4] at this;exact this.symm
 have hmem:∀e∈m1.set j {e0 with own:=false},e={e0 with own:=false}∨e∈m1.take j∨e∈m1.drop (j+1):=fun e he=>by
  rw[hset] at he
  rcases List.mem_append.1 he with he|he
  ·exact .inr (.inl he)
  ·rcases List.mem_cons.1 he with rfl|he
   ·exact .inl rfl
   ·exact .inr (.inr he)
 have hmem2:∀e,(e∈m1.take j∨e∈m1.drop (j+1))→e∈m1:=fun e he=>he.elim List.mem_of_mem_take List.mem_of_mem_drop
 have hnb:∀x,¬({e0 with own:=false}:NE β).blk x:=fun x hx=>by cases hx.1
 have g4':=g4
 rw[hms2] at g4'
 obtain⟨p1,p2,p3⟩:=List.pairwise_append.1 g4'
 obtain⟨p4,p5⟩:=List.pairwise_cons.1 p2
 refine⟨h.split hne (qF _ _ _) (lL _ _ _ _ _) ⟨fun e' he'=>?_,?_⟩ ((g3 e0 he0m).2 ho) (fun x hx=>?_) (fun x hx=>?_) (fun x hx hy=>?_),(g3 e0 he0m).1⟩
 ·rcases hmem e' he' with rfl|he'
  ·exact⟨(g3 e0 he0m).1,fun h=>by cases h⟩
  ·exact g3 e' (hmem2 e' he')
 ·rw[hset,List.pairwise_append,List.pairwise_cons]
  refine⟨p1,⟨fun e' he' x hx=>absurd hx (hnb x),p5⟩,fun e1 he1 e2 he2=>?_⟩
  rcases List.mem_cons.1 he2 with rfl|he2
  ·exact fun x _=>hnb x
  ·exact p3 e1 he1 e2 (List.mem_cons_of_mem _ he2)
 ·rw[hk]
  obtain⟨e',he',hx⟩:=hx
  rcases hmem e' he' with rfl|he'
  ·exact absurd hx (hnb x)
  ·exact⟨e',hmem2 e' he',hx⟩
 ·rw[hk]
  exact⟨e0,he0m,ho,hx⟩
 ·have hy:e0.blk x:=⟨ho,hy⟩
  obtain⟨e',he',hx⟩:=hx
  rcases hmem e' he' with rfl|he'
  ·exact hnb x hx
  ·rcases he' with he'|he'
   ·exact p3 e' he' e0 List.mem_cons_self x hx hy
   ·exact p4 e' he' x hy hx
def DT(ms:List (DE t))(ls:List α)(i:Nat)(u:t.Ad)(x:α):Prop:=DC ms ls∧ms[i]?=some ⟨u,x,true⟩
theorem DT.hi{i:Nat}{u:t.Ad}{x:α}(h:DT ms ls i u x):i<ms.length:=(List.getElem?_eq_some_iff.1 h.2).1
theorem Kg(κ κ2 κ3:Nat){i:Nat}{x:α}(hn2:Nat.beq κ2 κ=false)(hn3:Nat.beq κ3 κ=false)(hn23:Nat.beq κ3 κ2=false)(hx:ls[i]?=some x)(hk:E κ=dq A ls.length c e T' L ms)(hm:DC ms ls)
  (K:∀u,L.okR w.O w.W u x→cO (L.ga u).1 (L.get x).length (L.ga u).2→DT ms ls i u x→
   Tr w n f (up (up (up E κ (ow A c e (HV (Ea L)) (qo ms i (raw (Ea L) (t.enc u x) (t.len u x) (List.all_eq_true.2 (t.one u x)))))) κ2 (ins T' ti ((ms.set i ⟨u,x,false⟩).map (Proofs.YtkccbhbhdnobhaaGreatDoor.ne L)))) κ3 (ow (L.ga u).1 (L.ga u).2 T' ti (L.get x))) X):Tr w n f E X:=by
 have b2:=yz hn2
 have b3:=yz hn3
 have Rp:=yz hn23
 intro a W h1 h2
 have h3:=h2.Jp (κ':=κ2) hk b2
 rw[←hm.1,List.getElem?_map] at hx
 obtain⟨d0,hd0,rfl⟩:=Option.map_eq_some_iff.1 hx
 have hown:=hm.2 d0 (List.mem_of_getElem? hd0)
 have hd1:d0=⟨d0.u,d0.x,true⟩:=by rw[←hown]
 have he0:(ms.map (Proofs.YtkccbhbhdnobhaaGreatDoor.ne L))[i]?=some (Proofs.YtkccbhbhdnobhaaGreatDoor.ne L d0):=by rw[List.getElem?_map,hd0];rfl
 obtain⟨h4,hf⟩:=h3.NR (κ:=κ2) (κ':=κ3) (j:=i) (by rw[gq]) Rp he0 hown
 have hset:(ms.map (Proofs.YtkccbhbhdnobhaaGreatDoor.ne L)).set i {Proofs.YtkccbhbhdnobhaaGreatDoor.ne L d0 with own:=false}=(ms.set i ⟨d0.u,d0.x,false⟩).map (Proofs.YtkccbhbhdnobhaaGreatDoor.ne L):=by rw[List.map_set];rfl
 rw[hset] at h4
 refine Ip (t:=Ea L) (l:=ms) (x:=d0) (E:=up (up (up (up E κ (ow A c e (Ea L) ms)) κ2 (ins T' ti (ms.map (Proofs.YtkccbhbhdnobhaaGreatDoor.ne L)))) κ2 (ins T' ti ((ms.set i ⟨d0.u,d0.x,false⟩).map (Proofs.YtkccbhbhdnobhaaGreatDoor.ne L)))) κ3 (ow (L.ga d0.u).1 (L.ga d0.u).2 T' ti (L.get d0.x))) κ (by rw[dS (fun e=>b3 e.symm),dS (fun e=>b2 e.symm),dS (fun e=>b2 e.symm),gq]) hd0 (fun u0 hok=>?_) a W h1 h4
 intro a2 W2 f1 f2
 refine K d0.u hok hf ⟨hm,by rw[hd0];exact congrArg some hd1⟩ a2 W2 f1 (f2.weaken (fun k=>?_))
 by_cases k1:k=κ
 ·subst k1;exact .inl (by rw[dS (fun e=>b3 e.symm),dS (fun e=>b2 e.symm),gq,gq];rfl)
 by_cases k2:k=κ2
 ·subst k2;exact .inl (by rw[dS (fun e=>Rp e.symm),gq,dS k1,dS (fun e=>Rp e.symm),gq])
 by_cases k3:k=κ3
 ·subst k3;exact .inl (by rw[gq,dS k1,gq])
 exact .inl (by rw[dS k3,dS k2,dS k1,dS k1,dS k3,dS k2,dS k2,dS k1])
theorem MW(κ κ2 κ3:Nat){i:Nat}{u0 u:t.Ad}{x0 x':α}{csR:Raw (Ea L)}{A3:Option Addr}{c3:Nat}{l3:List β}(hn2:Nat.beq κ2 κ=false)(hn3:Nat.beq κ3 κ=false)(hn23:Nat.beq κ3 κ2=false)
  (hk:E κ=ow A c e (HV (Ea L)) (qo ms i csR)) (hk2:E κ2=ins T' ti ((ms.set i ⟨u0,x0,false⟩).map (Proofs.YtkccbhbhdnobhaaGreatDoor.ne L))) (hk3:E κ3=ow A3 c3 T' ti l3) (hd:DT ms ls i u0 x0)
  (hok:L.okR w.O w.W u x') (he:t.enc u x'=csR.1) (hga:L.ga u=(A3,c3)) (hget:L.get x'=l3) (hf:cO A3 l3.length c3)
  (K:∀ms',DC ms' (ls.set i x')→Tr w n f (up (up (up E κ3 emp) κ2 emp) κ (dq A (ls.set i x').length c e T' L ms')) X):Tr w n f E X:=by
 have b2:=yz hn2
 have b3:=yz hn3
 have Rp:=yz hn23
 have hi:=hd.hi
 refine GD κ hk () ⟨u,x',true⟩ hok he ?_
 intro a W h1 h2
 have h3:=h2.L6 (κ:=κ2) (κ':=κ3) (T':=T') (t:=ti) (i:=i) (A':=A3) (c':=c3) (l':=l3) (e0:=Proofs.YtkccbhbhdnobhaaGreatDoor.ne L ⟨u0,x0,false⟩) (by rw[dS b2,hk2]) (by rw[dS b3,hk3]) Rp (by rw[List.getElem?_map,List.getElem?_set_self hi];rfl) hf
 have hset:((ms.set i ⟨u0,x0,false⟩).map (Proofs.YtkccbhbhdnobhaaGreatDoor.ne L)).set i ⟨A3,c3,l3,true⟩=(ms.set i ⟨u,x',true⟩).map (Proofs.YtkccbhbhdnobhaaGreatDoor.ne L):=by
  rw[List.map_set,List.set_set,List.map_set]
  congr 1
  simp[Proofs.YtkccbhbhdnobhaaGreatDoor.ne,hga,hget]
 rw[hset] at h3
 have h4:=h3.Jq (κ:=κ) (κ':=κ2) (A:=A) (c:=c) (T0:=e) (L:=L) (ms:=ms.set i ⟨u,x',true⟩) (n0:=(ls.set i x').length) (by rw[dS (fun e=>b2 e.symm),dS (fun e=>b3 e.symm),gq]) (by rw[gq]) b2 (by simp[hd.1.len])
 refine K (ms.set i ⟨u,x',true⟩) ⟨by rw[List.map_set,hd.1.1],fun d0 hd0=>?_⟩ a W h1 (h4.weaken (fun k=>?_))
 ·obtain⟨j,hj⟩:=List.getElem?_of_mem hd0
  by_cases hij:i=j
  ·subst hij
   rw[List.getElem?_set_self hi] at hj
   rw[←Option.some.inj hj]
  ·rw[List.getElem?_set_ne hij] at hj
   exact hd.1.2 d0 (List.mem_of_getElem? hj)
 ·by_cases k1:k=κ
  ·subst k1;exact .inl (by rw[gq,gq])
  by_cases k2:k=κ2
  ·subst k2;exact .inr (by rw[dS k1,gq])
  by_cases k3:k=κ3
  ·subst k3;exact .inr (by rw[dS k1,dS k2,gq])
  exact .inl (by rw[dS k1,dS k2,dS k3,dS k1,dS k2,dS k2,dS k3,dS k1])
theorem GI(κ:Nat)(hk:E κ=dq A ls.length c T0 T' L ms)(hm:DC ms ls)(K:∀w',w.Le w'→Sl w'.O w'.W t A c ls→Tr w' n f (up E κ emp) X):Tr w n f E X:=by
 intro a W h1 h2
 refine K (h2.raise κ) (h2.Ce κ) ?_ a W h1 (h2.raised κ)
 obtain⟨hm1,hm2⟩:=hm
 have hφ:=h2.phi κ
 rw[hk] at hφ
 obtain⟨g1,⟨css,g2,g2'⟩,⟨g3,_⟩,_⟩:=hφ
 have hsl:=sJ g2 g2'
 have hform:=hsl.form
 have hl2:ms.length=ls.length:=by rw[←hm1];simp
 rw[hl2] at hform
 refine⟨hform,fun i x hx=>?_⟩
 rw[←hm1,List.getElem?_map] at hx
 obtain⟨d0,hd0,rfl⟩:=Option.map_eq_some_iff.1 hx
 obtain⟨s1,_,s2,s3⟩:=hsl.cells i d0 hd0
 have hem:Proofs.YtkccbhbhdnobhaaGreatDoor.ne L d0∈ms.map (Proofs.YtkccbhbhdnobhaaGreatDoor.ne L):=List.mem_map_of_mem (List.mem_of_getElem? hd0)
 have hown:=hm2 d0 (List.mem_of_getElem? hd0)
 obtain⟨css',r1,r2⟩:=(g3 _ hem).2 hown
 have hin:=sJ r1 r2
 have hsub:∀y,(w.O y∨(Value.slice A ms.length c).ownBlock=some y)→(h2.raise κ).O y:=fun y hy=>by
  rcases hy with hy|hy
  ·exact .inl hy
  ·exact .inr (by rw[hk];exact .inl ((oV _ _ _ _ _).trans hy))
 refine⟨hsub _ s1,d0.u,L.ok _ _ d0.u d0.x (L.locR s2 hsub (fun _ _=>rfl)) (hin.mono fun y hy=>?_),s3⟩
 rcases hy with hy|hy
 ·exact .inl hy
 ·exact .inr (by rw[hk];exact .inr ⟨_,hem,hown,hy⟩)
end
section
variable {P:Program} {w:Bs} {n:Nat} {f:Nat→Option Value} {E:Nat→iL} {l:List Oper} {m:Nat} {t:Tn} {Q:Exit→Act→World→Prop} {fu:Nat} {listed:Array Bool}
variable {ty T:Nat} {pos:String} {af:Array Edge} {g:Option (Nat×Bool)} {p q:Operand} {v:Value}
theorem Pm{α:Type}(i κ:Nat){A:Option Addr}{c e fo o j:Nat}{t':Fl α}{ll:List α}{ds:Raw t'}(ds':Raw t'){cs:List Value}(hY:∀b,(ow A c e (HV t') (qo ll j ds)).S b→t.Y i b)(hi:l[i]?=some ⟨none,.store T p q,ty,pos,af,g⟩)(hw:Wn l.toArray f ⟨none,.store T p q,ty,pos,af,g⟩)
  (hp:ev f p=some (.pointer (some ⟨mY A,o,none⟩))) (hq:ev f q=some v) (hv:v.cells=cs.toArray) (ho:o=qj A+j*t'.sz+fo) (hk:E κ=ow A c e (HV t') (qo ll j ds)) (hj:j<ll.length) (hs:kD P T=some cs.length) (h1:cs.all (·.oneCell')=true)
  (hup:ds'.1=ds.1.take fo++cs++ds.1.drop (fo+cs.length)) (hfit:Nat.ble (fo+cs.length) t'.sz=true)
  (K:Dr P w n l m t Q fu (listed.setIfInBounds i true) f (up E κ (ow A c e (HV t') (qo ll j ds')))):St P w n l m t Q fu listed f E i:=
 Ir i hi hw (fun a W k1 k2 K' hK=>by
  subst ho
  have hA:=(k2.sl hk).form.2.2 (by rw[xg];omega)
  obtain⟨vs,hh,hle,hnew⟩:=EC (t:=HV t') (x':=.inr ds') κ k2 hk (BC hj) (fun u _=>⟨u,trivial,hup⟩) (Nat.le_of_ble_eq_true hfit)
  have e1:(qo ll j ds).set j (.inr ds')=qo ll j ds':=by simp[qo]
  rw[e1] at hnew
  unfold Oper.wp
  rw[run_store hs (k1.ev hp) (k1.ev hq) hv hh (Nat.ble_eq_true_of_le hle) h1]
  refine hK _ _ k1 hnew ⟨rfl,rfl,rfl,by simp[World.setRow],fun b hb hne=>?_,Nat.le_refl _⟩
  have hbx:¬mY A=b:=fun e=>hne (hY b (by
   show(Value.slice A (qo ll j ds).length c).ownBlock=some b
   rw[hA,←e];rfl))
  simp only[World.setRow,Array.getElem?_modify]
  rw[if_neg hbx]) K
end
open Go.RowKit Go.Proofs Go.Shelf Go.Sort
def Ac(s sep:ByteArray):Option (List ByteArray):=if s.size<4294967281∧1≤sep.size then some (Lib.splitB sep 0 (Lib.countB s sep) s) else none
section
variable {P:Program} {ρ:Ren} {w:Bs}
theorem OG.at_(h:OG P w)(hg:P.globals.findIdx? (·.name== "internal/bytealg.MaxLen")=some (ρ.g 1)):∃m,w.W.cell? ⟨(ρ.g 1),0,none⟩=some (.int .i64 m):=by
 obtain⟨g,h1,_,m,h2⟩:=h
 rw[hg] at h1
 obtain rfl:=Option.some.inj h1
 exact⟨m,h2⟩
theorem Fq(L:Lays.n146 P ρ)(hT:Dx P w)(hg:P.globals.findIdx? (·.name== "internal/bytealg.MaxLen")=some (ρ.g 1)){t:Fl ByteArray}(hsz:t.sz=1)(he:∀u x,t.enc u x=[.string x])(u0:t.Ad)(htr:t.E8)
  (hi9:(P.info? (ρ.t 9)).map (fun i=>(i.zero,i.size,i.bytes))=some (some (.string ByteArray.empty),1,16)) {s sep:ByteArray} {r:List ByteArray} (H:Ac s sep=some r) (hE:HF w w.W (iZ [emp])):
  Calls P (ρ.f 146) [.string s,.string sep].toArray w.W fun e W'=>∃u:(Option Addr×Nat),e= .returned (.slice u.1 r.length u.2)∧(cO u.1 r.length u.2)∧HF w W' (iZ [ow u.1 u.2 (ρ.t 9) t r]):=by
 unfold Ac at H
 split at H
 case isFalse=>cases H
 rename_i hs
 have hr:=Option.some.inj H
 obtain⟨m,hm⟩:=hT.2.at_ hg
 have hlen:=Lib.splitB_all sep hs.2 0 _ s rfl
 have hle:=Lib.countB_le sep hs.2 s.size s (Nat.le_refl _)
 rw[hr] at hlen
 have hmax:r.length≤maxLen:=by unfold maxLen;omega
 have hall:∀O W,Al (rp t O W) (r.map fun x=>[Value.string x]) r:=fun O W=>by
  have:∀l:List ByteArray,Al (rp t O W) (l.map fun x=>[Value.string x]) l:=fun l=>by
   induction l with
   |nil=>exact .nil
   |cons x l ih=>exact .cons ⟨u0,htr _ _ _ _,(he _ _).symm⟩ ih
  exact this r
 have hfl:(r.map fun x=>[Value.string x]).flatten=r.map Value.string:=by
  have:∀l:List ByteArray,(l.map fun x=>[Value.string x]).flatten=l.map Value.string:=fun l=>by
   induction l with
   |nil=>rfl
   |cons x l ih=>simp only[List.map_cons,List.flatten_cons,ih];rfl
  exact this r
 have c:=Any.strings_Split L hi9 s sep m w.W hs.1 hm hs.2
 rw[hr,←hlen] at c
 refine c.mono fun e W' ⟨h1,h2⟩=>⟨(some ⟨w.W.heap.size,0,none⟩,r.length),h1,⟨Nat.le_refl _,hmax,fun _=>rfl⟩,?_⟩
 subst h2
 refine(hE.mod (W':=w.W.alloc (.cells (r.map Value.string).toArray (ρ.t 9))) 0 (ow (some ⟨w.W.heap.size,0,none⟩) r.length (ρ.t 9) t r) rfl rfl rfl (by simp) (by first|exact Nat.le_refl _|exact Nat.le_refl 0) (fun b hb _=>?_) (lL _ _ _ _ _) ?_ (fun b hb=>?_)).weaken (fun k=>?_)
 ·exact((Proofs.YtkccbhbhdnobhaaGreatDoor.Below.refl _ _).alloc (Nat.le_refl _) _).block b hb
 ·refine⟨r.map fun x=>[Value.string x],hall _ _,by rw[hfl,hsz];simp,.inr ⟨w.W.heap.size,r.length,(r.map Value.string).toArray,rfl,Nat.zero_le _,heap_alloc_new _ _,Nat.le_refl _,hmax,by rw[hsz];simp,?_⟩⟩
  rw[hfl,hsz,Nat.mul_one]
  exact List.take_of_length_le (by simp)
 ·have hb:(Value.slice (some ⟨w.W.heap.size,0,none⟩) r.length r.length).ownBlock=some b:=hb
  simp[Value.ownBlock] at hb
  subst hb
  exact⟨.inr (Nat.le_refl _),by simp⟩
 ·cases k with
  |zero=>exact .inl rfl
  |succ k=>exact .inr rfl
end
end Go.Proofs.YtkccbhbhdnobhaaGreatDoor
