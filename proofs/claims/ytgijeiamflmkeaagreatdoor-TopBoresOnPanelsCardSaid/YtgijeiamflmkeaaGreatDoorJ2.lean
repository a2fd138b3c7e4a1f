/- Rules of the walks, or plain laws about the plain functions. Conditions: none beyond each theorem's own. -/
import Derived.Test.YtgijeiamflmkeaaGreatDoorJ1
import Derived.Lib.LazyBuf
import Derived.Shelf.SlSortCmp.NoneTotal
import Derived.Deep.Draws
import Derived.Shelf.Sort.Plain
import Derived.Shelf.Slices.In.SortNone
import Derived.Shelf.Slices.CompactI
import Derived.Shelf.Strconv.Itoa3
import Derived.Shelf.Strings.Builder1
import Derived.Lib.FrozenHead
import Derived.Shelf.Strings.Cut
import Derived.Shelf.Strings.Split
import Derived.Shelf.Strings.SlTrimAscii
import Derived.Shelf.Strconv.Atoi
import Derived.Lib.SmallJoins
import Derived.Maps.Keyed
import Derived.Carry
import Derived.Shelf.Small.Strs
import Derived.Maps.RangeRun
import Derived.WideKeyEntry
import Derived.DeepKeys5
namespace Go.Proofs.YtgijeiamflmkeaaGreatDoor
open Go.RowKit
structure tN (Y:Nat→Prop) (W W':World):Prop where
 os:W'.os=W.os
 tape:W'.tape=W.tape
 output:W'.output=W.output
 size:W.heap.size≤W'.heap.size
 block:∀b,b<W.heap.size→¬Y b→W'.heap[b]?=W.heap[b]?
 drawn:W.drawn≤W'.drawn
section
variable {W W' W'':World} {Y Z:Nat→Prop}
theorem tN.of_below(h:Below W.heap.size W W'):tN Y W W':=⟨h.os,h.tape,h.output,h.size,fun b hb _=>h.block b hb,h.drawn⟩
theorem tN.below(h:tN Y W W')(hY:∀b,¬Y b):Below W.heap.size W W':=⟨h.os,h.tape,h.output,h.size,fun b hb=>h.block b hb (hY b),h.drawn⟩
theorem tN.trans(h:tN Y W W')(k:tN Z W' W'')(hyz:∀b,Y b→Z b):tN Z W W'':=
 ⟨k.os.trans h.os,k.tape.trans h.tape,k.output.trans h.output,Nat.le_trans h.size k.size,fun b hb hz=>(k.block b (Nat.lt_of_lt_of_le hb h.size) hz).trans (h.block b hb (fun hy=>hz (hyz b hy))),Nat.le_trans h.drawn k.drawn⟩
theorem tN.refl(W:World):tN Y W W:=⟨rfl,rfl,rfl,Nat.le_refl _,fun _ _ _=>rfl,Nat.le_refl _⟩
end
theorem JY{W W' W'':World}(h:Below W.heap.size W W')(k:Below W'.heap.size W' W''):Below W.heap.size W W'':=h.trans (k.mono h.size)
def TN:Exit→Act→World→Prop:=fun _ _ _=>False
section
variable {P:Program} {ops:Array Oper} {m:Nat} {Y:Nat→Nat→Prop} {L:Array Bool→Act→World→Prop}
def uK(P:Program)(ops:Array Oper)(m:Nat)(Y:Nat→Nat→Prop)(L:Array Bool→Act→World→Prop):Nat→Array Bool→Act→World→Prop
 |0,listed,a,W=>∀W2,Below W.heap.size W W2→L listed a W2
 | f+1,listed,a,W=>Region.ready .any ops listed≠[]∧∀i∈Region.ready .any ops listed,i<m∧∀W2,Below W.heap.size W W2→
   wpOp P ops TN i (fun a' W'=>tN (Y i) W2 W'∧uK P ops m Y L f (listed.setIfInBounds i true) a' W') a W2
theorem uK.later:∀{f:Nat} {listed:Array Bool} {a:Act} {W W2:World},uK P ops m Y L f listed a W→Below W.heap.size W W2→uK P ops m Y L f listed a W2
 |0,_,_,_,_,h,hb=>fun W3 h3=>h W3 (JY hb h3)
 |_+1,_,_,_,_,h,hb=>⟨h.1,fun i hi=>⟨(h.2 i hi).1,fun W3 h3=>(h.2 i hi).2 W3 (JY hb h3)⟩⟩
theorem Nt{Q Q':Exit→Act→World→Prop}{i:Nat}{a:Act}{w:World}{K:Act→World→Prop}(hQ:∀e a w,Q e a w→Q' e a w)(hL:¬LetsOut Q)(hh:wpOp P ops Q i K a w):wpOp P ops Q' i K a w:=by
 unfold wpOp at*
 split
 ·simpa[*] using hh
 ·rename_i o ho
  simp only[ho] at hh
  split
  ·rename_i hw
   simp only[hw,if_true] at hh
   rcases hh with hh|hh
   ·left
    unfold Oper.wp at*
    generalize (execOp a.eval o).run P w=r at*
    cases r with
    | ok n w'=>
     cases n<;>simp only[Oper.upon] at hh ⊢ <;>
      first
       |exact hh
       |exact Calls.mono hh (fun e w'' he=>by cases e<;>first|exact he|exact hQ _ _ _ he|exact absurd he hL)
       |exact Rows.mono hh (fun _ _ he=>he)
    |halt x w'=>cases x<;>simp only[Oper.upon] at hh ⊢ <;>first|exact hQ _ _ _ hh|exact hh
   ·exact absurd hh.2 hL
  ·rename_i hw;simp only[hw] at hh;simpa using hh
theorem Kt:¬LetsOut TN:=by
 intro h
 unfold LetsOut TN at h
 first|exact h|exact h _ _|simp at h
theorem uK.run{g:Nat}{Q:Exit→Act→World→Prop}(hL:∀listed a w,L listed a w→wpAny P .any ops Q g listed a w):
  ∀(f:Nat) (listed:Array Bool) (a:Act) (W:World),uK P ops m Y L f listed a W→wpAny P .any ops Q (f+g) listed a W
 |0,listed,a,W,h=>by rw[Nat.zero_add];exact hL _ _ _ (h W (Below.refl _ _))
 |f+1,listed,a,W,h=>by
  rw[Nat.add_right_comm]
  exact⟨fun e=>absurd e h.1,fun i hi=>Nt (Q:=TN) (fun _ _ _ h=>h.elim) Kt (wpOp_mono (fun a' W' hh=>uK.run hL f _ a' W' hh.2) ((h.2 i hi).2 W (Below.refl _ _)))⟩
theorem PM{j:Nat}{oi oj:Oper}{v:Value}{Yp:Act→Prop}(hj:ops[j]?=some oj)(hap:oi.apart ops oj=true)
  (hsj:∀cs b,oj.op≠ .select cs b) (keep:∀a u,Yp a→Yp (a.put oj.dst u)) (keepD:∀a d,Yp a→Yp {a with defers:=d::a.defers})
  {K:Act→World→Prop} {a:Act} {w:World} (hy:Yp a) (h:wpOp P ops TN j K (a.put oi.dst v) w):
  wpOp P ops TN j (fun a' w'=>Yp a'∧K (a'.put oi.dst v) w') a w:=by
 obtain⟨h1,h2,h3⟩:=Oper.apart_spec hap
 unfold wpOp at*
 simp only[hj] at*
 rw[wanted_put oj a oi.dst v h1] at h
 split
 ·rename_i hw
  simp only[hw,if_true] at h
  rcases h with h|⟨hasks,hlets⟩
  case inr=>exact absurd hlets Kt
  refine .inl ?_
  unfold Oper.wp at*
  rw[execOp_put oj hsj a oi.dst v h1] at h
  generalize (execOp a.eval oj).run P w=r at*
  cases r with
  | ok n w'=>
   cases n<;>simp only[Oper.upon] at h ⊢
   case value u=>exact⟨keep a u hy,by rw[←Act.put_comm a v u h2];exact h⟩
   case skip=>exact⟨keep a _ hy,by rw[←Act.put_comm a v undef h2];exact h⟩
   case defer d=>
    refine⟨keep _ _ (keepD _ d hy),?_⟩
    rw[←Act.put_comm _ v undef h2,←Act.put_defers]
    exact h
   case enter f args=>
    refine Calls.mono h fun e w'' he=>?_
    cases e with
    |returned u=>exact⟨keep a u hy,by rw[←Act.put_comm a v u h2];exact he⟩
    |panicked c=>exact he.elim
    |outgrown=>exact absurd he Kt
   case row row args=>exact Rows.mono h fun u w'' he=>⟨keep a u hy,by rw[←Act.put_comm a v u h2];exact he⟩
  |halt x w'=>
   cases x<;>simp only[Oper.upon] at h ⊢
   case panic u=>exact h.elim
 ·rename_i hw
  simp only[hw] at h
  exact⟨keep a _ hy,by rw[←Act.put_comm a v undef h2];exact h⟩
theorem uK.first{i:Nat}{oi:Oper}{v:Value}{Z:Nat→Prop}(hi:ops[i]?=some oi)(hsel:Region.noSelect ops=true)(hs:m=ops.size∨Region.sinkB .any ops m=true∧Region.chainB .any ops m=true)
  (him:i<m) (hdone:∀listed a W,L listed a W→∀j∈Region.ready .any ops listed,m≤j):
  ∀(f:Nat) (listed:Array Bool) (a:Act) (W:World),HeadInv .any ops m listed→i∈Region.ready .any ops listed→
   (∀W',tN Z W W'→YieldsIn P ops (fun W''=>Below W'.heap.size W' W'') oi v a)→
   (∀j oj,ops[j]?=some oj→j≠i→listed.getD j true=false→(∀e∈oj.after,Region.binds .any e=true→e.on≠i)→oi.apart ops oj=true∧∀b,Y j b→Z b)→
   uK P ops m Y L f (listed.setIfInBounds i true) (a.put oi.dst v) W→uK P ops m Y L (f+1) listed a W:=by
 have nosel:=Region.noSelect_spec hsel
 have hsz:∀{listed:Array Bool} {j:Nat},j∈Region.ready .any ops listed→j<ops.size:=fun hj=>by
  obtain⟨_,_,h,_⟩:=mem_ready.1 hj
  exact(Array.getElem?_eq_some_iff.1 h).1
 intro f
 induction f with
 | zero=>
  intro listed a W inv hr hy _ H
  refine⟨fun e=>(by rw[e] at hr;cases hr),fun j hj=>?_⟩
  have hjn:j<m:=Nat.lt_of_not_le fun h=>hs.elim (fun e=>by have:=hsz hj;omega) (fun⟨hs,hc⟩=>tail_waits hs hc (Nat.lt_of_le_of_lt h (hsz hj)) inv _ i rfl him (mem_ready.1 hr).1 j h hj)
  by_cases e:j=i
  ·subst e
   exact⟨hjn,fun W2 h2=>wpOp_of_qOp (C:=fun W''=>Below W2.heap.size W2 W'') (Below.refl _ _) (fun a' W' hb (hh:uK P ops m Y L 0 _ a' W2)=>⟨tN.of_below hb,hh.later hb⟩) ((hy W2 (tN.of_below h2)).qOp hi (H.later h2))⟩
  ·exact absurd (hdone _ _ _ (H W (Below.refl _ _)) j (ready_mono hj e)) (by omega)
 | succ f ih=>
  intro listed a W inv hr hy hfree H
  refine⟨fun e=>(by rw[e] at hr;cases hr),fun j hj=>?_⟩
  have hjn:j<m:=Nat.lt_of_not_le fun h=>hs.elim (fun e=>by have:=hsz hj;omega) (fun⟨hs,hc⟩=>tail_waits hs hc (Nat.lt_of_le_of_lt h (hsz hj)) inv _ i rfl him (mem_ready.1 hr).1 j h hj)
  by_cases e:j=i
  ·subst e
   exact⟨hjn,fun W2 h2=>wpOp_of_qOp (C:=fun W''=>Below W2.heap.size W2 W'') (Below.refl _ _) (fun a' W' hb (hh:uK P ops m Y L (f+1) _ a' W2)=>⟨tN.of_below hb,hh.later hb⟩) ((hy W2 (tN.of_below h2)).qOp hi (H.later h2))⟩
  refine⟨hjn,fun W2 h2=>?_⟩
  obtain⟨hun,oj,hoj,hall⟩:=mem_ready.1 hj
  have hnw:∀x∈oj.after,Region.binds .any x=true→x.on≠i:=fun x hx hb he=>by
   have h1:=hall x hx hb
   rw[he,getD_both (mem_ready.1 hr).1] at h1
   cases h1
  obtain⟨hap,hYZ⟩:=hfree j oj hoj e hun hnw
  obtain⟨_,_,h3⟩:=Oper.apart_spec hap
  have hq:=PM (Yp:=fun a'=>∀W',tN Z W W'→YieldsIn P ops (fun W''=>Below W'.heap.size W' W'') oi v a') hoj hap (fun cs b=>nosel j oj cs b hoj)
   (fun a u hh W' hW'=>(hh W' hW').of_same (execOp_put oi (fun cs b=>nosel i oi cs b hi) a oj.dst u h3) (wanted_put oi a oj.dst u h3)) (fun a d hh W' hW'=>(hh W' hW').of_same rfl rfl) hy ((H.2 j (ready_mono hj e)).2 W2 h2)
  refine wpOp_mono (fun a' W' ⟨hy',hk,hK⟩=>⟨hk,ih (listed.setIfInBounds j true) a' W' (inv.set hj hjn) (ready_mono hr (Ne.symm e)) (fun W3 h3=>hy' W3 (((tN.of_below (Y:=fun _=>False) h2).trans hk (fun _ hf=>hf.elim)).trans h3 hYZ)) (fun k ok hk' hki hkun hno=>?_) ?_⟩) hq
  ·refine hfree k ok hk' hki ?_ hno
   by_cases ejk:j=k
   ·subst ejk;exact hun
   ·rw[getD_set_ne true ejk] at hkun;exact hkun
  ·rw[Array.setIfInBounds_comm _ _ e];exact hK
end
def LT(P:Program)(l:List Oper)(m:Nat)(Q:Exit→Act→World→Prop):Array Bool→Act→World→Prop:=
 fun listed a W=>Region.seqB .any l.toArray (l.length-m) m listed=true∧wpList P l.toArray Q (l.drop m) a W
structure Tn where
 ys:List (Nat×(Nat→Prop))
 zs:List Nat
 s0:Nat
def Tn.Y(t:Tn)(j b:Nat):Prop:=(∃p∈t.ys,p.1=j∧p.2 b)∨(j∈t.zs∧t.s0≤b)
def N7(l:List Oper)(m:Nat):Bool:=Region.noSelect l.toArray&&(decide (m=l.length)||(decide (m<l.length)&&Region.sinkB .any l.toArray m&&Region.chainB .any l.toArray m))
def qB(l:List Oper)(m i:Nat)(listed:Array Bool)(ks:List Nat):Bool:=
 decide (i<m)&&(Region.ready .any l.toArray listed).contains i&&Region.free .any l.toArray listed i&&
 ks.all fun j=>j==i||listed.getD j true||match l[j]? with
  |some oj=>oj.after.any fun e=>Region.binds .any e&&e.on==i
  |none=>true
def eB(l:List Oper)(m i:Nat)(listed:Array Bool):Bool:=decide (i<m)&&decide (Region.ready .any l.toArray listed=[i])
def YE(l:List Oper)(m i j:Nat)(listed:Array Bool):Bool:=decide (i<m)&&decide (j<m)&&decide (Region.ready .any l.toArray listed=[i,j])
def Dr(P:Program)(w:Bs)(n:Nat)(l:List Oper)(m:Nat)(t:Tn)(Q:Exit→Act→World→Prop)(fu:Nat)(listed:Array Bool)(f:Nat→Option Value)(E:Nat→kT):Prop:=
 HeadInv .any l.toArray m listed→Tr w n f E (fun a W=>t.s0≤W.heap.size→uK P l.toArray m t.Y (LT P l m Q) fu listed a W)
def St(P:Program)(w:Bs)(n:Nat)(l:List Oper)(m:Nat)(t:Tn)(Q:Exit→Act→World→Prop)(fu:Nat)(listed:Array Bool)(f:Nat→Option Value)(E:Nat→kT)(i:Nat):Prop:=
 HeadInv .any l.toArray m (listed.setIfInBounds i true)→Tr w n f E (fun a W=>t.s0≤W.heap.size→wpOp P l.toArray TN i (fun a' W'=>tN (t.Y i) W W'∧uK P l.toArray m t.Y (LT P l m Q) fu (listed.setIfInBounds i true) a' W') a W)
section
variable {P:Program} {w:Bs} {n:Nat} {f:Nat→Option Value} {E:Nat→kT} {l:List Oper} {m:Nat} {t:Tn} {Q:Exit→Act→World→Prop} {fu:Nat} {listed:Array Bool}
theorem ui{id:Nat}(m:Nat)(ys:List (Nat×(Nat→Prop)))(zs:List Nat)(hm:P.follows .mixedOrders=true)(hB:N7 l m=true)
  (h:∀s0,w.W.heap.size≤s0→(∀k b,(E k).S b→b<s0)→Dr P w n l m ⟨ys,zs,s0⟩ Q m (Array.replicate l.length false) f E):Tr w n f E ((Code.region id l.toArray true).wp P Q):=by
 intro a W0 h1 h2
 simp only[N7,Bool.and_eq_true,Bool.or_eq_true,decide_eq_true_eq] at hB
 obtain⟨hsel,hT⟩:=hB
 have hn:m≤l.length:=hT.elim (fun h=>Nat.le_of_eq h) (fun h=>Nat.le_of_lt h.1.1)
 have inv0:HeadInv .any l.toArray m (Array.replicate l.length false):=
  ⟨by simp,fun j oj _ hl=>(by rw[getD_replicate_false] at hl;cases hl),fun t _ ht=>getD_in (by simpa using ht) (getD_replicate_false _ _)⟩
 have hb0:Below W0.heap.size W0 {W0 with drawn:=W0.drawn+1}:=⟨rfl,rfl,rfl,Nat.le_refl _,fun _ _=>rfl,by simp⟩
 have H:=uK.run (g:=l.length-m) (Q:=Q) (fun listed a w ⟨k1,k2⟩=>by
  have hdl:(l.drop m).length=l.length-m:=by simp
  have:=wpAny_of_seq (md:=.any) (P:=P) (ops:=l.toArray) (Q':=Q) (l.drop m) m listed a w (fun j=>by simp[List.getElem?_drop]) (by rw[hdl];exact k1) k2
  rwa [hdl] at this) m _ a _ ((h W0.heap.size h2.size (fun k b hb=>(h2.bd k b hb).2) inv0 a W0 h1 h2 (Nat.le_refl _)).later hb0)
 rw[show m+(l.length-m)=l.length by omega] at H
 exact wp_region_any hm (by simpa using H)
theorem vT(hB:Region.seqB .any l.toArray (l.length-m) m listed=true)(h:Tr w n f E (wpList P l.toArray Q (l.drop m))):Dr P w n l m t Q 0 listed f E:=
 fun _ a _ h1 h2 _ W2 hb=>⟨hB,h a W2 h1 (h2.later hb)⟩
theorem Dr.use{listed':Array Bool}{lf:List (Nat×Value)}{le:List (Nat×kT)}(h:Dr P w n l m t Q fu listed' (LF lf) (LE le))(hl:listed=listed')(hf:AV f lf)(he:zI E le):Dr P w n l m t Q fu listed f E:=by
 subst hl
 exact fun inv a W h1 h2=>h inv a W (h1.EM hf) (h2.EM he)
theorem oJ{o:Oper}{d:Nat}{v:Value}{Em:Nat→kT}(i:Nat)(fs:List (Nat×Value))(fl:List Nat)(fz:Bool)(hC:N7 l m=true)(hi:l[i]?=some o)(hd:o.dst=some d)(hB:qB l m i listed ((t.ys.map (·.1)).filter (fun j=> !fl.contains j)++(if fz=true then[] else t.zs))=true)
  (hE:∀W W',HF w W E→t.s0≤W.heap.size→tN (fun b=>(∃p∈t.ys,p.1∈fl∧p.2 b)∨(fz=true∧t.s0≤b)) W W'→HF w W' Em)
  (h:Tq P w n l.toArray f Em (fun a _=>FR n (LF fs) a) [o]) (hv:LF fs d=some v) (hdn:Nat.blt d n=true) (K:Dr P w n l m t Q fu (listed.setIfInBounds i true) (uf f d v) E):Dr P w n l m t Q (fu+1) listed f E:=by
 intro inv a W h1 h2 hs0
 simp only[N7,Bool.and_eq_true,Bool.or_eq_true,decide_eq_true_eq] at hC
 obtain⟨hsel,hT⟩:=hC
 have hs:m=l.toArray.size∨Region.sinkB .any l.toArray m=true∧Region.chainB .any l.toArray m=true:=hT.imp (fun h=>by simpa using h) (fun h=>⟨h.1.2,h.2⟩)
 simp only[qB,Bool.and_eq_true,decide_eq_true_eq] at hB
 obtain⟨⟨⟨him,hr⟩,hfr⟩,hks⟩:=hB
 have hr:i∈Region.ready .any l.toArray listed:=by simpa using hr
 have hi':(l.toArray)[i]?=some o:=by simpa using hi
 have hlt:=Nat.le_of_ble_eq_true hdn
 have hyl:∀W',tN (fun b=>(∃p∈t.ys,p.1∈fl∧p.2 b)∨(fz=true∧t.s0≤b)) W W'→YieldsIn P l.toArray (fun W''=>Below W'.heap.size W' W'') o v a:=fun W' hk=>by
  have hq:=h a W' h1 (hE W W' h2 hs0 hk)
  obtain⟨v',hy,hK'⟩:=yieldsIn_of_qOp (K:=fun a=>∀W2,Below W'.heap.size W' W2→FR n (LF fs) a) hi' (show qOp P l.toArray _ i _ a by unfold qOp;simp only[hi'];simpa[wpQuiet] using hq)
  have hK:=hK' W' (Below.refl _ _)
  have:v'=v:=by
   have h3:=hK.get d v hv
   rw[hd,Dp (by rw[h1.size];exact hlt)] at h3
   exact Option.some.inj h3
  rw[←this];exact hy
 refine uK.first (oi:=o) (v:=v) (Z:=fun b=>(∃p∈t.ys,p.1∈fl∧p.2 b)∨(fz=true∧t.s0≤b)) hi' hsel hs him (fun _ _ _ hL=>seqB_ready hL.1) fu listed a W inv hr hyl (fun j oj hj hji hun hno=>⟨Region.free_spec hi' hfr j oj hj hji hun hno,fun b hb=>?_⟩) ?_
 ·have hwaits:∀ks:List Nat,(∀x∈ks,x∈(t.ys.map (·.1)).filter (fun j=> !fl.contains j)++(if fz=true then[] else t.zs))→j∈ks→False:=fun ks hsub hmem=>by
   have:=List.all_eq_true.1 hks j (hsub j hmem)
   have hj':l[j]?=some oj:=by simpa using hj
   rw[hj'] at this
   simp only[Bool.or_eq_true,beq_iff_eq,hji,false_or,hun,Bool.false_eq_true] at this
   obtain⟨e,he,hb2⟩:=Array.any_eq_true'.1 this
   simp only[Bool.and_eq_true,beq_iff_eq] at hb2
   exact hno e he hb2.1 hb2.2
  rcases hb with⟨p,hp,rfl,hb⟩|⟨hjz,hb⟩
  ·by_cases hjf:p.1∈fl
   ·exact .inl ⟨p,hp,hjf,hb⟩
   ·exact(hwaits [p.1] (fun x hx=>by
     simp at hx;subst hx
     exact List.mem_append_left _ (List.mem_filter.2 ⟨List.mem_map.2 ⟨_,hp,rfl⟩,by simpa using hjf⟩)) (by simp)).elim
  ·cases hfz:fz with
   |true=>exact .inr ⟨rfl,hb⟩
   | false=>exact(hwaits [j] (fun x hx=>by
     simp at hx;subst hx
     exact List.mem_append_right _ (by rw[hfz];simpa using hjz)) (by simp)).elim
 ·rw[hd]
  exact K (inv.set hr him) _ W (h1.put hlt v) h2 hs0
theorem bU{o:Oper}{d:Nat}{v:Value}(i:Nat)(fs:List (Nat×Value))(hC:N7 l m=true)(hi:l[i]?=some o)(hd:o.dst=some d)(hB:qB l m i listed (t.ys.map (·.1)++t.zs)=true)
  (h:Tq P w n l.toArray f E (fun a _=>FR n (LF fs) a) [o]) (hv:LF fs d=some v) (hdn:Nat.blt d n=true) (K:Dr P w n l m t Q fu (listed.setIfInBounds i true) (uf f d v) E):Dr P w n l m t Q (fu+1) listed f E:=
 oJ i fs [] false hC hi hd (by
  have e:(t.ys.map (·.1)).filter (fun j=> !([]:List Nat).contains j)=t.ys.map (·.1):=List.filter_eq_self.2 (fun _ _=>by simp)
  rw[e];exact hB) (fun W W' h2 _ hk=>h2.later (hk.below (fun b hb=>by rcases hb with⟨_,_,hj,_⟩|⟨hj,_⟩<;>cases hj))) h hv hdn K
theorem jk{o:Oper}{d:Nat}{v:Value}(i:Nat)(hC:N7 l m=true)(hi:l[i]?=some o)(hw:Wn l.toArray f o)(hd:o.dst=some d)(hB:qB l m i listed []=true)(hr:∀(a:Act) (W:World),FR n f a→(execOp a.eval o).run P W= .ok (.value v) W)
  (hdn:Nat.blt d n=true) (K:Dr P w n l m t Q fu (listed.setIfInBounds i true) (uf f d v) E):Dr P w n l m t Q (fu+1) listed f E:=by
 intro inv a W h1 h2 hs0
 simp only[N7,Bool.and_eq_true,Bool.or_eq_true,decide_eq_true_eq] at hC
 obtain⟨hsel,hT⟩:=hC
 have hs:m=l.toArray.size∨Region.sinkB .any l.toArray m=true∧Region.chainB .any l.toArray m=true:=hT.imp (fun h=>by simpa using h) (fun h=>⟨h.1.2,h.2⟩)
 simp only[qB,Bool.and_eq_true,decide_eq_true_eq] at hB
 obtain⟨⟨⟨him,hrd⟩,hfr⟩,_⟩:=hB
 have hrd:i∈Region.ready .any l.toArray listed:=by simpa using hrd
 have hi':(l.toArray)[i]?=some o:=by simpa using hi
 have hyl:∀W',tN (fun _=>True) W W'→YieldsIn P l.toArray (fun W''=>Below W'.heap.size W' W'') o v a:=fun W' _=>.inl ⟨hw n a h1,fun W'' _=>by
  unfold Oper.quietAt
  rw[hr a W'' h1]
  exact⟨rfl,rfl⟩⟩
 refine uK.first (oi:=o) (v:=v) (Z:=fun _=>True) hi' hsel hs him (fun _ _ _ hL=>seqB_ready hL.1) fu listed a W inv hrd hyl (fun j oj hj hji hun hno=>⟨Region.free_spec hi' hfr j oj hj hji hun hno,fun b hb=>trivial⟩) ?_
 rw[hd]
 exact K (inv.set hrd him) _ W (h1.put (Nat.le_of_ble_eq_true hdn) v) h2 hs0
theorem HF.Ac{W W':World}{le:List (Nat×kT)}{ks:List (Nat×(Nat→Prop))}{Z:Nat→Prop}{s0:Nat}(fz:Bool)(h:HF w W E)(hk:tN Z W W')(hlo:fz=true→w.W.heap.size≤s0)(hE:zI E le)(hz:∀b,Z b→(∃p∈ks,p.2 b)∨(fz=true∧s0≤b∧∀p∈le,∀b,p.2.S b→b<s0))(hks:∀p∈ks,∀b,p.2 b→(E p.1).S b)(hdis:(le.all fun p=>ks.all fun q=>p.1 !=q.1)=true):HF w W' (LE le):=by
 have hcases:∀k,(LE le k=E k∧(∀q∈ks,k≠q.1)∧∃p∈le,p.2=E k)∨LE le k=emp:=by
  intro k
  clear hz hks hk h
  induction le with
  |nil=>exact .inr rfl
  | cons p le ih=>
   obtain⟨k',e⟩:=p
   simp only[List.all_cons,Bool.and_eq_true] at hdis
   unfold LE
   rcases nE (LE le) k' e k with⟨h1,h2⟩|⟨_,h2⟩<;>rw[h2]
   ·subst h1
    refine .inl ⟨hE.1.symm,fun q hq=>?_,⟨_,List.mem_cons_self,hE.1.symm⟩⟩
    have:=List.all_eq_true.1 hdis.1 q hq
    simpa using this
   ·rcases ih hE.2 hdis.2 with⟨a1,a2,p,a3,a4⟩|a
    ·exact .inl ⟨a1,a2,p,List.mem_cons_of_mem _ a3,a4⟩
    ·exact .inr a
 have hsame:∀k b,(∀q∈ks,k≠q.1)→(∃p∈le,p.2=E k)→(E k).S b→W'.heap[b]?=W.heap[b]?:=fun k b hne ⟨p0,hp0,hpe⟩ hs=>hk.block b (h.bd k b hs).2 (fun hzb=>by
  rcases hz b hzb with⟨p,hp,hpb⟩|⟨_,hb,hle⟩
  ·exact h.disj k p.1 b (hne p hp) hs (hks p hp b hpb)
  ·have:=hle p0 hp0 b (by rw[hpe];exact hs)
   omega)
 have hold:∀b,w.R b→W'.heap[b]?=W.heap[b]?:=fun b hb=>hk.block b (h.LH hb) (fun hzb=>by
  rcases hz b hzb with⟨p,hp,hpb⟩|⟨hf,hb',_⟩
  ·exact(h.bd p.1 b (hks p hp b hpb)).1 hb
  ·have:=w.lt b hb
   have:=hlo hf
   omega)
 refine⟨hk.os.trans h.os,hk.tape.trans h.tape,hk.output.trans h.output,Nat.le_trans h.size hk.size,Nat.le_trans h.drawn hk.drawn,fun b hb=>(hold b hb).trans (h.keep b hb),fun k=>?_,fun k=>?_,fun k b=>?_,fun i j b hij=>?_⟩
 ·rcases hcases k with⟨e,hne,hp⟩|e<;>rw[e]
  ·exact(h.loc k).at_ _ W W' (fun b hb=>by
    rcases hb with hb|hb
    ·exact hold b (.inl hb)
    ·exact hsame k b hne hp hb) (h.phi k)
  ·trivial
 ·rcases hcases k with⟨e,_⟩|e<;>rw[e]
  ·exact h.loc k
  ·exact xn
 ·rcases hcases k with⟨e,_⟩|e<;>rw[e]
  ·exact fun hs=>⟨(h.bd k b hs).1,Nat.lt_of_lt_of_le (h.bd k b hs).2 hk.size⟩
  ·exact fun hh=>hh.elim
 ·rcases hcases i with⟨e,_⟩|e<;>rcases hcases j with⟨e',_⟩|e'<;>rw[e,e']
  ·exact h.disj i j b hij
  ·exact fun _ hh=>hh.elim
  ·exact fun hh=>hh.elim
  ·exact fun hh=>hh.elim
theorem Ch{i:Nat}(h:St P w n l m t Q fu listed f E i)(inv:HeadInv .any l.toArray m (listed.setIfInBounds i true)){a:Act}{W:World}(h1:FR n f a)(h2:HF w W E)(hs:t.s0≤W.heap.size):
  ∀W2,Below W.heap.size W W2→wpOp P l.toArray TN i (fun a' W'=>tN (t.Y i) W2 W'∧uK P l.toArray m t.Y (LT P l m Q) fu (listed.setIfInBounds i true) a' W') a W2:=
 fun W2 hb=>h inv a W2 h1 (h2.later hb) (Nat.le_trans hs hb.size)
theorem Dr.one(i:Nat)(hB:eB l m i listed=true)(h:St P w n l m t Q fu listed f E i):Dr P w n l m t Q (fu+1) listed f E:=by
 intro inv a W h1 h2 hs
 simp only[eB,Bool.and_eq_true,decide_eq_true_eq] at hB
 have hr:i∈Region.ready .any l.toArray listed:=by rw[hB.2];simp
 refine⟨by rw[hB.2];simp,fun j hj=>?_⟩
 rw[hB.2] at hj
 have:j=i:=by simpa using hj
 subst this
 exact⟨hB.1,Ch h (inv.set hr hB.1) h1 h2 hs⟩
theorem Vf(i j:Nat)(hB:YE l m i j listed=true)(h1:St P w n l m t Q fu listed f E i)(h2:St P w n l m t Q fu listed f E j):Dr P w n l m t Q (fu+1) listed f E:=by
 intro inv a W k1 k2 hs
 simp only[YE,Bool.and_eq_true,decide_eq_true_eq] at hB
 have hri:i∈Region.ready .any l.toArray listed:=by rw[hB.2];simp
 have hrj:j∈Region.ready .any l.toArray listed:=by rw[hB.2];simp
 refine⟨by rw[hB.2];simp,fun x hx=>?_⟩
 rw[hB.2] at hx
 have:x=i∨x=j:=by simpa using hx
 rcases this with rfl|rfl
 ·exact⟨hB.1.1,Ch h1 (inv.set hri hB.1.1) k1 k2 hs⟩
 ·exact⟨hB.1.2,Ch h2 (inv.set hrj hB.1.2) k1 k2 hs⟩
def Yo:List Nat→Array Bool→Array Bool
 |[],a=>a
 |i::l,a=>Yo l (a.setIfInBounds i true)
theorem Dr.cut{U:Type}(is:List Nat)(fu2:Nat)(Φ:U→Prop)(lf:U→List (Nat×Value))(le:U→List (Nat×kT))(h:(∀u,Φ u→Dr P w n l m t Q fu2 (Yo is listed) (LF (lf u)) (LE (le u)))→Dr P w n l m t Q fu listed f E)
  (C:∀u,Φ u→Dr P w n l m t Q fu2 (Yo is listed) (LF (lf u)) (LE (le u))):Dr P w n l m t Q fu listed f E:=h C
theorem Tz{o:Oper}(i:Nat)(hi:l[i]?=some o)(hw:Wn l.toArray f o){f':Nat→Option Value}{E':Nat→kT}
  (h:∀a W,FR n f a→HF w W E→∀K:Act→World→Prop,(∀a' W',FR n f' a'→HF w W' E'→tN (t.Y i) W W'→K a' W')→o.wp P a W K TN)
  (K:Dr P w n l m t Q fu (listed.setIfInBounds i true) f' E'):St P w n l m t Q fu listed f E i:=by
 intro inv a W h1 h2 hs
 have hi':(l.toArray)[i]?=some o:=by simpa using hi
 unfold wpOp
 simp only[hi',hw n a h1,if_true]
 exact .inl (h a W h1 h2 _ (fun a' W' k1 k2 k3=>⟨k3,K inv a' W' k1 k2 (Nat.le_trans hs k3.size)⟩))
theorem En{U:Type}{o:Oper}(i:Nat)(hi:l[i]?=some o)(hw:Wn l.toArray f o)(Φ:U→Prop){f':U→Nat→Option Value}{E':U→Nat→kT}
  (h:∀a W,FR n f a→HF w W E→t.s0≤W.heap.size→∀K:Act→World→Prop,(∀u a' W',Φ u→FR n (f' u) a'→HF w W' (E' u)→tN (t.Y i) W W'→K a' W')→o.wp P a W K TN)
  (K:∀u,Φ u→Dr P w n l m t Q fu (listed.setIfInBounds i true) (f' u) (E' u)):St P w n l m t Q fu listed f E i:=by
 intro inv a W h1 h2 hs
 have hi':(l.toArray)[i]?=some o:=by simpa using hi
 unfold wpOp
 simp only[hi',hw n a h1,if_true]
 exact .inl (h a W h1 h2 hs _ (fun u a' W' k0 k1 k2 k3=>⟨k3,K u k0 inv a' W' k1 k2 (Nat.le_trans hs k3.size)⟩))
variable {d ty T T':Nat} {pos:String} {af:Array Edge} {g:Option (Nat×Bool)} {p q:Operand} {u v:Value}
theorem St.alloc(i κ:Nat){cs:List Value}(hi:l[i]?=some ⟨some d,.alloc T,ty,pos,af,g⟩)(hw:Wn l.toArray f ⟨some d,.alloc T,ty,pos,af,g⟩)(hdn:Nat.blt d n=true)(hz:zeroOf P T=some cs)
  (K:∀b,t.s0≤b→Dr P w n l m t Q fu (listed.setIfInBounds i true) (uf f d (.pointer (some ⟨b,0,none⟩))) (up E κ (bx b cs.toArray T))):St P w n l m t Q fu listed f E i:=
 En (U:=Nat) i hi hw (t.s0≤ ·) (fun a W h1 h2 hs K' hK=>by
  unfold Oper.wp
  rw[EP hz]
  exact hK W.heap.size _ _ hs (h1.put (Nat.le_of_ble_eq_true hdn) _) (h2.alloc κ cs.toArray T) (tN.of_below ((Below.refl _ _).alloc (Nat.le_refl _) _))) K
theorem Yx(i κ:Nat){cs:List Value}(hi:l[i]?=some ⟨some d,.box T p,ty,pos,af,g⟩)(hw:Wn l.toArray f ⟨some d,.box T p,ty,pos,af,g⟩)(hdn:Nat.blt d n=true)(hp:ev f p=some v)(hc:v.cells=cs.toArray)
  (K:∀b,t.s0≤b→Dr P w n l m t Q fu (listed.setIfInBounds i true) (uf f d (.pointer (some ⟨b,0,none⟩))) (up E κ (bx b cs.toArray T))):St P w n l m t Q fu listed f E i:=
 En (U:=Nat) i hi hw (t.s0≤ ·) (fun a W h1 h2 hs K' hK=>by
  unfold Oper.wp
  rw[OD (h1.ev hp) hc]
  exact hK W.heap.size _ _ hs (h1.put (Nat.le_of_ble_eq_true hdn) _) (h2.alloc κ cs.toArray T) (tN.of_below ((Below.refl _ _).alloc (Nat.le_refl _) _))) K
theorem Jf(i κ:Nat){len e:Nat}{ps:List (Nat×Operand)}{vs:List (Nat×Value)}{cs:List Value}(hi:l[i]?=some ⟨some d,.buildSlice T len ps.toArray,ty,pos,af,g⟩)(hw:Wn l.toArray f ⟨some d,.buildSlice T len ps.toArray,ty,pos,af,g⟩)(hdn:Nat.blt d n=true)
  (hv:evs f ps vs) (hb:wm P T len vs=some (e,cs))
  (K:∀b,t.s0≤b→Dr P w n l m t Q fu (listed.setIfInBounds i true) (uf f d (.slice (some ⟨b,0,none⟩) len len)) (up E κ (bx b cs.toArray e))):St P w n l m t Q fu listed f E i:=
 En (U:=Nat) i hi hw (t.s0≤ ·) (fun a W h1 h2 hs K' hK=>by
  unfold Oper.wp
  rw[run_buildSlice (Ic hv a h1) hb]
  exact hK W.heap.size _ _ hs (h1.put (Nat.le_of_ble_eq_true hdn) _) (h2.alloc κ cs.toArray e) (tN.of_below ((Below.refl _ _).alloc (Nat.le_refl _) _))) K
theorem AR(i κ:Nat){b o T2:Nat}{vs cs:List Value}(vs':List Value)(hi:l[i]?=some ⟨none,.store T p q,ty,pos,af,g⟩)(hw:Wn l.toArray f ⟨none,.store T p q,ty,pos,af,g⟩)(hy:t.Y i b)
  (hp:ev f p=some (.pointer (some ⟨b,o,none⟩))) (hq:ev f q=some v) (hv:v.cells=cs.toArray)
  (hk:E κ=bx b vs.toArray T2) (hs:lZ P T=some cs.length) (hfit:Nat.ble (o+cs.length) vs.length=true) (h1:cs.all (·.oneCell')=true) (hvs:vs.take o++cs++vs.drop (o+cs.length)=vs')
  (K:Dr P w n l m t Q fu (listed.setIfInBounds i true) f (up E κ (bx b vs'.toArray T2))):St P w n l m t Q fu listed f E i:=
 Tz i hi hw (fun a W k1 k2 K' hK=>by
  unfold Oper.wp
  rw[run_store hs (k1.ev hp) (k1.ev hq) hv (k2.bx hk) hfit h1,hvs]
  refine hK _ _ k1 (k2.setRow hk vs'.toArray) ⟨rfl,rfl,rfl,by simp[World.setRow],fun x hx hne=>?_,Nat.le_refl _⟩
  have hbx:¬b=x:=fun e=>hne (e▸hy)
  simp only[World.setRow,Array.getElem?_modify]
  rw[if_neg hbx]) K
theorem WX{α:Type}(i κ:Nat){A:Option Addr}{c e fo o:Nat}{ix:Int}{t':Fl α}{ll l':List α}{x:α}(x':α){cs:List Value}(hY:∀b,(ow A c e t' ll).S b→t.Y i b)(hi:l[i]?=some ⟨none,.store T p q,ty,pos,af,g⟩)(hw:Wn l.toArray f ⟨none,.store T p q,ty,pos,af,g⟩)
  (hp:ev f p=some (.pointer (some ⟨rM A,o,none⟩))) (hq:ev f q=some v) (hv:v.cells=cs.toArray) (ho:o=vJ A+ix.toNat*t'.sz+fo) (hk:E κ=ow A c e t' ll) (hx:ll[ix.toNat]?=some x) (hs:lZ P T=some cs.length) (h1:cs.all (·.oneCell')=true)
  (hup:∀u,t'.ok w.O w.W u x→∃u',t'.ok w.O w.W u' x'∧t'.enc u' x'=(t'.enc u x).take fo++cs++(t'.enc u x).drop (fo+cs.length)) (hfit:Nat.ble (fo+cs.length) t'.sz=true) (hset:sets ll ix x'=some l')
  (K:Dr P w n l m t Q fu (listed.setIfInBounds i true) f (up E κ (ow A c e t' l'))):St P w n l m t Q fu listed f E i:=
 Tz i hi hw (fun a W k1 k2 K' hK=>by
  subst ho
  have hA:=(k2.sl hk).form.2.2 (by have:=(List.getElem?_eq_some_iff.1 hx).1;omega)
  obtain⟨vs,hh,hle,hnew⟩:=Q6 κ k2 hk hx hup (Nat.le_of_ble_eq_true hfit)
  rw[EL hset] at hnew
  unfold Oper.wp
  rw[run_store hs (k1.ev hp) (k1.ev hq) hv hh (Nat.ble_eq_true_of_le hle) h1]
  refine hK _ _ k1 hnew ⟨rfl,rfl,rfl,by simp[World.setRow],fun b hb hne=>?_,Nat.le_refl _⟩
  have hbx:¬rM A=b:=fun e=>hne (hY b (by
   show(Value.slice A ll.length c).ownBlock=some b
   rw[hA,←e];rfl))
  simp only[World.setRow,Array.getElem?_modify]
  rw[if_neg hbx]) K
theorem St.freeze{α:Type}{i:Nat}(κ:Nat){A:Option Addr}{c T:Nat}{t':Fl α}{ll:List α}(hk:E κ=ow A c T t' ll)(K:∀w',w.Le w'→Sl w'.O w'.W t' A c ll→St P w' n l m t Q fu listed f (up E κ emp) i):St P w n l m t Q fu listed f E i:=
 fun inv=>Tr.freeze κ hk fun w' h1 h2=>K w' h1 h2 inv
theorem St.append{α:Type}(i κ:Nat){A:Option Addr}{c e inb b o c2:Nat}{t':Fl α}{ll l2 l':List α}(hY:∀b,(ow A c e t' ll).S b→t.Y i b)(hi:l[i]?=some ⟨some d,.call ⟨.builtin .append,#[p,q],#[T,T]⟩,ty,pos,af,g⟩)(hw:Wn l.toArray f ⟨some d,.call ⟨.builtin .append,#[p,q],#[T,T]⟩,ty,pos,af,g⟩)(hdn:Nat.blt d n=true)
  (hp:ev f p=some (.slice A ll.length c)) (hk:E κ=ow A c e t' ll) (hq:ev f q=some (.slice (some ⟨b,o,none⟩) l2.length c2)) (hr:∀W,HF w W E→∃css,Al (rp t' w.O w.W) css l2∧aI W b o css.flatten)
  (hu:P.underlying T=some (.slice e)) (hs:lZ P e=some t'.sz) (hz:(zeroOf P e).map List.length=some t'.sz) (hsz:0<t'.sz) (hby:(P.info? e).map (·.bytes)=some inb) (hib:Nat.ble inb 32768=true) (hap:EC ll l2=some l')
  (K:∀A' c',fQ A' l'.length c'→Dr P w n l m t Q fu (listed.setIfInBounds i true) (uf f d (.slice A' l'.length c')) (up E κ (ow A' c' e t' l'))):St P w n l m t Q fu listed f E i:=
 En (U:=Option Addr×Nat) i hi hw (fun u=>fQ u.1 l'.length u.2) (fun a W h1 h2 hs0 K' hK=>by
  obtain⟨hlen,hl'⟩:=Iu hap
  subst hl'
  cases hin:P.info? e with
  |none=>rw[hin] at hby;cases hby
  | some inf=>
   rw[hin] at hby;simp at hby;subst hby
   unfold zeroOf at hz
   unfold lZ at hs
   rw[hin] at hz hs
   simp only[ob,Option.map_some,Option.some.injEq] at hz hs
   cases hze:inf.zero with
   |none=>rw[hze] at hz;cases hz
   | some z=>
    rw[hze] at hz
    simp at hz
    obtain⟨css0,hal0,hown⟩:=h2.ow hk
    obtain⟨css2,hal2,hc2⟩:=hr W h2
    have hbytes:(ll.length+l2.length)*inf.bytes≤140737488355328:=Nat.le_trans (Nat.mul_le_mul hlen (Nat.le_of_ble_eq_true hib)) (by decide)
    have hsm:ll.length+l2.length≤maxLen:=by unfold maxLen;omega
    obtain⟨v',W',hrun,ho,hg,_,hat⟩:=run_append_own_at (P:=P) W 0 T ty e inf z t'.sz inf.bytes hu hin hze hs rfl hz hsz _ _ _ hown ⟨b,o,none⟩ l2.length c2 css2.flatten (sD hal2)
     (fun j u hj=>by rw[Addr.add_lit];exact hc2 j u hj) (fun u hu=>by
      obtain⟨i,cs,k,h1,h2,_⟩:=Mr hal2 (List.getElem?_of_mem hu).choose_spec
      have hlt:i<l2.length:=by rw[←hal2.len];exact(List.getElem?_eq_some_iff.1 h1).1
      obtain⟨cs',h3,h4⟩:=hal2.at_ (List.getElem?_eq_getElem hlt)
      rw[h1] at h3;cases h3
      exact h4.one u (List.mem_of_getElem? h2)) hsm hbytes (Nat.zero_le _)
    rw[←List.flatten_append,←List.length_append] at ho
    obtain⟨A',c',rfl,hf,h3⟩:=Hu h2 hk (EO _ _ _ _ hrun) hg ((hal0.mono (fun _ _ hr=>hr.off h2)).append hal2) ho (fun b' hb'=>by
     rcases hat with hat|hat
     ·exact .inl (hat▸hb')
     ·rw[hat] at hb';simp at hb';subst hb';exact .inr (Nat.le_refl _))
    obtain⟨g1,g2,g3,g4,g5⟩:=hg
    unfold Oper.wp execOp
    simp only[resolve,invoke,builtin,Sem.run_bind,Sem.run_pure,Result.andThen_ok,List.map_toArray,List.map_cons,List.map_nil,h1.ev hp,h1.ev hq,hrun,Oper.upon_value]
    exact hK (A',c') _ _ hf (h1.put (Nat.le_of_ble_eq_true hdn) _) h3 ⟨g1,g2,g3,g4,fun b hb hy=>g5 b hb (fun e=>hy (hY b e.symm)),EO _ _ _ _ hrun⟩) (fun u hu=>K u.1 u.2 hu)
theorem FM{W W':World}{E1:Nat→kT}{ins:List kT}{Y:Nat→Prop}{w':Bs}(h:HF w W E)(hle:(h.sub (qE ins)).Le w')(h':HF w' W' E1)(hY:∀b,qE ins b→Y b):tN Y W W':=
 ⟨h'.os.trans hle.os,h'.tape.trans hle.tape,h'.output.trans hle.output,Nat.le_trans hle.size h'.size,fun b hb hy=>by
  have hr:(h.sub (qE ins)).R b:=.inr ⟨hb,fun hi=>hy (hY b hi)⟩
  exact(h'.keep b (hle.r b hr)).trans (hle.blk b hr),Nat.le_trans hle.drawn h'.drawn⟩
theorem OM{W W':World}{ins outs:List kT}{w':Bs}{s0:Nat}(h:HF w W E)(hb:HF w' W' (mF outs))(hs:s0≤W.heap.size)(hle:(h.sub (qE ins)).Le w'):∀b,qE outs b→s0≤b∨qE ins b:=fun b ⟨e,he,hS⟩=>by
 obtain⟨j,hj⟩:=List.getElem?_of_mem he
 have h1:(mF outs j).S b:=by rw[TB hj];exact hS
 have h2:=(hb.bd j b h1).1
 by_cases hi:qE ins b
 ·exact .inr hi
 ·exact .inl (Nat.le_of_not_lt fun hlt=>h2 (hle.r b (.inr ⟨Nat.lt_of_lt_of_le hlt hs,hi⟩)))
theorem TA{U:Type}{fn:Nat}{xs:List Operand}{vs:List Value}{ts:Array Nat}(i:Nat)(ks:List Nat)(ins:List kT)(V:U→Value)(Φ:U→Prop)(outs:U→List kT)(hn:decide ks.Nodup=true)(hp:Pk E ks ins)(hl:∀u,(outs u).length=ks.length)
  (hY:∀b,qE ins b→t.Y i b) (hi:l[i]?=some ⟨some d,.call ⟨.value (.func fn),xs.toArray,ts⟩,ty,pos,af,g⟩) (hw:Wn l.toArray f ⟨some d,.call ⟨.value (.func fn),xs.toArray,ts⟩,ty,pos,af,g⟩) (hdn:Nat.blt d n=true)
  (hg:∀args W,(callFunc fn args).run P W= .ok (.enter fn args) W) (hx:Ni f xs vs)
  (hc:∀W (hW:HF w W E) (_:Pk E ks ins),HF (hW.sub (qE ins)) W (mF ins)→Calls P fn vs.toArray W fun e W'=>∃u,e= .returned (V u)∧Φ u∧HF (hW.sub (qE ins)) W' (mF (outs u)))
  (K:∀u,Φ u→(∀b,qE (outs u) b→t.s0≤b∨qE ins b)→Dr P w n l m t Q fu (listed.setIfInBounds i true) (uf f d (V u)) (TI E ks (outs u))):St P w n l m t Q fu listed f E i:=
 En i hi hw (fun u=>Φ u∧∀b,qE (outs u) b→t.s0≤b∨qE ins b) (fun a W h1 h2 hs0 K' hK=>by
  have hn':=of_decide_eq_true hn
  unfold Oper.wp
  rw[xS h1 hg hx]
  refine(hc W h2 hp (h2.Uh hn' hp)).mono fun e W' ⟨u,he,hu,hb⟩=>?_
  subst he
  exact hK u _ _ ⟨hu,OM h2 hb hs0 (.refl _)⟩ (h1.put (Nat.le_of_ble_eq_true hdn) _) (HF.Vp (h2.Eh hp (.refl _)) (fun _ h=>h) (h2.back hn' hp (.refl _) hb (hl u))) (FM h2 (.refl _) hb hY)) (fun u hu=>K u hu.1 hu.2)
theorem IM{U:Type}{fn:Nat}{xs:List Operand}{vs:List Value}{ts:Array Nat}(i:Nat)(ks:List Nat)(ins:List kT)(V:U→Value)(Φ:(Nat→Prop)→World→U→Prop)(outs:U→List kT)(hn:decide ks.Nodup=true)(hp:Pk E ks ins)(hl:∀u,(outs u).length=ks.length)
  (hY:∀b,qE ins b→t.Y i b) (hi:l[i]?=some ⟨some d,.call ⟨.value (.func fn),xs.toArray,ts⟩,ty,pos,af,g⟩) (hw:Wn l.toArray f ⟨some d,.call ⟨.value (.func fn),xs.toArray,ts⟩,ty,pos,af,g⟩) (hdn:Nat.blt d n=true)
  (hg:∀args W,(callFunc fn args).run P W= .ok (.enter fn args) W) (hx:Ni f xs vs)
  (hc:∀W (hW:HF w W E) (_:Pk E ks ins),HF (hW.sub (qE ins)) W (mF ins)→Calls P fn vs.toArray W fun e W'=>∃w' u,(hW.sub (qE ins)).Le w'∧e= .returned (V u)∧Φ w'.O w'.W u∧HF w' W' (mF (outs u)))
  (K:∀w' u,w.Le w'→Φ w'.O w'.W u→(∀b,qE (outs u) b→t.s0≤b∨qE ins b)→Dr P w' n l m t Q fu (listed.setIfInBounds i true) (uf f d (V u)) (TI E ks (outs u))):St P w n l m t Q fu listed f E i:=by
 intro inv a W h1 h2 hs
 have hi':(l.toArray)[i]?=l[i]?:=by simp
 rw[hi] at hi'
 have hn':=of_decide_eq_true hn
 unfold wpOp
 simp only[hi',hw n a h1,if_true]
 refine .inl ?_
 unfold Oper.wp
 rw[xS h1 hg hx]
 refine(hc W h2 hp (h2.Uh hn' hp)).mono fun e W' ⟨w',u,hle,he,hu,hb⟩=>?_
 subst he
 have hkeep:=FM (Y:=t.Y i) h2 hle hb hY
 exact⟨hkeep,K (h2.after hle) u (h2.Eh hp hle) hu (OM h2 hb hs hle) inv _ W' (h1.put (Nat.le_of_ble_eq_true hdn) _) (h2.back hn' hp hle hb (hl u)) (Nat.le_trans hs hkeep.size)⟩
end
open Go.RowKit
section
variable {P:Program} {ρ:Operand→Value} {W:World} {dd:Option Tmp} {ty T T' e:TypeId} {pos:String} {af:Array Edge} {g:Option (Nat×Bool)} {p q:Operand} {A:Option Addr} {n c:Nat}
theorem NG(hu:P.underlying T=some (.slice e))(hp:ρ p= .slice A n c)(hq:ρ q= .slice none 0 0):(execOp ρ ⟨dd,.binOp .eql T p q T',ty,pos,af,g⟩).run P W= .ok (.value (.bool A.isNone)) W:=by
 simp[execOp,hp,hq,Lib.run_eql_slice_nil W T e A n c 0 0 hu,eqGuard]
theorem Q3{α:Type}{l:List α}{c:Nat}(h:fQ none l.length c):l=[]:=by
 cases l with
 |nil=>rfl
 |cons x l=>have:=h.2.2 (by simp);cases this
end
open Go.RowKit
structure Bs.Ext (B B':Bs):Prop where
 o:∀b,B.O b→B'.O b
 r:∀b,B.R b→B'.R b
 blk:∀b,B.R b→B'.W.heap[b]?=B.W.heap[b]?
theorem Bs.Ext.refl(B:Bs):B.Ext B:=⟨fun _ h=>h,fun _ h=>h,fun _ _=>rfl⟩
theorem Bs.Ext.trans{A B C:Bs}(h:A.Ext B)(k:B.Ext C):A.Ext C:=⟨fun b hb=>k.o b (h.o b hb),fun b hb=>k.r b (h.r b hb),fun b hb=>(k.blk b (h.r b hb)).trans (h.blk b hb)⟩
theorem Bs.Le.ext{B B':Bs}(h:B.Le B'):B.Ext B':=⟨h.sub,h.r,h.blk⟩
theorem Bs.Ext.cells{B B':Bs}(h:B.Ext B'){b o:Nat}{cs:List Value}(hb:B.R b)(hc:aI B.W b o cs):aI B'.W b o cs:=hc.loc (h.blk b hb)
section
variable {α:Type} {w w':Bs} {W W':World} {E:Nat→kT} {t:Fl α} {A:Option Addr} {c T k b:Nat} {l:List α} {ks:List Nat} {ins:List kT} {vs:List Value}
theorem Sl.ext(h:Sl w.R w.W t A c l)(he:w.Ext w'):Sl w'.R w'.W t A c l:=h.go he.r he.blk
theorem Sl.uF(h:Sl w.O w.W t A c l)(he:w.Ext w'):Sl w'.O w'.W t A c l:=h.go he.o (fun b hb=>he.blk b (.inl hb))
theorem HF.Yl(hW:HF w W E)(hp:Pk E ks ins)(hb:w.R b):(hW.sub (qE ins)).R b:=by
 rcases hb with hb|hb
 ·exact .inl hb
 ·refine .inr ⟨hW.LH (.inr hb),fun hi=>?_⟩
  obtain⟨k,_,_,hs⟩:=Ae hW hp hi
  exact(hW.bd k b hs).1 (.inr hb)
theorem HF.Xm(hW:HF w W E)(hp:Pk E ks ins)(hk:ks.contains k=false)(hb:(E k).S b):(hW.sub (qE ins)).R b:=by
 refine .inr ⟨(hW.bd k b hb).2,fun hi=>?_⟩
 obtain⟨k',j,hj,hs⟩:=Ae hW hp hi
 refine hW.disj k k' b (fun e=>?_) hb hs
 subst e
 have:k∈ks:=List.mem_of_getElem? hj
 simp[this] at hk
theorem HF.aY(hW:HF w W E):w.Ext hW.all:=⟨fun _ h=>h,fun _ hb=>hW.U2 (hW.LH hb),hW.keep⟩
theorem HF.fM(hW:HF w W E)(hp:Pk E ks ins):w.Ext (hW.sub (qE ins)):=⟨fun _ h=>h,fun _ hb=>hW.Yl hp hb,hW.keep⟩
theorem HF.TJ(hW:HF w W E)(hk:E k=Proofs.YtgijeiamflmkeaaGreatDoor.ow A c T t l)(hp:Pk E ks ins)(hn:ks.contains k=false):Sl (hW.sub (qE ins)).R (hW.sub (qE ins)).W t A c l:=
 (hW.sl hk).mono (fun b hb=>by
  rcases hb with hb|hb
  ·exact .inl hb
  ·exact hW.Xm hp hn hb)
theorem HF.ML(hW:HF w W E)(hk:E k=Proofs.YtgijeiamflmkeaaGreatDoor.bx b vs.toArray T)(hp:Pk E ks ins)(hn:ks.contains k=false):(hW.sub (qE ins)).R b:=hW.Xm hp hn (by rw[hk];rfl)
theorem HF.UZ(hW:HF w W E)(hk:E k=Proofs.YtgijeiamflmkeaaGreatDoor.bx b vs.toArray T):aI (hW.sub (qE ins)).W b 0 vs:=bN hW hk 0
theorem bO:Pk E [] []:=trivial
theorem bn{e:kT}{es:List kT}(h:E k=e)(h2:Pk E ks es):Pk E (k::ks) (e::es):=⟨h,h2⟩
end
section
variable {P:Program} {w:Bs} {n:Nat} {f:Nat→Option Value} {E:Nat→kT} {X Y:Act→World→Prop} {Q:Exit→Act→World→Prop} {ops:Array Oper} {rest l:List Oper}
theorem bM(m:Nat)(fs:List (Nat×Value))(es:List (Nat×kT))(h:Tr w n f E (wpList P ops (Exit.then (fun a W=>FR n (LF fs) a∧HF w W (LE es)) Q) (l.take m)))
  (h2:Tr w n (LF fs) (LE es) (wpList P ops Q (l.drop m))):Tr w n f E (wpList P ops Q l):=by
 intro a W h1 h3
 have:=yM (rest:=l.drop m) _ a W (h a W h1 h3) (fun a W ⟨k1,k2⟩=>h2 a W k1 k2)
 rwa [List.take_append_drop] at this
theorem aR{fs:List (Nat×Value)}{es:List (Nat×kT)}(hf:AV f fs)(he:zI E es):Tr w n f E (Exit.then (fun a W=>FR n (LF fs) a∧HF w W (LE es)) Q .normal):=fun _ _ h1 h2=>⟨h1.EM hf,h2.EM he⟩
theorem II{e:kT}(k K:Nat)(hk:E k=e)(hK:E K=emp)(hne:Nat.beq k K=false)(h:Tr w n f (up (up E k emp) K e) X):Tr w n f E X:=fun a W h1 h2=>by
 have hne':k≠K:=fun e=>by subst e;simp at hne
 refine h a W h1 ?_
 have key:∀j,(j=K∧up (up E k emp) K e j=E k)∨(j≠K∧j=k∧up (up E k emp) K e j=emp)∨(j≠K∧j≠k∧up (up E k emp) K e j=E j):=fun j=>by
  rcases nE (up E k emp) K e j with⟨a1,a2⟩|⟨a1,a2⟩
  ·exact .inl ⟨a1,by rw[a2,hk]⟩
  ·rcases nE E k emp j with⟨b1,b2⟩|⟨b1,b2⟩
   ·exact .inr (.inl ⟨a1,b1,by rw[a2,b2]⟩)
   ·exact .inr (.inr ⟨a1,b1,by rw[a2,b2]⟩)
 refine⟨h2.os,h2.tape,h2.output,h2.size,h2.drawn,h2.keep,fun j=>?_,fun j=>?_,fun j b=>?_,fun i j b hij=>?_⟩
 ·rcases key j with⟨_,e1⟩|⟨_,_,e1⟩|⟨_,_,e1⟩<;>rw[e1]
  ·exact h2.phi k
  ·trivial
  ·exact h2.phi j
 ·rcases key j with⟨_,e1⟩|⟨_,_,e1⟩|⟨_,_,e1⟩<;>rw[e1]
  ·exact h2.loc k
  ·exact xn
  ·exact h2.loc j
 ·rcases key j with⟨_,e1⟩|⟨_,_,e1⟩|⟨_,_,e1⟩<;>rw[e1]
  ·exact h2.bd k b
  ·exact fun hh=>hh.elim
  ·exact h2.bd j b
 ·rcases key i with⟨a1,e1⟩|⟨a1,b1,e1⟩|⟨a1,b1,e1⟩<;>rcases key j with⟨a2,e2⟩|⟨a2,b2,e2⟩|⟨a2,b2,e2⟩<;>rw[e1,e2]
  ·exact absurd (a1.trans a2.symm) hij
  ·exact fun _ hh=>hh.elim
  ·exact h2.disj k j b (Ne.symm b2)
  ·exact fun hh=>hh.elim
  ·exact fun hh=>hh.elim
  ·exact fun hh=>hh.elim
  ·exact h2.disj i k b b1
  ·exact fun _ hh=>hh.elim
  ·exact h2.disj i j b hij
theorem Tv(k:Nat)(h:Tr w n f (up E k emp) X):Tr w n f E X:=fun a W h1 h2=>h a W h1 (h2.drop k)
end
theorem Sl.el{α:Type}{S:Nat→Prop}{W:World}{t:Fl α}{A:Option Addr}{c:Nat}{l:List α}(h:Sl S W t A c l){i:Nat}{x:α}(hx:l[i]?=some x):∃u,S (rM A)∧t.ok S W u x∧aI W (rM A) (vJ A+i*t.sz) (t.enc u x):=by
 obtain⟨h1,u,h2,h3⟩:=h.cells i x hx
 exact⟨u,h1,h2,h3⟩
open Go.RowKit
def pre{α:Type}(l:List α)(hi:Int):Option (List α):=if 0≤hi∧hi≤(l.length:Int) then some (l.take hi.toNat) else none
theorem pre_some{α:Type}{l l':List α}{hi:Int}(h:pre l hi=some l'):(0≤hi∧hi≤(l.length:Int))∧l.take hi.toNat=l':=by
 unfold pre at h
 split at h
 ·exact⟨by assumption,Option.some.inj h⟩
 ·cases h
theorem TZ{α:Type}{l l':List α}{hi:Int}(h:pre l hi=some l'):l'.length=hi.toNat:=by
 obtain⟨h1,rfl⟩:=pre_some h
 simp;omega
theorem G6{α:Type}{l l':List α}{hi:Int}{A:Option Addr}{c:Nat}(hf:fQ A l.length c)(h:pre l hi=some l'):fQ A l'.length c:=by
 have hl:=TZ h
 obtain⟨⟨h1,h2⟩,_⟩:=pre_some h
 obtain⟨f1,f2,f3⟩:=hf
 exact⟨by omega,f2,fun hp=>f3 (by omega)⟩
theorem Sl.pre{α:Type}{S:Nat→Prop}{W:World}{t:Fl α}{A:Option Addr}{c:Nat}{l l':List α}{hi:Int}(h:Sl S W t A c l)(hc:Proofs.YtgijeiamflmkeaaGreatDoor.pre l hi=some l'):Sl S W t A c l':=by
 refine⟨G6 h.form hc,fun i x hx=>?_⟩
 obtain⟨_,hl⟩:=pre_some hc
 rw[←hl,List.getElem?_take] at hx
 split at hx
 ·exact h.cells i x hx
 ·cases hx
section
variable {P:Program} {ρ:Operand→Value} {W:World} {d:Option Tmp} {ty T:TypeId} {pos:String} {af:Array Edge} {g:Option (Nat×Bool)} {p r:Operand} {j:Int} {α:Type} {l l':List α} {e sz c:Nat} {A:Option Addr}
theorem Gd(he:elemOf? P T=some (e,sz))(hp:ρ p= .slice A l.length c)(hf:fQ A l.length c)(hr:ρ r= .int .i64 j)(hc:pre l j=some l'):
  (execOp ρ ⟨d,.slice T p none (some r) none,ty,pos,af,g⟩).run P W= .ok (.value (.slice A l'.length c)) W:=by
 obtain⟨⟨h1,h2⟩,hl⟩:=pre_some hc
 have hc':cut l 0 j=some l':=by
  unfold cut
  rw[if_pos ⟨by omega,h1,h2⟩,←hl]
  simp
 rw[Re he hp hf hr hc',Nat.sub_zero]
 unfold zb
 split
 ·rfl
 ·cases A with
  |none=>rfl
  |some a=>simp[Addr.add]
end
section
variable {P:Program} {w:Bs} {n:Nat} {f:Nat→Option Value} {E:Nat→kT} {X:Act→World→Prop}
theorem IG{α:Type}(κ:Nat){A:Option Addr}{c e:Nat}{t:Fl α}{l l':List α}{hi:Int}(hc:pre l hi=some l')(hk:E κ=ow A c e t l)(K:Tr w n f (up E κ (ow A c e t l')) X):Tr w n f E X:=by
 obtain⟨⟨h1,h2⟩,hl⟩:=pre_some hc
 exact Qk κ hi.toNat (by omega) hk (by rw[hl];exact K)
theorem pG{t:Nat}{v v':Value}(h:f t=some v)(e:v=v'):f t=some v':=e▸h
theorem YX{k b T:Nat}{vs vs':Array Value}(h:E k=bx b vs T)(e:vs=vs'):E k=bx b vs' T:=e▸h
theorem KF{es:List kT}{Y:Nat→Prop}(h:es=List.replicate es.length emp):∀b,qE es b→Y b:=fun b ⟨e,he,hs⟩=>by
 rw[h] at he
 have:=List.eq_of_mem_replicate he
 subst this
 exact hs.elim
end
open Go.RowKit Go.Sort Go.Proofs Go.Shelf
theorem below_grow{w W:World}(h:Proofs.YtgijeiamflmkeaaGreatDoor.Below w.heap.size w W):∃q os,W=Go.Sort.grow (w.drewN q) os:=by
 refine⟨W.drawn-w.drawn,W.heap.extract w.heap.size W.heap.size,?_⟩
 have hh:W.heap=w.heap++W.heap.extract w.heap.size W.heap.size:=by
  apply Array.ext_getElem?
  intro i
  by_cases hi:i<w.heap.size
  ·rw[Array.getElem?_append_left hi,h.block i hi]
  ·rw[Array.getElem?_append_right (by omega)]
   by_cases hW:i<W.heap.size
   ·rw[Array.getElem?_extract];simp;rw[if_pos (by omega)];congr 1;omega
   ·have:=h.size
    rw[Array.getElem?_eq_none (by omega),Array.getElem?_eq_none (by simp;omega)]
 have hd:=h.drawn
 cases W with
 |mk heap tape drawn os output=>
  have e1:=h.os;have e2:=h.tape;have e3:=h.output
  simp only at e1 e2 e3 hd hh
  subst e1 e2 e3
  simp only[Go.Sort.grow,World.drewN,World.mk.injEq,true_and,and_true]
  exact⟨hh,by omega⟩
section
variable {α:Type}
def NQ(c:α→α→Option Int)(x y:α):Bool:=decide ((c x y).getD 0<0)
structure AU (c:α→α→Option Int) (l:List α):Prop where
 len:l.length<4611686018427387904
 tot:∀x∈l,∀y∈l,∃k,c x y=some k
 irr:∀x∈l,NQ c x x=false
 tr:∀x∈l,∀y∈l,∀z∈l,NQ c x y=true→NQ c y z=true→NQ c x z=true
 ntr:∀x∈l,∀y∈l,∀z∈l,NQ c x y=false→NQ c y z=false→NQ c x z=false
def VF(c:α→α→Option Int)(l:List α)(x y:{x // x∈l}):Int:=(c x.1 y.1).getD 0
theorem AU.swo{c:α→α→Option Int}{l:List α}(h:AU c l):SWO (ltOf (VF c l)):=
 ⟨fun x=>h.irr x.1 x.2,fun x y z=>h.tr x.1 x.2 y.1 y.2 z.1 z.2,fun x y z=>h.ntr x.1 x.2 y.1 y.2 z.1 z.2⟩
def vN(c:α→α→Option Int)(l:List α)(i:Inhabited {x // x∈l}):Array {x // x∈l}:=pdq (ltOf (VF c l)) l.attach.toArray 0 l.attach.toArray.size (Lib.bitLen l.attach.toArray.size) true true
open Classical in
noncomputable def Dc(l:List α)(c:α→α→Option Int):Option (List α):=
 if AU c l then some (if h:∃x,x∈l then((vN c l ⟨⟨Classical.choose h,Classical.choose_spec h⟩⟩).toList.map (·.1)) else[]) else none
theorem Ju(c:α→α→Option Int)(l:List α)(i:Inhabited {x // x∈l})(h:AU c l):((vN c l i).toList.map (·.1)).Perm l∧((vN c l i).toList.map (·.1)).Pairwise (fun x y=>NQ c y x=false)∧(vN c l i).size=l.attach.toArray.size:=by
 have hp:=pdq_sorts (ltOf (VF c l)) h.swo l.attach.toArray 0 l.attach.toArray.size (Lib.bitLen l.attach.toArray.size) true true (Nat.zero_le _) (Nat.le_refl _) (Or.inl rfl)
 obtain⟨⟨h1,_,h3⟩,h4⟩:=hp
 have hsz:(vN c l i).size=l.attach.toArray.size:=h1
 refine⟨?_,?_,hsz⟩
 ·have e1:((vN c l i).extract 0 l.attach.toArray.size)=vN c l i:=by rw[←hsz];simp
  have e2:(l.attach.toArray.extract 0 l.attach.toArray.size)=l.attach.toArray:=Array.extract_size
  have h3':((vN c l i).extract 0 l.attach.toArray.size).toList.Perm (l.attach.toArray.extract 0 l.attach.toArray.size).toList:=h3
  rw[e1,e2] at h3'
  have:=h3'.map (·.1)
  simpa using this
 ·rw[List.pairwise_map,List.pairwise_iff_getElem]
  intro a b ha hb hab
  have ha':a<(vN c l i).size:=by simpa using ha
  have hb':b<(vN c l i).size:=by simpa using hb
  have:=h4 a b (Nat.zero_le _) hab (by rw[←hsz];exact hb')
  have g1:(vN c l i)[b]! =(vN c l i)[b]'hb':=getElem!_pos (vN c l i) b hb'
  have g2:(vN c l i)[a]! =(vN c l i)[a]'ha':=getElem!_pos (vN c l i) a ha'
  have this:ltOf (VF c l) (vN c l i)[b]! (vN c l i)[a]! =false:=this
  rw[g1,g2] at this
  have this:decide ((c (vN c l i)[b].val (vN c l i)[a].val).getD 0<0)=false:=this
  simpa[NQ] using this
theorem OA{l:List α}{c:α→α→Option Int}(h:AU c l):∃m,Dc l c=some m:=by
 unfold Dc
 rw[if_pos h]
 exact⟨_,rfl⟩
theorem EJ{l m:List α}{c:α→α→Option Int}(h:Dc l c=some m):AU c l∧m.Perm l∧m.Pairwise (fun x y=>NQ c y x=false):=by
 unfold Dc at h
 split at h
 ·rename_i hs
  refine⟨hs,?_⟩
  have:=Option.some.inj h
  subst this
  split
  ·rename_i hx
   obtain⟨a,b,_⟩:=Ju c l ⟨⟨Classical.choose hx,Classical.choose_spec hx⟩⟩ hs
   exact⟨a,b⟩
  ·rename_i hx
   have:l=[]:=List.eq_nil_iff_forall_not_mem.2 fun x hm=>hx ⟨x,hm⟩
   subst this
   exact⟨.refl _,.nil⟩
 ·cases h
end
theorem PW{w:World}{g n:Nat}{os:Array Obj}{cur:Array Value}{e:TypeId}{fr:Nat×Nat}(d:Array Value)(hb:w.heap[g]?=some (.cells cur e fr)):
  (grow (putRow id (Sort.ahead w n) g 0 d) os).heap[g]?=some (.cells (putCells id 0 d cur) e fr):=by
 have hg:g<w.heap.size:=(Array.getElem?_eq_some_iff.1 hb).1
 rw[heap_grow_old _ _ (by simpa using hg)]
 simp[putRow,mapBlock,Sort.ahead,Array.getElem?_modify,hb,onCells]
theorem GZ{w:World}{g n k:Nat}{os:Array Obj}(d:Array Value)(hk:k<w.heap.size)(hne:k≠g):(grow (putRow id (Sort.ahead w n) g 0 d) os).heap[k]?=w.heap[k]?:=by
 rw[heap_grow_old _ _ (by simpa using hk)]
 have:g≠k:=fun e=>hne e.symm
 simp[putRow,mapBlock,Sort.ahead,Array.getElem?_modify,this]
theorem EU{w:World}{g n:Nat}{os:Array Obj}(d:Array Value):w.heap.size≤(grow (putRow id (Sort.ahead w n) g 0 d) os).heap.size:=by simp
theorem PV(cur:Array Value)(d:Array Value)(h:d.size≤cur.size):(putCells id 0 d cur).toList.take d.size=d.toList:=by
 apply List.ext_getElem?
 intro j
 by_cases hj:j<d.size
 ·rw[List.getElem?_take_of_lt hj,Array.getElem?_toList,Array.getElem?_toList]
  simp[putCells,hj,show j<cur.size by omega]
 ·rw[List.getElem?_take_eq_none (by omega),List.getElem?_eq_none (by simp;omega)]
theorem NV{α:Type}[Inhabited α](enc:α→List Value)(k:Nat)(hk:∀x,(enc x).length=k)(d:Array α):(flatK enc k d).toList=(d.toList.map enc).flatten:=by
 have hlen:∀(l:List α),((l.map enc).flatten).length=l.length*k:=fun l=>by
  induction l with
  |nil=>simp
  |cons a l ih=>simp[List.flatten_cons,hk,ih,Nat.succ_mul,Nat.add_comm]
 have hat:∀(l:List α) (i j:Nat) (hi:i<l.length) (hj:j<k),((l.map enc).flatten)[i*k+j]?=(enc l[i])[j]?:=fun l=>by
  induction l with
  |nil=>intro i j hi;simp at hi
  | cons a l ih=>
   intro i j hi hj
   cases i with
   |zero=>rw[List.map_cons,List.flatten_cons,Nat.zero_mul,Nat.zero_add,List.getElem?_append_left (by rw[hk];exact hj)];rfl
   |succ i=>
    rw[List.map_cons,List.flatten_cons,List.getElem?_append_right (by rw[hk,Nat.succ_mul];omega),hk]
    rw[show(i+1)*k+j-k=i*k+j by rw[Nat.succ_mul];omega,ih i j (by simpa using hi) hj]
    rfl
 apply List.ext_getElem?
 intro t
 by_cases ht:t<d.size*k
 ·have hk0:0<k:=by
   rcases Nat.eq_zero_or_pos k with h|h
   ·subst h;simp at ht
   ·exact h
  have hi:t / k<d.size:=Nat.div_lt_of_lt_mul (by rw[Nat.mul_comm];exact ht)
  have hj:t%k<k:=Nat.mod_lt _ hk0
  have e:=hat d.toList (t / k) (t%k) (by simpa using hi) hj
  rw[Nat.div_add_mod' t k] at e
  rw[e,Array.getElem?_toList,Array.getElem?_eq_getElem (by simpa using ht)]
  have g:=get_flatK enc k d t ht
  rw[getElem!_pos _ _ (by simpa using ht)] at g
  rw[g,getElem!_pos d _ hi,getElem!_pos _ _ (by rw[hk];exact hj),List.getElem?_eq_getElem (by rw[hk];exact hj)]
  simp
 ·rw[List.getElem?_eq_none (by simpa using ht),List.getElem?_eq_none (by rw[hlen];simpa using ht)]
section
variable {P:Program} {ρ:Ren} {α:Type} {w:Bs} {t:Fl α} {e:α→List Value} {A:Option Addr} {c T:Nat} {l r:List α} {cmp:α→α→Option Int} {fid:Nat} {cap:List Value}
theorem Od(he:∀u x,t.enc u x=e x){O:Nat→Prop}{W:World}{css:List (List Value)}{l:List α}(h:Al (rp t O W) css l):css=l.map e:=by
 induction h with
 |nil=>rfl
 |cons h1 _ ih=>obtain⟨u,_,rfl⟩:=h1;rw[ih,he];rfl
theorem I4(L:SlLaysF0.n6 P ρ)(aE:∀w,(isAgg (ρ.t 24)).run P w= .ok true w)(zE:∀w,(Go.sizeOf (ρ.t 24)).run P w= .ok t.sz w)(he:∀u x,t.enc u x=e x)(ht:t.IW)(u0:t.Ad)
  (hg:∀args w,(callFunc fid args).run P w= .ok (.enter fid args) w)
  (hf:∀(w':Bs),w.Ext w'→∀(z0 z1:α),∀y,cmp z0 z1=some y→Calls P fid (([.agg (e z0).toArray,.agg (e z1).toArray]:List Value)++cap).toArray w'.W fun e W''=>e= .returned (.int .i64 y)∧HF w' W'' E0)
  (H:Dc l cmp=some r) (hE:HF w w.W (mF [ow A c T t l])):
  Calls P (ρ.f 6) [.slice A l.length c,.func (.func fid) #[] cap.toArray].toArray w.W fun e W'=>∃u:Unit,e= .returned (.tuple #[])∧(r.length=l.length)∧HF w W' (mF [ow A c T t r]):=by
 have hke:∀x,(e x).length=t.sz:=fun x=>by rw[←he u0 x];exact t.len u0 x
 have h1e:∀x,∀v∈e x,v.oneCell'=true:=fun x v hv=>t.one u0 x v (by rw[he];exact hv)
 obtain⟨hok,hperm,_⟩:=EJ H
 have hrl:r.length=l.length:=hperm.length_eq
 have hrp:∀(W:World) (m:List α),Al (rp t w.O W) (m.map e) m:=fun W m=>Al.of_map (fun x=>⟨u0,ht _ _ _ _,(he u0 x).symm⟩) m
 obtain⟨css,hal,hlen,hown⟩:=hE.ow (k:=0) rfl
 rcases hown with⟨ev,h0⟩|⟨g,cap',cur,ev,hb0,hh,hn,hc,hs,htk⟩
 ·have hl:l=[]:=List.eq_nil_of_length_eq_zero h0
  subst hl
  have hr:r=[]:=List.eq_nil_of_length_eq_zero hrl
  subst hr
  refine(AnyF.slices_SortFunc_none L A c (.func (.func fid) #[] cap.toArray) w.W).mono fun e' W' ⟨h1,h2⟩=>?_
  subst h2
  exact⟨(),h1,rfl,hE⟩
 ·simp at ev
  obtain⟨rfl,rfl⟩:=ev
  by_cases hx:∃x,x∈l
  ·have i:Inhabited {x // x∈l}:=⟨⟨Classical.choose hx,Classical.choose_spec hx⟩⟩
   have hr:r=(vN cmp l ⟨⟨Classical.choose hx,Classical.choose_spec hx⟩⟩).toList.map (·.1):=by
    unfold Dc at H
    rw[if_pos hok,dif_pos hx] at H
    exact(Option.some.inj H).symm
   letI:Inhabited {x // x∈l}:=⟨⟨Classical.choose hx,Classical.choose_spec hx⟩⟩
   have hcss:=Od he hal
   have hsz:l.attach.toArray.size=l.length:=by simp
   have hflat:∀(d:Array {x // x∈l}),(flatK (fun x=>e x.1) t.sz d).toList=((d.toList.map (·.1)).map e).flatten:=fun d=>by
    rw[NV (fun x:{x // x∈l}=>e x.1) t.sz (fun x=>hke x.1)];simp[List.map_map,Function.comp_def]
   have hgw:g<w.W.heap.size:=(Array.getElem?_eq_some_iff.1 hh).1
   have hcur:l.length*t.sz≤cur.size:=by rw[hs];exact Nat.mul_le_mul_right _ hn
   have hH:HoldsK (fun x:{x // x∈l}=>e x.1) t.sz w.W g 0 l.attach.toArray:=by
    intro j hj
    have hj':j<l.length*t.sz:=by simpa using hj
    refine⟨?_,by simp[World.frozen?,hh]⟩
    have e1:(cur.toList.take (l.length*t.sz))[j]?=(flatK (fun x:{x // x∈l}=>e x.1) t.sz l.attach.toArray).toList[j]?:=by
     rw[htk,hflat,hcss];simp
    rw[List.getElem?_take_of_lt hj'] at e1
    simp only[World.cell?,hh,Nat.zero_add]
    simp only[Option.isSome_none,Bool.false_eq_true,if_false]
    rw[←Array.getElem?_toList,e1,Array.getElem?_toList,Array.getElem?_eq_getElem (by simpa using hj),getElem!_pos _ _ (by simpa using hj)]
    rfl
   have hgR:¬w.R g:=(hE.bd 0 g rfl).1
   have hcmp:CmpLays P fid cap.toArray (fun x:{x // x∈l}=>e x.1) t.sz (VF cmp l) g 0 l.attach.toArray.size w.W:=by
    intro m os dk hdk x y
    obtain⟨k,hk⟩:=hok.tot x.1 x.2 y.1 y.2
    have hS:w.W.heap.size≤(sortWorldK (fun x:{x // x∈l}=>e x.1) t.sz w.W g 0 m dk os).heap.size:=EU _
    have hext:w.Ext ⟨sortWorldK (fun x:{x // x∈l}=>e x.1) t.sz w.W g 0 m dk os,w.O,fun b=>b<(sortWorldK (fun x:{x // x∈l}=>e x.1) t.sz w.W g 0 m dk os).heap.size,fun b hb=>by
      rcases hb with hb|hb
      ·exact Nat.lt_of_lt_of_le (w.lt b (.inl hb)) hS
      ·exact hb⟩:=⟨fun _ h=>h,fun b hb=>.inr (Nat.lt_of_lt_of_le (w.lt b hb) hS),fun b hb=>GZ _ (w.lt b hb) (fun e=>hgR (e▸hb))⟩
    have:=hf _ hext x.1 y.1 k hk
    have hargs:(([.agg (e x.1).toArray,.agg (e y.1).toArray]:List Value)++cap).toArray= #[.agg (e x.1).toArray,.agg (e y.1).toArray]++cap.toArray:=by simp
    rw[hargs] at this
    refine this.mono fun e' W'' ⟨h1,h2⟩=>⟨by rw[h1];simp[VF,hk],?_⟩
    exact below_grow ⟨h2.os,h2.tape,h2.output,h2.size,fun b hb=>h2.keep b (.inr hb),h2.drawn⟩
   have main:=AnyQ.slices_SortFunc_eq L t.sz aE zE (fun x:{x // x∈l}=>e x.1) (fun x=>hke x.1) (fun x=>h1e x.1) (VF cmp l) hok.swo fid cap.toArray g 0 c l.attach.toArray w.W hg hcmp hH hgw (by rw[hsz];exact hok.len)
   rw[hsz] at main
   refine main.mono fun e' W' ⟨h1,n,os,h2⟩=>⟨(),h1,hrl,?_⟩
   have hD:vN cmp l ⟨⟨Classical.choose hx,Classical.choose_spec hx⟩⟩=pdq (ltOf (VF cmp l)) l.attach.toArray 0 l.length (Lib.bitLen l.length) true true:=by unfold vN;rw[hsz]
   rw[←hD] at h2
   obtain⟨_,_,hDs⟩:=Ju cmp l ⟨⟨Classical.choose hx,Classical.choose_spec hx⟩⟩ hok
   generalize vN cmp l ⟨⟨Classical.choose hx,Classical.choose_spec hx⟩⟩=D at h2 hr hDs
   have hW:W'=grow (putRow id (Sort.ahead w.W n) g 0 (flatK (fun x:{x // x∈l}=>e x.1) t.sz D)) os:=h2
   have hfs:(flatK (fun x:{x // x∈l}=>e x.1) t.sz D).size=l.length*t.sz:=by rw[size_flatK,hDs,hsz]
   subst hW
   refine(hE.mod (E:=mF [ow (some ⟨g,0,none⟩) c T t l]) (W':=grow (putRow id (Sort.ahead w.W n) g 0 (flatK (fun x:{x // x∈l}=>e x.1) t.sz D)) os) 0 (ow (some ⟨g,0,none⟩) c T t r) rfl rfl rfl (EU _) (Nat.le_add_right _ _) (fun b hb hs=>GZ _ hb (fun e=>hs (by rw[e];rfl))) (xH _ _ _ _ _) ?_ (fun b hb=>?_)).weaken (fun k=>?_)
   ·refine⟨r.map e,hrp _ r,by rw[sD (hrp w.W r)],.inr ⟨g,c,_,by rw[hrl],Nat.zero_le _,PW _ hh,by rw[hrl];exact hn,hc,by simp[putCells,hs],?_⟩⟩
    rw[hrl,←hfs,PV _ _ (by rw[hfs];exact hcur),hflat,←hr]
   ·have hb:(Value.slice (some ⟨g,0,none⟩) r.length c).ownBlock=some b:=hb
    simp[Value.ownBlock] at hb
    subst hb
    exact⟨.inl rfl,Nat.lt_of_lt_of_le hgw (EU _)⟩
   ·cases k with
    |zero=>exact .inl rfl
    |succ k=>exact .inr rfl
  ·have hl:l=[]:=List.eq_nil_iff_forall_not_mem.2 fun x hm=>hx ⟨x,hm⟩
   subst hl
   have hr:r=[]:=List.eq_nil_of_length_eq_zero hrl
   subst hr
   refine(AnyF.slices_SortFunc_none L _ c (.func (.func fid) #[] cap.toArray) w.W).mono fun e' W' ⟨h1,h2⟩=>?_
   subst h2
   exact⟨(),h1,rfl,hE⟩
end
open Go.RowKit Go.Sort Go.Proofs Go.Shelf
def I1(l:List Int):Option (List Int):=if l.length<4611686018427387904 then some (l.mergeSort fun x y=>decide (x≤y)) else none
def WF(l:List Int):Option (List Int):=some (Lib.compact l)
theorem Pp(l:List Int):(Lib.compact l).length≤l.length:=by
 unfold Lib.compact Lib.compactUpTo
 rw[List.length_map]
 exact Nat.le_trans (List.length_filter_le _ _) (by simp)
section
variable {P:Program} {ρ:Ren} {w:Bs} {A:Option Addr} {c T:Nat}
theorem R3{α:Type}{t:Fl α}{l r:List α}{g:Nat}{W':World}{cur cur':Array Value}{css:List (List Value)}(hE:HF w w.W (mF [ow (some ⟨g,0,none⟩) c T t l]))(hh:w.W.heap[g]?=some (.cells cur T (0,0)))
  (hn:l.length≤c) (hc:c≤maxLen) (hs:cur.size=c*t.sz) (hrl:r.length≤l.length) (hh':W'.heap[g]?=some (.cells cur' T (0,0))) (hs':cur'.size=cur.size)
  (ho:W'.os=w.W.os) (htp:W'.tape=w.W.tape) (hou:W'.output=w.W.output) (hd:w.W.drawn≤W'.drawn) (hsz:w.W.heap.size≤W'.heap.size) (hother:∀b,b<w.W.heap.size→b≠g→W'.heap[b]?=w.W.heap[b]?)
  (hal:Al (rp t w.O W') css r) (htk:cur'.toList.take (r.length*t.sz)=css.flatten):HF w W' (mF [ow (some ⟨g,0,none⟩) c T t r]):=by
 have hgw:g<w.W.heap.size:=(Array.getElem?_eq_some_iff.1 hh).1
 refine(hE.mod (E:=mF [ow (some ⟨g,0,none⟩) c T t l]) (W':=W') 0 (ow (some ⟨g,0,none⟩) c T t r) ho htp hou hsz hd (fun b hb hs=>hother b hb (fun e=>hs (by rw[e];rfl))) (xH _ _ _ _ _) ?_ (fun b hb=>?_)).weaken (fun k=>?_)
 ·exact⟨css,hal,by rw[sD hal],.inr ⟨g,c,cur',rfl,Nat.zero_le _,hh',Nat.le_trans hrl hn,hc,by rw[hs',hs],htk⟩⟩
 ·have hb:(Value.slice (some ⟨g,0,none⟩) r.length c).ownBlock=some b:=hb
  simp[Value.ownBlock] at hb
  subst hb
  exact⟨.inl rfl,Nat.lt_of_lt_of_le hgw hsz⟩
 ·cases k with
  |zero=>exact .inl rfl
  |succ k=>exact .inr rfl
theorem PX{w:World}{g n:Nat}{os:Array Obj}{cur:Array Value}{e:TypeId}{fr:Nat×Nat}(d:Array Int)(hb:w.heap[g]?=some (.cells cur e fr)):
  (grow (putRow (Value.int .i64) (Sort.ahead w n) g 0 d) os).heap[g]?=some (.cells (putCells (Value.int .i64) 0 d cur) e fr):=by
 have hg:g<w.heap.size:=(Array.getElem?_eq_some_iff.1 hb).1
 rw[heap_grow_old _ _ (by simpa using hg)]
 simp[putRow,mapBlock,Sort.ahead,Array.getElem?_modify,hb,onCells]
theorem NJ{w:World}{g n k:Nat}{os:Array Obj}(d:Array Int)(hk:k<w.heap.size)(hne:k≠g):(grow (putRow (Value.int .i64) (Sort.ahead w n) g 0 d) os).heap[k]?=w.heap[k]?:=by
 rw[heap_grow_old _ _ (by simpa using hk)]
 have:g≠k:=fun e=>hne e.symm
 simp[putRow,mapBlock,Sort.ahead,Array.getElem?_modify,this]
theorem NK{w:World}{g n:Nat}{cur:Array Value}{e:TypeId}{fr:Nat×Nat}(d:Array Int)(hb:w.heap[g]?=some (.cells cur e fr)):
  (putRow (Value.int .i64) (Sort.ahead w n) g 0 d).heap[g]?=some (.cells (putCells (Value.int .i64) 0 d cur) e fr):=by
 simp[putRow,mapBlock,Sort.ahead,Array.getElem?_modify,hb,onCells]
theorem LP{w:World}{g n k:Nat}(d:Array Int)(hne:k≠g):(putRow (Value.int .i64) (Sort.ahead w n) g 0 d).heap[k]?=w.heap[k]?:=by
 have:g≠k:=fun e=>hne e.symm
 simp[putRow,mapBlock,Sort.ahead,Array.getElem?_modify,this]
theorem JC(cur:Array Value)(ts:List Int)(k:Nat)(hk:k≤ts.length)(h:ts.length≤cur.size):(putCells (Value.int .i64) 0 ts.toArray cur).toList.take k=(ts.take k).map (Value.int .i64):=by
 apply List.ext_getElem?
 intro j
 by_cases hj:j<k
 ·rw[List.getElem?_take_of_lt hj,Array.getElem?_toList,List.getElem?_map,List.getElem?_take_of_lt hj]
  simp[putCells,show j<ts.length by omega,show j<cur.size by omega]
 ·rw[List.getElem?_take_eq_none (by omega),List.getElem?_eq_none (by simp;omega)]
theorem RZ{w:World}{g:Nat}{cur:Array Value}{e:TypeId}{ss:List Int}(hb:w.heap[g]?=some (.cells cur e (0,0)))(ht:cur.toList.take ss.length=ss.map (Value.int .i64)):Holds (Value.int .i64) w g 0 ss.toArray:=by
 intro j hj
 have hj':j<ss.length:=by simpa using hj
 refine⟨?_,by simp[World.frozen?,hb]⟩
 have h1:(cur.toList.take ss.length)[j]?=(ss.map (Value.int .i64))[j]?:=by rw[ht]
 rw[List.getElem?_take_of_lt hj'] at h1
 simp only[World.cell?,hb,Nat.zero_add]
 simp only[Option.isSome_none,Bool.false_eq_true,if_false]
 rw[←Array.getElem?_toList,h1]
 simp[hj']
variable {t:Fl Int} {l r:List Int}
theorem Pg(l:List Int):(l.map fun x=>[Value.int .i64 x]).flatten=l.map (Value.int .i64):=by
 induction l with
 |nil=>rfl
 |cons a l ih=>simp[List.flatten_cons,ih]
theorem Ny(L:Lays.n189 P ρ)(h1:t.sz=1)(he:∀u x,t.enc u x=[Value.int .i64 x])(ht:t.IW)(u0:t.Ad)(H:I1 l=some r)(hE:HF w w.W (mF [ow A c T t l])):
  Calls P (ρ.f 189) [.slice A l.length c].toArray w.W fun e W'=>∃u:Unit,e= .returned (.tuple #[])∧(r.length=l.length)∧HF w W' (mF [ow A c T t r]):=by
 unfold I1 at H
 split at H
 ·rename_i hlt
  have hr:=Option.some.inj H
  have hrl:r.length=l.length:=by rw[←hr,List.length_mergeSort]
  obtain⟨css,hal,hlen,hown⟩:=hE.ow (k:=0) rfl
  rcases hown with⟨ev,h0⟩|⟨g,cap',cur,ev,hb0,hh,hn,hc,hs,htk⟩
  ·have hl:l=[]:=List.eq_nil_of_length_eq_zero h0
   subst hl
   have hr0:r=[]:=List.eq_nil_of_length_eq_zero hrl
   subst hr0
   refine(Any.slices_Sort_int_none L A c w.W).mono fun e' W' ⟨h1,h2⟩=>?_
   subst h2
   exact⟨(),h1,rfl,hE⟩
  ·simp at ev
   obtain⟨rfl,rfl⟩:=ev
   have hcss:=Od he hal
   have htk':cur.toList.take l.length=l.map (Value.int .i64):=by rw[hcss,Pg,h1,Nat.mul_one] at htk;exact htk
   have hgw:g<w.W.heap.size:=(Array.getElem?_eq_some_iff.1 hh).1
   refine(Any.slices_Sort_int L g 0 c l w.W (RZ hh htk') hgw hlt).mono fun e' W' ⟨g1,n,os,g2⟩=>⟨(),g1,hrl,?_⟩
   rw[hr] at g2
   subst g2
   have hcs:r.length≤cur.size:=by rw[hs,hrl,h1];omega
   refine R3 hE (css:=r.map fun x=>[Value.int .i64 x]) hh hn hc hs (Nat.le_of_eq hrl) (PX _ hh) (by simp[putCells]) rfl rfl rfl (Nat.le_add_right _ _) (by simp) (fun b hb hne=>NJ _ hb hne) (Al.of_map (fun x=>⟨u0,ht _ _ _ _,(he u0 x).symm⟩) r) ?_
   rw[Pg,h1,Nat.mul_one,JC _ _ _ (Nat.le_refl _) hcs,List.take_length]
 ·cases H
theorem I9(L:Lays2.n20 P ρ)(h1:t.sz=1)(he:∀u x,t.enc u x=[Value.int .i64 x])(ht:t.IW)(u0:t.Ad)(H:WF l=some r)(hE:HF w w.W (mF [ow A c T t l])):
  Calls P (ρ.f 20) [.slice A l.length c].toArray w.W fun e W'=>∃u:(Option Addr×Nat),e= .returned (.slice u.1 r.length u.2)∧(fQ u.1 r.length u.2)∧HF w W' (mF [ow u.1 u.2 T t r]):=by
 have hr:=Option.some.inj H
 obtain⟨css,hal,hlen,hown⟩:=hE.ow (k:=0) rfl
 rcases hown with⟨h0,ev⟩|⟨g,cap',cur,ev,hb0,hh,hn,hc,hs,htk⟩
 ·have hl:l=[]:=List.eq_nil_of_length_eq_zero ev
  subst hl
  have hr0:r=[]:=by rw[←hr];rfl
  subst hr0
  refine(Any.slices_Compact_int_empty L A c w.W).mono fun e' W' ⟨g1,g2⟩=>?_
  subst g2
  have:A=none∧c=0:=by simpa using h0
  obtain⟨rfl,rfl⟩:=this
  exact⟨(none,0),g1,fP,hE⟩
 ·simp at ev
  obtain⟨rfl,rfl⟩:=ev
  have hcss:=Od he hal
  have htk':cur.toList.take l.length=l.map (Value.int .i64):=by rw[hcss,Pg,h1,Nat.mul_one] at htk;exact htk
  have hrl:r.length≤l.length:=by rw[←hr];exact Pp l
  refine(Any.slices_Compact_int L g 0 c l w.W (RZ hh htk') (Nat.le_trans hn hc) hn).mono fun e' W' ⟨g1,n,g2⟩=>⟨(some ⟨g,0,none⟩,c),by rw[g1,hr],⟨Nat.le_trans hrl hn,hc,fun _=>rfl⟩,?_⟩
  rw[hr] at g2
  subst g2
  have hfl:(r++List.replicate (l.length-r.length) (0:Int)).length=l.length:=by simp;omega
  refine R3 hE (css:=r.map fun x=>[Value.int .i64 x]) hh hn hc hs hrl (NK _ hh) (by simp[putCells]) rfl rfl rfl (Nat.le_add_right _ _) (by simp[putRow,mapBlock,Sort.ahead]) (fun b hb hne=>LP _ hne) (Al.of_map (fun x=>⟨u0,ht _ _ _ _,(he u0 x).symm⟩) r) ?_
  rw[Pg,h1,Nat.mul_one,JC _ _ _ (by omega) (by rw[hfl,hs,h1];omega),List.take_left]
end
open Go.RowKit
theorem Mq(zc:List Value):∀(n i:Nat),i<n*zc.length→((List.replicate n zc).flatten)[i]?=zc[i%zc.length]?
 |0,i,h=>by simp at h
 |n+1,i,h=>by
  rw[List.replicate_succ,List.flatten_cons]
  by_cases hi:i<zc.length
  ·rw[List.getElem?_append_left hi,Nat.mod_eq_of_lt hi]
  ·rw[List.getElem?_append_right (by omega),Mq zc n (i-zc.length) (by rw[Nat.succ_mul] at h;omega),←Nat.mod_eq_sub_mod (by omega)]
theorem D7(zc:List Value)(n:Nat):((List.replicate n zc).flatten).length=n*zc.length:=by
 induction n with
 |zero=>simp
 |succ n ih=>rw[List.replicate_succ,List.flatten_cons,List.length_append,ih,Nat.succ_mul,Nat.add_comm]
theorem zR(zc:List Value)(n:Nat):(Builtin.zeroCells zc.toArray n).toList=(List.replicate n zc).flatten:=by
 apply List.ext_getElem?
 intro i
 by_cases h:i<n*zc.length
 ·have hz:0<zc.length:=by
   rcases Nat.eq_zero_or_pos zc.length with e|e
   ·rw[e] at h;simp at h
   ·exact e
  rw[Mq zc n i h]
  unfold Builtin.zeroCells
  have hm:i%zc.length<zc.length:=Nat.mod_lt _ hz
  simp[h,hm]
 ·rw[List.getElem?_eq_none (by unfold Builtin.zeroCells;simp;omega),List.getElem?_eq_none (by rw[D7];omega)]
theorem Al.Xp{α β:Type}{R:α→β→Prop}{a:α}{b:β}(h:R a b):∀n:Nat,Al R (List.replicate n a) (List.replicate n b)
 |0=>.nil
 |n+1=>.cons h (Al.Xp h n)
def SK{α:Type}(l:List α)(lo:Int)(m:Nat)(z:α):List α:=l.take lo.toNat++List.replicate m z
theorem UW{α:Type}{l l':List α}{lo:Int}(z:α)(h:cut l lo l.length=some l'):(SK l lo l'.length z).length=l.length:=by
 have:=Ea h
 obtain⟨⟨h1,h2,_⟩,_⟩:=wH h
 unfold SK
 rw[List.length_append,List.length_take,List.length_replicate]
 omega
section
variable {P:Program} {w:Bs} {n:Nat} {f:Nat→Option Value} {E:Nat→kT} {Q:Exit→Act→World→Prop} {ops:Array Oper} {rest:List Oper}
variable {ty T:Nat} {pos:String} {af:Array Edge} {g:Option (Nat×Bool)} {p:Operand}
theorem MX{α:Type}(κ:Nat){A:Option Addr}{c e m:Nat}{lo:Int}{t:Fl α}{l l':List α}(z:α){zc:List Value}(hw:Wn ops f ⟨none,.call ⟨.builtin .clear,#[p],#[T]⟩,ty,pos,af,g⟩)(hp:ev f p=some (.slice (zb A lo.toNat t.sz c) l'.length (c-lo.toNat)))
  (hcut:Proofs.YtgijeiamflmkeaaGreatDoor.cut l lo l.length=some l') (hk:E κ=ow A c e t l) (hu:P.underlying T=some (.slice e)) (hz:zeroOf P e=some zc) (hzr:∃u,t.ok w.O w.W u z∧t.enc u z=zc) (h1:zc.all (·.oneCell')=true) (hm:l'.length=m)
  (K:Tr w n f (up E κ (ow A c e t (SK l lo m z))) (wpList P ops Q rest)):
  Tr w n f E (wpList P ops Q (⟨none,.call ⟨.builtin .clear,#[p],#[T]⟩,ty,pos,af,g⟩::rest)):=
 Tr.op hw fun a W k1 k2=>by
  subst hm
  unfold SK at K
  have hl:=Ea hcut
  obtain⟨⟨c1,c2,_⟩,_⟩:=wH hcut
  obtain⟨zu,hzok,hzenc⟩:=hzr
  have hzl:zc.length=t.sz:=by rw[←hzenc];exact t.len zu z
  have hlo:lo.toNat≤l.length:=by omega
  have hll:l'.length=l.length-lo.toNat:=by omega
  obtain⟨css,hal,hlen,hown⟩:=k2.ow hk
  unfold Oper.wp
  by_cases h0:l'.length=0
  ·have hrun:(execOp a.eval ⟨none,.call ⟨.builtin .clear,#[p],#[T]⟩,ty,pos,af,g⟩).run P W= .ok (.value (.tuple #[])) W:=by
    have hpe:=k1.ev hp
    rw[h0] at hpe
    cases hA:zb A lo.toNat t.sz c<;>rw[hA] at hpe<;>simp[execOp,resolve,invoke,builtin,hpe,Builtin.clear_,run_underlying hu]
   rw[hrun]
   have hE0:l.take lo.toNat++List.replicate l'.length z=l:=by rw[h0,List.take_of_length_le (by omega)];simp
   rw[hE0] at K
   simp only[Oper.upon]
   exact K _ W (by simpa[Act.put] using k1) (k2.weaken fun k=>by
    rcases nE E κ (ow A c e t l) k with⟨h1,h2⟩|⟨_,h2⟩<;>rw[h2]
    ·subst h1;exact .inl hk.symm
    ·exact .inl rfl)
  rcases hown with⟨ev,hz0⟩|⟨gg,cap',cur,ev,hb0,hh,hn,hc,hs,htk⟩
  ·omega
  ·simp at ev
   obtain⟨rfl,rfl⟩:=ev
   have hgw:gg<W.heap.size:=(Array.getElem?_eq_some_iff.1 hh).1
   have hAd:zb (some ⟨gg,0,none⟩) lo.toNat t.sz c=some ⟨gg,lo.toNat*t.sz,none⟩:=by
    unfold zb
    rw[if_neg (by omega)]
    simp[Addr.add_lit]
   have hpe:=k1.ev hp
   rw[hAd] at hpe
   have hzv:∃zv,(zeroValue e).run P W= .ok zv W∧zv.cells=zc.toArray:=GJ hz
   obtain⟨zv,hz1,hz2⟩:=hzv
   have hcur:l.length*t.sz≤cur.size:=by rw[hs];exact Nat.mul_le_mul_right _ hn
   have hct:cur.toList.length=cur.size:=Array.length_toList
   have hfl:((List.replicate l'.length zc).flatten).length=l'.length*t.sz:=by rw[D7,hzl]
   have hsum:lo.toNat*t.sz+l'.length*t.sz=l.length*t.sz:=by rw[←Nat.add_mul];congr 1;omega
   have hst:=run_storeCells_at P gg (lo.toNat*t.sz) e (List.replicate l'.length zc).flatten 0 cur W hh (by rw[hfl];omega) (fun v hv=>by
    obtain⟨x,hx,hv⟩:=List.mem_flatten.1 hv
    rw[List.eq_of_mem_replicate hx] at hv
    exact List.all_eq_true.1 h1 v hv)
   rw[←zR,Nat.add_zero,←hz2] at hst
   have hrun:(execOp a.eval ⟨none,.call ⟨.builtin .clear,#[p],#[T]⟩,ty,pos,af,g⟩).run P W= .ok (.value (.tuple #[])) (W.setRow gg (cur.toList.take (lo.toNat*t.sz)++(Builtin.zeroCells zv.cells l'.length).toList++cur.toList.drop (lo.toNat*t.sz+(Builtin.zeroCells zv.cells l'.length).toList.length)).toArray):=by
    obtain⟨m',hm'⟩:∃m',l'.length=m'+1:=⟨l'.length-1,by omega⟩
    rw[hm'] at hpe hst ⊢
    simp[execOp,resolve,invoke,builtin,hpe,Builtin.clear_,run_underlying hu,hz1,hst]
   rw[hrun]
   simp only[Oper.upon]
   rw[hz2,zR,hfl]
   refine K _ _ (by simpa[Act.put] using k1) ?_
   have hgO:¬w.R gg:=(k2.bd κ gg (by rw[hk];rfl)).1
   have hne:∀vs,∀b,b≠gg→(W.setRow gg vs).heap[b]?=W.heap[b]?:=fun vs b hb=>by
    simp only[World.setRow,Array.getElem?_modify]
    rw[if_neg (fun e=>hb e.symm)]
   refine k2.mod κ (Proofs.YtgijeiamflmkeaaGreatDoor.ow (some ⟨gg,0,none⟩) c e t (l.take lo.toNat++List.replicate l'.length z)) rfl rfl rfl (by simp[World.setRow]) (Nat.le_refl _) (fun b hb hsb=>hne _ b (fun e=>hsb (by rw[hk,e];rfl))) (xH _ _ _ _ _) ?_ (fun b hb=>?_)
   ·have hrz:rp t w.O W zc z:=⟨zu,t.loc hzok (fun _ hb=>hb) (fun b hb=>k2.keep b (.inl hb)),hzenc.symm⟩
    have hal':=(hal.take lo.toNat).append (Al.Xp hrz l'.length)
    have hlen':(l.take lo.toNat++List.replicate l'.length z).length=l.length:=by simp;omega
    refine⟨css.take lo.toNat++List.replicate l'.length zc,hal'.mono (fun _ _ hr=>hr.loc (fun _ hb=>hb) (fun b hb=>hne _ b (fun e=>hgO (.inl (e▸hb))))),by rw[sD hal'],.inr ⟨gg,c,_,by rw[hlen'],Nat.zero_le _,setRow_heap W gg cur _ e _ hh,by rw[hlen'];exact hn,hc,?_,?_⟩⟩
    ·rw[List.size_toArray,List.length_append,List.length_append,List.length_take,List.length_drop,Array.length_toList,hfl];omega
    ·rw[hlen',List.flatten_append,JN hal,←htk,List.take_take,Nat.min_eq_left (by omega)]
     show List.take (l.length*t.sz) (cur.toList.take (lo.toNat*t.sz)++(List.replicate l'.length zc).flatten++cur.toList.drop (lo.toNat*t.sz+l'.length*t.sz))=_
     rw[List.take_append_of_le_length (by rw[List.length_append,List.length_take,hct,hfl];omega),List.take_of_length_le (by rw[List.length_append,List.length_take,hct,hfl];omega)]
   ·have hb:(Value.slice (some ⟨gg,0,none⟩) (l.take lo.toNat++List.replicate l'.length z).length c).ownBlock=some b:=hb
    simp[Value.ownBlock] at hb
    subst hb
    exact⟨.inl (by rw[hk];rfl),by simp[World.setRow];exact hgw⟩
end
open Go.RowKit
abbrev iv(n:Int):Value:=.int .i64 n
abbrev sv(s:ByteArray):Value:=.string s
abbrev bV(b:Bool):Value:=.bool b
abbrev pV(b:Nat):Value:=.pointer (some ⟨b,0,none⟩)
abbrev sL{α:Type}(A:Option Addr)(l:List α)(c:Nat):Value:=.slice A l.length c
theorem oI{α:Type}{a b:α}(h:some a=some b):a=b:=Option.some.inj h
section
variable {P:Program} {w:Bs} {n:Nat} {ops:Array Oper} {f:Nat→Option Value} {E:Nat→kT} {Q:Exit→Act→World→Prop} {X:Act→World→Prop} {rest:List Oper} {d ty:Nat} {pos:String} {af:Array Edge} {p:Operand} {v:Value} {x y:Code} {id:Nat} {l:List Oper} {op:Op}
theorem aC(hdn:Nat.blt d n=true)(hr:∀a W,FR n f a→HF w W E→(execOp a.eval ⟨some d,op,ty,pos,af,none⟩).run P W= .ok (.value v) W)(k:Tr w n (uf f d v) E (wpList P ops Q rest)):Tr w n f E (wpList P ops Q (⟨some d,op,ty,pos,af,none⟩::rest)):=Tr.val (wn rfl) hdn hr k
theorem bL(hdn:Nat.blt d n=true)(hr:∀a W,FR n f a→HF w W E→(execOp a.eval ⟨some d,op,ty,pos,af,none⟩).run P W= .ok (.value v) W)(k:Tq P w n ops (uf f d v) E X rest):Tq P w n ops f E X (⟨some d,op,ty,pos,af,none⟩::rest):=Tq.val (wn rfl) hdn hr k
theorem X6(hdn:Nat.blt d n=true)(hp:ev f p=some v)(k:Tr w n (uf f d v) E (wpList P ops Q rest)):Tr w n f E (wpList P ops Q (⟨some d,.move p,ty,pos,af,none⟩::rest)):=aC hdn (fun _ _ h1 _=>run_move (h1.ev hp)) k
theorem WW(hdn:Nat.blt d n=true)(hp:ev f p=some v)(k:Tr w n (uf f d v) E (wpList P ops Q rest)):Tr w n f E (wpList P ops Q (⟨some d,.assign p,ty,pos,af,none⟩::rest)):=aC hdn (fun _ _ h1 _=>run_assign (h1.ev hp)) k
theorem X7(hdn:Nat.blt d n=true)(hp:ev f p=some v)(k:Tq P w n ops (uf f d v) E X rest):Tq P w n ops f E X (⟨some d,.move p,ty,pos,af,none⟩::rest):=bL hdn (fun _ _ h1 _=>run_move (h1.ev hp)) k
theorem jB(hdn:Nat.blt d n=true)(hp:ev f p=some v)(k:Tq P w n ops (uf f d v) E X rest):Tq P w n ops f E X (⟨some d,.assign p,ty,pos,af,none⟩::rest):=bL hdn (fun _ _ h1 _=>run_assign (h1.ev hp)) k
theorem aj(h:Tr w n f E (wpList P l.toArray (Exit.then (y.wp P Q) Q) l)):Tr w n f E ((Code.seq (Code.region id l.toArray false) y).wp P Q):=az (aV h)
end
open Go.RowKit
structure Xa (α:Type) where
 Ad:Type
 sz:Nat
 enc:Ad→α→List Value
 okb:(Nat→Prop)→World→Ad→α→Prop
 ua:Ad→Option Addr×Nat
 sub:α→List α
 len:∀u x,(enc u x).length=sz
 one:∀u x,∀v∈enc u x,v.oneCell'=true
 loc:∀{S S':Nat→Prop} {W W':World} {u:Ad} {x:α},okb S W u x→(∀b,S b→S' b)→(∀b,S b→W'.heap[b]?=W.heap[b]?)→okb S' W' u x
namespace Xa
def TK{α:Type}(F:Xa α):Nat→(Nat→Prop)→World→F.Ad→α→Prop
 |0,_,_,_,_=>False
 |k+1,S,W,u,x=>F.okb S W u x∧fQ (F.ua u).1 (F.sub x).length (F.ua u).2∧∀(i:Nat) (y:α),(F.sub x)[i]?=some y→S (rM (F.ua u).1)∧∃v,TK F k S W v y∧aI W (rM (F.ua u).1) (vJ (F.ua u).1+i*F.sz) (F.enc v y)
variable {α:Type} (F:Xa α) {S S':Nat→Prop} {W W':World} {u:F.Ad} {x:α}
theorem OP:∀(k:Nat) {u:F.Ad} {x:α},F.TK k S W u x→(∀b,S b→S' b)→(∀b,S b→W'.heap[b]?=W.heap[b]?)→F.TK k S' W' u x
 |0,_,_,h,_,_=>h.elim
 | k+1,_,_,h,hs,hb=>⟨F.loc h.1 hs hb,h.2.1,fun i y hy=>by
   obtain⟨h1,v,h2,h3⟩:=h.2.2 i y hy
   exact⟨hs _ h1,v,OP k h2 hs hb,h3.loc (hb _ h1)⟩⟩
theorem LU:∀(k:Nat) {u:F.Ad} {x:α},F.TK k S W u x→F.TK (k+1) S W u x
 |0,_,_,h=>h.elim
 | k+1,_,_,h=>⟨h.1,h.2.1,fun i y hy=>by
   obtain⟨h1,v,h2,h3⟩:=h.2.2 i y hy
   exact⟨h1,v,LU k h2,h3⟩⟩
theorem LV{k k':Nat}(hk:k≤k'){u:F.Ad}{x:α}(h:F.TK k S W u x):F.TK k' S W u x:=by
 induction hk with
 |refl=>exact h
 |step _ ih=>exact F.LU _ ih
def fix:Fl α where
 Ad:=F.Ad
 sz:=F.sz
 enc:=F.enc
 ok S W u x:=∃k,F.TK k S W u x
 len:=F.len
 one:=F.one
 loc h hs hb:=by obtain⟨k,h⟩:=h;exact⟨k,F.OP k h hs hb⟩
theorem Wx:F.fix.ok S W u x↔F.okb S W u x∧Sl S W F.fix (F.ua u).1 (F.ua u).2 (F.sub x):=by
 constructor
 ·rintro⟨k,h⟩
  cases k with
  |zero=>exact h.elim
  |succ k=>
   refine⟨h.1,h.2.1,fun i y hy=>?_⟩
   obtain⟨h1,v,h2,h3⟩:=h.2.2 i y hy
   exact⟨h1,v,⟨k,h2⟩,h3⟩
 ·rintro⟨h,hf,hc⟩
  have key:∀(l:List α) (o:Nat),(∀(i:Nat) (y:α),l[i]?=some y→S (rM (F.ua u).1)∧∃v,(∃k,F.TK k S W v y)∧aI W (rM (F.ua u).1) (o+i*F.sz) (F.enc v y))→
    ∃k,∀(i:Nat) (y:α),l[i]?=some y→S (rM (F.ua u).1)∧∃v,F.TK k S W v y∧aI W (rM (F.ua u).1) (o+i*F.sz) (F.enc v y):=by
   intro l
   induction l with
   |nil=>intro o _;exact⟨0,fun i y h=>by simp at h⟩
   | cons z l ih=>
    intro o hl
    obtain⟨k1,hk1⟩:=ih (o+F.sz) (fun i y hy=>by
     have:=hl (i+1) y (by simpa using hy)
     rwa [show o+(i+1)*F.sz=o+F.sz+i*F.sz by rw[Nat.succ_mul];omega] at this)
    obtain⟨h1,v,⟨k2,h2⟩,h3⟩:=hl 0 z rfl
    refine⟨max k1 k2,fun i y hy=>?_⟩
    cases i with
    |zero=>
     simp at hy;subst hy
     exact⟨h1,v,F.LV (Nat.le_max_right _ _) h2,h3⟩
    |succ i=>
     obtain⟨g1,v',g2,g3⟩:=hk1 i y (by simpa using hy)
     refine⟨g1,v',F.LV (Nat.le_max_left _ _) g2,?_⟩
     rwa [show o+(i+1)*F.sz=o+F.sz+i*F.sz by rw[Nat.succ_mul];omega]
  obtain⟨k,hk⟩:=key (F.sub x) (vJ (F.ua u).1) hc
  exact⟨k+1,h,hf,hk⟩
end Xa
open Go.RowKit Go.Proofs Go.Shelf Go.Sort
def U8(P:Program)(w:Bs):Prop:=∃g,P.globals.findIdx? (·.name== "internal/bytealg.MaxLen")=some g∧w.R g∧∃m,w.W.cell? ⟨g,0,none⟩=some (.int .i64 m)
def X8(P:Program)(w:Bs):Prop:=∃g,P.globalNamed "internal/strconv.uint64pow10" =some g∧w.R g∧Lib.TabIs P w.W "internal/strconv.uint64pow10" .u64 Lib.pow10Tab
def Nj(P:Program)(w:Bs):Prop:=X8 P w∧U8 P w
section
variable {P:Program} {ρ:Ren} {w w':Bs}
theorem Nj.ext(h:Nj P w)(e:w.Ext w'):Nj P w':=by
 obtain⟨⟨g,h1,h2,h3⟩,g',k1,k2,m,k3⟩:=h
 refine⟨⟨g,h1,e.r g h2,?_⟩,g',k1,e.r g' k2,m,?_⟩
 ·unfold Lib.TabIs World.var? at h3 ⊢
  rw[h1] at h3 ⊢
  simp only[ob] at h3 ⊢
  rw[e.blk g h2];exact h3
 ·unfold World.cell? at k3 ⊢
  rw[e.blk g' k2];exact k3
def L9(n:Int):Option ByteArray:=if -9223372036854775808≤n∧n≤9223372036854775807 then some ⟨(Lib.itoa n).toArray⟩ else none
theorem NT(L:LaysM.n171 P ρ)(hT:Nj P w){n:Int}{r:ByteArray}(H:L9 n=some r)(hE:HF w w.W E0):
  Calls P (ρ.f 171) [.int .i64 n].toArray w.W fun e W'=>e= .returned (.string r)∧HF w W' E0:=by
 unfold L9 at H
 split at H
 case isFalse=>cases H
 rename_i hn
 have hr:=Option.some.inj H
 subst hr
 obtain⟨⟨g,_,_,h3⟩,_⟩:=hT
 exact(Any.strconv_Itoa L n hn.1 hn.2 w.W h3).mono fun e W' ⟨h1,k,os,h2⟩=>⟨h1,hE.later (by
  subst h2
  exact⟨rfl,rfl,rfl,by simp[grow,World.drewN],fun b hb=>heap_grow_old _ _ (by simpa[World.drewN] using hb),(by first|exact Nat.le_add_right _ _|exact Nat.le_refl 0)⟩)⟩
end
open Go.RowKit
def Raw{α:Type}(t:Fl α):Type:={cs:List Value // cs.length=t.sz∧cs.all (·.oneCell')=true}
section
variable {α:Type} {t:Fl α} {l:List α} {i:Nat} {cs:Raw t} {O:Nat→Prop} {W:World} {w:Bs} {n:Nat} {f:Nat→Option Value} {E:Nat→kT} {X:Act→World→Prop} {A:Option Addr} {c T:Nat}
end
section
variable {α:Type} {P:Program} {w:Bs} {n:Nat} {f:Nat→Option Value} {E:Nat→kT} {Q:Exit→Act→World→Prop} {ops:Array Oper} {rest:List Oper} {ty T:Nat} {pos:String} {af:Array Edge} {g:Option (Nat×Bool)} {p q:Operand} {v:Value}
theorem cu{ρ:Operand→Value}{W:World}{d:Option Tmp}{a:Addr}(hp:ρ p= .pointer (some a)):(execOp ρ ⟨d,.nilCheck p,ty,pos,af,g⟩).run P W= .ok (.value (.pointer (some a))) W:=by
 simp[execOp,hp]
end
end Go.Proofs.YtgijeiamflmkeaaGreatDoor
set_option linter.unusedVariables false
namespace Go.Proofs.YtgijeiamflmkeaaGreatDoor
open Go.RowKit Go.Proofs Go.Shelf
def sb(T e b:Nat)(A:Option Addr)(c:Nat)(s:ByteArray):kT:=
 ⟨fun x=>x=b∨(Value.slice A s.size c).ownBlock=some x,fun _ W=>∃p,(p= .pointer none∨p= .pointer (some ⟨b,0,none⟩))∧Lib.BuilderAtF T e 0 b p (Lib.strCells s) W∧W.heap[b]?=some (.cells #[p,.slice A s.size c] T (0,0))∧∀x,(Value.slice A s.size c).ownBlock=some x→x<W.heap.size⟩
section
variable {P:Program} {ρ:Ren} {w:Bs} {A:Option Addr} {c b:Nat} {s x:ByteArray}
end
open Go.RowKit Go.Proofs Go.Shelf Go.Sort
def EK(s sep:ByteArray):Option (List ByteArray):=if s.size<4294967281∧1≤sep.size then some (Lib.splitB sep 0 (Lib.countB s sep) s) else none
section
variable {P:Program} {ρ:Ren} {w:Bs}
theorem U8.at_(h:U8 P w)(hg:P.globals.findIdx? (·.name== "internal/bytealg.MaxLen")=some (ρ.g 1)):∃m,w.W.cell? ⟨(ρ.g 1),0,none⟩=some (.int .i64 m):=by
 obtain⟨g,h1,_,m,h2⟩:=h
 rw[hg] at h1
 obtain rfl:=Option.some.inj h1
 exact⟨m,h2⟩
theorem Lr(L:Lays.n146 P ρ)(hT:Nj P w)(hg:P.globals.findIdx? (·.name== "internal/bytealg.MaxLen")=some (ρ.g 1)){t:Fl ByteArray}(hsz:t.sz=1)(he:∀u x,t.enc u x=[.string x])(u0:t.Ad)(htr:t.IW)
  (hi9:(P.info? (ρ.t 9)).map (fun i=>(i.zero,i.size,i.bytes))=some (some (.string ByteArray.empty),1,16)) {s sep:ByteArray} {r:List ByteArray} (H:EK s sep=some r) (hE:HF w w.W (mF [emp])):
  Calls P (ρ.f 146) [.string s,.string sep].toArray w.W fun e W'=>∃u:(Option Addr×Nat),e= .returned (.slice u.1 r.length u.2)∧(fQ u.1 r.length u.2)∧HF w W' (mF [ow u.1 u.2 (ρ.t 9) t r]):=by
 unfold EK at H
 split at H
 case isFalse=>cases H
 rename_i hs
 have hr:=Option.some.inj H
 obtain⟨m,hm⟩:=hT.2.at_ hg
 have hlen:=Lib.splitB_all sep hs.2 0 _ s rfl
 have hle:=Lib.countB_le sep hs.2 s.size s (Nat.le_refl _)
 rw[hr] at hlen
 have hmax:r.length≤maxLen:=by unfold maxLen;omega
 have hall:∀O W,Al (rp t O W) (r.map fun x=>[Value.string x]) r:=fun O W=>by
  have:∀l:List ByteArray,Al (rp t O W) (l.map fun x=>[Value.string x]) l:=fun l=>by
   induction l with
   |nil=>exact .nil
   |cons x l ih=>exact .cons ⟨u0,htr _ _ _ _,(he _ _).symm⟩ ih
  exact this r
 have hfl:(r.map fun x=>[Value.string x]).flatten=r.map Value.string:=by
  have:∀l:List ByteArray,(l.map fun x=>[Value.string x]).flatten=l.map Value.string:=fun l=>by
   induction l with
   |nil=>rfl
   |cons x l ih=>simp only[List.map_cons,List.flatten_cons,ih];rfl
  exact this r
 have c:=Any.strings_Split L hi9 s sep m w.W hs.1 hm hs.2
 rw[hr,←hlen] at c
 refine c.mono fun e W' ⟨h1,h2⟩=>⟨(some ⟨w.W.heap.size,0,none⟩,r.length),h1,⟨Nat.le_refl _,hmax,fun _=>rfl⟩,?_⟩
 subst h2
 refine(hE.mod (W':=w.W.alloc (.cells (r.map Value.string).toArray (ρ.t 9))) 0 (ow (some ⟨w.W.heap.size,0,none⟩) r.length (ρ.t 9) t r) rfl rfl rfl (by simp) (by first|exact Nat.le_refl _|exact Nat.le_refl 0) (fun b hb _=>?_) (xH _ _ _ _ _) ?_ (fun b hb=>?_)).weaken (fun k=>?_)
 ·exact((Proofs.YtgijeiamflmkeaaGreatDoor.Below.refl _ _).alloc (Nat.le_refl _) _).block b hb
 ·refine⟨r.map fun x=>[Value.string x],hall _ _,by rw[hfl,hsz];simp,.inr ⟨w.W.heap.size,r.length,(r.map Value.string).toArray,rfl,Nat.zero_le _,heap_alloc_new _ _,Nat.le_refl _,hmax,by rw[hsz];simp,?_⟩⟩
  rw[hfl,hsz,Nat.mul_one]
  exact List.take_of_length_le (by simp)
 ·have hb:(Value.slice (some ⟨w.W.heap.size,0,none⟩) r.length r.length).ownBlock=some b:=hb
  simp[Value.ownBlock] at hb
  subst hb
  exact⟨.inr (Nat.le_refl _),by simp⟩
 ·cases k with
  |zero=>exact .inl rfl
  |succ k=>exact .inr rfl
end
open Go.RowKit Go.Proofs
open Go.ChangeMaps Go.MapKept
open Go.Maps (Keyed int_keyed keyOf_int_mk)
section
variable {P:Program} {w:Bs} {n:Nat} {f:Nat→Option Value} {E:Nat→kT} {X:Act→World→Prop} {Q:Exit→Act→World→Prop} {ops:Array Oper} {rest:List Oper}
variable {d ty T MT KT VT:Nat} {pos:String} {af:Array Edge} {g:Option (Nat×Bool)} {p q x:Operand} {b:Nat}
end
open Go.RowKit Go.Proofs Go.Shelf
open Go.ChangeMaps Go.MapKept
open Go.Maps (Keyed string_keyed)
section words
def Ja(a b:ByteArray):Option Int:=some (Lib.compareBytes a.data.toList b.data.toList)
def Ul(s:ByteArray)(c:Int):Option Int:=some (Lib.indexByte s.data.toList c.toNat.toUInt8)
def uO(x:Int):Option Int:=if 0≤x∧x≤9223372036854775807 then some x else none
variable {κ:Type} [DecidableEq κ]
end words
def JH(W:World)(b:Nat)(kv:List (Value×Value)):Prop:=∃es clock,W.heap[b]?=some (.map es clock)∧Stamped es clock∧es.toList.map (fun x=>(x.key,x.val))=kv
theorem P7{W W':World}{b:Nat}{kv:List (Value×Value)}(h:W'.heap[b]?=W.heap[b]?)(hp:JH W b kv):JH W' b kv:=by
 obtain⟨es,clock,h1,h2⟩:=hp
 exact⟨es,clock,h.trans h1,h2⟩
structure Qm (P:Program) (KT:Nat) {κ:Type} (enc:κ→Value) (ok:κ→Bool):Prop where
 kd:Keyed P KT
 key:∀k,ok k=true→∃l,keyOf P KT (enc k)=some l
 inj:∀a b,enc a=enc b→a=b
def wD(s:ByteArray):Bool:=decide (s.size≤4294967296)
def encS(s:ByteArray):Value:=.string s
theorem Uk{P:Program}{KT:Nat}(h:P.underlying KT=some .string):Qm P KT encS wD:=
 ⟨string_keyed h,fun k hk=>by
  have:k.size≤maxLen:=by have:=of_decide_eq_true hk;unfold maxLen;omega
  exact⟨.string k.data.toList,by simp[keyOf,h,mapKey,encS,this]⟩,fun a b h=>by simpa[encS] using h⟩
section
variable {P:Program} {w:Bs} {n:Nat} {f:Nat→Option Value} {E:Nat→kT} {X:Act→World→Prop} {Q:Exit→Act→World→Prop} {ops:Array Oper} {rest:List Oper}
variable {d ty T MT KT VT:Nat} {pos:String} {af:Array Edge} {g:Option (Nat×Bool)} {p q x:Operand} {b:Nat} {κ:Type} [DecidableEq κ] {enc:κ→Value} {ok:κ→Bool} {ρ:Ren}
theorem Qe(L:Lays.n106 P ρ){a b:ByteArray}{r:Int}(H:Ja a b=some r)(hE:HF w w.W E0):Calls P (ρ.f 106) [.string a,.string b].toArray w.W fun e W'=>e= .returned (.int .i64 r)∧HF w W' E0:=by
 have hr:=Option.some.inj H
 subst hr
 exact(Any.strings_Compare L a b w.W).mono fun e W' ⟨h1,h2⟩=>⟨h1,by rw[h2];exact hE⟩
theorem P9(L:Lays.n137 P ρ){s:ByteArray}{c:Int}{r:Int}(H:Ul s c=some r)(hE:HF w w.W E0):Calls P (ρ.f 137) [.string s,.int .u8 c].toArray w.W fun e W'=>e= .returned (.int .i64 r)∧HF w W' E0:=by
 have hr:=Option.some.inj H
 subst hr
 exact(Any.strings_IndexByte L s c w.W).mono fun e W' ⟨h1,h2⟩=>⟨h1,by rw[h2];exact hE⟩
theorem Di{ρ:Operand→Value}{W:World}{dd:Option Nat}{S D:Nat}{x v:Int}(hS:P.underlying S=some (.int .i64))(hD:P.underlying D=some (.int .u64))(hp:ρ p= .int .i64 x)(hx:uO x=some v):(execOp ρ ⟨dd,.convert S D p,ty,pos,af,g⟩).run P W= .ok (.value (.int .u64 v)) W:=by
 unfold uO at hx
 split at hx
 ·rename_i hr
  have:=Option.some.inj hx
  subst this
  have hw:IntKind.wrap .u64 x=x:=by
   have e1:IntKind.wrap .u64 x=x.emod (2^64):=by rfl
   rw[e1];exact Int.emod_eq_of_lt hr.1 (by omega)
  simp[execOp,hp,convert,run_underlying hS,run_underlying hD,Conv.intToInt,hw,Result.andThen]
 ·cases hx
theorem Dj{ρ:Operand→Value}{W:World}{dd:Option Nat}{S D:Nat}{x v:Int}(hS:P.underlying S=some (.int .u64))(hD:P.underlying D=some (.int .i64))(hp:ρ p= .int .u64 x)(hx:uO x=some v):(execOp ρ ⟨dd,.convert S D p,ty,pos,af,g⟩).run P W= .ok (.value (.int .i64 v)) W:=by
 unfold uO at hx
 split at hx
 ·rename_i hr
  have:=Option.some.inj hx
  subst this
  have hw:IntKind.wrap .i64 x=x:=IntWalk.i64_in _ ⟨by omega,by omega⟩
  simp[execOp,hp,convert,run_underlying hS,run_underlying hD,Conv.intToInt,hw,Result.andThen]
 ·cases hx
theorem z8{ρ:Operand→Value}{W:World}{dd:Option Nat}{S D:Nat}{x:Int}{k:IntKind}(hp:ρ p= .int .u64 x)(hq:ρ q= .int k 1):(execOp ρ ⟨dd,.binOp .shr S p q D,ty,pos,af,g⟩).run P W= .ok (.value (.int .u64 (x / 2))) W:=by
 have h1:Op.shift .shr .u64 x k 1=pure (.int .u64 (x / 2^(1:Int).toNat)):=shift_shr .u64 k x 1 (by decide) (by decide)
 have h2:(2:Int)^(1:Int).toNat=2:=by decide
 rw[h2] at h1
 simp[execOp,go_sem,hp,hq,binOp,h1,Result.andThen]
omit [DecidableEq κ] in
theorem GL{W:World}{kvs:List (Value×Value)}{k:κ}{val:Value}(hMT:P.underlying MT=some (.map KT VT))(K:Qm P KT enc ok)(hr:ok k=true)(hb:JH W b kvs)(hkeys:∀p∈kvs,∃k',p.1=enc k'∧ok k'=true):
  ∃W',(Instr.mapUpdate MT (.map (some b)) (enc k) val).run P W= .ok () W'∧W'.os=W.os∧W'.tape=W.tape∧W'.output=W.output∧W'.heap.size=W.heap.size∧W'.drawn=W.drawn∧(∀x,x≠b→W'.heap[x]?=W.heap[x]?)∧
   (((∀p∈kvs,p.1≠enc k)∧JH W' b (kvs++[(enc k,val)]))∨∃j v,kvs[j]?=some (enc k,v)∧JH W' b (kvs.set j (enc k,val))):=by
 obtain⟨es,clock,hb,hst,rfl⟩:=hb
 obtain⟨kl,hkey⟩:=K.key k hr
 have hks:∀e∈es.toList,∃l,keyOf P KT e.key=some l:=fun e he=>by
  obtain⟨k',h1,h2⟩:=hkeys (e.key,e.val) (List.mem_map_of_mem (f:=fun x:MapEntry=>(x.key,x.val)) he)
  simp only at h1
  rw[h1];exact K.key k' h2
 rcases K.kd.find W hkey es.toList hks with⟨f1,f2⟩|⟨j,e0,f1,f2,f3⟩
 ·refine⟨setBlock W b (.map (es.push ⟨enc k,val,clock⟩) (clock+1)),?_,rfl,rfl,rfl,by simp[setBlock],rfl,fun x hx=>heap_setBlock_other hb _ hx,.inl ⟨fun p hp=>?_,?_⟩⟩
  ·simp[Instr.mapUpdate,run_underlying hMT,MapKept.run_getObj_map hb,K.kd.check W false hkey,f1,MapKept.run_setObj_map _ hb,Result.andThen,setBlock]
  ·obtain⟨x,hx,rfl⟩:=List.mem_map.1 hp
   exact f2 x hx
  ·exact⟨_,_,heap_setBlock_same hb _,stamped_push hst f2,by simp⟩
 ·have hj:es[j]?=some e0:=by simpa using f2
  have hlist:(es.modify j (fun e'=>{e' with key:=enc k,val:=val})).toList=es.toList.set j {e0 with key:=enc k,val:=val}:=by rw[Array.toList_modify,modify_eq_set _ _ _ _ f2]
  refine⟨setBlock W b (.map (es.modify j fun e'=>{e' with key:=enc k,val:=val}) clock),?_,rfl,rfl,rfl,by simp[setBlock],rfl,fun x hx=>heap_setBlock_other hb _ hx,.inr ⟨j,e0.val,?_,?_⟩⟩
  ·simp[Instr.mapUpdate,run_underlying hMT,MapKept.run_getObj_map hb,K.kd.check W false hkey,f1,hj,f3,K.kd.stays W hkey,MapKept.run_setObj_map _ hb,Result.andThen,setBlock]
  ·rw[List.getElem?_map,f2,Option.map_some,f3]
  ·exact⟨_,_,heap_setBlock_same hb _,stamped_modify hst j _ (fun _ _=>rfl) (fun e _ he=>by rw[hj] at he;rw[←Option.some.inj he,f3]),by rw[hlist,List.map_set]⟩
end
section words
variable {κ:Type} [DecidableEq κ]
end words
open Go.RowKit
section
variable {P:Program} {w:Bs} {n:Nat} {ops:Array Oper} {f:Nat→Option Value} {E:Nat→kT} {Q:Exit→Act→World→Prop} {X:Act→World→Prop} {rest:List Oper} {d ty:Nat} {pos:String} {af:Array Edge} {p q:Operand} {u v z:Value} {op:Op} {g:Option (Nat×Bool)}
theorem AV.r:∀{l:List (Nat×Value)},l.map (fun p=>f p.1)=l.map (fun p=>some p.2)→AV f l
 |[],_=>trivial
 |_::_,h=>⟨(List.cons.inj h).1,AV.r (List.cons.inj h).2⟩
theorem zI.r:∀{l:List (Nat×kT)},l.map (fun p=>E p.1)=l.map (fun p=>p.2)→zI E l
 |[],_=>trivial
 |_::_,h=>⟨(List.cons.inj h).1,zI.r (List.cons.inj h).2⟩
theorem Tr.w1(hw:Wn ops f ⟨some d,op,ty,pos,af,g⟩)(hdn:Nat.blt d n=true)(hr:∀{ρ:Operand→Value} {W:World},ρ p=u→(execOp ρ ⟨some d,op,ty,pos,af,g⟩).run P W= .ok (.value v) W)(hp:ev f p=some u)(k:Tr w n (uf f d v) E (wpList P ops Q rest)):Tr w n f E (wpList P ops Q (⟨some d,op,ty,pos,af,g⟩::rest)):=
 Tr.val hw hdn (fun _ _ h1 _=>hr (h1.ev hp)) k
theorem PG(hw:Wn ops f ⟨some d,op,ty,pos,af,g⟩)(hdn:Nat.blt d n=true)(hr:∀{ρ:Operand→Value} {W:World},ρ p=u→ρ q=z→(execOp ρ ⟨some d,op,ty,pos,af,g⟩).run P W= .ok (.value v) W)(hp:ev f p=some u)(hq:ev f q=some z)(k:Tr w n (uf f d v) E (wpList P ops Q rest)):Tr w n f E (wpList P ops Q (⟨some d,op,ty,pos,af,g⟩::rest)):=
 Tr.val hw hdn (fun _ _ h1 _=>hr (h1.ev hp) (h1.ev hq)) k
theorem Tq.w1(hw:Wn ops f ⟨some d,op,ty,pos,af,g⟩)(hdn:Nat.blt d n=true)(hr:∀{ρ:Operand→Value} {W:World},ρ p=u→(execOp ρ ⟨some d,op,ty,pos,af,g⟩).run P W= .ok (.value v) W)(hp:ev f p=some u)(k:Tq P w n ops (uf f d v) E X rest):Tq P w n ops f E X (⟨some d,op,ty,pos,af,g⟩::rest):=
 Tq.val hw hdn (fun _ _ h1 _=>hr (h1.ev hp)) k
theorem Tx(hw:Wn ops f ⟨some d,op,ty,pos,af,g⟩)(hdn:Nat.blt d n=true)(hr:∀{ρ:Operand→Value} {W:World},ρ p=u→ρ q=z→(execOp ρ ⟨some d,op,ty,pos,af,g⟩).run P W= .ok (.value v) W)(hp:ev f p=some u)(hq:ev f q=some z)(k:Tq P w n ops (uf f d v) E X rest):Tq P w n ops f E X (⟨some d,op,ty,pos,af,g⟩::rest):=
 Tq.val hw hdn (fun _ _ h1 _=>hr (h1.ev hp) (h1.ev hq)) k
theorem aA(hp:ev f p=some v)(k:Tr w n (uf f d v) E (wpList P ops Q rest))(hdn:Nat.blt d n=true:=by exact rfl):Tr w n f E (wpList P ops Q (⟨some d,.move p,ty,pos,af,none⟩::rest)):=X6 hdn hp k
theorem Tr.k(hp:ev f p=some v)(k:Tr w n (uf f d v) E (wpList P ops Q rest))(hdn:Nat.blt d n=true:=by exact rfl):Tr w n f E (wpList P ops Q (⟨some d,.assign p,ty,pos,af,none⟩::rest)):=WW hdn hp k
theorem dY(hp:ev f p=some v)(k:Tq P w n ops (uf f d v) E X rest)(hdn:Nat.blt d n=true:=by exact rfl):Tq P w n ops f E X (⟨some d,.move p,ty,pos,af,none⟩::rest):=X7 hdn hp k
theorem aD(hr:∀{ρ:Operand→Value} {W:World},ρ p=u→(execOp ρ ⟨some d,op,ty,pos,af,none⟩).run P W= .ok (.value v) W)(hp:ev f p=some u)(k:Tr w n (uf f d v) E (wpList P ops Q rest))(hdn:Nat.blt d n=true:=by exact rfl):Tr w n f E (wpList P ops Q (⟨some d,op,ty,pos,af,none⟩::rest)):=Tr.w1 (wn rfl) hdn hr hp k
theorem av(hr:∀{ρ:Operand→Value} {W:World},ρ p=u→ρ q=z→(execOp ρ ⟨some d,op,ty,pos,af,none⟩).run P W= .ok (.value v) W)(hp:ev f p=some u)(hq:ev f q=some z)(k:Tr w n (uf f d v) E (wpList P ops Q rest))(hdn:Nat.blt d n=true:=by exact rfl):Tr w n f E (wpList P ops Q (⟨some d,op,ty,pos,af,none⟩::rest)):=PG (wn rfl) hdn hr hp hq k
theorem dD(hr:∀{ρ:Operand→Value} {W:World},ρ p=u→(execOp ρ ⟨some d,op,ty,pos,af,none⟩).run P W= .ok (.value v) W)(hp:ev f p=some u)(k:Tq P w n ops (uf f d v) E X rest)(hdn:Nat.blt d n=true:=by exact rfl):Tq P w n ops f E X (⟨some d,op,ty,pos,af,none⟩::rest):=Tq.w1 (wn rfl) hdn hr hp k
theorem dL(hr:∀{ρ:Operand→Value} {W:World},ρ p=u→ρ q=z→(execOp ρ ⟨some d,op,ty,pos,af,none⟩).run P W= .ok (.value v) W)(hp:ev f p=some u)(hq:ev f q=some z)(k:Tq P w n ops (uf f d v) E X rest)(hdn:Nat.blt d n=true:=by exact rfl):Tq P w n ops f E X (⟨some d,op,ty,pos,af,none⟩::rest):=Tx (wn rfl) hdn hr hp hq k
theorem bC{j t:Nat}{b:Bool}(hr:∀{ρ:Operand→Value} {W:World},ρ p=u→(execOp ρ ⟨some d,op,ty,pos,af,g⟩).run P W= .ok (.value v) W)(hp:ev f p=some u)(k:Tr w n (uf f d v) E (wpList P ops Q rest))(h:g=some (j,b):=by exact rfl)(hj:(ops[j]?).bind (·.dst)=some t:=by exact rfl)(ht:f t=some (.bool b):=by exact rfl)(hdn:Nat.blt d n=true:=by exact rfl):Tr w n f E (wpList P ops Q (⟨some d,op,ty,pos,af,g⟩::rest)):=Tr.w1 (wg h hj ht) hdn hr hp k
theorem dI{j t:Nat}{b:Bool}(hr:∀{ρ:Operand→Value} {W:World},ρ p=u→ρ q=z→(execOp ρ ⟨some d,op,ty,pos,af,g⟩).run P W= .ok (.value v) W)(hp:ev f p=some u)(hq:ev f q=some z)(k:Tr w n (uf f d v) E (wpList P ops Q rest))(h:g=some (j,b):=by exact rfl)(hj:(ops[j]?).bind (·.dst)=some t:=by exact rfl)(ht:f t=some (.bool b):=by exact rfl)(hdn:Nat.blt d n=true:=by exact rfl):Tr w n f E (wpList P ops Q (⟨some d,op,ty,pos,af,g⟩::rest)):=PG (wg h hj ht) hdn hr hp hq k
theorem dJ{j t:Nat}{b:Bool}(hr:∀{ρ:Operand→Value} {W:World},ρ p=u→(execOp ρ ⟨some d,op,ty,pos,af,g⟩).run P W= .ok (.value v) W)(hp:ev f p=some u)(k:Tq P w n ops (uf f d v) E X rest)(h:g=some (j,b):=by exact rfl)(hj:(ops[j]?).bind (·.dst)=some t:=by exact rfl)(ht:f t=some (.bool b):=by exact rfl)(hdn:Nat.blt d n=true:=by exact rfl):Tq P w n ops f E X (⟨some d,op,ty,pos,af,g⟩::rest):=Tq.w1 (wg h hj ht) hdn hr hp k
theorem lg{j t:Nat}{b:Bool}(hr:∀{ρ:Operand→Value} {W:World},ρ p=u→ρ q=z→(execOp ρ ⟨some d,op,ty,pos,af,g⟩).run P W= .ok (.value v) W)(hp:ev f p=some u)(hq:ev f q=some z)(k:Tq P w n ops (uf f d v) E X rest)(h:g=some (j,b):=by exact rfl)(hj:(ops[j]?).bind (·.dst)=some t:=by exact rfl)(ht:f t=some (.bool b):=by exact rfl)(hdn:Nat.blt d n=true:=by exact rfl):Tq P w n ops f E X (⟨some d,op,ty,pos,af,g⟩::rest):=Tx (wg h hj ht) hdn hr hp hq k
theorem Tr.x{j t:Nat}{b:Bool}(hr:∀a W,FR n f a→HF w W E→(execOp a.eval ⟨some d,op,ty,pos,af,g⟩).run P W= .ok (.value v) W)(k:Tr w n (uf f d v) E (wpList P ops Q rest))(h:g=some (j,b):=by exact rfl)(hj:(ops[j]?).bind (·.dst)=some t:=by exact rfl)(ht:f t=some (.bool b):=by exact rfl)(hdn:Nat.blt d n=true:=by exact rfl):Tr w n f E (wpList P ops Q (⟨some d,op,ty,pos,af,g⟩::rest)):=Tr.val (wg h hj ht) hdn hr k
theorem Tq.x{j t:Nat}{b:Bool}(hr:∀a W,FR n f a→HF w W E→(execOp a.eval ⟨some d,op,ty,pos,af,g⟩).run P W= .ok (.value v) W)(k:Tq P w n ops (uf f d v) E X rest)(h:g=some (j,b):=by exact rfl)(hj:(ops[j]?).bind (·.dst)=some t:=by exact rfl)(ht:f t=some (.bool b):=by exact rfl)(hdn:Nat.blt d n=true:=by exact rfl):Tq P w n ops f E X (⟨some d,op,ty,pos,af,g⟩::rest):=Tq.val (wg h hj ht) hdn hr k
theorem bD{fu:Func}{w0:Bs}(le:w0.Le w)(hr:BS P f E fu.results.toList [v] []:=by exact bu rfl bG):Tr w n f E (bodyPost P fu (fun e W'=>e= .returned v∧HF w0 W' E0) .ret):=bR [] hr (fun _ hW=>⟨rfl,hW.low le⟩)
theorem YH(hdn:Nat.blt d n=true)(hr:∀{ρ:Operand→Value} {W:World},ρ p=u→(execOp ρ ⟨some d,op,ty,pos,af,none⟩).run P W= .ok (.value v) W)(hp:ev f p=some u)(k:Tr w n (uf f d v) E (wpList P ops Q rest)):Tr w n f E (wpList P ops Q (⟨some d,op,ty,pos,af,none⟩::rest)):=Tr.w1 (wn rfl) hdn hr hp k
theorem YG(hdn:Nat.blt d n=true)(hr:∀{ρ:Operand→Value} {W:World},ρ p=u→ρ q=z→(execOp ρ ⟨some d,op,ty,pos,af,none⟩).run P W= .ok (.value v) W)(hp:ev f p=some u)(hq:ev f q=some z)(k:Tr w n (uf f d v) E (wpList P ops Q rest)):Tr w n f E (wpList P ops Q (⟨some d,op,ty,pos,af,none⟩::rest)):=PG (wn rfl) hdn hr hp hq k
theorem YJ(hdn:Nat.blt d n=true)(hr:∀{ρ:Operand→Value} {W:World},ρ p=u→(execOp ρ ⟨some d,op,ty,pos,af,none⟩).run P W= .ok (.value v) W)(hp:ev f p=some u)(k:Tq P w n ops (uf f d v) E X rest):Tq P w n ops f E X (⟨some d,op,ty,pos,af,none⟩::rest):=Tq.w1 (wn rfl) hdn hr hp k
theorem YI(hdn:Nat.blt d n=true)(hr:∀{ρ:Operand→Value} {W:World},ρ p=u→ρ q=z→(execOp ρ ⟨some d,op,ty,pos,af,none⟩).run P W= .ok (.value v) W)(hp:ev f p=some u)(hq:ev f q=some z)(k:Tq P w n ops (uf f d v) E X rest):Tq P w n ops f E X (⟨some d,op,ty,pos,af,none⟩::rest):=Tx (wn rfl) hdn hr hp hq k
theorem aG{o:Oper}{j t:Nat}{b b':Bool}(hd:o.dst=some d)(k:Tr w n (uf f d undef) E (wpList P ops Q rest))(h:o.guard=some (j,b):=by rfl)(hj:(ops[j]?).bind (·.dst)=some t:=by rfl)(ht:f t=some (.bool b'):=by rfl)(hne:(b'==b)=false:=by rfl)(hdn:d<n:=by decide):Tr w n f E (wpList P ops Q (o::rest)):=U5 h hj ht hne hd hdn k
theorem bB{o:Oper}{j t:Nat}{b b':Bool}(hd:o.dst=some d)(k:Tq P w n ops (uf f d undef) E X rest)(h:o.guard=some (j,b):=by rfl)(hj:(ops[j]?).bind (·.dst)=some t:=by rfl)(ht:f t=some (.bool b'):=by rfl)(hne:(b'==b)=false:=by rfl)(hdn:d<n:=by decide):Tq P w n ops f E X (o::rest):=U7 h hj ht hne hd hdn k
theorem ky{o:Oper}{j t:Nat}{b:Bool}(hd:o.dst=some d)(k:Tr w n (uf f d undef) E (wpList P ops Q rest))(h:o.guard=some (j,b):=by rfl)(hj:(ops[j]?).bind (·.dst)=some t:=by rfl)(ht:f t=some undef:=by rfl)(hdn:d<n:=by decide):Tr w n f E (wpList P ops Q (o::rest)):=Tu h hj ht hd hdn k
theorem IJ{o:Oper}{j t:Nat}{b:Bool}(hd:o.dst=some d)(k:Tq P w n ops (uf f d undef) E X rest)(h:o.guard=some (j,b):=by rfl)(hj:(ops[j]?).bind (·.dst)=some t:=by rfl)(ht:f t=some undef:=by rfl)(hdn:d<n:=by decide):Tq P w n ops f E X (o::rest):=Ty h hj ht hd hdn k
end
open Go.RowKit Go.Proofs
open Go.ChangeMaps Go.MapKept
open Go.Maps (Keyed)
section words
variable {κ α:Type} [DecidableEq κ]
structure KE (κ α:Type) where
 k:κ
 A:Option Addr
 c:Nat
 l:List α
 own:Bool
def KE.hd(e:KE κ α):Value:=.slice e.A e.l.length e.c
def KE.blk(e:KE κ α)(x:Nat):Prop:=e.own=true∧(Value.slice e.A e.l.length e.c).ownBlock=some x
def KE.kd(e:KE κ α):κ×List α:=(e.k,e.l)
def MQ(ms:List (KE κ α))(m:List (κ×List α)):Prop:=ms.map KE.kd=m∧∀e∈ms,e.own=true
omit [DecidableEq κ] in
theorem MQ.nil:MQ ([]:List (KE κ α)) []:=⟨rfl,fun _ h=>(nomatch h)⟩
end words
section
variable {P:Program} {w w':Bs} {n:Nat} {f:Nat→Option Value} {E:Nat→kT} {X:Act→World→Prop} {Q:Exit→Act→World→Prop} {ops:Array Oper} {rest:List Oper}
variable {d ty T MT KT VT:Nat} {pos:String} {af:Array Edge} {g:Option (Nat×Bool)} {p q x:Operand} {b:Nat} {κ α:Type} [DecidableEq κ] {enc:κ→Value} {ok:κ→Bool} {t:Fl α}
def RJ(W:World)(b:Nat)(kv:List (Value×Value)):Prop:=∃es,W.heap[b]?=some (.map es es.size)∧(∀(i:Nat) (e:MapEntry),es.toList[i]?=some e→e.born=i)∧es.toList.map (fun x=>(x.key,x.val))=kv
theorem P8{W W':World}{b:Nat}{kv:List (Value×Value)}(h:W'.heap[b]?=W.heap[b]?)(hp:RJ W b kv):RJ W' b kv:=by
 obtain⟨es,h1,h2⟩:=hp
 exact⟨es,h.trans h1,h2⟩
def U9(R:Nat→Prop)(W:World)(enc:κ→Value)(ok:κ→Bool)(b:Nat)(t:Fl α)(m:List (κ×List α)):Prop:=
 R b∧∃ms:List (KE κ α),ms.map KE.kd=m∧RJ W b (ms.map fun e=>(enc e.k,e.hd))∧(∀e∈ms,ok e.k=true∧Sl R W t e.A e.c e.l)∧ms.Pairwise fun e e'=>e.k≠e'.k
omit [DecidableEq κ] in
theorem U9.go{R R':Nat→Prop}{W W':World}{m:List (κ×List α)}(h:U9 R W enc ok b t m)(hS:∀b,R b→R' b)(hs:∀b,R b→W'.heap[b]?=W.heap[b]?):U9 R' W' enc ok b t m:=by
 obtain⟨h1,ms,h2,h3,h4,h5⟩:=h
 exact⟨hS b h1,ms,h2,P8 (hs b h1) h3,fun e he=>⟨(h4 e he).1,(h4 e he).2.go hS hs⟩,h5⟩
omit [DecidableEq κ] in
theorem U9.iR{m:List (κ×List α)}(h:U9 w.R w.W enc ok b t m)(hle:w.Le w'):U9 w'.R w'.W enc ok b t m:=h.go hle.r (fun b hb=>hle.blk b hb)
omit [DecidableEq κ] in
theorem U9.ext{m:List (κ×List α)}(h:U9 w.R w.W enc ok b t m)(e:w.Ext w'):U9 w'.R w'.W enc ok b t m:=h.go e.r e.blk
end
open Go.RowKit Go.Proofs Go.Shelf
open Go.ChangeMaps Go.MapKept
open Go.Maps (Keyed string_keyed)
def FU{κ:Type}[DecidableEq κ](ok:κ→Bool)(m:List κ)(k:κ):Option Bool:=if ok k=true then some (decide (k∈m)) else none
def FT{κ:Type}[DecidableEq κ](ok:κ→Bool)(m:List κ)(k:κ):Option (List κ):=if ok k=true then some (if k∈m then m else m++[k]) else none
def E5(p:ByteArray×ByteArray):Value:=.agg #[.string p.1,.string p.2]
def La(p:ByteArray×ByteArray):Bool:=wD p.1&&wD p.2
theorem Yq{P:Program}{KT IT:Nat}(hl:laidOutB P=true)(hsmall:P.types.size+2≤10000)(hsz:∃m,P.types.size=m+1)(hrow:KT<P.types.size)(hk:P.keyType KT=true)(hu:∃fs,P.underlying KT=some (.struct fs)∧fs.toList.map (fun f=>(f.name != "_",f.type,f.offset))=[(true,IT,0),(true,IT,1)])
  (hc:P.cellsOf KT=2) (hc1:P.cellsOf IT=1) (hi:P.underlying IT=some .string):Qm P KT E5 La:=by
 obtain⟨fs,hu,hfs⟩:=hu
 refine⟨Keyed.of_law (deep_law_gate hl hsmall hrow hk (by rw[hu])),fun k h=>?_,fun a b h=>?_⟩
 ·unfold La at h
  rw[Bool.and_eq_true] at h
  have w1:k.1.size≤maxLen:=by have:=of_decide_eq_true h.1;unfold maxLen;omega
  have w2:k.2.size≤maxLen:=by have:=of_decide_eq_true h.2;unfold maxLen;omega
  obtain⟨m,hm⟩:=hsz
  unfold keyOf E5
  simp only[hu]
  rw[if_pos (by simp[hk,Value.formed,hu,hc]),hm]
  unfold Program.keyLits
  simp only[hu,Value.cells]
  obtain⟨f1,f2,hff⟩:∃f1 f2,fs.toList=[f1,f2]:=by
   have hlen:fs.toList.length=2:=by have:=congrArg List.length hfs;simpa using this
   match hq:fs.toList,hlen with
   |[f1,f2],_=>exact⟨f1,f2,rfl⟩
  rw[hff] at hfs
  simp only[List.map_cons,List.map_nil,List.cons.injEq,Prod.mk.injEq,and_true] at hfs
  obtain⟨⟨a1,a2,a3⟩,b1,b2,b3⟩:=hfs
  have hall:fs.all (fun f=>f.name != "_")=true:=by
   rw[←Array.all_toList,hff];simp[a1,b1]
  rw[if_pos ⟨by rw[hc];rfl,hall⟩,hff,List.mapM_cons,List.mapM_cons,List.mapM_nil,a2,a3,b2,b3,hc1]
  simp[Program.keyLits,hi,w1,w2]
 ·unfold E5 at h
  simp at h
  exact Prod.ext h.1 h.2
section
variable {P:Program} {w:Bs} {n:Nat} {f:Nat→Option Value} {E:Nat→kT} {X:Act→World→Prop} {Q:Exit→Act→World→Prop} {ops:Array Oper} {rest:List Oper}
variable {d ty T MT KT VT:Nat} {pos:String} {af:Array Edge} {g:Option (Nat×Bool)} {p q x:Operand} {b:Nat} {κ:Type} [DecidableEq κ] {enc:κ→Value} {ok:κ→Bool} {ρ:Ren}
def wS(enc:κ→Value)(ok:κ→Bool)(b:Nat)(m:List κ):kT:=
 ⟨fun x=>x=b,fun _ W=>JH W b (m.map fun e=>(enc e,Value.bool true))∧∀e∈m,ok e=true⟩
omit [DecidableEq κ] in
theorem SV(b:Nat)(m:List κ):(wS enc ok b m).loc:=⟨fun O W W' h hp=>⟨P7 (h b (.inr rfl)) hp.1,hp.2⟩,fun _ _ _ _ hp=>hp⟩
omit [DecidableEq κ] in
theorem Io{b:Nat}{m:List κ}:(wS enc ok b m).Any:=fun _ _ _ h=>h
omit [DecidableEq κ] in
theorem AO(enc:κ→Value)(ok:κ→Bool)(k0:Nat)(hw:Wn ops f ⟨some d,.makeMap MT none,ty,pos,af,g⟩)(hdn:Nat.blt d n=true)
  (K:∀b,Tr w n (uf f d (.map (some b))) (up E k0 (wS enc ok b [])) (wpList P ops Q rest)):Tr w n f E (wpList P ops Q (⟨some d,.makeMap MT none,ty,pos,af,g⟩::rest)):=
 Gp hw hdn (fun _ W _ h2=>⟨rfl,h2.add k0 ((Below.refl _ _).alloc (Nat.le_refl _) _) (wS enc ok W.heap.size []) (SV _ _)
  ⟨⟨#[],0,heap_alloc_new W _,stamped_empty 0,rfl⟩,fun _ h=>(nomatch h)⟩ (fun b hb=>by
   have hb:b=W.heap.size:=hb
   subst hb;exact⟨Nat.le_refl _,by simp⟩)⟩) (fun W _=>K W.heap.size)
theorem zZ{ρ:Operand→Value}{W:World}{dd:Option Nat}{m:List κ}{k:κ}{v:Bool}(hMT:P.underlying MT=some (.map KT VT))(K:Qm P KT enc ok)(hz:(P.info? VT).bind (·.zero)=some (.bool false))
  (hp:ρ p= .map (some b)) (hq:ρ q=enc k) (h2:HF w W E) {k0:Nat} (hk:E k0=wS enc ok b m) (hm:FU ok m k=some v):(execOp ρ ⟨dd,.lookup MT p q false,ty,pos,af,g⟩).run P W= .ok (.value (.bool v)) W:=by
 unfold FU at hm
 split at hm
 ·rename_i hr
  have hm:=Option.some.inj hm
  have hφ:=h2.phi k0
  rw[hk] at hφ
  obtain⟨⟨es,clock,hb,_,hes⟩,g2⟩:=hφ
  obtain⟨kl,hkey⟩:=K.key k hr
  have hkeys:∀e∈es.toList,∃l,keyOf P KT e.key=some l:=fun e he=>by
   have:(e.key,e.val)∈m.map fun e=>(enc e,Value.bool true):=by rw[←hes];exact List.mem_map_of_mem (f:=fun x:MapEntry=>(x.key,x.val)) he
   obtain⟨e',he',h3⟩:=List.mem_map.1 this
   have h4:=congrArg Prod.fst h3
   simp only at h4
   rw[←h4];exact K.key e' (g2 e' he')
  have hzr:(zeroValue VT).run P W= .ok (.bool false) W:=by
   cases hi:P.info? VT with
   |none=>rw[hi] at hz;cases hz
   |some inf=>
    rw[hi] at hz
    simp only[ob] at hz
    simp[zeroValue,typeInfo,hi,hz]
  have main:(Instr.lookup MT (.map (some b)) (enc k) false).run P W= .ok (.bool v) W:=by
   rcases K.kd.find W hkey es.toList hkeys with⟨f1,f2⟩|⟨j,e0,f1,f2,f3⟩
   ·have hno:¬k∈m:=fun he=>by
     have:(enc k,Value.bool true)∈es.toList.map fun x=>(x.key,x.val):=by rw[hes];exact List.mem_map_of_mem (f:=fun e:κ=>(enc e,Value.bool true)) he
     obtain⟨x0,hx0,h3⟩:=List.mem_map.1 this
     exact f2 x0 hx0 (congrArg Prod.fst h3)
    rw[decide_eq_false hno] at hm
    subst hm
    simp[Instr.lookup,run_underlying hMT,MapKept.run_getObj_map hb,K.kd.check W _ hkey,f1,hzr,Result.andThen]
   ·have hm0:e0∈es.toList:=List.mem_of_getElem? f2
    have hin:(e0.key,e0.val)∈m.map fun e=>(enc e,Value.bool true):=by rw[←hes];exact List.mem_map_of_mem (f:=fun x:MapEntry=>(x.key,x.val)) hm0
    obtain⟨e',he',h3⟩:=List.mem_map.1 hin
    have h4:enc e'=e0.key:=congrArg Prod.fst h3
    have h5:Value.bool true=e0.val:=congrArg Prod.snd h3
    have hek:e'=k:=K.inj _ _ (h4.trans f3)
    subst hek
    rw[decide_eq_true he'] at hm
    subst hm
    simp[Instr.lookup,run_underlying hMT,MapKept.run_getObj_map hb,K.kd.check W _ hkey,f1,←h5,Result.andThen]
  simp[execOp,hp,hq,main]
 ·cases hm
theorem Cz(k0:Nat){m m':List κ}{k:κ}(hw:Wn ops f ⟨none,.mapUpdate MT p q x,ty,pos,af,g⟩)(hMT:P.underlying MT=some (.map KT VT))(K:Qm P KT enc ok)
  (hp:ev f p=some (.map (some b))) (hq:ev f q=some (enc k)) (hx:ev f x=some (.bool true)) (hk:E k0=wS enc ok b m) (hm':FT ok m k=some m')
  (C:Tr w n f (up E k0 (wS enc ok b m')) (wpList P ops Q rest)):Tr w n f E (wpList P ops Q (⟨none,.mapUpdate MT p q x,ty,pos,af,g⟩::rest)):=by
 unfold FT at hm'
 split at hm'
 ·rename_i hr
  have hm':=(Option.some.inj hm').symm
  subst hm'
  refine Tr.op hw fun a W h1 h2=>?_
  have hφ:=h2.phi k0
  rw[hk] at hφ
  obtain⟨g1,g2⟩:=hφ
  obtain⟨W',r1,r2,r3,r4,r5,r6,r7,r8⟩:=GL (P:=P) (val:=.bool true) hMT K hr g1 (fun p hp=>by
   obtain⟨e,he,rfl⟩:=List.mem_map.1 hp
   exact⟨e,rfl,g2 e he⟩)
  have hrun:(execOp a.eval ⟨none,.mapUpdate MT p q x,ty,pos,af,g⟩).run P W= .ok .skip W':=by
   simp[execOp,h1.ev hp,h1.ev hq,h1.ev hx,r1]
  unfold Oper.wp
  rw[hrun]
  refine C _ W' (by exact h1) (h2.mod k0 (wS enc ok b (if k∈m then m else m++[k])) r2 r3 r4 (Nat.le_of_eq r5.symm) (by first|exact Nat.le_of_eq r6.symm|exact Nat.le_refl 0) (fun x _ hs=>r7 x (fun e=>hs (by rw[hk];exact e))) (SV _ _) ?_ (fun y hy=>?_))
  ·by_cases hkm:k∈m
   ·rw[if_pos hkm]
    refine⟨?_,g2⟩
    rcases r8 with⟨r8,_⟩|⟨j,u,r8,r9⟩
    ·exact absurd rfl (r8 (enc k,Value.bool true) (List.mem_map_of_mem (f:=fun e:κ=>(enc e,Value.bool true)) hkm))
    ·have hu:(enc k,u)∈m.map fun e=>(enc e,Value.bool true):=List.mem_of_getElem? r8
     obtain⟨e',_,h3⟩:=List.mem_map.1 hu
     have h4:Value.bool true=u:=congrArg Prod.snd h3
     rw[←h4] at r8
     have:(m.map fun e=>(enc e,Value.bool true)).set j (enc k,Value.bool true)=m.map fun e=>(enc e,Value.bool true):=by
      obtain⟨hlt,he⟩:=List.getElem?_eq_some_iff.1 r8
      rw[←he];exact List.set_getElem_self hlt
     rw[this] at r9;exact r9
   ·rw[if_neg hkm]
    refine⟨?_,fun e he=>?_⟩
    ·rcases r8 with⟨_,r8⟩|⟨j,u,r8,_⟩
     ·simpa using r8
     ·obtain⟨e',he',h3⟩:=List.mem_map.1 (List.mem_of_getElem? r8)
      have:e'=k:=K.inj _ _ (congrArg Prod.fst h3)
      subst this;exact absurd he' hkm
    ·rcases List.mem_append.1 he with he|he
     ·exact g2 e he
     ·simp at he;subst he;exact hr
  ·have hy:y=b:=hy
   subst hy
   have hS:(E k0).S y:=by rw[hk];rfl
   exact⟨.inl hS,by rw[r5];exact(h2.bd k0 y hS).2⟩
 ·cases hm'
end
end Go.Proofs.YtgijeiamflmkeaaGreatDoor
