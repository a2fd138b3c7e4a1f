/- Rules of the walks, or plain laws about the plain functions. Conditions: none beyond each theorem's own. -/
import Derived.Test.YtblmajfbibbiaaaGreatDoorJ2
import Derived.Shelf.Strings.Cut
import Derived.Shelf.Strings.Split
import Derived.Shelf.Strings.SlTrimAscii
import Derived.Shelf.Strconv.Atoi
import Derived.Lib.SmallJoins
import Derived.Shelf.Small.Strs
import Derived.Maps.RangeRun
import Derived.WideKeyEntry
import Derived.DeepKeys5
import Derived.Shelf.SlSortCmp.Whole1
namespace Go.Proofs.YtblmajfbibbiaaaGreatDoor
open Go.RowKit Go.Proofs Go.Shelf Go.Sort
def Qo(s sep:ByteArray):Option (ByteArray×ByteArray×Bool):=
 if s.size<4294967281 then some (⟨(Lib.cut s.data.toList sep.data.toList).1.toArray⟩,⟨(Lib.cut s.data.toList sep.data.toList).2.1.toArray⟩,(Lib.cut s.data.toList sep.data.toList).2.2) else none
def yD(s sep:ByteArray):Option (List ByteArray):=if s.size<4294967281∧1≤sep.size then some (Lib.splitB sep 0 (Lib.countB s sep) s) else none
def trimF(s c:ByteArray):Option ByteArray:=
 if 2≤c.size∧s.size≤9223372036854775807∧c.size<4294967281∧c.data.toList.all (fun b=>decide (b.toNat<128))=true then some ⟨(Lib.trimS s.data.toList c.data.toList).toArray⟩ else none
def IZ(s:ByteArray):Option Int:=if s.size≤18 then Lib.atoi s.data.toList else none
section
variable {P:Program} {ρ:Ren} {w:Bs}
theorem Vb.at_(h:Vb P w)(hg:P.globals.findIdx? (·.name== "internal/bytealg.MaxLen")=some (ρ.g 1)):∃m,w.W.cell? ⟨(ρ.g 1),0,none⟩=some (.int .i64 m):=by
 obtain⟨g,h1,_,m,h2⟩:=h
 rw[hg] at h1
 obtain rfl:=Option.some.inj h1
 exact⟨m,h2⟩
theorem below_drewN(W:World)(n:Nat):Proofs.YtblmajfbibbiaaaGreatDoor.Below W.heap.size W (W.drewN n):=⟨rfl,rfl,rfl,Nat.le_refl _,fun _ _=>rfl,(by first|exact Nat.le_add_right _ _|exact Nat.le_refl 0)⟩
theorem Qn(L:Lays.n145 P ρ)(hT:Kg P w)(hg:P.globals.findIdx? (·.name== "internal/bytealg.MaxLen")=some (ρ.g 1)){s sep:ByteArray}{r:ByteArray×ByteArray×Bool}(H:Qo s sep=some r)(hE:HF w w.W E0):
  Calls P (ρ.f 145) [.string s,.string sep].toArray w.W fun e W'=>e= .returned (.tuple #[.string r.1,.string r.2.1,.bool r.2.2])∧HF w W' E0:=by
 unfold Qo at H
 split at H
 case isFalse=>cases H
 rename_i hs
 have hr:=Option.some.inj H
 subst hr
 obtain⟨m,hm⟩:=hT.2.at_ hg
 exact(Any.strings_Cut L s sep m w.W hs hm).mono fun e W' ⟨h1,n,h2⟩=>⟨h1,by rw[h2];exact hE.later (below_drewN _ n)⟩
theorem Ky(L:Lays.n146 P ρ)(hT:Kg P w)(hg:P.globals.findIdx? (·.name== "internal/bytealg.MaxLen")=some (ρ.g 1)){t:Fl ByteArray}(hsz:t.sz=1)(he:∀u x,t.enc u x=[.string x])(u0:t.Ad)(htr:t.Qt)
  (hi9:(P.info? (ρ.t 9)).map (fun i=>(i.zero,i.size,i.bytes))=some (some (.string ByteArray.empty),1,16)) {s sep:ByteArray} {r:List ByteArray} (H:yD s sep=some r) (hE:HF w w.W (ig [emp])):
  Calls P (ρ.f 146) [.string s,.string sep].toArray w.W fun e W'=>∃u:(Option Addr×Nat),e= .returned (.slice u.1 r.length u.2)∧(bZ u.1 r.length u.2)∧HF w W' (ig [ow u.1 u.2 (ρ.t 9) t r]):=by
 unfold yD at H
 split at H
 case isFalse=>cases H
 rename_i hs
 have hr:=Option.some.inj H
 obtain⟨m,hm⟩:=hT.2.at_ hg
 have hlen:=Lib.splitB_all sep hs.2 0 _ s rfl
 have hle:=Lib.countB_le sep hs.2 s.size s (Nat.le_refl _)
 rw[hr] at hlen
 have hmax:r.length≤maxLen:=by unfold maxLen;omega
 have hall:∀O W,Al (rp t O W) (r.map fun x=>[Value.string x]) r:=fun O W=>by
  have:∀l:List ByteArray,Al (rp t O W) (l.map fun x=>[Value.string x]) l:=fun l=>by
   induction l with
   |nil=>exact .nil
   |cons x l ih=>exact .cons ⟨u0,htr _ _ _ _,(he _ _).symm⟩ ih
  exact this r
 have hfl:(r.map fun x=>[Value.string x]).flatten=r.map Value.string:=by
  have:∀l:List ByteArray,(l.map fun x=>[Value.string x]).flatten=l.map Value.string:=fun l=>by
   induction l with
   |nil=>rfl
   |cons x l ih=>simp only[List.map_cons,List.flatten_cons,ih];rfl
  exact this r
 have c:=Any.strings_Split L hi9 s sep m w.W hs.1 hm hs.2
 rw[hr,←hlen] at c
 refine c.mono fun e W' ⟨h1,h2⟩=>⟨(some ⟨w.W.heap.size,0,none⟩,r.length),h1,⟨Nat.le_refl _,hmax,fun _=>rfl⟩,?_⟩
 subst h2
 refine(hE.mod (W':=w.W.alloc (.cells (r.map Value.string).toArray (ρ.t 9))) 0 (ow (some ⟨w.W.heap.size,0,none⟩) r.length (ρ.t 9) t r) rfl rfl rfl (by simp) (by first|exact Nat.le_refl _|exact Nat.le_refl 0) (fun b hb _=>?_) (lg _ _ _ _ _) ?_ (fun b hb=>?_)).weaken (fun k=>?_)
 ·exact((Proofs.YtblmajfbibbiaaaGreatDoor.Below.refl _ _).alloc (Nat.le_refl _) _).block b hb
 ·refine⟨r.map fun x=>[Value.string x],hall _ _,by rw[hfl,hsz];simp,.inr ⟨w.W.heap.size,r.length,(r.map Value.string).toArray,rfl,Nat.zero_le _,heap_alloc_new _ _,Nat.le_refl _,hmax,by rw[hsz];simp,?_⟩⟩
  rw[hfl,hsz,Nat.mul_one]
  exact List.take_of_length_le (by simp)
 ·have hb:(Value.slice (some ⟨w.W.heap.size,0,none⟩) r.length r.length).ownBlock=some b:=hb
  simp[Value.ownBlock] at hb
  subst hb
  exact⟨.inr (Nat.le_refl _),by simp⟩
 ·cases k with
  |zero=>exact .inl rfl
  |succ k=>exact .inr rfl
theorem Ml(L:Lays.n160 P ρ)(h116:(P.info? (ρ.t 116)).map (fun i=>(i.zero,i.size))=some (some (.agg (Array.replicate 256 (.bool false))),256)){s c r:ByteArray}(H:trimF s c=some r)(hE:HF w w.W E0):
  Calls P (ρ.f 160) [.string s,.string c].toArray w.W fun e W'=>e= .returned (.string r)∧HF w W' E0:=by
 unfold trimF at H
 split at H
 case isFalse=>cases H
 rename_i hs
 have hr:=Option.some.inj H
 subst hr
 have ha:∀(j:Nat) b,c.data.toList[j]?=some b→b.toNat<128:=fun j b hb=>of_decide_eq_true (List.all_eq_true.1 hs.2.2.2 b (List.mem_of_getElem? hb))
 by_cases h0:s.size=0
 ·refine(Any.strings_Trim_empty L s c w.W (.inl h0)).mono fun e W' ⟨h1,h2⟩=>⟨?_,by rw[h2];exact hE⟩
  have hl:s.data.toList=[]:=List.eq_nil_of_length_eq_zero (by rw[←Lib.size_eq];exact h0)
  rw[h1,hl]
  have:s=⟨#[]⟩:=by
   obtain⟨⟨l⟩⟩:=s
   have hl:l=[]:=hl
   rw[hl]
  rw[this];rfl
 ·refine(Any.strings_Trim_set L (zero_of_info h116).1 (zero_of_info h116).2 s c w.W hs.1 (by omega) hs.2.1 hs.2.2.1 ha).mono fun e W' ⟨h1,q,h2⟩=>⟨h1,?_⟩
  rw[h2]
  exact hE.later ((((Proofs.YtblmajfbibbiaaaGreatDoor.Below.refl _ _).alloc (Nat.le_refl _) _).alloc (by simp) _).trans ((below_drewN _ q).mono (by simp;omega)))
theorem DL(W:World)(e:TypeId)(t:ByteArray):(Lib.bytesWorld W e t).drawn=W.drawn+1:=by
 unfold Lib.bytesWorld World.freeze;split<;>rfl
theorem Nu(L:Lays.n172 P ρ){s:ByteArray}{r:Int}(H:IZ s=some r)(hE:HF w w.W E0):
  Calls P (ρ.f 172) [.string s].toArray w.W fun e W'=>e= .returned (.tuple #[.int .i64 r,.nilIface])∧HF w W' E0:=by
 unfold IZ at H
 split at H
 case isFalse=>cases H
 rename_i hs
 exact(Any.strconv_Atoi L s r hs H w.W).mono fun e W' ⟨h1,t,h2⟩=>⟨h1,by rw[h2];exact hE.later (Proofs.YtblmajfbibbiaaaGreatDoor.Below.Rz (Go.Joins.below_bytesWorld _ _ _ _ (Nat.le_refl _)) (by rw[DL];exact Nat.le_succ _))⟩
theorem Qa{ρ:Operand→Value}{W:World}{d:Option Tmp}{ty T:TypeId}{pos:String}{af:Array Edge}{g:Option (Nat×Bool)}{p y:Operand}{s t:ByteArray}{j:Int}(hu:P.underlying T=some .string)(hp:ρ p= .string s)(hy:ρ y= .int .i64 j)(hv:xD s 0 j=some t):(execOp ρ ⟨d,.slice T p none (some y) none,ty,pos,af,g⟩).run P W= .ok (.value (.string t)) W:=by
 unfold xD at hv
 split at hv
 ·rename_i h;obtain⟨h1,h2,h3⟩:=h;simp at hv;subst hv
  simp[execOp,go_sem,hp,hy,Instr.sliceAt,Instr.slice,Instr.sliceBounds,Instr.sliceBound,run_underlying hu,h3,h2]
 ·cases hv
theorem P9{ρ:Operand→Value}{W:World}{d:Option Tmp}{ty T:TypeId}{pos:String}{af:Array Edge}{g:Option (Nat×Bool)}{p x:Operand}{s t:ByteArray}{i:Int}(hu:P.underlying T=some .string)(hp:ρ p= .string s)(hx:ρ x= .int .i64 i)(hv:xD s i s.size=some t):(execOp ρ ⟨d,.slice T p (some x) none none,ty,pos,af,g⟩).run P W= .ok (.value (.string t)) W:=by
 unfold xD at hv
 split at hv
 ·rename_i h;obtain⟨h1,h2,h3⟩:=h;simp at hv;subst hv
  simp[execOp,go_sem,hp,hx,Instr.sliceAt,Instr.slice,Instr.sliceBounds,Instr.sliceBound,run_underlying hu,h1,h2]
 ·cases hv
end
open Go.RowKit Go.Proofs
def sep(e1 e2:jv):jv:=⟨fun x=>e1.S x∨e2.S x,fun O W=>e1.φ O W∧e2.φ O W∧∀x,e1.S x→¬e2.S x⟩
theorem Oc{e1 e2:jv}(h1:e1.loc)(h2:e2.loc):(sep e1 e2).loc:=⟨fun O W W' h hp=>⟨h1.at_ O W W' (fun x hx=>h x (hx.imp id .inl)) hp.1,h2.at_ O W W' (fun x hx=>h x (hx.imp id .inr)) hp.2.1,hp.2.2⟩,
 fun O O' W h hp=>⟨h1.up O O' W h hp.1,h2.up O O' W h hp.2.1,hp.2.2⟩⟩
structure PE {α:Type} (t:Fl α) where
 b:Nat
 u:t.Ad
 x:α
 own:Bool
def PE.ptr{α:Type}{t:Fl α}(e:PE t):Value:=.pointer (some ⟨e.b,0,none⟩)
section
variable {α β:Type} {t:Fl α} {ti:Fl β}
def ZE(t:Fl α):Fl (PE t):=Fl.flat 1 (fun e=>[e.ptr]) (fun _=>rfl) (fun _ u h=>by
 simp at h
 subst h;rfl)
def ZB(L:Lens t ti)(e:PE t):NE β:=⟨(L.ga e.u).1,(L.ga e.u).2,L.get e.x,e.own⟩
def Zr(Te:Nat)(L:Lens t ti)(ms:List (PE t)):jv:=
 ⟨fun x=>∃e∈ms,e.own=true∧x=e.b,fun O W=>(∀e∈ms,e.own=true→L.okR O W e.u e.x∧W.heap[e.b]?=some (.cells (t.enc e.u e.x).toArray Te (0,0)))∧ms.Pairwise fun e e'=>e.own=true→e'.own=true→e.b≠e'.b⟩
theorem UZ(Te:Nat)(L:Lens t ti)(ms:List (PE t)):(Zr Te L ms).loc:=⟨fun O W W' h hp=>⟨fun e he ho=>⟨L.locR (hp.1 e he ho).1 (fun _ h=>h) (fun b hb=>h b (.inl hb)),(h e.b (.inr ⟨e,he,ho,rfl⟩)).trans (hp.1 e he ho).2⟩,hp.2⟩,
 fun O O' W h hp=>⟨fun e he ho=>⟨L.locR (hp.1 e he ho).1 h (fun _ _=>rfl),(hp.1 e he ho).2⟩,hp.2⟩⟩
def sk(A:Option Addr)(c T Te T':Nat)(L:Lens t ti)(ms:List (PE t)):jv:=sep (ow A c T (ZE t) ms) (sep (Zr Te L ms) (ins T' ti (ms.map (ZB L))))
theorem We(A:Option Addr)(c T Te T':Nat)(L:Lens t ti)(ms:List (PE t)):(sk A c T Te T' L ms).loc:=Oc (lg _ _ _ _ _) (Oc (UZ _ _ _) (xg _ _ _))
def SK(ms:List (PE t))(l:List α):Prop:=ms.map (·.x)=l∧∀e∈ms,e.own=true
def ST(ms:List (PE t))(ls:List α)(i b:Nat)(u:t.Ad)(x:α):Prop:=SK ms ls∧ms[i]?=some ⟨b,u,x,true⟩
theorem SK.nil:SK ([]:List (PE t)) []:=⟨rfl,fun _ h=>(nomatch h)⟩
theorem SK.len{ms:List (PE t)}{ls:List α}(h:SK ms ls):ls.length=ms.length:=by rw[←h.1];simp
theorem ST.hi{ms:List (PE t)}{ls:List α}{i b:Nat}{u:t.Ad}{x:α}(h:ST ms ls i b u x):i<ms.length:=(List.getElem?_eq_some_iff.1 h.2).1
end
section
variable {P:Program} {w:Bs} {n:Nat} {f:Nat→Option Value} {E:Nat→jv} {X:Act→World→Prop} {Q:Exit→Act→World→Prop} {ops:Array Oper} {rest:List Oper}
variable {d ty T Te T':Nat} {pos:String} {af:Array Edge} {g:Option (Nat×Bool)} {p q:Operand} {α β:Type} {t:Fl α} {ti:Fl β} {L:Lens t ti} {A:Option Addr} {c b:Nat} {ms:List (PE t)} {ls:List α}
theorem Tg(κ T Te T':Nat)(L:Lens t ti)(K:Tr w n f (up E κ (sk none 0 T Te T' L [])) X):Tr w n f E X:=
 fun a W h1 h2=>K a W h1 (h2.mod κ _ rfl rfl rfl (Nat.le_refl _) (Nat.le_refl _) (fun _ _ _=>rfl) (We _ _ _ _ _ _ _)
  ⟨⟨[],.nil,by simp,.inl ⟨rfl,rfl⟩⟩,⟨⟨fun _ h=>(nomatch h),.nil⟩,⟨fun _ h=>(nomatch h),.nil⟩,fun x ⟨_,h,_⟩=>(nomatch h)⟩,fun x hx=>by cases hx⟩ (fun b hb=>by
   rcases hb with hb|⟨e,he,_⟩|⟨e,he,_⟩
   ·cases hb
   ·cases he
   ·cases he))
end
section
variable {w:Bs} {n:Nat} {f:Nat→Option Value} {E:Nat→jv} {X:Act→World→Prop} {T Te T':Nat} {α β:Type} {t:Fl α} {ti:Fl β} {L:Lens t ti} {A:Option Addr} {c b:Nat} {ms:List (PE t)} {ls:List α}
theorem S9{γ δ:Type}(l:List γ)(z s:γ)(k:List γ→Option δ):((wO l [z]).bind fun l1=>(idx l1 (l.length:Int)).bind fun _=>(sets l1 (l.length:Int) s).bind k)=(wO l [s]).bind k:=by
 unfold wO idx sets
 by_cases h:l.length+[z].length≤4294967296
 ·rw[if_pos h,if_pos (by simpa using h)]
  simp
 ·rw[if_neg h,if_neg (by simpa using h)];rfl
end
section
variable {P:Program} {w:Bs} {n:Nat} {f:Nat→Option Value} {E:Nat→jv} {l:List Oper} {m:Nat} {t:Tn} {Q:Exit→Act→World→Prop} {fu:Nat} {listed:Array Bool}
variable {d ty T T':Nat} {pos:String} {af:Array Edge} {g:Option (Nat×Bool)} {p q:Operand} {u v:Value}
theorem NF{α:Type}(i κ:Nat){A:Option Addr}{c e inb b o c2:Nat}{t':Fl α}{ll l2 l':List α}(hY:∀b,(ow A c e t' ll).S b→t.Y i b)(hi:l[i]?=some ⟨some d,.call ⟨.builtin .append,#[p,q],#[T,T]⟩,ty,pos,af,g⟩)(hw:Wn l.toArray f ⟨some d,.call ⟨.builtin .append,#[p,q],#[T,T]⟩,ty,pos,af,g⟩)(hdn:Nat.blt d n=true)
  (hp:ev f p=some (.slice A ll.length c)) (hk:E κ=ow A c e t' ll) (hq:ev f q=some (.slice (some ⟨b,o,none⟩) l2.length c2)) (hr:∀W,HF w W E→∃css,Al (rp t' w.O w.W) css l2∧aI W b o css.flatten)
  (hu:P.underlying T=some (.slice e)) (hs:lX P e=some t'.sz) (hz:(zeroOf P e).map List.length=some t'.sz) (hsz:0<t'.sz) (hby:(P.info? e).map (·.bytes)=some inb) (hib:Nat.ble inb 32768=true) (hap:wO ll l2=some l')
  (K:∀A' c',bZ A' l'.length c'→(∀b,(ow A' c' e t' l').S b→t.s0≤b∨(ow A c e t' ll).S b)→Dr P w n l m t Q fu (listed.setIfInBounds i true) (uf f d (.slice A' l'.length c')) (up E κ (ow A' c' e t' l'))):St P w n l m t Q fu listed f E i:=
 AX (U:=Option Addr×Nat) i hi hw (fun u=>bZ u.1 l'.length u.2∧∀b,(ow u.1 u.2 e t' l').S b→t.s0≤b∨(ow A c e t' ll).S b) (fun a W h1 h2 hs0 K' hK=>by
  obtain⟨hlen,hl'⟩:=zZ hap
  subst hl'
  cases hin:P.info? e with
  |none=>rw[hin] at hby;cases hby
  | some inf=>
   rw[hin] at hby;simp at hby;subst hby
   unfold zeroOf at hz
   unfold lX at hs
   rw[hin] at hz hs
   simp only[ob,Option.map_some,Option.some.injEq] at hz hs
   cases hze:inf.zero with
   |none=>rw[hze] at hz;cases hz
   | some z=>
    rw[hze] at hz
    simp at hz
    obtain⟨css0,hal0,hown⟩:=h2.ow hk
    obtain⟨css2,hal2,hc2⟩:=hr W h2
    have hbytes:(ll.length+l2.length)*inf.bytes≤140737488355328:=Nat.le_trans (Nat.mul_le_mul hlen (Nat.le_of_ble_eq_true hib)) (by decide)
    have hsm:ll.length+l2.length≤maxLen:=by unfold maxLen;omega
    obtain⟨v',W',hrun,ho,hg,_,hat⟩:=run_append_own_at (P:=P) W 0 T ty e inf z t'.sz inf.bytes hu hin hze hs rfl hz hsz _ _ _ hown ⟨b,o,none⟩ l2.length c2 css2.flatten (qi hal2)
     (fun j u hj=>by rw[Addr.add_lit];exact hc2 j u hj) (fun u hu=>by
      obtain⟨i,cs,k,h1,h2,_⟩:=Gn hal2 (List.getElem?_of_mem hu).choose_spec
      have hlt:i<l2.length:=by rw[←hal2.len];exact(List.getElem?_eq_some_iff.1 h1).1
      obtain⟨cs',h3,h4⟩:=hal2.at_ (List.getElem?_eq_getElem hlt)
      rw[h1] at h3;cases h3
      exact h4.one u (List.mem_of_getElem? h2)) hsm hbytes (Nat.zero_le _)
    rw[←List.flatten_append,←List.length_append] at ho
    obtain⟨A',c',rfl,hf,h3⟩:=BD h2 hk (vT _ _ _ _ hrun) hg ((hal0.mono (fun _ _ hr=>hr.off h2)).append hal2) ho (fun b' hb'=>by
     rcases hat with hat|hat
     ·exact .inl (hat▸hb')
     ·rw[hat] at hb';simp at hb';subst hb';exact .inr (Nat.le_refl _))
    obtain⟨g1,g2,g3,g4,g5⟩:=hg
    unfold Oper.wp execOp
    simp only[resolve,invoke,builtin,Sem.run_bind,Sem.run_pure,Result.andThen_ok,List.map_toArray,List.map_cons,List.map_nil,h1.ev hp,h1.ev hq,hrun,Oper.upon_value]
    exact hK (A',c') _ _ ⟨hf,fun b' hb'=>by
     rcases hat with hat|hat
     ·exact .inr (show(Value.slice A ll.length c).ownBlock=some b' from hat▸(show(Value.slice A' (ll++l2).length c').ownBlock=some b' from hb'))
     ·have hb2:(Value.slice A' (ll++l2).length c').ownBlock=some b':=hb'
      rw[hat] at hb2;simp at hb2;subst hb2;exact .inl hs0⟩ (h1.put (Nat.le_of_ble_eq_true hdn) _) h3 ⟨g1,g2,g3,g4,fun b hb hy=>g5 b hb (fun e=>hy (hY b e.symm)),vT _ _ _ _ hrun⟩) (fun u hu=>K u.1 u.2 hu.1 hu.2)
end
open Go.RowKit Go.Proofs Go.Shelf
open Go.ChangeMaps Go.MapKept
open Go.Maps (Keyed string_keyed)
section words
def uO(x:Int):Option Int:=if 0≤x∧x≤9223372036854775807 then some x else none
variable {κ:Type} [DecidableEq κ]
end words
structure TE (P:Program) (KT:Nat) {κ:Type} (enc:κ→Value) (ok:κ→Bool):Prop where
 kd:Keyed P KT
 key:∀k,ok k=true→∃l,keyOf P KT (enc k)=some l
 inj:∀a b,enc a=enc b→a=b
section
variable {P:Program} {w:Bs} {n:Nat} {f:Nat→Option Value} {E:Nat→jv} {X:Act→World→Prop} {Q:Exit→Act→World→Prop} {ops:Array Oper} {rest:List Oper}
variable {d ty T MT KT VT:Nat} {pos:String} {af:Array Edge} {g:Option (Nat×Bool)} {p q x:Operand} {b:Nat} {κ:Type} [DecidableEq κ] {enc:κ→Value} {ok:κ→Bool} {ρ:Ren}
theorem EI{ρ:Operand→Value}{W:World}{dd:Option Nat}{S D:Nat}{x v:Int}(hS:P.underlying S=some (.int .i64))(hD:P.underlying D=some (.int .u64))(hp:ρ p= .int .i64 x)(hx:uO x=some v):(execOp ρ ⟨dd,.convert S D p,ty,pos,af,g⟩).run P W= .ok (.value (.int .u64 v)) W:=by
 unfold uO at hx
 split at hx
 ·rename_i hr
  have:=Option.some.inj hx
  subst this
  have hw:IntKind.wrap .u64 x=x:=by
   have e1:IntKind.wrap .u64 x=x.emod (2^64):=by rfl
   rw[e1];exact Int.emod_eq_of_lt hr.1 (by omega)
  simp[execOp,hp,convert,run_underlying hS,run_underlying hD,Conv.intToInt,hw,Result.andThen]
 ·cases hx
theorem EJ{ρ:Operand→Value}{W:World}{dd:Option Nat}{S D:Nat}{x v:Int}(hS:P.underlying S=some (.int .u64))(hD:P.underlying D=some (.int .i64))(hp:ρ p= .int .u64 x)(hx:uO x=some v):(execOp ρ ⟨dd,.convert S D p,ty,pos,af,g⟩).run P W= .ok (.value (.int .i64 v)) W:=by
 unfold uO at hx
 split at hx
 ·rename_i hr
  have:=Option.some.inj hx
  subst this
  have hw:IntKind.wrap .i64 x=x:=IntWalk.i64_in _ ⟨by omega,by omega⟩
  simp[execOp,hp,convert,run_underlying hS,run_underlying hD,Conv.intToInt,hw,Result.andThen]
 ·cases hx
theorem Ce{ρ:Operand→Value}{W:World}{dd:Option Nat}{S D:Nat}{x:Int}{k:IntKind}(hp:ρ p= .int .u64 x)(hq:ρ q= .int k 1):(execOp ρ ⟨dd,.binOp .shr S p q D,ty,pos,af,g⟩).run P W= .ok (.value (.int .u64 (x / 2))) W:=by
 have h1:Op.shift .shr .u64 x k 1=pure (.int .u64 (x / 2^(1:Int).toNat)):=shift_shr .u64 k x 1 (by decide) (by decide)
 have h2:(2:Int)^(1:Int).toNat=2:=by decide
 rw[h2] at h1
 simp[execOp,go_sem,hp,hq,binOp,h1,Result.andThen]
end
section words
variable {κ:Type} [DecidableEq κ]
end words
open Go.RowKit Go.Proofs
open Go.ChangeMaps Go.MapKept
open Go.Maps (Keyed)
section words
variable {κ α:Type} [DecidableEq κ]
def qh:List (κ×List α)→κ→List α
 |[],_=>[]
 |p::m,k=>if p.1=k then p.2 else qh m k
def xe:List (κ×List α)→κ→List α→List (κ×List α)
 |[],k,v=>[(k,v)]
 |p::m,k,v=>if p.1=k then(k,v)::m else p::xe m k v
def ul(ok:κ→Bool)(m:List (κ×List α))(k:κ):Option (List α):=if ok k=true then some (qh m k) else none
structure KE (κ α:Type) where
 k:κ
 A:Option Addr
 c:Nat
 l:List α
 own:Bool
def KE.hd(e:KE κ α):Value:=.slice e.A e.l.length e.c
def KE.blk(e:KE κ α)(x:Nat):Prop:=e.own=true∧(Value.slice e.A e.l.length e.c).ownBlock=some x
def KE.kd(e:KE κ α):κ×List α:=(e.k,e.l)
def MQ(ms:List (KE κ α))(m:List (κ×List α)):Prop:=ms.map KE.kd=m∧∀e∈ms,e.own=true
def QT(ok:κ→Bool)(m:List (κ×List α))(k:κ)(pre post:List (KE κ α)):Prop:=ok k=true∧(∀e∈pre++post,e.own=true)∧∀l',pre.map KE.kd++(k,l')::post.map KE.kd=xe m k l'
omit [DecidableEq κ] in
theorem MQ.nil:MQ ([]:List (KE κ α)) []:=⟨rfl,fun _ h=>(nomatch h)⟩
theorem OJ(k:κ):∀ms:List (KE κ α),((∀e∈ms,e.k≠k)∧qh (ms.map KE.kd) k=[]∧∀l,xe (ms.map KE.kd) k l=ms.map KE.kd++[(k,l)])∨
  ∃a e z,ms=a++e::z∧e.k=k∧(∀e'∈a,e'.k≠k)∧qh (ms.map KE.kd) k=e.l∧∀l,xe (ms.map KE.kd) k l=a.map KE.kd++(k,l)::z.map KE.kd
 |[]=>.inl ⟨fun _ h=>(nomatch h),rfl,fun _=>rfl⟩
 | e ::ms=>by
  by_cases h:e.k=k
  ·exact .inr ⟨[],e,ms,rfl,h,fun _ h=>(nomatch h),by simp[qh,KE.kd,h],fun _=>by simp[xe,KE.kd,h]⟩
  ·rcases OJ k ms with⟨h1,h2,h3⟩|⟨a,e0,z,h1,h2,h3,h4,h5⟩
   ·refine .inl ⟨fun e' he'=>?_,?_,fun l=>?_⟩
    ·rcases List.mem_cons.1 he' with rfl|he'
     ·exact h
     ·exact h1 e' he'
    ·simp only[List.map_cons,qh];rw[if_neg (show ¬(KE.kd e).1=k from h)];exact h2
    ·simp only[List.map_cons,xe];rw[if_neg (show ¬(KE.kd e).1=k from h),h3];rfl
   ·refine .inr ⟨e::a,e0,z,by rw[h1];rfl,h2,fun e' he'=>?_,?_,fun l=>?_⟩
    ·rcases List.mem_cons.1 he' with rfl|he'
     ·exact h
     ·exact h3 e' he'
    ·simp only[List.map_cons,qh];rw[if_neg (show ¬(KE.kd e).1=k from h)];exact h4
    ·simp only[List.map_cons,xe];rw[if_neg (show ¬(KE.kd e).1=k from h),h5];rfl
end words
def JR(p:Int×Int):Value:=.agg #[.int .i64 p.1,.int .i64 p.2]
def Kc(p:Int×Int):Bool:=X7 p.1&&X7 p.2
theorem Y3{P:Program}{KT IT:Nat}(hl:laidOutB P=true)(hsmall:P.types.size+2≤10000)(hsz:∃m,P.types.size=m+1)(hrow:KT<P.types.size)(hk:P.keyType KT=true)(hu:∃fs,P.underlying KT=some (.struct fs)∧fs.toList.map (fun f=>(f.name != "_",f.type,f.offset))=[(true,IT,0),(true,IT,1)])
  (hc:P.cellsOf KT=2) (hc1:P.cellsOf IT=1) (hi:P.underlying IT=some (.int .i64)):TE P KT JR Kc:=by
 obtain⟨fs,hu,hfs⟩:=hu
 refine⟨Keyed.of_law (deep_law_gate hl hsmall hrow hk (by rw[hu])),fun k h=>?_,fun a b h=>?_⟩
 ·unfold Kc at h
  rw[Bool.and_eq_true] at h
  have w1:=RS h.1
  have w2:=RS h.2
  obtain⟨m,hm⟩:=hsz
  unfold keyOf JR
  simp only[hu]
  rw[if_pos (by simp[hk,Value.formed,hu,hc]),hm]
  unfold Program.keyLits
  simp only[hu,Value.cells]
  obtain⟨f1,f2,hff⟩:∃f1 f2,fs.toList=[f1,f2]:=by
   have hlen:fs.toList.length=2:=by have:=congrArg List.length hfs;simpa using this
   match hq:fs.toList,hlen with
   |[f1,f2],_=>exact⟨f1,f2,rfl⟩
  rw[hff] at hfs
  simp only[List.map_cons,List.map_nil,List.cons.injEq,Prod.mk.injEq,and_true] at hfs
  obtain⟨⟨a1,a2,a3⟩,b1,b2,b3⟩:=hfs
  have hall:fs.all (fun f=>f.name != "_")=true:=by
   rw[←Array.all_toList,hff];simp[a1,b1]
  rw[if_pos ⟨by rw[hc];rfl,hall⟩,hff,List.mapM_cons,List.mapM_cons,List.mapM_nil,a2,a3,b2,b3,hc1]
  simp[Program.keyLits,hi,w1,w2]
 ·unfold JR at h
  simp at h
  exact Prod.ext h.1 h.2
section
variable {P:Program} {w w':Bs} {n:Nat} {f:Nat→Option Value} {E:Nat→jv} {X:Act→World→Prop} {Q:Exit→Act→World→Prop} {ops:Array Oper} {rest:List Oper}
variable {d ty T MT KT VT:Nat} {pos:String} {af:Array Edge} {g:Option (Nat×Bool)} {p q x:Operand} {b:Nat} {κ α:Type} [DecidableEq κ] {enc:κ→Value} {ok:κ→Bool} {t:Fl α}
def OG(W:World)(b:Nat)(kv:List (Value×Value)):Prop:=∃es,W.heap[b]?=some (.map es es.size)∧(∀(i:Nat) (e:MapEntry),es.toList[i]?=some e→e.born=i)∧es.toList.map (fun x=>(x.key,x.val))=kv
theorem Iu{W W':World}{b:Nat}{kv:List (Value×Value)}(h:W'.heap[b]?=W.heap[b]?)(hp:OG W b kv):OG W' b kv:=by
 obtain⟨es,h1,h2⟩:=hp
 exact⟨es,h.trans h1,h2⟩
theorem Nr{l:List MapEntry}(h:∀(i:Nat) (e:MapEntry),l[i]?=some e→e.born=i):(l.map (·.born)).Nodup:=by
 rw[List.Nodup,List.pairwise_iff_getElem]
 intro i j hi hj hij
 rw[List.length_map] at hi hj
 rw[List.getElem_map,List.getElem_map,h i _ (List.getElem?_eq_getElem hi),h j _ (List.getElem?_eq_getElem hj)]
 omega
def mq(enc:κ→Value)(ok:κ→Bool)(b T:Nat)(t:Fl α)(ms:List (KE κ α)):jv:=
 ⟨fun x=>x=b∨∃e∈ms,e.blk x,fun O W=>OG W b (ms.map fun e=>(enc e.k,e.hd))∧
  (∀e∈ms,ok e.k=true∧bZ e.A e.l.length e.c∧(e.own=true→(ow e.A e.c T t e.l).φ O W))∧(ms.Pairwise fun e e'=>e.k≠e'.k∧∀x,e.blk x→¬e'.blk x)∧∀e∈ms,¬e.blk b⟩
omit [DecidableEq κ] in
theorem JE(b T:Nat)(t:Fl α)(ms:List (KE κ α)):(mq enc ok b T t ms).loc:=⟨fun O W W' h hp=>by
  obtain⟨h1,h2,h3,h4⟩:=hp
  refine⟨Iu (h b (.inr (.inl rfl))) h1,fun e he=>⟨(h2 e he).1,(h2 e he).2.1,fun ho=>(lg e.A e.c T t e.l).at_ O W W' (fun x hx=>h x ?_) ((h2 e he).2.2 ho)⟩,h3,h4⟩
  rcases hx with hx|hx
  ·exact .inl hx
  ·exact .inr (.inr ⟨e,he,ho,hx⟩),
 fun O O' W h hp=>by
  obtain⟨h1,h2,h3,h4⟩:=hp
  exact⟨h1,fun e he=>⟨(h2 e he).1,(h2 e he).2.1,fun ho=>(lg e.A e.c T t e.l).up O O' W h ((h2 e he).2.2 ho)⟩,h3,h4⟩⟩
omit [DecidableEq κ] in
theorem LU(enc:κ→Value)(ok:κ→Bool)(k0 T:Nat)(t:Fl α)(hw:Wn ops f ⟨some d,.makeMap MT none,ty,pos,af,g⟩)(hdn:Nat.blt d n=true)
  (K:∀b,Tr w n (uf f d (.map (some b))) (up E k0 (mq enc ok b T t [])) (wpList P ops Q rest)):Tr w n f E (wpList P ops Q (⟨some d,.makeMap MT none,ty,pos,af,g⟩::rest)):=
 AU hw hdn (fun _ W _ h2=>⟨rfl,h2.add k0 ((Below.refl _ _).alloc (Nat.le_refl _) _) (mq enc ok W.heap.size T t []) (JE _ _ _ _)
  ⟨⟨#[],heap_alloc_new W _,fun i e h=>by simp at h,rfl⟩,fun _ h=>(nomatch h),.nil,fun _ h=>(nomatch h)⟩ (fun b hb=>by
   have hb:b=W.heap.size∨∃e∈([]:List (KE κ α)),e.blk b:=hb
   rcases hb with rfl|⟨e,he,_⟩
   ·exact⟨Nat.le_refl _,by simp⟩
   ·cases he)⟩) (fun W _=>K W.heap.size)
omit [DecidableEq κ] in
theorem HF.Vm{W:World}(h2:HF w W E){k0 k1:Nat}{pre post:List (KE κ α)}{e:KE κ α}(hk:E k0=Proofs.YtblmajfbibbiaaaGreatDoor.mq enc ok b T t (pre++e::post))(hne:k1≠k0)(heo:e.own=true):
  HF w W (up (up E k0 (Proofs.YtblmajfbibbiaaaGreatDoor.mq enc ok b T t (pre++{e with own:=false}::post))) k1 (Proofs.YtblmajfbibbiaaaGreatDoor.ow e.A e.c T t e.l)):=by
 have hφ:=h2.phi k0
 rw[hk] at hφ
 obtain⟨g1,g2,g3,g4⟩:=hφ
 have heM:e∈pre++e::post:=by simp
 obtain⟨pw1,pw2,pw3⟩:=List.pairwise_append.1 g3
 obtain⟨pw4,pw5⟩:=List.pairwise_cons.1 pw2
 have hnb:∀x,¬({e with own:=false}:KE κ α).blk x:=fun x hx=>by cases hx.1
 have hmem:∀e'∈pre++{e with own:=false}::post,(e'∈pre++e::post∧(e'∈pre∨e'∈post))∨e'={e with own:=false}:=fun e' he'=>by
  rcases List.mem_append.1 he' with he'|he'
  ·exact .inl ⟨List.mem_append_left _ he',.inl he'⟩
  ·rcases List.mem_cons.1 he' with rfl|he'
   ·exact .inr rfl
   ·exact .inl ⟨List.mem_append_right _ (List.mem_cons_of_mem _ he'),.inr he'⟩
 refine h2.split hne (JE _ _ _ _) (lg _ _ _ _ _) ?_ ((g2 e heM).2.2 heo) (fun b' hb'=>?_) (fun b' hb'=>?_) (fun b' hb1 hb2=>?_)
 ·refine⟨?_,fun e' he'=>?_,?_,fun e' he'=>?_⟩
  ·simpa[KE.hd] using g1
  ·rcases hmem e' he' with⟨h3,_⟩|rfl
   ·exact g2 e' h3
   ·exact⟨(g2 e heM).1,(g2 e heM).2.1,fun h=>by cases h⟩
  ·rw[List.pairwise_append,List.pairwise_cons]
   refine⟨pw1,⟨fun e' he'=>⟨(pw4 e' he').1,fun x hx=>absurd hx (hnb x)⟩,pw5⟩,fun e1' he1 e2' he2=>?_⟩
   rcases List.mem_cons.1 he2 with rfl|he2
   ·exact⟨(pw3 e1' he1 e List.mem_cons_self).1,fun x _=>hnb x⟩
   ·exact pw3 e1' he1 e2' (List.mem_cons_of_mem _ he2)
  ·rcases hmem e' he' with⟨h3,_⟩|rfl
   ·exact g4 e' h3
   ·exact hnb b
 ·rw[hk]
  rcases hb' with hb'|⟨e',he',hx⟩
  ·exact .inl hb'
  ·rcases hmem e' he' with⟨h3,_⟩|rfl
   ·exact .inr ⟨e',h3,hx⟩
   ·exact absurd hx (hnb b')
 ·rw[hk]
  exact .inr ⟨e,heM,heo,hb'⟩
 ·have hb2:e.blk b':=⟨heo,hb2⟩
  rcases hb1 with hb1|⟨e',he',hx⟩
  ·subst hb1;exact g4 e heM hb2
  ·rcases hmem e' he' with⟨_,h3|h3⟩|rfl
   ·exact(pw3 e' h3 e List.mem_cons_self).2 b' hx hb2
   ·exact(pw4 e' h3).2 b' hb2 hx
   ·exact hnb b' hx
theorem J5(k0 k1:Nat){m:List (κ×List α)}{ms:List (KE κ α)}{l:List α}{k:κ}(K:TE P KT enc ok)(hw:Wn ops f ⟨some d,.mapEntry MT p q,ty,pos,af,g⟩)(hdn:Nat.blt d n=true)(hMT:P.underlying MT=some (.map KT VT))(hz:(P.info? VT).bind (·.zero)=some (.slice none 0 0))
  (hp:ev f p=some (.map (some b))) (hq:ev f q=some (enc k)) (hk:E k0=mq enc ok b T t ms) (hne:Nat.beq k1 k0=false) (hm:MQ ms m) (hl:ul ok m k=some l)
  (C:∀pre post A c,QT ok m k pre post→bZ A l.length c→Tr w n (uf f d (.tuple #[.slice A l.length c,.int .i64 (pre.length:Int)])) (up (up E k0 (mq enc ok b T t (pre++⟨k,A,c,l,false⟩::post))) k1 (ow A c T t l)) (wpList P ops Q rest)):
  Tr w n f E (wpList P ops Q (⟨some d,.mapEntry MT p q,ty,pos,af,g⟩::rest)):=by
 have hne:k1≠k0:=fun e=>by subst e;simp at hne
 obtain⟨hm1,hm2⟩:=hm
 subst hm1
 unfold ul at hl
 split at hl
 case isFalse=>cases hl
 rename_i hr
 have hl:=(Option.some.inj hl).symm
 subst hl
 refine Tr.op hw fun a W h1 h2=>?_
 have hφ:=h2.phi k0
 rw[hk] at hφ
 obtain⟨⟨es,hb,hborn,hes⟩,g2,g3,g4⟩:=hφ
 obtain⟨kl,hkey⟩:=K.key k hr
 have hks:∀e∈es.toList,∃l,keyOf P KT e.key=some l:=fun e he=>by
  have:(e.key,e.val)∈ms.map fun e=>(enc e.k,e.hd):=by rw[←hes];exact List.mem_map_of_mem (f:=fun x:MapEntry=>(x.key,x.val)) he
  obtain⟨e',he',h3⟩:=List.mem_map.1 this
  have h4:enc e'.k=e.key:=congrArg Prod.fst h3
  rw[←h4];exact K.key e'.k (g2 e' he').1
 have hbS:(E k0).S b:=by rw[hk];exact .inl rfl
 have hzr:∀W,(zeroValue VT).run P W= .ok (.slice none 0 0) W:=fun W=>by
  cases hi:P.info? VT with
  |none=>rw[hi] at hz;cases hz
  |some inf=>
   rw[hi] at hz
   simp only[ob] at hz
   simp[zeroValue,typeInfo,hi,hz]
 unfold Oper.wp
 rcases K.kd.find W hkey es.toList hks with⟨f1,f2⟩|⟨j,e0,f1,f2,f3⟩
 · -- a new entry
  have hno:∀e∈ms,e.k≠k:=fun e he hek=>by
   have:(enc e.k,e.hd)∈es.toList.map fun x=>(x.key,x.val):=by rw[hes];exact List.mem_map_of_mem (f:=fun e:KE κ α=>(enc e.k,e.hd)) he
   obtain⟨x0,hx0,h3⟩:=List.mem_map.1 this
   exact f2 x0 hx0 ((congrArg Prod.fst h3).trans (by show enc e.k=_;rw[hek]))
  rcases OJ k ms with⟨q1,q2,q3⟩|⟨a0,e,z,q1,q2,_⟩
  ·have hsize:es.size=ms.length:=by rw[←Array.length_toList,←List.length_map (f:=fun x:MapEntry=>(x.key,x.val)),hes,List.length_map]
   have hrun:(execOp a.eval ⟨some d,.mapEntry MT p q,ty,pos,af,g⟩).run P W= .ok (.value (.tuple #[.slice none 0 0,.int .i64 (ms.length:Int)])) (setBlock W b (.map (es.push ⟨enc k,.slice none 0 0,es.size⟩) (es.size+1))):=by
    simp[execOp,h1.ev hp,h1.ev hq,Instr.mapEntry,run_underlying hMT,MapKept.run_getObj_map hb,K.kd.check W false hkey,f1,hzr,MapKept.run_setObj_map _ hb,Result.andThen,setBlock,goInt,hsize]
   rw[hrun]
   have hm':HF w (setBlock W b (.map (es.push ⟨enc k,.slice none 0 0,es.size⟩) (es.size+1))) (up E k0 (mq enc ok b T t (ms++[⟨k,none,0,[],true⟩]))):=by
    refine h2.mod k0 _ rfl rfl rfl (by simp[setBlock]) (Nat.le_refl _) (fun x _ hx=>heap_setBlock_other hb _ (fun hh=>hx (by rw[hh];exact hbS))) (JE _ _ _ _) ⟨?_,fun e he=>?_,?_,fun e he=>?_⟩ (fun y hy=>?_)
    ·refine⟨es.push ⟨enc k,.slice none 0 0,es.size⟩,by rw[heap_setBlock_same hb _];simp,fun i e hi=>?_,by simp[hes,KE.hd]⟩
     rw[Array.toList_push] at hi
     by_cases hlt:i<es.toList.length
     ·rw[List.getElem?_append_left hlt] at hi;exact hborn i e hi
     ·rw[List.getElem?_append_right (by omega)] at hi
      cases hi2:i-es.toList.length with
      |zero=>rw[hi2] at hi;simp at hi;subst hi;simp at hi2 hlt ⊢;omega
      |succ j=>rw[hi2] at hi;simp at hi
    ·rcases List.mem_append.1 he with he|he
     ·exact⟨(g2 e he).1,(g2 e he).2.1,fun ho=>(lg _ _ _ _ _).at_ w.O W _ (fun x hx=>heap_setBlock_other hb _ (fun hh=>by
       rcases hx with hx|hx
       ·exact(h2.bd k0 b hbS).1 (.inl (hh▸hx))
       ·exact g4 e he ⟨ho,hh▸hx⟩)) ((g2 e he).2.2 ho)⟩
     ·simp at he;subst he
      exact⟨hr,fQ,fun _=>⟨[],.nil,by simp,.inl ⟨rfl,rfl⟩⟩⟩
    ·rw[List.pairwise_append]
     refine⟨g3,by simp,fun e1 he1 e2 he2=>?_⟩
     simp at he2;subst he2
     exact⟨q1 e1 he1,fun x _ hx=>by cases hx.2⟩
    ·rcases List.mem_append.1 he with he|he
     ·exact g4 e he
     ·simp at he;subst he
      exact fun hx=>by cases hx.2
    ·rcases hy with hy|⟨e,he,hy⟩
     ·subst hy;exact⟨.inl hbS,by simp[setBlock];exact(h2.bd k0 y hbS).2⟩
     ·rcases List.mem_append.1 he with he|he
      ·have:(E k0).S y:=by rw[hk];exact .inr ⟨e,he,hy⟩
       exact⟨.inl this,by simp[setBlock];exact(h2.bd k0 y this).2⟩
      ·simp at he;subst he;cases hy.2
   have hm2':=hm'.Vm (k1:=k1) (pre:=ms) (e:=⟨k,none,0,[],true⟩) (post:=[]) (by rw[jE]) hne rfl
   have e1:up (up (up E k0 (mq enc ok b T t (ms++[⟨k,none,0,[],true⟩]))) k0 (mq enc ok b T t (ms++⟨k,none,0,[],false⟩::[]))) k1 (ow none 0 T t [])=up (up E k0 (mq enc ok b T t (ms++⟨k,none,0,[],false⟩::[]))) k1 (ow none 0 T t []):=by
    funext j
    rcases eH (up (up E k0 (mq enc ok b T t (ms++[⟨k,none,0,[],true⟩]))) k0 (mq enc ok b T t (ms++⟨k,none,0,[],false⟩::[]))) k1 (ow none 0 T t []) j with⟨u1,u2⟩|⟨u1,u2⟩
    ·rw[u2];subst u1;rw[jE]
    ·rw[u2,ic u1]
     rcases eH E k0 (mq enc ok b T t (ms++⟨k,none,0,[],false⟩::[])) j with⟨v1,v2⟩|⟨v1,v2⟩
     ·subst v1;rw[jE,jE]
     ·rw[ic v1,ic v1,ic v1]
   have hm3:HF w (setBlock W b (.map (es.push ⟨enc k,.slice none 0 0,es.size⟩) (es.size+1))) (up (up E k0 (mq enc ok b T t (ms++⟨k,none,0,[],false⟩::[]))) k1 (ow none 0 T t [])):=by rw[←e1];exact hm2'
   rw[q2] at C
   exact C ms [] none 0 ⟨hr,by simpa using hm2,fun l'=>by rw[q3];rfl⟩ fQ _ _ (h1.put (Nat.le_of_ble_eq_true hdn) _) hm3
  ·exact absurd q2 (hno e (by rw[q1];simp))
 · -- an old one
  have hj:es[j]?=some e0:=by simpa using f2
  have hlist:(es.modify j (fun e'=>{e' with key:=enc k})).toList=es.toList:=by
   rw[Array.toList_modify,modify_eq_set _ _ _ _ f2]
   have:({e0 with key:=enc k}:MapEntry)=e0:=by rw[←f3]
   rw[this]
   have hlt:j<es.toList.length:=(List.getElem?_eq_some_iff.1 f2).1
   have hg:es.toList[j]=e0:=(List.getElem?_eq_some_iff.1 f2).2
   rw[←hg,List.set_getElem_self]
  have harr:es.modify j (fun e'=>{e' with key:=enc k})=es:=Array.toList_inj.1 hlist
  have hrun:(execOp a.eval ⟨some d,.mapEntry MT p q,ty,pos,af,g⟩).run P W= .ok (.value (.tuple #[e0.val,.int .i64 (j:Int)])) (setBlock W b (.map es es.size)):=by
   have:=hborn j e0 f2
   simp[execOp,h1.ev hp,h1.ev hq,Instr.mapEntry,run_underlying hMT,MapKept.run_getObj_map hb,K.kd.check W false hkey,f1,hj,f3,K.kd.stays W hkey,MapKept.run_setObj_map _ hb,Result.andThen,setBlock,goInt,harr,this]
  have hsame:∀y,(setBlock W b (.map es es.size)).heap[y]?=W.heap[y]?:=fun y=>by
   by_cases hy:y=b
   ·rw[hy,heap_setBlock_same hb _,hb]
   ·exact heap_setBlock_other hb _ hy
  rw[hrun]
  have hin:(e0.key,e0.val)∈ms.map fun e=>(enc e.k,e.hd):=by rw[←hes];exact List.mem_map_of_mem (f:=fun x:MapEntry=>(x.key,x.val)) (List.mem_of_getElem? f2)
  rcases OJ k ms with⟨q1,_⟩|⟨a0,e,z,q1,q2,q3,q4,q5⟩
  ·obtain⟨e',he',h3⟩:=List.mem_map.1 hin
   exact absurd (K.inj _ _ ((congrArg Prod.fst h3).trans f3)) (q1 e' he')
  ·have hjl:j=a0.length:=by
    have hx:(ms.map fun e=>(enc e.k,e.hd))[j]?=some (e0.key,e0.val):=by rw[←hes,List.getElem?_map,f2];rfl
    rw[q1,List.map_append,List.map_cons] at hx
    rcases Nat.lt_trichotomy j a0.length with h|h|h
    ·rw[List.getElem?_append_left (by simpa using h),List.getElem?_map] at hx
     obtain⟨e',h3,h4⟩:=Option.map_eq_some_iff.1 hx
     exact absurd (K.inj _ _ ((congrArg Prod.fst h4).trans f3)) (q3 e' (List.mem_of_getElem? h3))
    ·exact h
    ·rw[List.getElem?_append_right (by simp;omega),List.length_map] at hx
     obtain⟨i,hi⟩:∃i,j-a0.length=i+1:=⟨j-a0.length-1,by omega⟩
     rw[hi,List.getElem?_cons_succ,List.getElem?_map] at hx
     obtain⟨e',h3,h4⟩:=Option.map_eq_some_iff.1 hx
     have:=K.inj _ _ ((congrArg Prod.fst h4).trans f3)
     rw[q1] at g3
     exact absurd (q2.trans this.symm) ((List.pairwise_cons.1 (List.pairwise_append.1 g3).2.1).1 e' (List.mem_of_getElem? h3)).1
   have hval:e0.val=e.hd:=by
    have hx:(ms.map fun e=>(enc e.k,e.hd))[j]?=some (e0.key,e0.val):=by rw[←hes,List.getElem?_map,f2];rfl
    rw[q1,List.map_append,List.map_cons,hjl,List.getElem?_append_right (by simp),List.length_map,Nat.sub_self] at hx
    simp at hx
    exact hx.2.symm
   have heM:e∈ms:=by rw[q1];simp
   have heo:=hm2 e heM
   have hm':HF w (setBlock W b (.map es es.size)) E:=by
    refine⟨h2.os,h2.tape,h2.output,Nat.le_trans h2.size (by simp[setBlock]),h2.drawn,fun y hy=>(hsame y).trans (h2.keep y hy),fun j=>(h2.loc j).at_ _ W _ (fun y _=>hsame y) (h2.phi j),h2.loc,fun j y hy=>⟨(h2.bd j y hy).1,by simp[setBlock];exact(h2.bd j y hy).2⟩,h2.disj⟩
   have hk':=hk
   rw[q1] at hk'
   have hm3:=hm'.Vm (k1:=k1) hk' hne heo
   rw[q4] at C
   have e2:({e with own:=false}:KE κ α)=⟨k,e.A,e.c,e.l,false⟩:=by rw[←q2]
   rw[e2] at hm3
   rw[hval,hjl]
   exact C a0 z e.A e.c ⟨hr,fun e' he'=>hm2 e' (by
    rw[q1]
    rcases List.mem_append.1 he' with he'|he'
    ·exact List.mem_append_left _ he'
    ·exact List.mem_append_right _ (List.mem_cons_of_mem _ he')),fun l'=>(q5 l').symm⟩ (g2 e heM).2.1 _ _ (h1.put (Nat.le_of_ble_eq_true hdn) _) hm3
theorem LW(k0 k1:Nat){m:List (κ×List α)}{pre post:List (KE κ α)}{k:κ}{A A':Option Addr}{c c':Nat}{l l':List α}(hw:Wn ops f ⟨none,.entryStore MT p q x,ty,pos,af,g⟩)
  (hp:ev f p=some (.map (some b))) (hq:ev f q=some (.int .i64 (pre.length:Int))) (hx:ev f x=some (.slice A' l'.length c')) (hk:E k0=mq enc ok b T t (pre++⟨k,A,c,l,false⟩::post)) (hk':E k1=ow A' c' T t l') (hne:Nat.beq k1 k0=false) (hm:QT ok m k pre post) (hf:bZ A' l'.length c')
  (C:∀ms,MQ ms (xe m k l')→Tr w n f (up (up E k1 emp) k0 (mq enc ok b T t ms)) (wpList P ops Q rest)):Tr w n f E (wpList P ops Q (⟨none,.entryStore MT p q x,ty,pos,af,g⟩::rest)):=by
 have hne:k1≠k0:=fun e=>by subst e;simp at hne
 obtain⟨m0,m1,m2⟩:=hm
 refine Tr.op hw fun a W h1 h2=>?_
 have hφ:=h2.phi k0
 rw[hk] at hφ
 obtain⟨⟨es,hb,hborn,hes⟩,g2,g3,g4⟩:=hφ
 have hφ':=h2.phi k1
 rw[hk'] at hφ'
 have hlen:es.toList.length=(pre++⟨k,A,c,l,false⟩::post).length:=by rw[←List.length_map (f:=fun x:MapEntry=>(x.key,x.val)),hes,List.length_map]
 have hlt:pre.length<es.toList.length:=by rw[hlen];simp
 have hget:es.toList[pre.length]?=some es.toList[pre.length]:=List.getElem?_eq_getElem hlt
 generalize he0:es.toList[pre.length]=e0 at hget
 have hkey:e0.key=enc k:=by
  have hx:((pre++⟨k,A,c,l,false⟩::post).map fun e=>(enc e.k,e.hd))[pre.length]?=some (e0.key,e0.val):=by rw[←hes,List.getElem?_map,hget];rfl
  rw[List.map_append,List.map_cons,List.getElem?_append_right (by simp),List.length_map,Nat.sub_self] at hx
  simp at hx
  exact hx.1.symm
 have hfind:es.findIdx? (fun e=>((e.born:Nat):Int)==((pre.length:Nat):Int))=some pre.length:=by
  have:=Go.WideElems.findIdx_born (Nr hborn) hget
  rw[hborn _ _ hget] at this
  rw[Go.WideElems.findIdx_arr];exact this
 have hlist:(es.modify pre.length (fun e'=>{e' with val:=.slice A' l'.length c'})).toList=es.toList.set pre.length {e0 with val:=.slice A' l'.length c'}:=by rw[Array.toList_modify,modify_eq_set _ _ _ _ hget]
 have hrun:(execOp a.eval ⟨none,.entryStore MT p q x,ty,pos,af,g⟩).run P W= .ok .skip (setBlock W b (.map (es.modify pre.length fun e'=>{e' with val:=.slice A' l'.length c'}) es.size)):=by
  simp[execOp,h1.ev hp,h1.ev hq,h1.ev hx,Instr.entryStore,MapKept.run_getObj_map hb,asInt,asIntOf,hfind,MapKept.run_setObj_map _ hb,Result.andThen,setBlock]
 have hbS:(E k0).S b:=by rw[hk];exact .inl rfl
 have hbR:¬w.R b:=(h2.bd k0 b hbS).1
 have hb':¬(E k1).S b:=h2.disj k0 k1 b (fun e=>hne e.symm) hbS
 have hold:∀e'∈pre++⟨k,A,c,l,false⟩::post,∀x,e'.blk x→(E k0).S x:=fun e' he' x hx=>by rw[hk];exact .inr ⟨e',he',hx⟩
 have hnb:∀x,(⟨k,A',c',l',true⟩:KE κ α).blk x→(E k1).S x:=fun x hx=>by rw[hk'];exact hx.2
 have hoth:∀x,x≠b→(setBlock W b (.map (es.modify pre.length fun e'=>{e' with val:=.slice A' l'.length c'}) es.size)).heap[x]?=W.heap[x]?:=fun x hx=>heap_setBlock_other hb _ hx
 have hkeep:∀(S:Nat→Prop),(∀x,S x→x≠b)→∀x,w.O x∨S x→(setBlock W b (.map (es.modify pre.length fun e'=>{e' with val:=.slice A' l'.length c'}) es.size)).heap[x]?=W.heap[x]?:=fun S hS x hx=>hoth x (fun e=>by
  rcases hx with hx|hx
  ·exact hbR (.inl (e▸hx))
  ·exact hS x hx e)
 have hpre:∀e'∈pre,e'∈pre++⟨k,A,c,l,false⟩::post:=fun e' he'=>List.mem_append_left _ he'
 have hpost:∀e'∈post,e'∈pre++⟨k,A,c,l,false⟩::post:=fun e' he'=>List.mem_append_right _ (List.mem_cons_of_mem _ he')
 have hoE:∀e'∈pre++⟨k,A,c,l,false⟩::post,ok e'.k=true∧bZ e'.A e'.l.length e'.c∧(e'.own=true→(ow e'.A e'.c T t e'.l).φ w.O (setBlock W b (.map (es.modify pre.length fun e'=>{e' with val:=.slice A' l'.length c'}) es.size))):=fun e' he'=>by
  obtain⟨e1,e2,e3⟩:=g2 e' he'
  exact⟨e1,e2,fun ho=>(lg _ _ _ _ _).at_ w.O W _ (hkeep _ (fun x hx e=>g4 e' he' (by subst e;exact⟨ho,hx⟩))) (e3 ho)⟩
 have hmem:∀e'∈pre++⟨k,A',c',l',true⟩::post,(e'∈pre++⟨k,A,c,l,false⟩::post∧(e'∈pre∨e'∈post))∨e'=⟨k,A',c',l',true⟩:=fun e' he'=>by
  rcases List.mem_append.1 he' with he'|he'
  ·exact .inl ⟨hpre e' he',.inl he'⟩
  ·rcases List.mem_cons.1 he' with rfl|he'
   ·exact .inr rfl
   ·exact .inl ⟨hpost e' he',.inr he'⟩
 obtain⟨pw1,pw2,pw3⟩:=List.pairwise_append.1 g3
 obtain⟨pw4,pw5⟩:=List.pairwise_cons.1 pw2
 unfold Oper.wp
 rw[hrun]
 refine C (pre++⟨k,A',c',l',true⟩::post) ⟨by rw[←m2 l',List.map_append,List.map_cons];rfl,fun e' he'=>?_⟩ _ _ (by exact h1) (h2.merge (mq enc ok b T t (pre++⟨k,A',c',l',true⟩::post)) hne rfl rfl rfl (by simp[setBlock]) (Nat.le_refl _) (fun x _ hs=>hoth x (fun e=>by rw[e] at hs;exact hs hbS)) (JE _ _ _ _) ?_ ?_)
 ·rcases hmem e' he' with⟨_,h3|h3⟩|rfl
  ·exact m1 e' (List.mem_append_left _ h3)
  ·exact m1 e' (List.mem_append_right _ h3)
  ·rfl
 ·refine⟨⟨es.modify pre.length (fun e'=>{e' with val:=.slice A' l'.length c'}),by rw[heap_setBlock_same hb _];simp,fun i e hi=>?_,?_⟩,fun e' he'=>?_,?_,fun e' he'=>?_⟩
  ·rw[hlist,List.getElem?_set] at hi
   split at hi
   ·rename_i hh
    subst hh
    have hi:some ({e0 with val:=.slice A' l'.length c'}:MapEntry)=some e:=by simpa[hlt] using hi
    have hi:=Option.some.inj hi
    rw[←hi]
    exact hborn _ e0 hget
   ·exact hborn i e hi
  ·rw[hlist,List.map_set,hes,List.map_append,List.map_cons,List.map_append,List.map_cons,List.set_append_right _ _ (by simp)]
   simp[hkey,KE.hd]
  ·rcases hmem e' he' with⟨h3,_⟩|rfl
   ·exact hoE e' h3
   ·exact⟨m0,hf,fun _=>(lg _ _ _ _ _).at_ w.O W _ (hkeep _ (fun x hx e=>hb' (by subst e;rw[hk'];exact hx))) hφ'⟩
  ·rw[List.pairwise_append,List.pairwise_cons]
   refine⟨pw1,⟨fun e' he'=>⟨(pw4 e' he').1,fun x hx hy=>h2.disj k0 k1 x (fun e=>hne e.symm) (hold e' (hpost e' he') x hy) (hnb x hx)⟩,pw5⟩,fun e1' he1 e2' he2=>?_⟩
   rcases List.mem_cons.1 he2 with rfl|he2
   ·exact⟨(pw3 e1' he1 ⟨k,A,c,l,false⟩ List.mem_cons_self).1,fun x hx hy=>h2.disj k0 k1 x (fun e=>hne e.symm) (hold e1' (hpre e1' he1) x hx) (hnb x hy)⟩
   ·exact pw3 e1' he1 e2' (List.mem_cons_of_mem _ he2)
  ·rcases hmem e' he' with⟨h3,_⟩|rfl
   ·exact g4 e' h3
   ·exact fun hx=>hb' (hnb b hx)
 ·intro x hx
  rcases hx with hx|⟨e',he',hx⟩
  ·exact .inl (by rw[hk];exact .inl hx)
  ·rcases hmem e' he' with⟨h3,_⟩|rfl
   ·exact .inl (hold e' h3 x hx)
   ·exact .inr (hnb x hx)
def NH(R:Nat→Prop)(W:World)(enc:κ→Value)(ok:κ→Bool)(b:Nat)(t:Fl α)(m:List (κ×List α)):Prop:=
 R b∧∃ms:List (KE κ α),ms.map KE.kd=m∧OG W b (ms.map fun e=>(enc e.k,e.hd))∧(∀e∈ms,ok e.k=true∧Sl R W t e.A e.c e.l)∧ms.Pairwise fun e e'=>e.k≠e'.k
omit [DecidableEq κ] in
theorem NH.go{R R':Nat→Prop}{W W':World}{m:List (κ×List α)}(h:NH R W enc ok b t m)(hS:∀b,R b→R' b)(hs:∀b,R b→W'.heap[b]?=W.heap[b]?):NH R' W' enc ok b t m:=by
 obtain⟨h1,ms,h2,h3,h4,h5⟩:=h
 exact⟨hS b h1,ms,h2,Iu (hs b h1) h3,fun e he=>⟨(h4 e he).1,(h4 e he).2.go hS hs⟩,h5⟩
omit [DecidableEq κ] in
theorem NH.oV{m:List (κ×List α)}(h:NH w.R w.W enc ok b t m)(hle:w.Le w'):NH w'.R w'.W enc ok b t m:=h.go hle.r (fun b hb=>hle.blk b hb)
omit [DecidableEq κ] in
theorem NH.ext{m:List (κ×List α)}(h:NH w.R w.W enc ok b t m)(e:w.Ext w'):NH w'.R w'.W enc ok b t m:=h.go e.r e.blk
omit [DecidableEq κ] in
theorem J3(k0:Nat){m:List (κ×List α)}{ms:List (KE κ α)}(hk:E k0=mq enc ok b T t ms)(hm:MQ ms m)(K:∀w',w.Le w'→NH w'.R w'.W enc ok b t m→Tr w' n f (up E k0 emp) X):Tr w n f E X:=
 fun a W h1 h2=>K (h2.raise k0) (h2.FV k0) (by
  have hφ:=h2.phi k0
  rw[hk] at hφ
  obtain⟨g1,g2,g3,g4⟩:=hφ
  refine⟨.inl (.inr (by rw[hk];exact .inl rfl)),ms,hm.1,g1,fun e he=>⟨(g2 e he).1,?_⟩,g3.imp fun h=>h.1⟩
  obtain⟨css,q0,q1⟩:=(g2 e he).2.2 (hm.2 e he)
  refine(Cs q0 q1).mono (fun y hy=>?_)
  rcases hy with hy|hy
  ·exact .inl (.inl hy)
  ·exact .inl (.inr (by rw[hk];exact .inr ⟨e,he,hm.2 e he,hy⟩))) a W h1 (h2.raised k0)
def Looks(w:Bs)(enc:κ→Value)(ok:κ→Bool)(b:Nat)(A:Option Addr)(c nl:Nat)(k:κ):Prop:=
 ∀{P:Program} {E:Nat→jv} {W:World} (_:HF w W E) {ρ:Operand→Value} {dd:Option Nat} {MT KT VT ty:Nat} {pos:String} {af:Array Edge} {g:Option (Nat×Bool)} {p q:Operand} (_:P.underlying MT=some (.map KT VT)) (_:TE P KT enc ok) (_:(P.info? VT).bind (·.zero)=some (.slice none 0 0)) (_:ρ p= .map (some b)) (_:ρ q=enc k),
  (execOp ρ ⟨dd,.lookup MT p q false,ty,pos,af,g⟩).run P W= .ok (.value (.slice A nl c)) W
theorem NH.look{m:List (κ×List α)}{l:List α}(h:NH w.R w.W enc ok b t m){k:κ}(hl:ul ok m k=some l):∃A c,Sl w.R w.W t A c l∧Looks w enc ok b A c l.length k:=by
 unfold ul at hl
 split at hl
 case isFalse=>cases hl
 rename_i hr
 have hl:=(Option.some.inj hl).symm
 subst hl
 obtain⟨hR,ms,rfl,⟨es,hb,hborn,hes⟩,g2,g3⟩:=h
 have key:∀{E:Nat→jv} {W:World},HF w W E→W.heap[b]?=some (.map es es.size):=fun h2=>(h2.keep b hR).trans hb
 have hkeys:∀{P:Program} {KT:Nat},TE P KT enc ok→∀e∈es.toList,∃l,keyOf P KT e.key=some l:=fun K e he=>by
  have:(e.key,e.val)∈ms.map fun e=>(enc e.k,e.hd):=by rw[←hes];exact List.mem_map_of_mem (f:=fun x:MapEntry=>(x.key,x.val)) he
  obtain⟨e',he',h3⟩:=List.mem_map.1 this
  have h4:enc e'.k=e.key:=congrArg Prod.fst h3
  rw[←h4];exact K.key e'.k (g2 e' he').1
 rcases OJ k ms with⟨q1,q2,_⟩|⟨a0,e,z,q1,q2,q3,q4,_⟩
 ·refine⟨none,0,by rw[q2];exact Sl.nil _ _ _,?_⟩
  intro P E W h2 ρ dd MT KT VT ty pos af g p q hMT K hz hp hq
  obtain⟨kl,hkey⟩:=K.key k hr
  have hzr:(zeroValue VT).run P W= .ok (.slice none 0 0) W:=by
   cases hi:P.info? VT with
   |none=>rw[hi] at hz;cases hz
   |some inf=>
    rw[hi] at hz
    simp only[ob] at hz
    simp[zeroValue,typeInfo,hi,hz]
  have main:(Instr.lookup MT (.map (some b)) (enc k) false).run P W= .ok (.slice none 0 0) W:=by
   rcases K.kd.find W hkey es.toList (hkeys K) with⟨f1,f2⟩|⟨j,e0,f1,f2,f3⟩
   ·simp[Instr.lookup,run_underlying hMT,MapKept.run_getObj_map (key h2),K.kd.check W _ hkey,f1,hzr,Result.andThen]
   ·have hin:(e0.key,e0.val)∈ms.map fun e=>(enc e.k,e.hd):=by rw[←hes];exact List.mem_map_of_mem (f:=fun x:MapEntry=>(x.key,x.val)) (List.mem_of_getElem? f2)
    obtain⟨e',he',h3⟩:=List.mem_map.1 hin
    exact absurd (K.inj _ _ ((congrArg Prod.fst h3).trans f3)) (q1 e' he')
  rw[q2]
  simp[execOp,hp,hq,main]
 ·have heM:e∈ms:=by rw[q1];simp
  refine⟨e.A,e.c,by rw[q4];exact(g2 e heM).2,?_⟩
  intro P E W h2 ρ dd MT KT VT ty pos af g p q hMT K hz hp hq
  obtain⟨kl,hkey⟩:=K.key k hr
  have main:(Instr.lookup MT (.map (some b)) (enc k) false).run P W= .ok (.slice e.A e.l.length e.c) W:=by
   rcases K.kd.find W hkey es.toList (hkeys K) with⟨f1,f2⟩|⟨j,e0,f1,f2,f3⟩
   ·exfalso
    have:(enc e.k,e.hd)∈es.toList.map fun x=>(x.key,x.val):=by rw[hes];exact List.mem_map_of_mem (f:=fun e:KE κ α=>(enc e.k,e.hd)) heM
    obtain⟨x0,hx0,h3⟩:=List.mem_map.1 this
    exact f2 x0 hx0 ((congrArg Prod.fst h3).trans (by show enc e.k=_;rw[q2]))
   ·have hin:(e0.key,e0.val)∈ms.map fun e=>(enc e.k,e.hd):=by rw[←hes];exact List.mem_map_of_mem (f:=fun x:MapEntry=>(x.key,x.val)) (List.mem_of_getElem? f2)
    obtain⟨e',he',h3⟩:=List.mem_map.1 hin
    have hek:e'.k=e.k:=(K.inj _ _ ((congrArg Prod.fst h3).trans f3)).trans q2.symm
    have:e'=e:=by
     rw[q1] at he' g3
     obtain⟨_,pw2,pw3⟩:=List.pairwise_append.1 g3
     obtain⟨pw4,_⟩:=List.pairwise_cons.1 pw2
     rcases List.mem_append.1 he' with he'|he'
     ·exact absurd hek (pw3 e' he' e List.mem_cons_self)
     ·rcases List.mem_cons.1 he' with he'|he'
      ·exact he'
      ·exact absurd hek.symm (pw4 e' he')
    subst this
    have h5:e'.hd=e0.val:=congrArg Prod.snd h3
    simp[Instr.lookup,run_underlying hMT,MapKept.run_getObj_map (key h2),K.kd.check W _ hkey,f1,←h5,KE.hd,Result.andThen]
  rw[q4]
  simp[execOp,hp,hq,main]
end
open Go.RowKit Go.Sort Go.Proofs Go.Shelf
theorem Ii{β:Type}[Inhabited β](enc:β→Value)(W:World)(g:Nat)(d:Array β):putRow enc W g 0 d=putRow id W g 0 (d.map enc):=by
 unfold putRow
 congr 1
 funext cur
 unfold putCells
 apply Array.ext (by simp)
 intro i h1 h2
 simp only[Array.getElem_mapIdx,Nat.zero_le,true_and,Nat.zero_add,Array.size_map,Nat.sub_zero,id_eq]
 by_cases hi:i<d.size
 ·rw[if_pos hi,if_pos hi,getElem!_pos d i hi,getElem!_pos (d.map enc) i (by simpa using hi)];simp
 ·rw[if_neg hi,if_neg hi]
section
variable {P:Program} {ρ:Ren} {w:Bs} {t:Fl Int} {A:Option Addr} {c T:Nat} {l r:List Int} {cmp:Int→Int→Option Int} {fid:Nat} {cap:List Value}
end
open Go.RowKit Go.Sort Go.Proofs Go.Shelf
section
variable {β:Type}
def Apart(c:β→β→Option Int)(l:List β):Prop:=∀x∈l,∀y∈l,F5 c x y=false→F5 c y x=false→x=y
open Classical in
noncomputable def Fz(l:List β)(c:β→β→Option Int):Option (List β):=if tJ c l∧Apart c l then Bo l c else none
theorem H7{l r:List β}{c:β→β→Option Int}(h:Fz l c=some r):tJ c l∧Apart c l∧r.Perm l∧r.Pairwise (fun x y=>F5 c y x=false):=by
 unfold Fz at h
 split at h
 ·rename_i h1
  obtain⟨_,h2,h3⟩:=Az h
  exact⟨h1.1,h1.2,h2,h3⟩
 ·cases h
theorem T9{l:List β}{c:β→β→Option Int}(h:tJ c l)(h':Apart c l):∃r,Fz l c=some r:=by
 unfold Fz
 rw[if_pos ⟨h,h'⟩]
 exact Ji h
theorem Apart.one{l a b:List β}{c:β→β→Option Int}(h:Apart c l)(ha:a.Perm l)(hb:b.Perm l)(h1:a.Pairwise fun x y=>F5 c y x=false)(h2:b.Pairwise fun x y=>F5 c y x=false):a=b:=
 (ha.trans hb.symm).eq_of_pairwise (fun x y hx hy g1 g2=>h x (ha.mem_iff.1 hx) y (hb.mem_iff.1 hy) g2 g1) h1 h2
end
section
variable {P:Program} {ρ:Ren} {β:Type} {w:Bs} {t:Fl (List β)} {t':Fl β} {A:Option Addr} {c T:Nat} {l r:List (List β)} {cmp:List β→List β→Option Int} {fid:Nat} {cap:List Value}
abbrev Pr(β:Type):=(Option Addr×Nat)×List β
def CX(p:Pr β):Value:=.slice p.1.1 p.2.length p.1.2
theorem LJ{O:Nat→Prop}{W:World}(hel:∀u x,t.ok O W u x→∃p:Pr β,p.2=x∧t.enc u x=[CX p]∧Sl O W t' p.1.1 p.1.2 x):∀{css:List (List Value)} {l:List (List β)},Al (rp t O W) css l→∃ps:List (Pr β),ps.map (·.2)=l∧css=ps.map (fun p=>[CX p])∧∀p∈ps,Sl O W t' p.1.1 p.1.2 p.2
 |_,_,.nil=>⟨[],rfl,rfl,fun _ h=>(nomatch h)⟩
 |_,_,.cons ⟨u,h1,h2⟩ h=>by
  obtain⟨ps,q1,q2,q3⟩:=LJ hel h
  obtain⟨p,p1,p2,p3⟩:=hel u _ h1
  refine⟨p::ps,by rw[List.map_cons,q1,p1],by rw[List.map_cons,←q2,h2,p2],fun p' hp'=>?_⟩
  rcases List.mem_cons.1 hp' with rfl|hp'
  ·rw[p1];exact p3
  ·exact q3 p' hp'
theorem Jj{ps:List (Pr β)}(hp:ps.map (·.2)=l)(h:tJ cmp l):tJ (fun p q:Pr β=>cmp p.2 q.2) ps:=by
 have hm:∀p∈ps,p.2∈l:=fun p hp'=>by rw[←hp];exact List.mem_map_of_mem (f:=fun p:Pr β=>p.2) hp'
 exact⟨by have:=h.len;rw[←hp,List.length_map] at this;exact this,fun x hx y hy=>h.tot _ (hm x hx) _ (hm y hy),fun x hx=>h.irr _ (hm x hx),
  fun x hx y hy z hz=>h.tr _ (hm x hx) _ (hm y hy) _ (hm z hz),fun x hx y hy z hz=>h.ntr _ (hm x hx) _ (hm y hy) _ (hm z hz)⟩
theorem FD(L:SlLaysF.n6 P ρ)(h1:t.sz=1)(hel:∀O W u x,t.ok O W u x→∃p:Pr β,p.2=x∧t.enc u x=[CX p]∧Sl O W t' p.1.1 p.1.2 x)(hmk:∀O W (p:Pr β),Sl O W t' p.1.1 p.1.2 p.2→rp t O W [CX p] p.2)
  (hg:∀args w,(callFunc fid args).run P w= .ok (.enter fid args) w)
  (hf:∀(w':Bs),w.Ext w'→∀(z0:List β) (A0:Option Addr) (c0:Nat),Sl w'.R w'.W t' A0 c0 z0→∀(z1:List β) (A1:Option Addr) (c1:Nat),Sl w'.R w'.W t' A1 c1 z1→∀y,cmp z0 z1=some y→
   Calls P fid (([.slice A0 z0.length c0,.slice A1 z1.length c1]:List Value)++cap).toArray w'.W fun e W''=>e= .returned (.int .i64 y)∧HF w' W'' E0)
  (H:Fz l cmp=some r) (hE:HF w w.W (ig [ow A c T t l])):
  Calls P (ρ.f 6) [.slice A l.length c,.func (.func fid) #[] cap.toArray].toArray w.W fun e W'=>∃u:Unit,e= .returned (.tuple #[])∧(r.length=l.length)∧HF w W' (ig [ow A c T t r]):=by
 obtain⟨hok,hap,hperm,hsort⟩:=H7 H
 have hrl:r.length=l.length:=hperm.length_eq
 have L0:SlLaysF0.n6 P ρ:={L with}
 obtain⟨css,hal,hlen,hown⟩:=hE.ow (k:=0) rfl
 rcases hown with⟨ev,h0⟩|⟨g,cap',cur,ev,hb0,hh,hn,hc,hs,htk⟩
 ·have hl:l=[]:=List.eq_nil_of_length_eq_zero h0
  subst hl
  have hr:r=[]:=List.eq_nil_of_length_eq_zero hrl
  subst hr
  refine(AnyF.slices_SortFunc_none L0 A c (.func (.func fid) #[] cap.toArray) w.W).mono fun e' W' ⟨h1,h2⟩=>?_
  subst h2
  exact⟨(),h1,rfl,hE⟩
 ·simp at ev
  obtain⟨rfl,rfl⟩:=ev
  obtain⟨ps,p1,p2,p3⟩:=LJ (hel _ _) hal
  have hlp:ps.length=l.length:=by rw[←p1,List.length_map]
  have hokp:=Jj p1 hok
  by_cases hx:∃x,x∈ps
  ·letI:Inhabited {x // x∈ps}:=⟨⟨Classical.choose hx,Classical.choose_spec hx⟩⟩
   have hsz:ps.attach.toArray.size=l.length:=by simp[hlp]
   have hflat:∀(d:Array {x // x∈ps}),(d.map fun x=>CX x.1).toList=(d.toList.map (·.1)).map CX:=fun d=>by simp
   have X9:∀qs:List (Pr β),(qs.map fun p=>[CX p]).flatten=qs.map CX:=fun qs=>by
    induction qs with
    |nil=>rfl
    |cons q qs ih=>rw[List.map_cons,List.flatten_cons,ih];rfl
   have hgw:g<w.W.heap.size:=(Array.getElem?_eq_some_iff.1 hh).1
   have htk':cur.toList.take l.length=ps.map CX:=by rw[p2,X9,h1,Nat.mul_one] at htk;exact htk
   have hcur:l.length≤cur.size:=by rw[hs,h1,Nat.mul_one];exact hn
   have hH:Holds (fun x:{x // x∈ps}=>CX x.1) w.W g 0 ps.attach.toArray:=by
    intro j hj
    have hj':j<l.length:=by simpa[hlp] using hj
    refine⟨?_,by simp[World.frozen?,hh]⟩
    have e1:(cur.toList.take l.length)[j]?=(ps.map CX)[j]?:=by rw[htk']
    rw[List.getElem?_take_of_lt hj'] at e1
    simp only[World.cell?,hh,Nat.zero_add]
    simp only[Option.isSome_none,Bool.false_eq_true,if_false]
    rw[←Array.getElem?_toList,e1,getElem!_pos ps.attach.toArray j hj]
    have hjp:j<ps.length:=by omega
    simp[hjp]
   have hgR:¬w.R g:=(hE.bd 0 g rfl).1
   have hcmp:CmpLays1 P fid cap.toArray (fun x:{x // x∈ps}=>CX x.1) (QD (fun p q:Pr β=>cmp p.2 q.2) ps) g 0 ps.attach.toArray.size w.W:=by
    intro m os dk hdk x y
    obtain⟨k,hk⟩:=hokp.tot x.1 x.2 y.1 y.2
    have hsw:sortWorld (fun x:{x // x∈ps}=>CX x.1) w.W g 0 m dk os=grow (putRow id (Sort.ahead w.W m) g 0 (dk.map fun x=>CX x.1)) os:=by
     unfold sortWorld;rw[Ii]
    rw[hsw]
    have hS:w.W.heap.size≤(grow (putRow id (Sort.ahead w.W m) g 0 (dk.map fun x=>CX x.1)) os).heap.size:=vV _
    have hext:w.Ext ⟨grow (putRow id (Sort.ahead w.W m) g 0 (dk.map fun x=>CX x.1)) os,w.O,fun b=>b<(grow (putRow id (Sort.ahead w.W m) g 0 (dk.map fun x=>CX x.1)) os).heap.size,fun b hb=>by
      rcases hb with hb|hb
      ·exact Nat.lt_of_lt_of_le (w.lt b (.inl hb)) hS
      ·exact hb⟩:=⟨fun _ h=>h,fun b hb=>.inr (Nat.lt_of_lt_of_le (w.lt b hb) hS),fun b hb=>wu _ (w.lt b hb) (fun e=>hgR (e▸hb))⟩
    have s0:=(Sl.rl (w:=w) (p3 x.1 x.2)).ext hext
    have s1:=(Sl.rl (w:=w) (p3 y.1 y.2)).ext hext
    have:=hf _ hext x.1.2 x.1.1.1 x.1.1.2 s0 y.1.2 y.1.1.1 y.1.1.2 s1 k hk
    have hargs:(([.slice x.1.1.1 x.1.2.length x.1.1.2,.slice y.1.1.1 y.1.2.length y.1.1.2]:List Value)++cap).toArray= #[CX x.1,CX y.1]++cap.toArray:=by simp[CX]
    rw[hargs] at this
    refine this.mono fun e' W'' ⟨h1,h2⟩=>⟨by rw[h1];simp[QD,hk],?_⟩
    exact below_grow ⟨h2.os,h2.tape,h2.output,h2.size,fun b hb=>h2.keep b (.inr hb),h2.drawn⟩
   have main:=Any.slices_SortFunc_eq L (fun x:{x // x∈ps}=>CX x.1) (fun x=>rfl) (QD (fun p q:Pr β=>cmp p.2 q.2) ps) hokp.swo fid cap.toArray g 0 c ps.attach.toArray w.W hg hcmp hH hgw (by rw[hsz];exact hok.len)
   rw[hsz] at main
   refine main.mono fun e' W' ⟨h1',n,os,h2⟩=>⟨(),h1',hrl,?_⟩
   have hD:ui (fun p q:Pr β=>cmp p.2 q.2) ps ⟨⟨Classical.choose hx,Classical.choose_spec hx⟩⟩=pdq (ltOf (QD (fun p q:Pr β=>cmp p.2 q.2) ps)) ps.attach.toArray 0 l.length (Lib.bitLen l.length) true true:=by unfold ui;rw[hsz]
   rw[←hD] at h2
   obtain⟨hDp,hDo,hDs⟩:=Dc (fun p q:Pr β=>cmp p.2 q.2) ps ⟨⟨Classical.choose hx,Classical.choose_spec hx⟩⟩ hokp
   generalize ui (fun p q:Pr β=>cmp p.2 q.2) ps ⟨⟨Classical.choose hx,Classical.choose_spec hx⟩⟩=D at h2 hDp hDo hDs
   have hW:W'=grow (putRow id (Sort.ahead w.W n) g 0 (D.map fun x=>CX x.1)) os:=by rw[h2];unfold sortWorld;rw[Ii]
   have hfs:(D.map fun x=>CX x.1).size=l.length:=by rw[Array.size_map,hDs,hsz]
   have hDV:(D.map fun x=>CX x.1).toList=(D.toList.map (·.1)).map CX:=hflat D
   generalize hR:D.toList.map (·.1)=R at hDp hDo hDV
   have hRr:R.map (·.2)=r:=by
    refine hap.one ?_ hperm ?_ hsort
    ·rw[←p1];exact hDp.map _
    ·rw[List.pairwise_map];exact hDo
   have hRs:∀p∈R,Sl w.O w.W t' p.1.1 p.1.2 p.2:=fun p hp=>p3 p (hDp.mem_iff.1 hp)
   have hRl:R.length=l.length:=by rw[hDp.length_eq,hlp]
   clear h2 hDs main hcmp hDo
   generalize (D.map fun x=>CX x.1)=DV at hW hfs hDV
   subst hW
   have hOk:∀b,w.O b→(grow (putRow id (Sort.ahead w.W n) g 0 DV) os).heap[b]?=w.W.heap[b]?:=fun b hb=>wu _ (w.lt b (.inl hb)) (fun e=>hgR (.inl (e▸hb)))
   have hal2:∀qs:List (Pr β),(∀p∈qs,Sl w.O w.W t' p.1.1 p.1.2 p.2)→Al (rp t w.O (grow (putRow id (Sort.ahead w.W n) g 0 DV) os)) (qs.map fun p=>[CX p]) (qs.map (·.2)):=fun qs=>by
    induction qs with
    |nil=>intro _;exact .nil
    |cons q qs ih=>intro hq;exact .cons (hmk _ _ _ ((hq q (by simp)).loc hOk)) (ih fun p hp=>hq p (by simp[hp]))
   refine(hE.mod (E:=ig [ow (some ⟨g,0,none⟩) c T t l]) (W':=grow (putRow id (Sort.ahead w.W n) g 0 DV) os) 0 (ow (some ⟨g,0,none⟩) c T t r) rfl rfl rfl (vV _) (Nat.le_add_right _ _) (fun b hb hs=>wu _ hb (fun e=>hs (by rw[e];rfl))) (lg _ _ _ _ _) ?_ (fun b hb=>?_)).weaken (fun k=>?_)
   ·have hal3:=hal2 R hRs
    rw[hRr] at hal3
    refine⟨R.map fun p=>[CX p],hal3,by rw[qi hal3],.inr ⟨g,c,_,by rw[hrl],Nat.zero_le _,Ik _ hh,by rw[hrl];exact hn,hc,by simp[putCells,hs],?_⟩⟩
    have:=Ij cur DV (by rw[hfs];exact hcur)
    rw[hrl,h1,Nat.mul_one,X9,←hfs,this,hDV]
   ·have hb:(Value.slice (some ⟨g,0,none⟩) r.length c).ownBlock=some b:=hb
    simp[Value.ownBlock] at hb
    subst hb
    exact⟨.inl rfl,Nat.lt_of_lt_of_le hgw (vV _)⟩
   ·cases k with
    |zero=>exact .inl rfl
    |succ k=>exact .inr rfl
  ·have hps:ps=[]:=List.eq_nil_iff_forall_not_mem.2 fun x hm=>hx ⟨x,hm⟩
   have hl:l=[]:=by rw[←p1,hps];rfl
   subst hl
   have hr:r=[]:=List.eq_nil_of_length_eq_zero hrl
   subst hr
   refine(AnyF.slices_SortFunc_none L0 _ c (.func (.func fid) #[] cap.toArray) w.W).mono fun e' W' ⟨h1,h2⟩=>?_
   subst h2
   exact⟨(),h1,rfl,hE⟩
end
open Go.RowKit
section
variable {P:Program} {w:Bs} {n:Nat} {f:Nat→Option Value} {E:Nat→jv} {l:List Oper} {m:Nat} {t:Tn} {Q:Exit→Act→World→Prop} {fu:Nat} {listed:Array Bool}
theorem sW{U:Type}{op:Op}{d ty:Nat}{pos:String}{af:Array Edge}{g:Option (Nat×Bool)}(i:Nat)(Φ:U→Prop)(V:U→Value)(hC:JS l m=true)(hi:l[i]?=some ⟨some d,op,ty,pos,af,g⟩)(hw:Wn l.toArray f ⟨some d,op,ty,pos,af,g⟩)(hdn:Nat.blt d n=true)
  (hB:qB l m i listed (t.ys.map (·.1)++t.zs)=true)
  (hr:∀a W,FR n f a→HF w W E→∃u,Φ u∧∀W',Below W.heap.size W W'→(execOp a.eval ⟨some d,op,ty,pos,af,g⟩).run P W'= .ok (.value (V u)) W')
  (K:∀u,Φ u→Dr P w n l m t Q fu (listed.setIfInBounds i true) (uf f d (V u)) E):Dr P w n l m t Q (fu+1) listed f E:=by
 intro inv a W h1 h2 hs0
 obtain⟨u,hu,hrun⟩:=hr a W h1 h2
 simp only[JS,Bool.and_eq_true,Bool.or_eq_true,decide_eq_true_eq] at hC
 obtain⟨hsel,hT⟩:=hC
 have hs:m=l.toArray.size∨Region.sinkB .any l.toArray m=true∧Region.chainB .any l.toArray m=true:=hT.imp (fun h=>by simpa using h) (fun h=>⟨h.1.2,h.2⟩)
 simp only[qB,Bool.and_eq_true,decide_eq_true_eq] at hB
 obtain⟨⟨⟨him,hrd⟩,hfr⟩,hks⟩:=hB
 have hrd:i∈Region.ready .any l.toArray listed:=by simpa using hrd
 have hi':(l.toArray)[i]?=some ⟨some d,op,ty,pos,af,g⟩:=by simpa using hi
 have hyl:∀W',sN (fun _=>False) W W'→YieldsIn P l.toArray (fun W''=>Below W'.heap.size W' W'') ⟨some d,op,ty,pos,af,g⟩ (V u) a:=fun W' hk=>.inl ⟨hw n a h1,fun W'' hb=>by
  unfold Oper.quietAt
  rw[hrun W'' (DU (hk.below fun _ h=>h) hb)]
  exact⟨rfl,rfl⟩⟩
 refine tK.first (oi:=⟨some d,op,ty,pos,af,g⟩) (v:=V u) (Z:=fun _=>False) hi' hsel hs him (fun _ _ _ hL=>seqB_ready hL.1) fu listed a W inv hrd hyl (fun j oj hj hji hun hno=>⟨Region.free_spec hi' hfr j oj hj hji hun hno,fun b hb=>?_⟩) ?_
 ·have hmem:j∈t.ys.map (·.1)++t.zs:=by
   rcases hb with⟨p,hp,rfl,_⟩|⟨hjz,_⟩
   ·exact List.mem_append_left _ (List.mem_map.2 ⟨_,hp,rfl⟩)
   ·exact List.mem_append_right _ hjz
  have:=List.all_eq_true.1 hks j hmem
  have hj':l[j]?=some oj:=by simpa using hj
  rw[hj'] at this
  simp only[Bool.or_eq_true,beq_iff_eq,hji,false_or,hun,Bool.false_eq_true] at this
  obtain⟨e,he,hb2⟩:=Array.any_eq_true'.1 this
  simp only[Bool.and_eq_true,beq_iff_eq] at hb2
  exact hno e he hb2.1 hb2.2
 ·exact K u hu (inv.set hrd him) _ W (h1.put (Nat.le_of_ble_eq_true hdn) (V u)) h2 hs0
end
open Go.RowKit
section
variable {P:Program} {w:Bs} {n:Nat} {ops:Array Oper} {f:Nat→Option Value} {E:Nat→jv} {Q:Exit→Act→World→Prop} {X:Act→World→Prop} {rest:List Oper} {d ty:Nat} {pos:String} {af:Array Edge} {p q:Operand} {u v z:Value} {op:Op} {g:Option (Nat×Bool)}
theorem Ab.r:∀{l:List (Nat×Value)},l.map (fun p=>f p.1)=l.map (fun p=>some p.2)→Ab f l
 |[],_=>trivial
 |_::_,h=>⟨(List.cons.inj h).1,Ab.r (List.cons.inj h).2⟩
theorem zl.r:∀{l:List (Nat×jv)},l.map (fun p=>E p.1)=l.map (fun p=>p.2)→zl E l
 |[],_=>trivial
 |_::_,h=>⟨(List.cons.inj h).1,zl.r (List.cons.inj h).2⟩
theorem Tf(hw:Wn ops f ⟨some d,op,ty,pos,af,g⟩)(hdn:Nat.blt d n=true)(hr:∀{ρ:Operand→Value} {W:World},ρ p=u→(execOp ρ ⟨some d,op,ty,pos,af,g⟩).run P W= .ok (.value v) W)(hp:ev f p=some u)(k:Tr w n (uf f d v) E (wpList P ops Q rest)):Tr w n f E (wpList P ops Q (⟨some d,op,ty,pos,af,g⟩::rest)):=
 Tr.val hw hdn (fun _ _ h1 _=>hr (h1.ev hp)) k
theorem PH(hw:Wn ops f ⟨some d,op,ty,pos,af,g⟩)(hdn:Nat.blt d n=true)(hr:∀{ρ:Operand→Value} {W:World},ρ p=u→ρ q=z→(execOp ρ ⟨some d,op,ty,pos,af,g⟩).run P W= .ok (.value v) W)(hp:ev f p=some u)(hq:ev f q=some z)(k:Tr w n (uf f d v) E (wpList P ops Q rest)):Tr w n f E (wpList P ops Q (⟨some d,op,ty,pos,af,g⟩::rest)):=
 Tr.val hw hdn (fun _ _ h1 _=>hr (h1.ev hp) (h1.ev hq)) k
theorem Tu(hw:Wn ops f ⟨some d,op,ty,pos,af,g⟩)(hdn:Nat.blt d n=true)(hr:∀{ρ:Operand→Value} {W:World},ρ p=u→(execOp ρ ⟨some d,op,ty,pos,af,g⟩).run P W= .ok (.value v) W)(hp:ev f p=some u)(k:Tq P w n ops (uf f d v) E X rest):Tq P w n ops f E X (⟨some d,op,ty,pos,af,g⟩::rest):=
 Tq.val hw hdn (fun _ _ h1 _=>hr (h1.ev hp)) k
theorem Tt(hw:Wn ops f ⟨some d,op,ty,pos,af,g⟩)(hdn:Nat.blt d n=true)(hr:∀{ρ:Operand→Value} {W:World},ρ p=u→ρ q=z→(execOp ρ ⟨some d,op,ty,pos,af,g⟩).run P W= .ok (.value v) W)(hp:ev f p=some u)(hq:ev f q=some z)(k:Tq P w n ops (uf f d v) E X rest):Tq P w n ops f E X (⟨some d,op,ty,pos,af,g⟩::rest):=
 Tq.val hw hdn (fun _ _ h1 _=>hr (h1.ev hp) (h1.ev hq)) k
theorem aA(hp:ev f p=some v)(k:Tr w n (uf f d v) E (wpList P ops Q rest))(hdn:Nat.blt d n=true:=by exact rfl):Tr w n f E (wpList P ops Q (⟨some d,.move p,ty,pos,af,none⟩::rest)):=Yq hdn hp k
theorem Tr.k(hp:ev f p=some v)(k:Tr w n (uf f d v) E (wpList P ops Q rest))(hdn:Nat.blt d n=true:=by exact rfl):Tr w n f E (wpList P ops Q (⟨some d,.assign p,ty,pos,af,none⟩::rest)):=Xi hdn hp k
theorem dG(hp:ev f p=some v)(k:Tq P w n ops (uf f d v) E X rest)(hdn:Nat.blt d n=true:=by exact rfl):Tq P w n ops f E X (⟨some d,.move p,ty,pos,af,none⟩::rest):=Yr hdn hp k
theorem aQ(hr:∀{ρ:Operand→Value} {W:World},ρ p=u→(execOp ρ ⟨some d,op,ty,pos,af,none⟩).run P W= .ok (.value v) W)(hp:ev f p=some u)(k:Tr w n (uf f d v) E (wpList P ops Q rest))(hdn:Nat.blt d n=true:=by exact rfl):Tr w n f E (wpList P ops Q (⟨some d,op,ty,pos,af,none⟩::rest)):=Tf (wn rfl) hdn hr hp k
theorem aC(hr:∀{ρ:Operand→Value} {W:World},ρ p=u→ρ q=z→(execOp ρ ⟨some d,op,ty,pos,af,none⟩).run P W= .ok (.value v) W)(hp:ev f p=some u)(hq:ev f q=some z)(k:Tr w n (uf f d v) E (wpList P ops Q rest))(hdn:Nat.blt d n=true:=by exact rfl):Tr w n f E (wpList P ops Q (⟨some d,op,ty,pos,af,none⟩::rest)):=PH (wn rfl) hdn hr hp hq k
theorem dZ(hr:∀{ρ:Operand→Value} {W:World},ρ p=u→(execOp ρ ⟨some d,op,ty,pos,af,none⟩).run P W= .ok (.value v) W)(hp:ev f p=some u)(k:Tq P w n ops (uf f d v) E X rest)(hdn:Nat.blt d n=true:=by exact rfl):Tq P w n ops f E X (⟨some d,op,ty,pos,af,none⟩::rest):=Tu (wn rfl) hdn hr hp k
theorem fZ(hr:∀{ρ:Operand→Value} {W:World},ρ p=u→ρ q=z→(execOp ρ ⟨some d,op,ty,pos,af,none⟩).run P W= .ok (.value v) W)(hp:ev f p=some u)(hq:ev f q=some z)(k:Tq P w n ops (uf f d v) E X rest)(hdn:Nat.blt d n=true:=by exact rfl):Tq P w n ops f E X (⟨some d,op,ty,pos,af,none⟩::rest):=Tt (wn rfl) hdn hr hp hq k
theorem dN{j t:Nat}{b:Bool}(hr:∀{ρ:Operand→Value} {W:World},ρ p=u→(execOp ρ ⟨some d,op,ty,pos,af,g⟩).run P W= .ok (.value v) W)(hp:ev f p=some u)(k:Tr w n (uf f d v) E (wpList P ops Q rest))(h:g=some (j,b):=by exact rfl)(hj:(ops[j]?).bind (·.dst)=some t:=by exact rfl)(ht:f t=some (.bool b):=by exact rfl)(hdn:Nat.blt d n=true:=by exact rfl):Tr w n f E (wpList P ops Q (⟨some d,op,ty,pos,af,g⟩::rest)):=Tf (wg h hj ht) hdn hr hp k
theorem jM{j t:Nat}{b:Bool}(hr:∀{ρ:Operand→Value} {W:World},ρ p=u→ρ q=z→(execOp ρ ⟨some d,op,ty,pos,af,g⟩).run P W= .ok (.value v) W)(hp:ev f p=some u)(hq:ev f q=some z)(k:Tr w n (uf f d v) E (wpList P ops Q rest))(h:g=some (j,b):=by exact rfl)(hj:(ops[j]?).bind (·.dst)=some t:=by exact rfl)(ht:f t=some (.bool b):=by exact rfl)(hdn:Nat.blt d n=true:=by exact rfl):Tr w n f E (wpList P ops Q (⟨some d,op,ty,pos,af,g⟩::rest)):=PH (wg h hj ht) hdn hr hp hq k
theorem kH{j t:Nat}{b:Bool}(hr:∀{ρ:Operand→Value} {W:World},ρ p=u→(execOp ρ ⟨some d,op,ty,pos,af,g⟩).run P W= .ok (.value v) W)(hp:ev f p=some u)(k:Tq P w n ops (uf f d v) E X rest)(h:g=some (j,b):=by exact rfl)(hj:(ops[j]?).bind (·.dst)=some t:=by exact rfl)(ht:f t=some (.bool b):=by exact rfl)(hdn:Nat.blt d n=true:=by exact rfl):Tq P w n ops f E X (⟨some d,op,ty,pos,af,g⟩::rest):=Tu (wg h hj ht) hdn hr hp k
theorem uN{j t:Nat}{b:Bool}(hr:∀{ρ:Operand→Value} {W:World},ρ p=u→ρ q=z→(execOp ρ ⟨some d,op,ty,pos,af,g⟩).run P W= .ok (.value v) W)(hp:ev f p=some u)(hq:ev f q=some z)(k:Tq P w n ops (uf f d v) E X rest)(h:g=some (j,b):=by exact rfl)(hj:(ops[j]?).bind (·.dst)=some t:=by exact rfl)(ht:f t=some (.bool b):=by exact rfl)(hdn:Nat.blt d n=true:=by exact rfl):Tq P w n ops f E X (⟨some d,op,ty,pos,af,g⟩::rest):=Tt (wg h hj ht) hdn hr hp hq k
theorem Tr.x{j t:Nat}{b:Bool}(hr:∀a W,FR n f a→HF w W E→(execOp a.eval ⟨some d,op,ty,pos,af,g⟩).run P W= .ok (.value v) W)(k:Tr w n (uf f d v) E (wpList P ops Q rest))(h:g=some (j,b):=by exact rfl)(hj:(ops[j]?).bind (·.dst)=some t:=by exact rfl)(ht:f t=some (.bool b):=by exact rfl)(hdn:Nat.blt d n=true:=by exact rfl):Tr w n f E (wpList P ops Q (⟨some d,op,ty,pos,af,g⟩::rest)):=Tr.val (wg h hj ht) hdn hr k
theorem Tq.x{j t:Nat}{b:Bool}(hr:∀a W,FR n f a→HF w W E→(execOp a.eval ⟨some d,op,ty,pos,af,g⟩).run P W= .ok (.value v) W)(k:Tq P w n ops (uf f d v) E X rest)(h:g=some (j,b):=by exact rfl)(hj:(ops[j]?).bind (·.dst)=some t:=by exact rfl)(ht:f t=some (.bool b):=by exact rfl)(hdn:Nat.blt d n=true:=by exact rfl):Tq P w n ops f E X (⟨some d,op,ty,pos,af,g⟩::rest):=Tq.val (wg h hj ht) hdn hr k
theorem fV{fu:Func}{w0:Bs}(le:w0.Le w)(hr:Bf P f E fu.results.toList [v] []:=by exact bM rfl bL):Tr w n f E (bodyPost P fu (fun e W'=>e= .returned v∧HF w0 W' E0) .ret):=Tr.out [] hr (fun _ hW=>⟨rfl,hW.low le⟩)
theorem Zv(hdn:Nat.blt d n=true)(hr:∀{ρ:Operand→Value} {W:World},ρ p=u→(execOp ρ ⟨some d,op,ty,pos,af,none⟩).run P W= .ok (.value v) W)(hp:ev f p=some u)(k:Tr w n (uf f d v) E (wpList P ops Q rest)):Tr w n f E (wpList P ops Q (⟨some d,op,ty,pos,af,none⟩::rest)):=Tf (wn rfl) hdn hr hp k
theorem Zu(hdn:Nat.blt d n=true)(hr:∀{ρ:Operand→Value} {W:World},ρ p=u→ρ q=z→(execOp ρ ⟨some d,op,ty,pos,af,none⟩).run P W= .ok (.value v) W)(hp:ev f p=some u)(hq:ev f q=some z)(k:Tr w n (uf f d v) E (wpList P ops Q rest)):Tr w n f E (wpList P ops Q (⟨some d,op,ty,pos,af,none⟩::rest)):=PH (wn rfl) hdn hr hp hq k
theorem Zx(hdn:Nat.blt d n=true)(hr:∀{ρ:Operand→Value} {W:World},ρ p=u→(execOp ρ ⟨some d,op,ty,pos,af,none⟩).run P W= .ok (.value v) W)(hp:ev f p=some u)(k:Tq P w n ops (uf f d v) E X rest):Tq P w n ops f E X (⟨some d,op,ty,pos,af,none⟩::rest):=Tu (wn rfl) hdn hr hp k
theorem Zw(hdn:Nat.blt d n=true)(hr:∀{ρ:Operand→Value} {W:World},ρ p=u→ρ q=z→(execOp ρ ⟨some d,op,ty,pos,af,none⟩).run P W= .ok (.value v) W)(hp:ev f p=some u)(hq:ev f q=some z)(k:Tq P w n ops (uf f d v) E X rest):Tq P w n ops f E X (⟨some d,op,ty,pos,af,none⟩::rest):=Tt (wn rfl) hdn hr hp hq k
theorem bq{o:Oper}{j t:Nat}{b b':Bool}(hd:o.dst=some d)(k:Tr w n (uf f d undef) E (wpList P ops Q rest))(h:o.guard=some (j,b):=by rfl)(hj:(ops[j]?).bind (·.dst)=some t:=by rfl)(ht:f t=some (.bool b'):=by rfl)(hne:(b'==b)=false:=by rfl)(hdn:d<n:=by decide):Tr w n f E (wpList P ops Q (o::rest)):=U5 h hj ht hne hd hdn k
theorem di{o:Oper}{j t:Nat}{b b':Bool}(hd:o.dst=some d)(k:Tq P w n ops (uf f d undef) E X rest)(h:o.guard=some (j,b):=by rfl)(hj:(ops[j]?).bind (·.dst)=some t:=by rfl)(ht:f t=some (.bool b'):=by rfl)(hne:(b'==b)=false:=by rfl)(hdn:d<n:=by decide):Tq P w n ops f E X (o::rest):=U6 h hj ht hne hd hdn k
theorem rD{o:Oper}{j t:Nat}{b:Bool}(hd:o.dst=some d)(k:Tr w n (uf f d undef) E (wpList P ops Q rest))(h:o.guard=some (j,b):=by rfl)(hj:(ops[j]?).bind (·.dst)=some t:=by rfl)(ht:f t=some undef:=by rfl)(hdn:d<n:=by decide):Tr w n f E (wpList P ops Q (o::rest)):=Tj h hj ht hd hdn k
theorem GU{o:Oper}{j t:Nat}{b:Bool}(hd:o.dst=some d)(k:Tq P w n ops (uf f d undef) E X rest)(h:o.guard=some (j,b):=by rfl)(hj:(ops[j]?).bind (·.dst)=some t:=by rfl)(ht:f t=some undef:=by rfl)(hdn:d<n:=by decide):Tq P w n ops f E X (o::rest):=Tv h hj ht hd hdn k
end
end Go.Proofs.YtblmajfbibbiaaaGreatDoor
