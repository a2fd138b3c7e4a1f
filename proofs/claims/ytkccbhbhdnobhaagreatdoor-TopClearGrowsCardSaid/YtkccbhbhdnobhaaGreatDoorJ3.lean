/- Rules of the walks, or plain laws about the plain functions. Conditions: none beyond each theorem's own. -/
import Derived.Test.YtkccbhbhdnobhaaGreatDoorJ2
import Derived.Shelf.Small.Strs
import Derived.Maps.RangeRun
import Derived.WideKeyEntry
import Derived.DeepKeys5
namespace Go.Proofs.YtkccbhbhdnobhaaGreatDoor
open Go.RowKit Go.Proofs Go.Shelf
open Go.ChangeMaps Go.MapKept
open Go.Maps (Keyed string_keyed)
section words
def MB(a b:ByteArray):Option Int:=some (Lib.compareBytes a.data.toList b.data.toList)
def NQ(s:ByteArray)(c:Int):Option Int:=some (Lib.indexByte s.data.toList c.toNat.toUInt8)
def uO(x:Int):Option Int:=if 0≤x∧x≤9223372036854775807 then some x else none
variable {κ:Type} [DecidableEq κ]
end words
def LK(W:World)(b:Nat)(kv:List (Value×Value)):Prop:=∃es clock,W.heap[b]?=some (.map es clock)∧Stamped es clock∧es.toList.map (fun x=>(x.key,x.val))=kv
theorem JU{W W':World}{b:Nat}{kv:List (Value×Value)}(h:W'.heap[b]?=W.heap[b]?)(hp:LK W b kv):LK W' b kv:=by
 obtain⟨es,clock,h1,h2⟩:=hp
 exact⟨es,clock,h.trans h1,h2⟩
structure Te (P:Program) (KT:Nat) {κ:Type} (enc:κ→Value) (ok:κ→Bool):Prop where
 kd:Keyed P KT
 key:∀k,ok k=true→∃l,keyOf P KT (enc k)=some l
 inj:∀a b,enc a=enc b→a=b
def SG(s:ByteArray):Bool:=decide (s.size≤4294967296)
def encS(s:ByteArray):Value:=.string s
section
variable {P:Program} {w:Bs} {n:Nat} {f:Nat→Option Value} {E:Nat→iL} {X:Act→World→Prop} {Q:Exit→Act→World→Prop} {ops:Array Oper} {rest:List Oper}
variable {d ty T MT KT VT:Nat} {pos:String} {af:Array Edge} {g:Option (Nat×Bool)} {p q x:Operand} {b:Nat} {κ:Type} [DecidableEq κ] {enc:κ→Value} {ok:κ→Bool} {ρ:Ren}
theorem J9(L:Lays.n106 P ρ){a b:ByteArray}{r:Int}(H:MB a b=some r)(hE:HF w w.W E0):Calls P (ρ.f 106) [.string a,.string b].toArray w.W fun e W'=>e= .returned (.int .i64 r)∧HF w W' E0:=by
 have hr:=Option.some.inj H
 subst hr
 exact(Any.strings_Compare L a b w.W).mono fun e W' ⟨h1,h2⟩=>⟨h1,by rw[h2];exact hE⟩
theorem J2(L:Lays.n137 P ρ){s:ByteArray}{c:Int}{r:Int}(H:NQ s c=some r)(hE:HF w w.W E0):Calls P (ρ.f 137) [.string s,.int .u8 c].toArray w.W fun e W'=>e= .returned (.int .i64 r)∧HF w W' E0:=by
 have hr:=Option.some.inj H
 subst hr
 exact(Any.strings_IndexByte L s c w.W).mono fun e W' ⟨h1,h2⟩=>⟨h1,by rw[h2];exact hE⟩
theorem Nu{ρ:Operand→Value}{W:World}{dd:Option Nat}{S D:Nat}{x v:Int}(hS:P.underlying S=some (.int .i64))(hD:P.underlying D=some (.int .u64))(hp:ρ p= .int .i64 x)(hx:uO x=some v):(execOp ρ ⟨dd,.convert S D p,ty,pos,af,g⟩).run P W= .ok (.value (.int .u64 v)) W:=by
 unfold uO at hx
 split at hx
 ·rename_i hr
  have:=Option.some.inj hx
  subst this
  have hw:IntKind.wrap .u64 x=x:=by
   have e1:IntKind.wrap .u64 x=x.emod (2^64):=by rfl
   rw[e1];exact Int.emod_eq_of_lt hr.1 (by omega)
  simp[execOp,hp,convert,run_underlying hS,run_underlying hD,Conv.intToInt,hw,Result.andThen]
 ·cases hx
theorem Nv{ρ:Operand→Value}{W:World}{dd:Option Nat}{S D:Nat}{x v:Int}(hS:P.underlying S=some (.int .u64))(hD:P.underlying D=some (.int .i64))(hp:ρ p= .int .u64 x)(hx:uO x=some v):(execOp ρ ⟨dd,.convert S D p,ty,pos,af,g⟩).run P W= .ok (.value (.int .i64 v)) W:=by
 unfold uO at hx
 split at hx
 ·rename_i hr
  have:=Option.some.inj hx
  subst this
  have hw:IntKind.wrap .i64 x=x:=IntWalk.i64_in _ ⟨by omega,by omega⟩
  simp[execOp,hp,convert,run_underlying hS,run_underlying hD,Conv.intToInt,hw,Result.andThen]
 ·cases hx
theorem Lf{ρ:Operand→Value}{W:World}{dd:Option Nat}{S D:Nat}{x:Int}{k:IntKind}(hp:ρ p= .int .u64 x)(hq:ρ q= .int k 1):(execOp ρ ⟨dd,.binOp .shr S p q D,ty,pos,af,g⟩).run P W= .ok (.value (.int .u64 (x / 2))) W:=by
 have h1:Op.shift .shr .u64 x k 1=pure (.int .u64 (x / 2^(1:Int).toNat)):=shift_shr .u64 k x 1 (by decide) (by decide)
 have h2:(2:Int)^(1:Int).toNat=2:=by decide
 rw[h2] at h1
 simp[execOp,go_sem,hp,hq,binOp,h1,Result.andThen]
end
section words
variable {κ:Type} [DecidableEq κ]
end words
open Go.RowKit
section
variable {P:Program} {w:Bs} {n:Nat} {ops:Array Oper} {f:Nat→Option Value} {E:Nat→iL} {Q:Exit→Act→World→Prop} {X:Act→World→Prop} {rest:List Oper} {d ty:Nat} {pos:String} {af:Array Edge} {p q:Operand} {u v z:Value} {op:Op} {g:Option (Nat×Bool)}
theorem xC.r:∀{l:List (Nat×Value)},l.map (fun p=>f p.1)=l.map (fun p=>some p.2)→xC f l
 |[],_=>trivial
 |_::_,h=>⟨(List.cons.inj h).1,xC.r (List.cons.inj h).2⟩
theorem wL.r:∀{l:List (Nat×iL)},l.map (fun p=>E p.1)=l.map (fun p=>p.2)→wL E l
 |[],_=>trivial
 |_::_,h=>⟨(List.cons.inj h).1,wL.r (List.cons.inj h).2⟩
theorem MS(hw:Wn ops f ⟨some d,op,ty,pos,af,g⟩)(hdn:Nat.blt d n=true)(hr:∀{ρ:Operand→Value} {W:World},ρ p=u→(execOp ρ ⟨some d,op,ty,pos,af,g⟩).run P W= .ok (.value v) W)(hp:ev f p=some u)(k:Tr w n (uf f d v) E (wpList P ops Q rest)):Tr w n f E (wpList P ops Q (⟨some d,op,ty,pos,af,g⟩::rest)):=
 Tr.val hw hdn (fun _ _ h1 _=>hr (h1.ev hp)) k
theorem MR(hw:Wn ops f ⟨some d,op,ty,pos,af,g⟩)(hdn:Nat.blt d n=true)(hr:∀{ρ:Operand→Value} {W:World},ρ p=u→ρ q=z→(execOp ρ ⟨some d,op,ty,pos,af,g⟩).run P W= .ok (.value v) W)(hp:ev f p=some u)(hq:ev f q=some z)(k:Tr w n (uf f d v) E (wpList P ops Q rest)):Tr w n f E (wpList P ops Q (⟨some d,op,ty,pos,af,g⟩::rest)):=
 Tr.val hw hdn (fun _ _ h1 _=>hr (h1.ev hp) (h1.ev hq)) k
theorem M0(hw:Wn ops f ⟨some d,op,ty,pos,af,g⟩)(hdn:Nat.blt d n=true)(hr:∀{ρ:Operand→Value} {W:World},ρ p=u→(execOp ρ ⟨some d,op,ty,pos,af,g⟩).run P W= .ok (.value v) W)(hp:ev f p=some u)(k:Tq P w n ops (uf f d v) E X rest):Tq P w n ops f E X (⟨some d,op,ty,pos,af,g⟩::rest):=
 Tq.val hw hdn (fun _ _ h1 _=>hr (h1.ev hp)) k
theorem MZ(hw:Wn ops f ⟨some d,op,ty,pos,af,g⟩)(hdn:Nat.blt d n=true)(hr:∀{ρ:Operand→Value} {W:World},ρ p=u→ρ q=z→(execOp ρ ⟨some d,op,ty,pos,af,g⟩).run P W= .ok (.value v) W)(hp:ev f p=some u)(hq:ev f q=some z)(k:Tq P w n ops (uf f d v) E X rest):Tq P w n ops f E X (⟨some d,op,ty,pos,af,g⟩::rest):=
 Tq.val hw hdn (fun _ _ h1 _=>hr (h1.ev hp) (h1.ev hq)) k
theorem ax(hp:ev f p=some v)(k:Tr w n (uf f d v) E (wpList P ops Q rest))(hdn:Nat.blt d n=true:=by exact rfl):Tr w n f E (wpList P ops Q (⟨some d,.move p,ty,pos,af,none⟩::rest)):=Ry hdn hp k
theorem Tr.k(hp:ev f p=some v)(k:Tr w n (uf f d v) E (wpList P ops Q rest))(hdn:Nat.blt d n=true:=by exact rfl):Tr w n f E (wpList P ops Q (⟨some d,.assign p,ty,pos,af,none⟩::rest)):=Qo hdn hp k
theorem eY(hp:ev f p=some v)(k:Tq P w n ops (uf f d v) E X rest)(hdn:Nat.blt d n=true:=by exact rfl):Tq P w n ops f E X (⟨some d,.move p,ty,pos,af,none⟩::rest):=Rz hdn hp k
theorem aH(hr:∀{ρ:Operand→Value} {W:World},ρ p=u→(execOp ρ ⟨some d,op,ty,pos,af,none⟩).run P W= .ok (.value v) W)(hp:ev f p=some u)(k:Tr w n (uf f d v) E (wpList P ops Q rest))(hdn:Nat.blt d n=true:=by exact rfl):Tr w n f E (wpList P ops Q (⟨some d,op,ty,pos,af,none⟩::rest)):=MS (wn rfl) hdn hr hp k
theorem ay(hr:∀{ρ:Operand→Value} {W:World},ρ p=u→ρ q=z→(execOp ρ ⟨some d,op,ty,pos,af,none⟩).run P W= .ok (.value v) W)(hp:ev f p=some u)(hq:ev f q=some z)(k:Tr w n (uf f d v) E (wpList P ops Q rest))(hdn:Nat.blt d n=true:=by exact rfl):Tr w n f E (wpList P ops Q (⟨some d,op,ty,pos,af,none⟩::rest)):=MR (wn rfl) hdn hr hp hq k
theorem dA(hr:∀{ρ:Operand→Value} {W:World},ρ p=u→(execOp ρ ⟨some d,op,ty,pos,af,none⟩).run P W= .ok (.value v) W)(hp:ev f p=some u)(k:Tq P w n ops (uf f d v) E X rest)(hdn:Nat.blt d n=true:=by exact rfl):Tq P w n ops f E X (⟨some d,op,ty,pos,af,none⟩::rest):=M0 (wn rfl) hdn hr hp k
theorem iU(hr:∀{ρ:Operand→Value} {W:World},ρ p=u→ρ q=z→(execOp ρ ⟨some d,op,ty,pos,af,none⟩).run P W= .ok (.value v) W)(hp:ev f p=some u)(hq:ev f q=some z)(k:Tq P w n ops (uf f d v) E X rest)(hdn:Nat.blt d n=true:=by exact rfl):Tq P w n ops f E X (⟨some d,op,ty,pos,af,none⟩::rest):=MZ (wn rfl) hdn hr hp hq k
theorem bH{j t:Nat}{b:Bool}(hr:∀{ρ:Operand→Value} {W:World},ρ p=u→(execOp ρ ⟨some d,op,ty,pos,af,g⟩).run P W= .ok (.value v) W)(hp:ev f p=some u)(k:Tr w n (uf f d v) E (wpList P ops Q rest))(h:g=some (j,b):=by exact rfl)(hj:(ops[j]?).bind (·.dst)=some t:=by exact rfl)(ht:f t=some (.bool b):=by exact rfl)(hdn:Nat.blt d n=true:=by exact rfl):Tr w n f E (wpList P ops Q (⟨some d,op,ty,pos,af,g⟩::rest)):=MS (wg h hj ht) hdn hr hp k
theorem Tr.e2{j t:Nat}{b:Bool}(hr:∀{ρ:Operand→Value} {W:World},ρ p=u→ρ q=z→(execOp ρ ⟨some d,op,ty,pos,af,g⟩).run P W= .ok (.value v) W)(hp:ev f p=some u)(hq:ev f q=some z)(k:Tr w n (uf f d v) E (wpList P ops Q rest))(h:g=some (j,b):=by exact rfl)(hj:(ops[j]?).bind (·.dst)=some t:=by exact rfl)(ht:f t=some (.bool b):=by exact rfl)(hdn:Nat.blt d n=true:=by exact rfl):Tr w n f E (wpList P ops Q (⟨some d,op,ty,pos,af,g⟩::rest)):=MR (wg h hj ht) hdn hr hp hq k
theorem jA{j t:Nat}{b:Bool}(hr:∀{ρ:Operand→Value} {W:World},ρ p=u→(execOp ρ ⟨some d,op,ty,pos,af,g⟩).run P W= .ok (.value v) W)(hp:ev f p=some u)(k:Tq P w n ops (uf f d v) E X rest)(h:g=some (j,b):=by exact rfl)(hj:(ops[j]?).bind (·.dst)=some t:=by exact rfl)(ht:f t=some (.bool b):=by exact rfl)(hdn:Nat.blt d n=true:=by exact rfl):Tq P w n ops f E X (⟨some d,op,ty,pos,af,g⟩::rest):=M0 (wg h hj ht) hdn hr hp k
theorem Tq.e2{j t:Nat}{b:Bool}(hr:∀{ρ:Operand→Value} {W:World},ρ p=u→ρ q=z→(execOp ρ ⟨some d,op,ty,pos,af,g⟩).run P W= .ok (.value v) W)(hp:ev f p=some u)(hq:ev f q=some z)(k:Tq P w n ops (uf f d v) E X rest)(h:g=some (j,b):=by exact rfl)(hj:(ops[j]?).bind (·.dst)=some t:=by exact rfl)(ht:f t=some (.bool b):=by exact rfl)(hdn:Nat.blt d n=true:=by exact rfl):Tq P w n ops f E X (⟨some d,op,ty,pos,af,g⟩::rest):=MZ (wg h hj ht) hdn hr hp hq k
theorem Tr.x{j t:Nat}{b:Bool}(hr:∀a W,FR n f a→HF w W E→(execOp a.eval ⟨some d,op,ty,pos,af,g⟩).run P W= .ok (.value v) W)(k:Tr w n (uf f d v) E (wpList P ops Q rest))(h:g=some (j,b):=by exact rfl)(hj:(ops[j]?).bind (·.dst)=some t:=by exact rfl)(ht:f t=some (.bool b):=by exact rfl)(hdn:Nat.blt d n=true:=by exact rfl):Tr w n f E (wpList P ops Q (⟨some d,op,ty,pos,af,g⟩::rest)):=Tr.val (wg h hj ht) hdn hr k
theorem Tq.x{j t:Nat}{b:Bool}(hr:∀a W,FR n f a→HF w W E→(execOp a.eval ⟨some d,op,ty,pos,af,g⟩).run P W= .ok (.value v) W)(k:Tq P w n ops (uf f d v) E X rest)(h:g=some (j,b):=by exact rfl)(hj:(ops[j]?).bind (·.dst)=some t:=by exact rfl)(ht:f t=some (.bool b):=by exact rfl)(hdn:Nat.blt d n=true:=by exact rfl):Tq P w n ops f E X (⟨some d,op,ty,pos,af,g⟩::rest):=Tq.val (wg h hj ht) hdn hr k
theorem cB{fu:Func}{w0:Bs}(le:w0.Le w)(hr:yw P f E fu.results.toList [v] []:=by exact aU rfl bD):Tr w n f E (bodyPost P fu (fun e W'=>e= .returned v∧HF w0 W' E0) .ret):=bL [] hr (fun _ hW=>⟨rfl,hW.low le⟩)
theorem SN(hdn:Nat.blt d n=true)(hr:∀{ρ:Operand→Value} {W:World},ρ p=u→(execOp ρ ⟨some d,op,ty,pos,af,none⟩).run P W= .ok (.value v) W)(hp:ev f p=some u)(k:Tr w n (uf f d v) E (wpList P ops Q rest)):Tr w n f E (wpList P ops Q (⟨some d,op,ty,pos,af,none⟩::rest)):=MS (wn rfl) hdn hr hp k
theorem SL(hdn:Nat.blt d n=true)(hr:∀{ρ:Operand→Value} {W:World},ρ p=u→ρ q=z→(execOp ρ ⟨some d,op,ty,pos,af,none⟩).run P W= .ok (.value v) W)(hp:ev f p=some u)(hq:ev f q=some z)(k:Tr w n (uf f d v) E (wpList P ops Q rest)):Tr w n f E (wpList P ops Q (⟨some d,op,ty,pos,af,none⟩::rest)):=MR (wn rfl) hdn hr hp hq k
theorem SS(hdn:Nat.blt d n=true)(hr:∀{ρ:Operand→Value} {W:World},ρ p=u→(execOp ρ ⟨some d,op,ty,pos,af,none⟩).run P W= .ok (.value v) W)(hp:ev f p=some u)(k:Tq P w n ops (uf f d v) E X rest):Tq P w n ops f E X (⟨some d,op,ty,pos,af,none⟩::rest):=M0 (wn rfl) hdn hr hp k
theorem SQ(hdn:Nat.blt d n=true)(hr:∀{ρ:Operand→Value} {W:World},ρ p=u→ρ q=z→(execOp ρ ⟨some d,op,ty,pos,af,none⟩).run P W= .ok (.value v) W)(hp:ev f p=some u)(hq:ev f q=some z)(k:Tq P w n ops (uf f d v) E X rest):Tq P w n ops f E X (⟨some d,op,ty,pos,af,none⟩::rest):=MZ (wn rfl) hdn hr hp hq k
theorem Tr.ps{o:Oper}{j t:Nat}{b b':Bool}(hd:o.dst=some d)(k:Tr w n (uf f d undef) E (wpList P ops Q rest))(h:o.guard=some (j,b):=by rfl)(hj:(ops[j]?).bind (·.dst)=some t:=by rfl)(ht:f t=some (.bool b'):=by rfl)(hne:(b'==b)=false:=by rfl)(hdn:d<n:=by decide):Tr w n f E (wpList P ops Q (o::rest)):=Ox h hj ht hne hd hdn k
theorem Tq.ps{o:Oper}{j t:Nat}{b b':Bool}(hd:o.dst=some d)(k:Tq P w n ops (uf f d undef) E X rest)(h:o.guard=some (j,b):=by rfl)(hj:(ops[j]?).bind (·.dst)=some t:=by rfl)(ht:f t=some (.bool b'):=by rfl)(hne:(b'==b)=false:=by rfl)(hdn:d<n:=by decide):Tq P w n ops f E X (o::rest):=Oz h hj ht hne hd hdn k
theorem gN{o:Oper}{j t:Nat}{b:Bool}(hd:o.dst=some d)(k:Tr w n (uf f d undef) E (wpList P ops Q rest))(h:o.guard=some (j,b):=by rfl)(hj:(ops[j]?).bind (·.dst)=some t:=by rfl)(ht:f t=some undef:=by rfl)(hdn:d<n:=by decide):Tr w n f E (wpList P ops Q (o::rest)):=MV h hj ht hd hdn k
theorem Df{o:Oper}{j t:Nat}{b:Bool}(hd:o.dst=some d)(k:Tq P w n ops (uf f d undef) E X rest)(h:o.guard=some (j,b):=by rfl)(hj:(ops[j]?).bind (·.dst)=some t:=by rfl)(ht:f t=some undef:=by rfl)(hdn:d<n:=by decide):Tq P w n ops f E X (o::rest):=M3 h hj ht hd hdn k
end
open Go.RowKit Go.Proofs
open Go.ChangeMaps Go.MapKept
open Go.Maps (Keyed int_keyed keyOf_int_mk)
def F6(m:List (Int×Int))(k:Int):Option Int:=if Nj k=true then some ((wJ m k).getD 0) else none
section
variable {P:Program} {w:Bs} {n:Nat} {f:Nat→Option Value} {E:Nat→iL} {X:Act→World→Prop} {Q:Exit→Act→World→Prop} {ops:Array Oper} {rest:List Oper}
variable {d ty T MT KT VT:Nat} {pos:String} {af:Array Edge} {g:Option (Nat×Bool)} {p q x:Operand} {α:Type} {t:Fl α} {b:Nat}
theorem zm{ρ:Operand→Value}{W:World}{dd:Option Nat}{m:List (Int×Int)}{k v:Int}(hMT:P.underlying MT=some (.map KT VT))(hKT:P.underlying KT=some (.int .i64))(hz:(P.info? VT).bind (·.zero)=some (.int .i64 0))
  (hp:ρ p= .map (some b)) (hq:ρ q= .int .i64 k) (h2:HF w W E) {κ:Nat} (hk:E κ=mi b m) (hm:F6 m k=some v):(execOp ρ ⟨dd,.lookup MT p q false,ty,pos,af,g⟩).run P W= .ok (.value (.int .i64 v)) W:=by
 unfold F6 at hm
 split at hm
 ·rename_i hr
  have hm:=Option.some.inj hm
  have hφ:=h2.phi κ
  rw[hk] at hφ
  obtain⟨⟨es,clock,hb,hes⟩,g2,g3⟩:=hφ
  have K:=int_keyed hKT
  have hkey:=keyOf_int_mk hKT (Am hr)
  have hkeys:∀e∈es.toList,∃l,keyOf P KT e.key=some l:=fun e he=>by
   have:(e.key,e.val)∈m.map fun e=>(Value.int .i64 e.1,Value.int .i64 e.2):=by rw[←hes];exact List.mem_map_of_mem (f:=fun x:MapEntry=>(x.key,x.val)) he
   obtain⟨e',he',h3⟩:=List.mem_map.1 this
   have h4:=congrArg Prod.fst h3
   simp only at h4
   exact⟨_,by rw[←h4];exact keyOf_int_mk hKT (Am (g2 e' he'))⟩
  have hzr:(zeroValue VT).run P W= .ok (.int .i64 0) W:=by
   cases hi:P.info? VT with
   |none=>rw[hi] at hz;cases hz
   |some inf=>
    rw[hi] at hz
    simp only[ob] at hz
    simp[zeroValue,typeInfo,hi,hz]
  have main:(Instr.lookup MT (.map (some b)) (.int .i64 k) false).run P W= .ok (.int .i64 v) W:=by
   rcases K.find W hkey es.toList hkeys with⟨f1,f2⟩|⟨j,e0,f1,f2,f3⟩
   ·have hno:∀e∈m,e.1≠k:=fun e he hek=>by
     have:(Value.int .i64 e.1,Value.int .i64 e.2)∈es.toList.map fun x=>(x.key,x.val):=by rw[hes];exact List.mem_map_of_mem (f:=fun e:Int×Int=>(Value.int .i64 e.1,Value.int .i64 e.2)) he
     obtain⟨x0,hx0,h3⟩:=List.mem_map.1 this
     exact f2 x0 hx0 ((congrArg Prod.fst h3).trans (by show Value.int .i64 e.1=_;rw[hek]))
    rcases Qr k m with⟨_,q3,_⟩|⟨a0,e,z,q1,q2,_⟩
    ·rw[q3] at hm
     simp at hm
     subst hm
     simp[Instr.lookup,run_underlying hMT,MapKept.run_getObj_map hb,K.check W _ hkey,f1,hzr,Result.andThen]
    ·exact absurd rfl (hno (k,e) (by rw[q1];simp))
   ·have hm0:e0∈es.toList:=List.mem_of_getElem? f2
    have hin:(e0.key,e0.val)∈m.map fun e=>(Value.int .i64 e.1,Value.int .i64 e.2):=by rw[←hes];exact List.mem_map_of_mem (f:=fun x:MapEntry=>(x.key,x.val)) hm0
    obtain⟨e',he',h3⟩:=List.mem_map.1 hin
    have h4:Value.int .i64 e'.1=e0.key:=congrArg Prod.fst h3
    have h5:Value.int .i64 e'.2=e0.val:=congrArg Prod.snd h3
    have hek:e'.1=k:=by rw[f3] at h4;simpa using h4
    rcases Qr k m with⟨q1,_⟩|⟨a0,e,z,q1,q2,q3,_⟩
    ·exact absurd hek (q1 e' he')
    ·have:e'=(k,e):=by
      rw[q1] at he' g3
      obtain⟨_,pw2,_⟩:=List.pairwise_append.1 g3
      obtain⟨pw4,_⟩:=List.pairwise_cons.1 pw2
      rcases List.mem_append.1 he' with he'|he'
      ·exact absurd hek (q2 e' he')
      ·rcases List.mem_cons.1 he' with he'|he'
       ·exact he'
       ·exact absurd hek.symm (pw4 e' he')
     subst this
     rw[q3] at hm
     simp at hm
     subst hm
     simp only at h5
     simp[Instr.lookup,run_underlying hMT,MapKept.run_getObj_map hb,K.check W _ hkey,f1,←h5,Result.andThen]
  simp[execOp,hp,hq,main]
 ·cases hm
end
open Go.RowKit Go.Proofs
open Go.ChangeMaps Go.MapKept
open Go.Maps (Keyed)
section words
variable {κ α:Type} [DecidableEq κ]
structure KE (κ α:Type) where
 k:κ
 A:Option Addr
 c:Nat
 l:List α
 own:Bool
def KE.hd(e:KE κ α):Value:=.slice e.A e.l.length e.c
def KE.blk(e:KE κ α)(x:Nat):Prop:=e.own=true∧(Value.slice e.A e.l.length e.c).ownBlock=some x
def KE.kd(e:KE κ α):κ×List α:=(e.k,e.l)
def MQ(ms:List (KE κ α))(m:List (κ×List α)):Prop:=ms.map KE.kd=m∧∀e∈ms,e.own=true
omit [DecidableEq κ] in
theorem MQ.nil:MQ ([]:List (KE κ α)) []:=⟨rfl,fun _ h=>(nomatch h)⟩
end words
section
variable {P:Program} {w w':Bs} {n:Nat} {f:Nat→Option Value} {E:Nat→iL} {X:Act→World→Prop} {Q:Exit→Act→World→Prop} {ops:Array Oper} {rest:List Oper}
variable {d ty T MT KT VT:Nat} {pos:String} {af:Array Edge} {g:Option (Nat×Bool)} {p q x:Operand} {b:Nat} {κ α:Type} [DecidableEq κ] {enc:κ→Value} {ok:κ→Bool} {t:Fl α}
def LM(W:World)(b:Nat)(kv:List (Value×Value)):Prop:=∃es,W.heap[b]?=some (.map es es.size)∧(∀(i:Nat) (e:MapEntry),es.toList[i]?=some e→e.born=i)∧es.toList.map (fun x=>(x.key,x.val))=kv
theorem JV{W W':World}{b:Nat}{kv:List (Value×Value)}(h:W'.heap[b]?=W.heap[b]?)(hp:LM W b kv):LM W' b kv:=by
 obtain⟨es,h1,h2⟩:=hp
 exact⟨es,h.trans h1,h2⟩
def OH(R:Nat→Prop)(W:World)(enc:κ→Value)(ok:κ→Bool)(b:Nat)(t:Fl α)(m:List (κ×List α)):Prop:=
 R b∧∃ms:List (KE κ α),ms.map KE.kd=m∧LM W b (ms.map fun e=>(enc e.k,e.hd))∧(∀e∈ms,ok e.k=true∧Sl R W t e.A e.c e.l)∧ms.Pairwise fun e e'=>e.k≠e'.k
omit [DecidableEq κ] in
theorem OH.go{R R':Nat→Prop}{W W':World}{m:List (κ×List α)}(h:OH R W enc ok b t m)(hS:∀b,R b→R' b)(hs:∀b,R b→W'.heap[b]?=W.heap[b]?):OH R' W' enc ok b t m:=by
 obtain⟨h1,ms,h2,h3,h4,h5⟩:=h
 exact⟨hS b h1,ms,h2,JV (hs b h1) h3,fun e he=>⟨(h4 e he).1,(h4 e he).2.go hS hs⟩,h5⟩
omit [DecidableEq κ] in
theorem OH.kL{m:List (κ×List α)}(h:OH w.R w.W enc ok b t m)(hle:w.Le w'):OH w'.R w'.W enc ok b t m:=h.go hle.r (fun b hb=>hle.blk b hb)
omit [DecidableEq κ] in
theorem OH.ext{m:List (κ×List α)}(h:OH w.R w.W enc ok b t m)(e:w.Ext w'):OH w'.R w'.W enc ok b t m:=h.go e.r e.blk
end
open Go.RowKit Go.Proofs Go.Shelf
open Go.ChangeMaps Go.MapKept
open Go.Maps (Keyed string_keyed)
section
variable {P:Program} {w:Bs} {n:Nat} {f:Nat→Option Value} {E:Nat→iL} {X:Act→World→Prop} {Q:Exit→Act→World→Prop} {ops:Array Oper} {rest:List Oper}
variable {d ty T MT KT VT:Nat} {pos:String} {af:Array Edge} {g:Option (Nat×Bool)} {p q x:Operand} {b:Nat} {κ:Type} [DecidableEq κ] {enc:κ→Value} {ok:κ→Bool} {ρ:Ren}
def RU(enc:κ→Value)(ok:κ→Bool)(b:Nat)(m:List κ):iL:=
 ⟨fun x=>x=b,fun _ W=>LK W b (m.map fun e=>(enc e,Value.bool true))∧∀e∈m,ok e=true⟩
omit [DecidableEq κ] in
theorem Qh(b:Nat)(m:List κ):(RU enc ok b m).loc:=⟨fun O W W' h hp=>⟨JU (h b (.inr rfl)) hp.1,hp.2⟩,fun _ _ _ _ hp=>hp⟩
omit [DecidableEq κ] in
theorem GG(enc:κ→Value)(ok:κ→Bool)(k0:Nat)(hw:Wn ops f ⟨some d,.makeMap MT none,ty,pos,af,g⟩)(hdn:Nat.blt d n=true)
  (K:∀b,Tr w n (uf f d (.map (some b))) (up E k0 (RU enc ok b [])) (wpList P ops Q rest)):Tr w n f E (wpList P ops Q (⟨some d,.makeMap MT none,ty,pos,af,g⟩::rest)):=
 vV hw hdn (fun _ W _ h2=>⟨rfl,h2.add k0 ((Below.refl _ _).alloc (Nat.le_refl _) _) (RU enc ok W.heap.size []) (Qh _ _)
  ⟨⟨#[],0,heap_alloc_new W _,stamped_empty 0,rfl⟩,fun _ h=>(nomatch h)⟩ (fun b hb=>by
   have hb:b=W.heap.size:=hb
   subst hb;exact⟨Nat.le_refl _,by simp⟩)⟩) (fun W _=>K W.heap.size)
end
open Go.RowKit Go.Proofs
variable {α β:Type}
def di(o:Option α)(P:α→Prop):Prop:=match o with|none=>True|some x=>P x
def Hy(b:Nat)(o:Option α):Value:=match o with|none=>.pointer none|some _=>.pointer (some ⟨b,0,none⟩)
def PX(b T:Nat)(o:Option α)(f:α→Array Value):iL:=match o with|none=>emp|some x=>bx b (f x) T
def ui(o:Option α)(a:β)(f:α→β):β:=match o with|none=>a|some x=>f x
theorem Ll:∀o:Option α,o=none∨∃x,o=some x
 |none=>.inl rfl
 |some x=>.inr ⟨x,rfl⟩
section
variable {P:Program} {w:Bs} {n:Nat} {f:Nat→Option Value} {E:Nat→iL} {l:List Oper} {m:Nat} {t:Tn} {Q:Exit→Act→World→Prop} {fu:Nat} {listed:Array Bool}
variable {d ty T:Nat} {pos:String} {af:Array Edge} {g:Option (Nat×Bool)} {p q:Operand}
theorem qK{α:Type}(i κ:Nat)(t':Fl α)(z:α){e j:Nat}{mm:Int}{z0:Value}{ll:List α}(hi:l[i]?=some ⟨some d,.makeSlice T p q,ty,pos,af,g⟩)(hw:Wn l.toArray f ⟨some d,.makeSlice T p q,ty,pos,af,g⟩)(hdn:Nat.blt d n=true)(hp:ev f p=some (.int .i64 mm))(hq:ev f q=some (.int .i64 mm))
  (hu:P.underlying T=some (.slice e)) (hs:kD P e=some t'.sz) (h1:t'.sz=1) (hz:zeroOf P e=some [z0]) (hby:(P.info? e).map (·.bytes)=some j) (hle:Nat.ble j 32768=true) (hr:∃u,(∀S W,t'.ok S W u z)∧t'.enc u z=[z0]) (hm:I1 z mm=some ll)
  (K:∀b,t.s0≤b→cO (some ⟨b,0,none⟩) ll.length ll.length→Dr P w n l m t Q fu (listed.setIfInBounds i true) (uf f d (.slice (some ⟨b,0,none⟩) ll.length ll.length)) (up E κ (ow (some ⟨b,0,none⟩) ll.length e t' ll))):St P w n l m t Q fu listed f E i:=by
 unfold I1 at hm
 split at hm
 ·rename_i hm0
  have hm:=(Option.some.inj hm).symm
  obtain⟨k,rfl⟩:∃k:Nat,mm=(k:Int):=⟨mm.toNat,by omega⟩
  have hl:ll=List.replicate k z:=by rw[hm,Int.toNat_natCast]
  have hlen:ll.length=k:=by rw[hl,List.length_replicate]
  have hk:k≤4294967296:=by omega
  have hmax:k≤maxLen:=by unfold maxLen;omega
  obtain⟨u,hu1,hu2⟩:=hr
  have hform:∀b:Nat,cO (some ⟨b,0,none⟩) ll.length ll.length:=fun b=>⟨Nat.le_refl _,by rw[hlen];exact hmax,fun _=>rfl⟩
  refine yh (U:=Nat) i hi hw (t.s0≤ ·) (f':=fun b=>uf f d (.slice (some ⟨b,0,none⟩) ll.length ll.length)) (E':=fun b=>up E κ (ow (some ⟨b,0,none⟩) ll.length e t' ll)) (fun a W k1 k2 hsz K' hK=>?_) (fun b hb=>K b hb (hform b))
  cases hin:P.info? e with
  |none=>rw[hin] at hby;cases hby
  | some inf=>
   rw[hin] at hby;simp at hby;subst hby
   unfold zeroOf at hz
   unfold kD at hs
   rw[hin] at hz hs
   simp only[ob,Option.map_some,Option.some.injEq] at hz hs
   cases hze:inf.zero with
   |none=>rw[hze] at hz;cases hz
   | some zv=>
    rw[hze] at hz
    simp only[Option.map_some,Option.some.injEq] at hz
    have hzc:zv.cells= #[z0]:=by rw[←Array.toArray_toList (xs:=zv.cells),hz]
    have hby:inf.bytes*k≤281474976710656:=Nat.le_trans (Nat.mul_le_mul (Nat.le_of_ble_eq_true hle) hk) (by decide)
    have hrun:=run_make (P:=P) W T e inf zv hu hin hze .i64 .i64 (k:Int) (k:Int) (by omega) (Int.le_refl _) (by rw[←Int.natCast_mul];omega) (by omega)
    rw[hs,h1,Int.toNat_natCast,Nat.mul_one,hzc] at hrun
    have hex:(execOp a.eval ⟨some d,.makeSlice T p q,ty,pos,af,g⟩).run P W= .ok (.value (.slice (some ⟨W.heap.size,0,none⟩) ll.length ll.length)) (W.alloc (.cells (madeCells #[z0] k) e)):=by
     simp only[execOp,k1.ev hp,k1.ev hq,hlen]
     simp[hrun]
    unfold Oper.wp
    rw[hex]
    refine hK W.heap.size _ _ hsz (k1.put (Nat.le_of_ble_eq_true hdn) _) ?_ (qy.of_below ((Below.refl _ _).alloc (Nat.le_refl _) _))
    refine k2.add κ ((Below.refl _ _).alloc (Nat.le_refl _) _) _ (lL _ _ _ _ _) ⟨List.replicate k [z0],?_,?_⟩ (fun b hb=>?_)
    ·rw[hl]
     have:∀j:Nat,Al (rp t' w.O (W.alloc (.cells (madeCells #[z0] k) e))) (List.replicate j [z0]) (List.replicate j z):=by
      intro j
      induction j with
      |zero=>exact .nil
      |succ j ih=>exact .cons ⟨u,hu1 _ _,hu2.symm⟩ ih
     exact this k
    ·rw[Ao,hlen,h1]
     refine⟨by rw[List.length_replicate,Nat.mul_one],.inr ⟨W.heap.size,k,madeCells #[z0] k,rfl,Nat.zero_le _,heap_alloc_new W _,Nat.le_refl _,hmax,by rw[size_madeCells,Nat.mul_one],?_⟩⟩
     rw[toList_madeCells_one,Nat.mul_one,List.take_of_length_le (by rw[List.length_replicate];exact Nat.le_refl _)]
    ·have hb:some W.heap.size=some b:=hb
     simp at hb;subst hb
     exact⟨Nat.le_refl _,by simp⟩
 ·cases hm
end
open Go.RowKit Go.Proofs
section
variable {P:Program} {w:Bs} {n:Nat} {f:Nat→Option Value} {E:Nat→iL} {X:Act→World→Prop} {W:World}
variable {T0 T':Nat} {α β:Type} {t:Fl α} {ti:Fl β} {L:Lens t ti} {A:Option Addr} {c:Nat} {ms:List (DE t)} {ls:List α}
theorem HF.Sv(h:HF w W E){k:Nat}(hk:E k=dq A ls.length c T0 T' L ms)(hm:DC ms ls):Sl (fun b=>w.O b∨(E k).S b) W t A c ls:=by
 obtain⟨hm1,hm2⟩:=hm
 have hφ:=h.phi k
 rw[hk] at hφ
 obtain⟨g1,⟨css,g2,g2'⟩,⟨g3,_⟩,_⟩:=hφ
 have hsl:=sJ g2 g2'
 have hform:=hsl.form
 have hl2:ms.length=ls.length:=by rw[←hm1];simp
 rw[hl2] at hform
 refine⟨hform,fun i x hx=>?_⟩
 rw[←hm1,List.getElem?_map] at hx
 obtain⟨d0,hd0,rfl⟩:=Option.map_eq_some_iff.1 hx
 obtain⟨s1,_,s2,s3⟩:=hsl.cells i d0 hd0
 have hem:Proofs.YtkccbhbhdnobhaaGreatDoor.ne L d0∈ms.map (Proofs.YtkccbhbhdnobhaaGreatDoor.ne L):=List.mem_map_of_mem (List.mem_of_getElem? hd0)
 have hown:=hm2 d0 (List.mem_of_getElem? hd0)
 obtain⟨css',r1,r2⟩:=(g3 _ hem).2 hown
 have hin:=sJ r1 r2
 have hsub:∀y,(w.O y∨(Value.slice A ms.length c).ownBlock=some y)→w.O y∨(E k).S y:=fun y hy=>by
  rcases hy with hy|hy
  ·exact .inl hy
  ·exact .inr (by rw[hk];exact .inl ((oV _ _ _ _ _).trans hy))
 refine⟨hsub _ s1,d0.u,L.ok _ _ d0.u d0.x (L.locR s2 hsub (fun _ _=>rfl)) (hin.mono fun y hy=>?_),s3⟩
 rcases hy with hy|hy
 ·exact .inl hy
 ·exact .inr (by rw[hk];exact .inr ⟨_,hem,hown,hy⟩)
theorem HF.Tc(h:HF w W E){k:Nat}(hk:E k=dq A ls.length c T0 T' L ms)(hm:DC ms ls):Sl (lo W.heap.size) W t A c ls:=(h.Sv hk hm).mono (fun b hb=>by
 rcases hb with hb|hb
 ·exact h.DU (.inl hb)
 ·exact(h.bd k b hb).2)
theorem HF.Mv(hW:HF w W E){k:Nat}(hk:E k=dq A ls.length c T0 T' L ms)(hm:DC ms ls):Sl hW.all.R hW.all.W t A c ls:=(hW.Tc hk hm).mono (fun _ hb=>hW.MJ hb)
theorem Qj{e:DE t}{x:α}{l':List α}(hm:DC ms ls)(h:vD ls [x]=some l'):vD ms [e]=some (ms++[e]):=by
 obtain⟨h1,_⟩:=tN h
 have:=hm.len
 unfold vD
 rw[if_pos (by simp at h1 ⊢;omega)]
theorem Oo{e:DE t}{x:α}{l':List α}(hm:DC ms ls)(h:vD ls [x]=some l'):(ms++[e]).length=l'.length:=by
 obtain⟨_,h2⟩:=tN h
 subst h2
 simp[hm.len]
theorem Ki(κ κ':Nat){n0:Nat}(hn:Nat.beq κ' κ=false)(hk:E κ=dq A n0 c T0 T' L ms)(K:Tr w n f (up (up E κ (ow A c T0 (Ea L) ms)) κ' (ins T' ti (ms.map (ne L)))) X):Tr w n f E X:=
 fun a W h1 h2=>K a W h1 (h2.Jp hk (yz hn))
theorem Kh(κ κ' κ1:Nat){u:t.Ad}{x:α}{ls':List α}{A' A1:Option Addr}{c' c1:Nat}{l1:List β}(hn1:Nat.beq κ1 κ=false)(hn2:Nat.beq κ' κ=false)(hn12:Nat.beq κ1 κ'=false)
  (hk:E κ=ow A' c' T0 (Ea L) (ms++[⟨u,x,true⟩])) (hk':E κ'=ins T' ti (ms.map (ne L))) (hk1:E κ1=ow A1 c1 T' ti l1) (hga:L.ga u=(A1,c1)) (hget:L.get x=l1) (hf1:cO A1 l1.length c1) (hm:DC ms ls) (hap:vD ls [x]=some ls')
  (K:∀ms',DC ms' ls'→Tr w n f (up (up (up E κ1 emp) κ' emp) κ (dq A' ls'.length c' T0 T' L ms')) X):Tr w n f E X:=by
 have b1:=yz hn1
 have b2:=yz hn2
 have b12:=yz hn12
 obtain⟨_,ha2⟩:=tN hap
 subst ha2
 subst hget
 have hlen:=hm.len
 intro a W h1 h2
 have g1:=h2.PZ (κ:=κ1) (T':=T') (ti:=ti) hk1 hf1
 have f3:=g1.NT (κ:=κ') (κ':=κ1) (T':=T') (ti:=ti) (m1:=ms.map (Proofs.YtkccbhbhdnobhaaGreatDoor.ne L)) (m2:=[⟨A1,c1,L.get x,true⟩]) (by rw[dS (fun e=>b12 e.symm),hk']) (by rw[gq]) b12
 have hmap:ms.map (Proofs.YtkccbhbhdnobhaaGreatDoor.ne L)++[⟨A1,c1,L.get x,true⟩]=(ms++[(⟨u,x,true⟩:DE t)]).map (Proofs.YtkccbhbhdnobhaaGreatDoor.ne L):=by simp[Proofs.YtkccbhbhdnobhaaGreatDoor.ne,hga]
 rw[hmap] at f3
 have f4:=f3.Jq (κ:=κ) (κ':=κ') (A:=A') (c:=c') (T0:=T0) (L:=L) (ms:=ms++[⟨u,x,true⟩]) (n0:=(ls++[x]).length) (by rw[dS (fun e=>b2 e.symm),dS (fun e=>b1 e.symm),dS (fun e=>b1 e.symm),hk]) (by rw[gq]) b2 (by simp[hlen])
 refine K (ms++[⟨u,x,true⟩]) ⟨by rw[List.map_append,hm.1];rfl,fun d0 hd0=>?_⟩ a W h1 (f4.weaken (fun k=>?_))
 ·rcases List.mem_append.1 hd0 with hd0|hd0
  ·exact hm.2 d0 hd0
  ·simp at hd0;subst hd0;rfl
 ·by_cases k1:k=κ
  ·subst k1;exact .inl (by rw[gq,gq])
  by_cases k2:k=κ'
  ·subst k2;exact .inr (by rw[dS k1,gq])
  by_cases k3:k=κ1
  ·subst k3;exact .inr (by rw[dS k1,dS k2,gq])
  exact .inl (by rw[dS k1,dS k2,dS k3,dS k1,dS k2,dS k2,dS k3,dS k3])
end
end Go.Proofs.YtkccbhbhdnobhaaGreatDoor
