/- Rules of the walks, or plain laws about the plain functions. Conditions: none beyond each theorem's own. -/
import Derived.Test.YtkccbhbhdnobhaaGreatDoorRows
import Derived.Test.YtkccbhbhdnobhaaGreatDoorJ2
import Derived.ProofKit
import Derived.Deep.Slices
import Derived.HandedShaped
import Derived.Lib.LaidTab
import Derived.LaidSub
import Derived.MakeChecks
import Derived.Lay
namespace Go.Proofs.YtkccbhbhdnobhaaGreatDoor
open Go.ChangeShapes Go.WideShapes Go.ChangeAt Go.RowKit Go.Deep
def Dy(n:Int):Prop:= -9223372036854775808≤n∧n≤9223372036854775807
theorem P6{n:Int}(h:(Lit.int .i64 n).wf=true):Dy n:=by
 simp[Lit.wf,IntKind.min,IntKind.max,IntKind.signed,IntKind.bits] at h
 exact⟨by omega,by omega⟩
section
variable {H:Type} {enc:TypeId×Value→H} {w:World} {base:Nat} {spare:Nat→Bool} {held:Bool}
theorem Fw{α:Type}{P:Program}{t e fuel:Nat}(f:Fl α){Wf:α→Prop}{v:Value}{x:DataW H×List MemPlace}(ht:P.underlying t=some (.slice e))(hC:P.cellsOf e=f.sz)(hsz:0<f.sz)
  (dec:∀(n:Nat),n<fuel→∀(cs:List Value) (y:DataW H×List MemPlace),DataW.trod enc P w base spare held n e cs=some y→∃(u:f.Ad) (a:α),f.ok (lo w.heap.size) w u a∧cs=f.enc u a∧Wf a)
  (h:DataW.trod enc P w base spare held fuel t [v]=some x):∃(A:Option Addr) (c:Nat) (l:List α),v= .slice A l.length c∧Sl (lo w.heap.size) w f A c l∧∀a∈l,Wf a:=by
 rcases DataW.trod_slice ht h with⟨hcs,_⟩|⟨a,len,cap,elems,rest,n,hfn,hcs,_,_,hl,hm,hlen0,hel,_,_⟩
 ·simp at hcs;subst hcs
  exact⟨none,0,[],rfl,Sl.nil _ _ _,fun a ha=>by simp at ha⟩
 ·simp at hcs;subst hcs
  have hi:∀i,i<len→∃cs' y,w.cells? base (a.add (i*P.cellsOf e)) (P.cellsOf e)=some cs'∧DataW.trod enc P w base spare held n e cs'=some y:=by
   intro i hil
   have h1:=hel i hil
   rw[List.getElem?_eq_getElem (by omega)] at h1
   obtain⟨cs',h2,h3⟩:=Option.bind_eq_some_iff.1 h1
   exact⟨cs',_,h2,h3⟩
  have hex:∀i,i<len→∃b:α,Wf b∧∃u,f.ok (lo w.heap.size) w u b∧∀(j:Nat) (v:Value),(f.enc u b)[j]?=some v→w.cell? (a.add (i*f.sz+j))=some v:=by
   intro i hil
   obtain⟨cs',y,hc,hd⟩:=hi i hil
   obtain⟨u,b,hok,hb,hw⟩:=dec _ (by omega) _ _ hd
   obtain⟨_,hlen,hat⟩:=World.cells?_some hc
   rw[hC] at hat hlen
   refine⟨b,hw,u,hok,fun j v hu=>?_⟩
   have hj:j<f.sz:=by rw[←hlen,hb];exact(List.getElem?_eq_some_iff.1 hu).1
   have:=hat j hj
   rw[hb,hu,Go.Deep.add_add] at this
   exact this
  have hspot:0<len→∃b off,a=⟨b,off,none⟩∧b<w.heap.size:=by
   intro hp
   obtain⟨cs',y,hc,hd⟩:=hi 0 hp
   obtain⟨_,hlen,hat⟩:=World.cells?_some hc
   have h0:=hat 0 (by omega)
   have hex0:∃u,cs'[0]?=some u:=⟨_,List.getElem?_eq_getElem (by omega)⟩
   obtain⟨u,hu⟩:=hex0
   rw[hu,Nat.zero_mul] at h0
   have ha:(a.add 0).add 0=a:=by simp[Addr.add]
   rw[ha] at h0
   have hlt:=World.block_lt_of_cell? w a h0
   obtain⟨b,off,sp⟩:=a
   cases sp with
   |none=>exact⟨b,off,rfl,hlt⟩
   |some s=>
    exfalso
    unfold World.cell? at h0
    split at h0<;>simp at h0
  have hlen:((List.range len).attach.map (fun i=>Classical.choose (hex i.1 (List.mem_range.1 i.2)))).length=len:=by simp
  refine⟨some a,cap,(List.range len).attach.map (fun i=>Classical.choose (hex i.1 (List.mem_range.1 i.2))),by rw[hlen],⟨⟨by omega,hm,fun hp=>?_⟩,fun i x hx=>?_⟩,?_⟩
  ·obtain⟨b,off,rfl,hlt⟩:=hspot (by omega)
   rfl
  ·have hil:i<len:=by rw[←hlen];exact(List.getElem?_eq_some_iff.1 hx).1
   obtain⟨b,off,rfl,hlt⟩:=hspot (by omega)
   have hxe:x=Classical.choose (hex i hil):=by
    have:=(List.getElem?_eq_some_iff.1 hx).2
    rw[←this];simp
   subst hxe
   obtain⟨_,u,hok,hcells⟩:=Classical.choose_spec (hex i hil)
   refine⟨hlt,u,hok,fun j v hu=>?_⟩
   have:=hcells j v hu
   rw[Addr.add_lit,←Nat.add_assoc] at this
   exact this
  ·intro x hx
   obtain⟨i,_,rfl⟩:=List.mem_map.1 hx
   exact(Classical.choose_spec (hex i.1 (List.mem_range.1 i.2))).1
theorem mV{α:Type}{P:Program}{t e fuel:Nat}(f:Fl α){Wf:α→Prop}{v:Value}{x:DataW H×List MemPlace}(ht:P.underlying t=some (.slice e))(hC:P.cellsOf e=f.sz)(hsz:0<f.sz)
  (dec:∀(n:Nat) (cs:List Value) (y:DataW H×List MemPlace),DataW.trod enc P w base spare held n e cs=some y→∃(u:f.Ad) (a:α),f.ok (lo w.heap.size) w u a∧cs=f.enc u a∧Wf a)
  (h:DataW.trod enc P w base spare held fuel t [v]=some x):∃(A:Option Addr) (c:Nat) (l:List α),v= .slice A l.length c∧Sl (lo w.heap.size) w f A c l∧∀a∈l,Wf a:=
 Fw f ht hC hsz (fun n _=>dec n) h
theorem Ia{α:Type}{P:Program}{e:Nat}(f:Fl α){g:α→List Value}{Wf:α→Prop}(he:∀u x,f.enc u x=g x)(ht:f.E8)(u:f.Ad)
  (dec:∀(n:Nat) (cs:List Value) (y:DataW H×List MemPlace),DataW.trod enc P w base spare held n e cs=some y→∃a:α,cs=g a∧Wf a):
  ∀(n:Nat) (cs:List Value) (y:DataW H×List MemPlace),DataW.trod enc P w base spare held n e cs=some y→∃(u:f.Ad) (a:α),f.ok (lo w.heap.size) w u a∧cs=f.enc u a∧Wf a:=fun n cs y h=>by
 obtain⟨a,h1,h2⟩:=dec n cs y h
 exact⟨u,a,ht _ _ _ _,by rw[h1,he],h2⟩
end
def vN(W:World):Bs:=⟨W,lo W.heap.size,fun _=>False,fun b hb=>by
 rcases hb with hb|hb
 ·exact hb
 ·exact hb.elim⟩
theorem Sl.CV{α:Type}{W:World}{t:Fl α}{A:Option Addr}{c:Nat}{l:List α}(h:Sl (lo W.heap.size) W t A c l):Sl (vN W).R (vN W).W t A c l:=h.mono (fun _ hb=>.inl hb)
theorem Dq{W W':World}{E:Nat→iL}(h:HF (vN W) W' E):Below W.heap.size W W':=⟨h.os,h.tape,h.output,h.size,fun b hb=>h.keep b (.inl hb),h.drawn⟩
theorem Sj:ownKnob Tryz.prog.godebug=none:=by kernel_rfl
theorem Co:laidOutB Tryz.prog=true:=by kernel_rfl
open Go.RowKit Go.Deep Go.Lib Go.MakeChecks
def QH(P:Program):Bool:=match P.globalNamed "internal/strconv.uint64pow10" with
 | some g=>match (P.globals[g]?).map (·.type) with
  |some t=>match P.underlying t with
   |some (.array n e)=>(match P.underlying e with|some (.int .u64)=>true|_=>false)&&Nat.beq (P.cellsOf e) 1&&Nat.beq (P.cellsOf t) n
   |_=>false
  |none=>false
 |none=>false
theorem PL{P:Program}{W:World}{laid:List (String×DataW Unit)}(hb:QH P=true)(hp:(laid.all fun x=>x.2.handleName?.isNone)=true)
  (hl:(laid.filter fun x=>x.1== "internal/strconv.uint64pow10")=[("internal/strconv.uint64pow10",Lib.tabData .u64 Lib.pow10Tab)]) (h:laidMetH P laid W):RB P (vN W):=by
 rw[laidMetH_plain P laid W hp] at h
 have h2:=h.filter (fun x=>x.1== "internal/strconv.uint64pow10")
 rw[hl] at h2
 unfold QH at hb
 split at hb
 ·rename_i g hg
  split at hb
  ·rename_i t ht
   split at hb
   ·rename_i n e hu
    simp only[Bool.and_eq_true] at hb
    obtain⟨⟨h3,h4⟩,h5⟩:=hb
    split at h3
    ·rename_i he
     have hT:=Lib.tabIs_of_head hg ht hu he (Nat.eq_of_beq_eq_true h4) (Nat.eq_of_beq_eq_true h5) h2
     refine⟨g,hg,.inl ?_,hT⟩
     have hT':=hT
     unfold Lib.TabIs World.var? at hT'
     rw[hg] at hT'
     simp only[ob] at hT'
     show g<W.heap.size
     rcases Nat.lt_or_ge g W.heap.size with hh|hh
     ·exact hh
     ·rw[Array.getElem?_eq_none hh] at hT';cases hT'
    ·cases h3
   ·cases hb
  ·cases hb
 ·cases hb
theorem NL{P:Program}{W:World}{g:Nat}(hg:P.globals.findIdx? (·.name== "internal/bytealg.MaxLen")=some g)(h:∃m,W.cell? ⟨g,0,none⟩=some (.int .i64 m)):OG P (vN W):=by
 obtain⟨m,hm⟩:=h
 exact⟨g,hg,.inl (World.block_lt_of_cell? W _ hm),m,hm⟩
theorem ru{H:Type}{enc:TypeId×Value→H}{a:Assume}{C:Checked}{os:Os}{f:FuncId}{fn:Func}{s:ChangeSpec}{conds:List PathCond}{apart fresh handsOn again:Bool}{X:World→Array Value→Prop}
  (hX:∀(w w':World) (args:Array Value),w.heap=w'.heap→X w args→X w' args)
  (own:ownKnob C.prog.godebug=none) (started:os.Started) (noInit:C.prog.inits.idxOf? f=none) (hfn:C.prog.funcs[f]?=some fn)
  (witness:∃(w:World) (tape:Tape) (i:Input),w.os=os∧(w.forCall tape i).Shaped C.prog∧i.vars=[]∧Input.okWide C.prog (w.forCall tape i) .any w.heap.size f i∧
   ((s.pre enc C.prog fn conds apart (w.forCall tape i).memory i.args∧X (w.forCall tape i).memory i.args)∧sizedMet enc C.prog fn (OpenSpec.ofChange s) apart (w.forCall tape i).memory i.args)∧a.holds C.prog (lone (Frame.enter C.prog f i.args .normal) [] (w.forCall tape i)))
  (contract:∀(W:World) (base:Nat) (args:Array Value) (ds gs:List (DataW H)) (before:List MemPlace),W.ShapedOpen C.prog→
   (∀(j:Nat) t v,fn.params[j]?=some t→args[j]?=some v→Value.okWide C.prog W .any base t v)→
   DataW.Whole enc C.prog fn.params.toList s.vars apart W args.toList ds gs before→
   conds.all (PathCond.test C.prog ⟨fn.params.toList,ds,s.plain.varTypes C.prog,gs⟩)=true→
   (DataW.weightsEach C.prog (fn.params.toList++s.plain.varTypes C.prog) (ds++gs)).all (· ≤reachBytes)=true→X W args→
   a.holds C.prog (lone (Frame.enter C.prog f args .normal) [] W)→
   Calls C.prog f args W fun e W'=>∃v,e= .returned v∧s.post enc C.prog fn apart fresh handsOn again W args v W'):
  ReturnsInHanded a C os f .any (fun w args=>(s.pre enc C.prog fn conds apart w args∧X w args)∧sizedMet enc C.prog fn (OpenSpec.ofChange s) apart w args) (s.post enc C.prog fn apart fresh handsOn again):=by
 refine returnsInHanded_of_calls own started noInit witness ?_
 intro w tape i _ hsh _ hok hpre hholds
 obtain⟨_,_,_,fn',hfn',_,_,_,_,hval⟩:=hok
 have e:fn'=fn:=Option.some.inj (hfn'.symm.trans hfn)
 subst e
 obtain⟨⟨⟨ds,gs,before,hw,hc⟩,hx⟩,hz⟩:=hpre
 have hw':=DataW.Whole.of_heap (w':=w.forCall tape i) (by rfl) hw
 refine(contract (w.forCall tape i) w.heap.size i.args ds gs before hsh hval hw' hc (hz.weights hw) (hX _ _ _ (by rfl) hx) hholds).mono fun e W' ⟨v,he,hp⟩=>?_
 subst he
 exact ChangeSpec.post_blind hp
end Go.Proofs.YtkccbhbhdnobhaaGreatDoor
