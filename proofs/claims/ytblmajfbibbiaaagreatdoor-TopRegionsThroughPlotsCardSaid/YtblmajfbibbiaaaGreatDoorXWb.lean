/- The walks: each function computes its plain function. -/
import Derived.Test.YtblmajfbibbiaaaGreatDoorXWa
namespace Go.Proofs.YtblmajfbibbiaaaGreatDoor
open Go.RowKit
set_option maxRecDepth 100000
set_option maxHeartbeats 1000000
theorem BN{w:Bs}(p0:(List fJ))(F:Option Addr)(G:Nat)(A:Sl w.R w.W fe F G p0)(r:(List ak))(H:qx p0=some r)(hE:HF w w.W (ig [emp])):Calls Tryz.prog 83 [sL F p0 G].toArray w.W fun e W'=>∃u:(Option Addr×Nat),e= .returned (sL u.1 r u.2)∧(bZ u.1 r.length u.2)∧HF w W' (ig [ow u.1 u.2 24 bi r]):=by
 unfold qx at H
 have leB:=Bs.Le.refl w
 refine aZ (n:=60) Tryz.func83 Z Z Z hE (ai (Tr.k Z (bO 1 24 bi ?_)))
 show Tr _ _ (uf _ 2 (sL none (([]:List ak)) 0)) _ _
 refine ae (aa (ai (Tr.k Z (bO 2 24 bi ?_))))
 show Tr _ _ (uf _ 3 (sL none (([]:List ak)) 0)) _ _
 refine ae (aa (av (ai (aA Z (aQ (bD zC) Z (aA Z (ae (aa (Tr.block (cB (σ:=(List fJ)×Nat×(List ak)×(Option Addr)×Nat) (fun m w s=>m=s.1.length+1∧s.1=List.drop s.2.1 p0∧s.2.1≤p0.length∧gM p0 s.1 s.2.1 s.2.2.1=some r∧bZ s.2.2.2.1 s.2.2.1.length s.2.2.2.2) (fun s=>[(0,sL F p0 G),(3,sL s.2.2.2.1 s.2.2.1 s.2.2.2.2),(9,sL F p0 G),(10,iv (p0.length:Int)),(11,iv (s.2.1:Int))]) (fun s=>[(2,ow s.2.2.2.1 s.2.2.2.2 24 bi s.2.2.1)]) (p0.length+1) (p0,0,([]:List ak),none,0) ⟨Z,Z,Nat.zero_le _,H,fQ⟩ (.r Z) (.r Z) (fun _ _ h=>absurd h.1 (by simp)) ?_))))))))))
 intro w M m s hs
 obtain⟨i,P,g,f,b⟩:=s
 obtain⟨Q,o,c7,H,v⟩:=hs
 replace o:i=List.drop P p0:=o
 replace H:gM p0 i P g=some r:=H
 replace Q:m+1=i.length+1:=Q
 replace A:=A.oV M
 replace leB:=leB.trans M
 replace v:bZ f g.length b:=v
 obtain rfl:m=i.length:=by omega
 clear Q
 dsimp only
 cases i with
 | nil=>
  rw[gM.eq_1] at H
  refine ai (aC bv Z Z (ae (aa (av (eX Z (dY o) (cz (aD (aD (aU (aa (ai (Tr.k Z (ae (aa (av (ai (aA Z (aQ (bD qM) Z (aA Z (ae (aa (Tr.block (cB (σ:=(List ak)×Nat×Int) (fun m w s=>m=s.1.length+1∧s.1=List.drop s.2.1 g∧s.2.1≤g.length∧gp g s.1 s.2.1 s.2.2=some r) (fun s=>[(3,sL f g b),(6,iv s.2.2),(37,sL f g b),(38,iv (g.length:Int)),(39,iv (s.2.1:Int))]) (fun s=>[(2,ow f b 24 bi g)]) (g.length+1) (g,0,0) ⟨Z,Z,Nat.zero_le _,H⟩ (.r Z) (.r Z) (fun _ _ h=>absurd h.1 (by simp)) ?_)))))))))))))))))))))))
  intro w S m s hs
  obtain⟨j,L,y⟩:=s
  obtain⟨T,q,c8,H⟩:=hs
  replace q:j=List.drop L g:=q
  replace H:gp g j L y=some r:=H
  replace T:m+1=j.length+1:=T
  replace leB:=leB.trans S
  obtain rfl:m=j.length:=by omega
  clear T
  dsimp only
  cases j with
  |nil=>
   rw[gp.eq_1] at H
   refine ai (aC bv Z Z (ae (aa (av (eX Z (dY q) (cz (aD (aD (aU (aa (av (jN 6 (by kernel_rfl) (by kernel_rfl) (dG Z (dG Z ?_))))))))))))))
   obtain⟨I,a0,H⟩:=bnd H
   refine bg Z (fun _ _ a c=>uI ql (a.ev Z) v (a.ev Z) a0) (dG Z (dG Z ?_))
   obtain⟨J,a1,H⟩:=bnd H
   refine bg Z (fun _ _ a c=>Jn ql (a.ev Z) v (a.ev Z) a1) (iC (Tr.freeze 2 Z fun w b2 a2=>?_))
   replace leB:=leB.trans b2
   refine dS 9 (e:=51) (vs:=[(0,sL (ve f y.toNat 2 b) I (b-y.toNat)),(1,sL f J b)]) (cs:=[sL (ve f y.toNat 2 b) I (b-y.toNat),sL f J b]) (wn Z) Z (bB Z (bB Z dH)) (by kernel_rfl) fun c5=>(Tr.own 9 eu [I,J] (css:=[[sL (ve f y.toNat 2 b) I (b-y.toNat)],[sL f J b]]) Z (.cons ⟨((ve f y.toNat 2 b),(b-y.toNat)),(Sl.cut a2 a0),Z⟩ (.cons ⟨(f,b),(Sl.pre a2 a1),Z⟩ .nil)) Z (by decide) (yK Z) ?_)
   obtain⟨D,b3,H⟩:=bnd H
   refine gD [10] [emp] (U:=(Option Addr×Nat)) (fun u=>(sL u.1 D u.2)) (fun u=>bZ u.1 D.length u.2) (fun u=>[ow u.1 u.2 24 bi D]) Z (aH Z aY) (fun _=>Z) (wn Z) Z Tryz.call117 (aj Z aJ) (fun W hW hp hE=>xJ [I,J] (some ⟨c5,0,none⟩) 2 (hW.Ms (k:=9) Z hp Z) D b3 hE) ?_
   intro u hu
   obtain⟨B,C⟩:=u
   have a3:=hu
   have V:bZ B D.length C:=a3 --@phi
   dsimp only
   refine Tr.k Z (ae (aa (bu ?_)))
   obtain rfl:=oI H
   exact Tr.out (m:=[sL B D C]) [] (bM Z bL) (fun W hW=>⟨(B,C),Z,V,HF.wy leB (hW.pick (ks:=[10]) (by decide) (aH Z aY)) ⟨nQ _ _ _ _ vS,trivial⟩⟩)
  |cons E j=>
   rw[gp.eq_2] at H
   refine ai (aC bv Z Z (ae (aa (av (eO Z (fI q) (aO (aa (av (Tr.block (ai (aA Z (aG Z (fun _ _ a c=>au ql (a.ev Z) v (a.ev Z) (Int.natCast_nonneg _) (bE q)) (aG Z (fun _ _ a c=>aN (cs:=[iv E.X,iv E.Y]) kP gQ (a.ev Z) (aI.take (yF jI (k:=2) c Z (gq q)) 2) Z) (Tr.alloc 11 (wn Z) Z tZ fun c9=>(Tr.k Z (bC 11 (cs:=[iv E.X,iv E.Y]) [iv E.X,iv E.Y] (wn Z) Z Z Z Z gQ Z Z Z (ae (aa (av (jF (by kernel_rfl) (by kernel_rfl) (bg Z (fun _ _ a c=>aN (cs:=[iv E.X,iv E.Y]) kP gQ (a.ev Z) (aI.take (dB c (vs:=[iv E.X,iv E.Y]) (k:=11) Z 0) 2) Z) ?_)))))))))))))))))))))
   refine dG Z (dG Z ?_)
   obtain⟨a',b4,H⟩:=bnd H
   obtain⟨a4,a5,a6⟩:=aW b4
   refine bg Z (fun _ _ a c=>au ql (a.ev Z) v (a.ev Z) a4 a5) (bg Z (fun _ _ a c=>aN (cs:=[iv a'.X,iv a'.Y]) kP gQ (a.ev Z) (aI.take (yF jI (k:=2) c Z a6) 2) Z) ?_)
   obtain⟨a7,b5,H⟩:=bnd H
   refine nT (r:=(bV a7)) (wn Z) Z Tryz.call86 (aj Z (aj Z aJ)) (fun W hW=>vv E a' a7 b5 (HF.start _)) (iC (aa (aP Z H (fun H=>?_) (fun H=>?_))))
   ·exact aM (aA Z (Tr.k Z (ae (aL (aa (aM (aC bz Z Z (aA Z (ae (aF S (j,(L+1),(L:Int)) ⟨Z,dW q,bE q,H⟩ (.cons Z (.cons Z (.cons Z (.cons Z (.cons (congrArg (fun z=>some (Value.int .i64 z)) (dV q v)) .nil))))) (.r Z)))))))))))
   ·exact aO (aL (aa (aM (aC bz Z Z (aA Z (ae (aF S (j,(L+1),y) ⟨Z,dW q,bE q,H⟩ (.cons Z (.cons Z (.cons Z (.cons Z (.cons (congrArg (fun z=>some (Value.int .i64 z)) (dV q v)) .nil))))) (.r Z))))))))
 | cons d i=>
  rw[gM.eq_2] at H
  refine ai (aC bv Z Z (ae (aa (av (eO Z (fI o) (aO (aa (av (Tr.block (ai (aA Z (aG Z (fun _ _ a c=>au xH (a.ev Z) A.form (a.ev Z) (Int.natCast_nonneg _) (bE o)) (aG Z (fun _ _ a c=>aN (cs:=[iv d.from_.X,iv d.from_.Y,iv d.to_.X,iv d.to_.Y]) uq qN (a.ev Z) (aI.take (vB rR A (gq o) c) 4) Z) (Tr.alloc 12 (wn Z) Z QH fun d0=>(Tr.k Z (bC 12 (cs:=[iv d.from_.X,iv d.from_.Y,iv d.to_.X,iv d.to_.Y]) [iv d.from_.X,iv d.from_.Y,iv d.to_.X,iv d.to_.Y] (wn Z) Z Z Z Z qN Z Z Z (ae (aa (av (jF (by kernel_rfl) (by kernel_rfl) (bg Z (fun _ _ a c=>aN (cs:=[iv d.from_.X,iv d.from_.Y,iv d.to_.X,iv d.to_.Y]) uq qN (a.ev Z) (aI.take (dB c (vs:=[iv d.from_.X,iv d.from_.Y,iv d.to_.X,iv d.to_.Y]) (k:=12) Z 0) 4) Z) ?_)))))))))))))))))))))
  obtain⟨N,b6,H⟩:=bnd H
  refine nT (r:=(.agg #[iv N.X,iv N.Y])) (wn Z) Z Tryz.call80 (aj Z aJ) (fun W hW=>lv d N b6 (HF.start _)) (dG Z (dG Z (dG Z (dZ (bD zC) Z (fZ bz Z Z (fZ gu Z Z (dG Z (dZ (bD zC) Z ?_))))))))
  obtain⟨d1,b7,H⟩:=bnd H
  refine bg Z (fun _ _ a c=>Df (a.ev Z) (a.ev Z) b7) ?_
  obtain⟨K,b8,H⟩:=bnd H
  obtain⟨a8,a9,b0⟩:=aW b8
  refine bg Z (fun _ _ a c=>au xH (a.ev Z) A.form (a.ev Z) a8 a9) (bg Z (fun _ _ a c=>aN (cs:=[iv K.from_.X,iv K.from_.Y,iv K.to_.X,iv K.to_.Y]) uq qN (a.ev Z) (aI.take (vB rR A b0 c) 4) Z) ?_)
  obtain⟨O,b9,H⟩:=bnd H
  refine nT (r:=(.agg #[iv O.X,iv O.Y])) (wn Z) Z Tryz.call80 (aj Z aJ) (fun W hW=>lv K O b9 (HF.start _)) (fZ (FN N O) Z Z (iC (aa (aP Z H (fun H=>?_) (fun H=>?_)))))
  ·refine aM (aA Z (aQ (ag zT) Z (aG Z (fun _ _ a c=>aN (cs:=[iv d.from_.X,iv d.from_.Y]) kP gQ (a.ev Z) (aI.take (dB c (vs:=[iv d.from_.X,iv d.from_.Y,iv d.to_.X,iv d.to_.Y]) (k:=12) Z 0) 2) Z) (dS 13 (e:=24) (vs:=[(0,.agg #[iv d.from_.X,iv d.from_.Y])]) (cs:=[iv d.from_.X,iv d.from_.Y]) (wn Z) Z (bB Z dH) (by kernel_rfl) fun d2=>?_))))
   obtain⟨c6,c0,H⟩:=bnd H
   exact Tr.append 2 (t:=bi) (l:=g) (l2:=[d.from_]) (wn Z) Z Z Z Z (fun W hW=>⟨[[iv d.from_.X,iv d.from_.Y]],(.cons ⟨(),trivial,Z⟩ .nil),dB hW (vs:=[iv d.from_.X,iv d.from_.Y]) (k:=13) Z 0⟩) qM gQ Hw (by decide) IW Z c0 fun c3 c4 b1=>(Tr.k Z (ae (aL (aa (aM (aC bz Z Z (aA Z (ae (aF M (i,(P+1),c6,c3,c4) ⟨Z,dW o,bE o,H,b1⟩ (.cons Z (.cons Z (.cons Z (.cons Z (.cons (congrArg (fun z=>some (Value.int .i64 z)) (dV o A.form)) .nil))))) (.r Z))))))))))
  ·exact aO (aL (aa (aM (aC bz Z Z (aA Z (ae (aF M (i,(P+1),g,f,b) ⟨Z,dW o,bE o,H,v⟩ (.cons Z (.cons Z (.cons Z (.cons Z (.cons (congrArg (fun z=>some (Value.int .i64 z)) (dV o A.form)) .nil))))) (.r Z))))))))

theorem vk{w:Bs}(p0:List (List ak))(a:Option Addr)(b:Nat)(p1:(List ak)→(List ak)→Option Int)(fid1:Nat)(c:List Value)(hg1:∀args W,(callFunc fid1 args).run Tryz.prog W= .ok (.enter fid1 args) W)(hf1:∀(w':Bs),w.Ext w'→∀(z0:(List ak)) (A0:Option Addr) (c0:Nat),Sl w'.R w'.W bi A0 c0 z0→∀(z1:(List ak)) (A1:Option Addr) (c1:Nat),Sl w'.R w'.W bi A1 c1 z1→∀y,p1 z0 z1=some y→Calls Tryz.prog fid1 (([sL A0 z0 c0,sL A1 z1 c1]:List Value)++c).toArray w'.W fun e W''=>e= .returned (iv y)∧HF w' W'' E0)(r:List (List ak))(H:Fz p0 p1=some r)(hE:HF w w.W (ig [ow a b 51 eu p0])):Calls Tryz.prog 84 [sL a p0 b,.func (.func fid1) #[] c.toArray].toArray w.W fun e W'=>∃u:Unit,e= .returned (.tuple #[])∧(r.length=p0.length)∧HF w W' (ig [ow a b 51 eu r]):=
 FD (ρ:=Tryz.H8) Tryz.XO Z (fun _ _ u x h=>⟨(u,x),Z,Z,h⟩) (fun _ _ p h=>⟨p.1,h,Z⟩) hg1 hf1 H hE

theorem wS{w:Bs}(p0:(List ak))(u:Option Addr)(v:Nat)(b:Sl w.R w.W bi u v p0)(p1:(List ak))(y:Option Addr)(z:Nat)(d:Sl w.R w.W bi y z p1)(r:Int)(H:dR p0 p1=some r)(hE:HF w w.W E0):Calls Tryz.prog 85 [sL u p0 v,sL y p1 z].toArray w.W fun e W'=>e= .returned (iv r)∧HF w W' E0:=by
 unfold dR at H
 have leB:=Bs.Le.refl w
 refine aZ (n:=29) Tryz.func85 Z Z Z hE (ai (Tr.k Z (ae (aa (av (Tr.block ?_))))))
 have i:=Bs.Le.refl w
 refine kZ (σ:=Bool) (fun w s=>gN s=some r) (fun s=>[(5,bV s)]) (fun s=>[]) ?_ ?_
 ·refine av (jF (by kernel_rfl) (by kernel_rfl) (dG Z ?_))
  obtain⟨j,a2,H⟩:=bnd H
  obtain⟨B,C,D⟩:=aW a2
  refine bg Z (fun _ _ a c=>au ql (a.ev Z) b.form (a.ev Z) B C) (bg Z (fun _ _ a c=>aN (cs:=[iv j.X,iv j.Y]) kP gQ (a.ev Z) (aI.take (vB jI b D c) 2) Z) (dG Z ?_))
  obtain⟨l,a3,H⟩:=bnd H
  obtain⟨E,F,G⟩:=aW a3
  refine bg Z (fun _ _ a c=>au ql (a.ev Z) d.form (a.ev Z) E F) (bg Z (fun _ _ a c=>aN (cs:=[iv l.X,iv l.Y]) kP gQ (a.ev Z) (aI.take (vB jI d G c) 2) Z) ?_)
  obtain⟨o,a4,H⟩:=bnd H
  refine nT (r:=(bV o)) (wn Z) Z Tryz.call86 (aj Z (aj Z aJ)) (fun W hW=>vv j l o a4 (HF.start _)) (sM Z Z (iC (aa (aP Z H (fun H=>?_) (fun H=>?_)))))
  ·exact aO (aF i o H (.r Z) .nil)
  ·refine jF (by kernel_rfl) (by kernel_rfl) (dG Z ?_)
   obtain⟨g,a5,H⟩:=bnd H
   obtain⟨I,J,K⟩:=aW a5
   refine bg Z (fun _ _ a c=>au ql (a.ev Z) b.form (a.ev Z) I J) (bg Z (fun _ _ a c=>aN (cs:=[iv g.X,iv g.Y]) kP gQ (a.ev Z) (aI.take (vB jI b K c) 2) Z) (dG Z ?_))
   obtain⟨h,a6,H⟩:=bnd H
   obtain⟨L,M,N⟩:=aW a6
   refine bg Z (fun _ _ a c=>au ql (a.ev Z) d.form (a.ev Z) L M) (bg Z (fun _ _ a c=>aN (cs:=[iv h.X,iv h.Y]) kP gQ (a.ev Z) (aI.take (vB jI d N c) 2) Z) (fZ (Br g h) Z Z (dG Z ?_)))
   obtain⟨O,f,H⟩:=bnd H
   refine sK 8 [(28,bV O)] ?_ ?_
   ·cases A:(jV g h)
    ·rw[A] at f
     rw[if_neg (by decide)] at f
     have H:=f
     obtain rfl:=oI H
     exact di Z (di Z (di Z (di Z (di Z (di Z (di Z (fZ bH Z Z (Tq.fin (.r Z)))))))))
    ·rw[A] at f
     rw[if_pos Z] at f
     have H:=f
     refine kH run_move Z ?_
     obtain⟨q,a7,H⟩:=bnd H
     obtain⟨P,Q,S⟩:=aW a7
     refine Tq.x (fun _ _ a c=>au ql (a.ev Z) d.form (a.ev Z) P Q) (Tq.x (fun _ _ a c=>aN (cs:=[iv q.X,iv q.Y]) kP gQ (a.ev Z) (aI.take (vB jI d S c) 2) Z) (kH run_move Z ?_))
     obtain⟨t,a8,H⟩:=bnd H
     obtain⟨T,U,V⟩:=aW a8
     refine Tq.x (fun _ _ a c=>au ql (a.ev Z) b.form (a.ev Z) T U) (Tq.x (fun _ _ a c=>aN (cs:=[iv t.X,iv t.Y]) kP gQ (a.ev Z) (aI.take (vB jI b V c) 2) Z) ?_)
     obtain⟨a',a9,H⟩:=bnd H
     refine nT (r:=(bV a')) (wg Z Z Z) Z Tryz.call86 (aj Z (aj Z aJ)) (fun W hW=>vv q t a' a9 (HF.start _)) (fZ bG Z Z ?_)
     obtain rfl:=oI H
     exact Tq.fin (.r Z)
   ·exact sM Z Z (iC (aF i O H (.r Z) .nil))
 ·intro w a0 a1 hs
  have H:=hs
  replace H:gN a0=some r:=H
  replace leB:=leB.trans a1
  unfold gN at H
  show Tr _ _ (LF [(5,bV a0)]) (LE []) _
  refine aP Z H (fun H=>?_) (fun H=>?_)
  ·refine ai (Tr.k Z (ae (aa (bu (fD (bn ?_))))))
   obtain rfl:=oI H
   exact fV leB
  ·refine aO (aL (aa (ai (Tr.k Z (ae (aa (bu ?_)))))))
   obtain rfl:=oI H
   exact fV leB

theorem nG{w:Bs}(p0:fJ)(p1:fJ)(q0:(List ((Int×Int)×List Int)))(bmq0:Nat)(hmq0:NH w.R w.W JR Kc bmq0 bP q0)(kL:Nat)(hb0:w.R kL)(hc0:aI w.W kL 0 [(.map (some bmq0))])(Ey:Nat)(hb1:w.R Ey)(hc1:aI w.W Ey 0 [.func (.func 79) #[] #[]])(r:Bool)(H:fG p0 p1 q0=some r)(hE:HF w w.W E0):Calls Tryz.prog 81 [.agg #[iv p0.from_.X,iv p0.from_.Y,iv p0.to_.X,iv p0.to_.Y],.agg #[iv p1.from_.X,iv p1.from_.Y,iv p1.to_.X,iv p1.to_.Y],pV kL,pV Ey].toArray w.W fun e W'=>e= .returned (bV r)∧HF w W' E0:=by
 unfold fG at H
 have leB:=Bs.Le.refl w
 refine aZ (n:=21) Tryz.func81 Z Z Z hE (ai (fT 1 (cs:=[iv p0.from_.X,iv p0.from_.Y,iv p0.to_.X,iv p0.to_.Y]) (wn Z) Z Z Z fun v=>(fT 2 (cs:=[iv p1.from_.X,iv p1.from_.Y,iv p1.to_.X,iv p1.to_.Y]) (wn Z) Z Z Z fun y=>(Tr.k Z (ae (aa (av (jF (by kernel_rfl) (by kernel_rfl) (bg Z (fun _ _ a c=>ah Nz (a.ev Z) (wo hb0 hc0 c) Z) (dZ (ag zS) Z (bg Z (fun _ _ a c=>aN (cs:=[iv p0.to_.X,iv p0.to_.Y]) kP gQ (a.ev Z) (aI.take (dB c (vs:=[iv p0.from_.X,iv p0.from_.Y,iv p0.to_.X,iv p0.to_.Y]) (k:=1) Z 2) 2) Z) ?_)))))))))))
 obtain⟨o,i,H⟩:=bnd H
 obtain⟨t,u,s,h⟩:=hmq0.look i
 refine bg Z (fun _ _ a c=>h c Mk RO Me (a.ev Z) (a.ev Z)) (dZ (bD kF) Z (fZ eU Z Z (dG Z ?_)))
 obtain⟨q,b,H⟩:=bnd H
 refine sK 7 [(20,bV q)] ?_ ?_
 ·cases g:((o.length:Int)==1)
  ·rw[g] at b
   rw[if_neg (by decide)] at b
   have H:=b
   refine Tq.x (fun _ _ a c=>aN (cs:=[iv p1.from_.X,iv p1.from_.Y,iv p1.to_.X,iv p1.to_.Y]) uq qN (a.ev Z) (aI.take (dB c (vs:=[iv p1.from_.X,iv p1.from_.Y,iv p1.to_.X,iv p1.to_.Y]) (k:=2) Z 0) 4) Z) ?_
   obtain⟨d,j,H⟩:=bnd H
   refine nT (r:=(.agg #[iv d.X,iv d.Y])) (wg Z Z Z) Z Tryz.call80 (aj Z aJ) (fun W hW=>lv p1 d j (HF.start _)) (Tq.x (fun _ _ a c=>ah Xf (a.ev Z) (wo hb1 hc1 c) Z) (Tq.x (fun _ _ a c=>aN (cs:=[iv p0.from_.X,iv p0.from_.Y,iv p0.to_.X,iv p0.to_.Y]) uq qN (a.ev Z) (aI.take (dB c (vs:=[iv p0.from_.X,iv p0.from_.Y,iv p0.to_.X,iv p0.to_.Y]) (k:=1) Z 0) 4) Z) ?_))
   obtain⟨f,l,H⟩:=bnd H
   refine rV (r:=(.agg #[iv f.X,iv f.Y])) (wg Z Z Z) Z Z Tryz.call79 (aj Z aJ) (fun W hW=>wT p0 f l (HF.start _)) (uN (Br d f) Z Z (fZ bH Z Z ?_))
   obtain rfl:=oI H
   exact Tq.fin (.r Z)
  ·rw[g] at b
   rw[if_pos Z] at b
   have H:=b
   obtain rfl:=oI H
   exact di Z (di Z (di Z (di Z (di Z (di Z (fZ bG Z Z (Tq.fin (.r Z))))))))
 ·refine sM Z Z (iC (aa (bu ?_)))
  obtain rfl:=oI H
  exact fV leB

theorem oF{w:Bs}(p0:fJ)(q0:(List ((Int×Int)×List Int)))(bmq0:Nat)(hmq0:NH w.R w.W JR Kc bmq0 bP q0)(kL:Nat)(hb0:w.R kL)(hc0:aI w.W kL 0 [(.map (some bmq0))])(q1:(List Bool))(Aq1_0:Option Addr)(cq1_0:Nat)(OT:Sl w.R w.W uA Aq1_0 cq1_0 q1)(Ey:Nat)(hb1:w.R Ey)(hc1:aI w.W Ey 0 [sL Aq1_0 q1 cq1_0])(Yj:Nat)(q3:(List fJ))(Aq3_0:Option Addr)(cq3_0:Nat)(OQ:Sl w.R w.W fe Aq3_0 cq3_0 q3)(Yi:Nat)(hb3:w.R Yi)(hc3:aI w.W Yi 0 [sL Aq3_0 q3 cq3_0])(q4:(List ((Int×Int)×List Int)))(bmq4:Nat)(hmq4:NH w.R w.W JR Kc bmq4 bP q4)(YA:Nat)(hb4:w.R YA)(hc4:aI w.W YA 0 [(.map (some bmq4))])(Yz:Nat)(hb2:w.R Yj)(hc2:aI w.W Yj 0 [.func (.func 81) #[] #[pV YA,pV Yz]])(hb5:w.R Yz)(Y5:aI w.W Yz 0 [.func (.func 79) #[] #[]])(r:Int)(H:fE p0 q0 q1 q3 q4=some r)(hE:HF w w.W E0):Calls Tryz.prog 82 [.agg #[iv p0.from_.X,iv p0.from_.Y,iv p0.to_.X,iv p0.to_.Y],pV kL,pV Ey,pV Yj,pV Yi].toArray w.W fun e W'=>e= .returned (iv r)∧HF w W' E0:=by
 unfold fE at H
 have leB:=Bs.Le.refl w
 refine aZ (n:=34) Tryz.func82 Z Z Z hE (ai (fT 1 (cs:=[iv p0.from_.X,iv p0.from_.Y,iv p0.to_.X,iv p0.to_.Y]) (wn Z) Z Z Z fun l=>(Tr.k Z (ae (aa (av (ai (aG Z (fun _ _ a c=>ah Nz (a.ev Z) (wo hb0 hc0 c) Z) (aQ (ag zS) Z (aG Z (fun _ _ a c=>aN (cs:=[iv p0.to_.X,iv p0.to_.Y]) kP gQ (a.ev Z) (aI.take (dB c (vs:=[iv p0.from_.X,iv p0.from_.Y,iv p0.to_.X,iv p0.to_.Y]) (k:=1) Z 2) 2) Z) ?_))))))))))
 obtain⟨d,J,H⟩:=bnd H
 obtain⟨q,t,i,A⟩:=hmq0.look J
 refine aG Z (fun _ _ a c=>A c Mk RO Me (a.ev Z) (a.ev Z)) (aQ (bD kF) Z (aA Z (ae (aa (Tr.block (cB (σ:=(List Int)×Nat) (fun m w s=>m=s.1.length+1∧s.1=List.drop s.2 d∧s.2≤d.length∧bU p0 q1 q3 q4 s.1 s.2=some r) (fun s=>[(2,pV Ey),(3,pV Yj),(4,pV Yi),(5,pV l),(12,sL q d t),(13,iv (d.length:Int)),(14,iv (s.2:Int))]) (fun s=>[(1,bx l #[iv p0.from_.X,iv p0.from_.Y,iv p0.to_.X,iv p0.to_.Y] 147)]) (d.length+1) (d,0) ⟨Z,Z,Nat.zero_le _,H⟩ (.r Z) (.r Z) (fun _ _ h=>absurd h.1 (by simp)) ?_))))))
 intro w b m s hs
 obtain⟨f,u⟩:=s
 obtain⟨v,g,Q,H⟩:=hs
 replace g:f=List.drop u d:=g
 replace H:bU p0 q1 q3 q4 f u=some r:=H
 replace v:m+1=f.length+1:=v
 replace hc1:=b.ext.cells hb1 hc1
 replace hb1:=b.r _ hb1
 replace OT:=OT.oV b
 replace hc2:=b.ext.cells hb2 hc2
 replace hb2:=b.r _ hb2
 replace hc4:=b.ext.cells hb4 hc4
 replace hb4:=b.r _ hb4
 replace hmq4:=hmq4.oV b
 replace Y5:=b.ext.cells hb5 Y5
 replace hb5:=b.r _ hb5
 replace hc3:=b.ext.cells hb3 hc3
 replace hb3:=b.r _ hb3
 replace OQ:=OQ.oV b
 replace i:=i.oV b
 replace leB:=leB.trans b
 obtain rfl:m=f.length:=by omega
 clear v
 dsimp only
 cases f with
 |nil=>
  rw[bU.eq_1] at H
  refine ai (aC bv Z Z (ae (aa (av (eX Z (dY g) (cz (aD (aD (aU (aa (ai (Tr.k Z (ae (aa (bu ?_)))))))))))))))
  obtain rfl:=oI H
  exact fV leB
 | cons P f=>
  rw[bU.eq_2] at H
  refine ai (aC bv Z Z (ae (aa (av (eO Z (fI g) (aO (aa (av (Tr.block (ai (aG Z (fun _ _ a c=>au iX (a.ev Z) i.form (a.ev Z) (Int.natCast_nonneg _) (bE g)) (aG Z (fun _ _ a c=>ah bT (a.ev Z) (vB jm i (gq g) c) Z) (Tr.k Z (ae (aa (av (jF (by kernel_rfl) (by kernel_rfl) (bg Z (fun _ _ a c=>ah Ny (a.ev Z) (wo hb1 hc1 c) Z) (dG Z ?_)))))))))))))))))))
  obtain⟨N,K,H⟩:=bnd H
  obtain⟨B,C,D⟩:=aW K
  refine bg Z (fun _ _ a c=>au Nc (a.ev Z) OT.form (a.ev Z) B C) (bg Z (fun _ _ a c=>ah z8 (a.ev Z) (vB Pg OT D c) Z) (dZ jc Z (dG Z ?_)))
  obtain⟨O,j,H⟩:=bnd H
  refine sK 8 [(2,pV Ey),(3,pV Yj),(4,pV Yi),(5,pV l),(8,iv P),(12,sL q d t),(13,iv (d.length:Int)),(14,iv (u:Int)),(31,bV O)] ?_ ?_
  ·cases y:(!N)
   ·rw[y] at j
    rw[if_neg (by decide)] at j
    have H:=j
    obtain rfl:=oI H
    exact di Z (di Z (di Z (di Z (di Z (di Z (di Z (fZ bH Z Z (Tq.fin (.r Z)))))))))
   ·rw[y] at j
    rw[if_pos Z] at j
    have H:=j
    refine Tq.x (fun _ _ a c=>ah Tc (a.ev Z) (wo hb2 hc2 c) Z) (Tq.x (fun _ _ a c=>aN (cs:=[iv p0.from_.X,iv p0.from_.Y,iv p0.to_.X,iv p0.to_.Y]) uq qN (a.ev Z) (aI.take (dB c (vs:=[iv p0.from_.X,iv p0.from_.Y,iv p0.to_.X,iv p0.to_.Y]) (k:=1) Z 0) 4) Z) (Tq.x (fun _ _ a c=>ah vg (a.ev Z) (wo hb3 hc3 c) Z) (kH run_move Z ?_)))
    obtain⟨o,L,H⟩:=bnd H
    obtain⟨E,F,G⟩:=aW L
    refine Tq.x (fun _ _ a c=>au xH (a.ev Z) OQ.form (a.ev Z) E F) (Tq.x (fun _ _ a c=>aN (cs:=[iv o.from_.X,iv o.from_.Y,iv o.to_.X,iv o.to_.Y]) uq qN (a.ev Z) (aI.take (vB rR OQ G c) 4) Z) ?_)
    obtain⟨I,M,H⟩:=bnd H
    refine rV (r:=(bV I)) (wg Z Z Z) Z Z Tryz.call81 (aj Z (aj Z aJ)) (fun W hW=>nG p0 o q4 bmq4 (hmq4.ext hW.dz) YA (hW.dz.r _ hb4) (hW.dz.cells hb4 hc4) Yz (hW.dz.r _ hb5) (hW.dz.cells hb5 Y5) I M (HF.start _)) (fZ bG Z Z ?_)
    obtain rfl:=oI H
    exact Tq.fin (.r Z)
  ·refine iC (aa (aP Z H (fun H=>?_) (fun H=>?_)))
   ·refine ai (aA Z (Tr.k Z (ae (aa (bu (fD (bn (bn (fD (bn ?_))))))))))
    obtain rfl:=oI H
    exact fV leB
   ·exact aO (aL (aa (aM (aC bz Z Z (aA Z (ae (aF b (f,(u+1)) ⟨Z,dW g,bE g,H⟩ (.cons Z (.cons Z (.cons Z (.cons Z (.cons Z (.cons Z (.cons (congrArg (fun z=>some (Value.int .i64 z)) (dV g i.form)) .nil))))))) (.r Z))))))))

theorem yn(N:Nat){w:Bs}(p0:(List bf))(d0:Option Addr)(d1:Nat)(i6:Sl w.R w.W aT d0 d1 p0)(r:(List (List ak)))(H:mD N p0=some r)(hE:HF w w.W (ig [emp])):Calls Tryz.prog 42 [sL d0 p0 d1].toArray w.W fun e W'=>∃(w':Bs) (u:(Option Addr×Nat)),w.Le w'∧e= .returned (sL u.1 r u.2)∧(bZ u.1 r.length u.2)∧HF w' W' (ig [ow u.1 u.2 51 eu r]):=by
 unfold mD at H
 have leB:=Bs.Le.refl w
 refine aZ (n:=100) Tryz.func42 Z Z Z hE (ai (Tr.k Z (bO 1 51 eu ?_)))
 show Tr _ _ (uf _ 2 (sL none (([]:List (List ak))) 0)) _ _
 refine ae (aa (ai (aA Z ?_)))
 obtain⟨b,i7,H⟩:=bnd H
 refine gD [2] [emp] (U:=(Option Addr×Nat)) (fun u=>(sL u.1 b u.2)) (fun u=>bZ u.1 b.length u.2) (fun u=>[ow u.1 u.2 147 fe b]) Z (aH Z aY) (fun _=>Z) (wn Z) Z Tryz.call78 (aj Z aJ) (fun W hW hp hE=>zn N p0 d0 d1 (i6.ext (hW.gL hp)) b i7 hE) ?_
 intro u hu
 obtain⟨d,f⟩:=u
 have f8:=hu
 have D:bZ d b.length f:=f8 --@phi
 dsimp only
 refine Tr.alloc 3 (wn Z) Z QI fun j=>(bC 3 (cs:=[sL d b f]) [sL d b f] (wn Z) Z Z Z Z QV Z Z Z (ae (aa (ai (LU JR Kc 4 3 bP (wn Z) Z fun G=>(Tr.alloc 5 (wn Z) Z VO fun g=>(bC 5 (cs:=[(.map (some G))]) [(.map (some G))] (wn Z) Z Z Z Z V6 Z Z Z (ae (aa (av (ai (aG Z (fun _ _ a c=>ah vg (a.ev Z) (dB c (vs:=[sL d b f]) (k:=3) Z 0) Z) (aQ (bD zC) Z (aA Z (ae (aa (Tr.block (cB (σ:=(List fJ)×Nat×(List ((Int×Int)×List Int))×(List (KE (Int×Int) Int))) (fun m w s=>m=s.1.length+1∧s.1=List.drop s.2.1 b∧s.2.1≤b.length∧eT N b s.1 s.2.1 s.2.2.1=some r∧MQ s.2.2.2 s.2.2.1) (fun s=>[(3,pV j),(4,pV g),(18,sL d b f),(19,iv (b.length:Int)),(20,iv (s.2.1:Int))]) (fun s=>[(2,ow d f 147 fe b),(3,bx j #[sL d b f] 143),(4,mq JR Kc G 3 bP s.2.2.2),(5,bx g #[(.map (some G))] 145)]) (b.length+1) (b,0,([]:List ((Int×Int)×List Int)),([]:List (KE (Int×Int) Int))) ⟨Z,Z,Nat.zero_le _,H,MQ.nil⟩ (.r Z) (.r Z) (fun _ _ h=>absurd h.1 (by simp)) ?_))))))))))))))))))
 intro w g1 m s hs
 obtain⟨V,b4,P,e3⟩:=s
 obtain⟨e8,a2,m3,H,b9⟩:=hs
 replace a2:V=List.drop b4 b:=a2
 replace H:eT N b V b4 P=some r:=H
 replace e8:m+1=V.length+1:=e8
 replace leB:=leB.trans g1
 replace b9:MQ e3 P:=b9
 obtain rfl:m=V.length:=by omega
 clear e8
 dsimp only
 cases V with
 | nil =>
  rw[eT.eq_1] at H
  refine ai (aC bv Z Z (ae (aa (av (eX Z (dY a2) (cz (aD (aD (aU (aa (av (J3 4 Z b9 fun w i8 Q=>?_))))))))))))
  replace leB:=leB.trans i8
  refine aM (aG Z (fun _ _ a c=>ah vg (a.ev Z) (dB c (vs:=[sL d b f]) (k:=3) Z 0) Z) (aQ (bD zC) Z ?_))
  obtain⟨b8,i9,H⟩:=bnd H
  refine J4 12 uA false (wn Z) Z Z Z VR QU Z YC Y9 Z ⟨(),fun _ _=>TV _ _ _ _,Z⟩ i9 fun e9 g2=>(Tr.alloc 13 (wn Z) Z VN fun v=>(bC 13 (cs:=[sL (some ⟨e9,0,none⟩) b8 b8.length]) [sL (some ⟨e9,0,none⟩) b8 b8.length] (wn Z) Z Z Z Z V5 Z Z Z (ae (aa (ai (Tr.alloc 14 (wn Z) Z VM fun C=>(bC 14 (cs:=[.func (.func 79) #[] #[]]) [.func (.func 79) #[] #[]] (wn Z) Z Z Z Z V4 Z Z Z (ae (aa (ai (sS (vs:=[pV g,pV C]) (wn Z) Z (aj Z (aj Z aJ)) (Tr.alloc 15 (wn Z) Z VL fun A=>?_))))))))))))
  refine bC 15 (cs:=[.func (.func 81) #[] #[pV g,pV C]]) [.func (.func 81) #[] #[pV g,pV C]] (wn Z) Z Z Z Z V3 Z Z Z (ae (aa (ai (sS (vs:=[pV g,pV v,pV A,pV j]) (wn Z) Z (aj Z (aj Z (aj Z (aj Z aJ)))) (Tr.k Z (ae (aa (ai (Tr.k Z (bO 16 51 eu ?_))))))))))
  show Tr _ _ (uf _ 11 (sL none (([]:List (List ak))) 0)) _ _
  refine ae (aa (av (ai (aG Z (fun _ _ a c=>ah vg (a.ev Z) (dB c (vs:=[sL d b f]) (k:=3) Z 0) Z) (aQ (bD zC) Z (aA Z (ae (aa (Tr.block (cB (σ:=(List fJ)×Nat×(List Bool)×(List (List ak))×(Option Addr)×Nat×(Option Addr)×Nat) (fun m w s=>m=s.1.length+1∧s.1=List.drop s.2.1 b∧s.2.1≤b.length∧bW N b P s.1 s.2.1 s.2.2.1 s.2.2.2.1=some r∧bZ s.2.2.2.2.1 s.2.2.1.length s.2.2.2.2.2.1∧bZ s.2.2.2.2.2.2.1 s.2.2.2.1.length s.2.2.2.2.2.2.2) (fun s=>[(3,pV j),(7,pV v),(9,pV A),(10,.func (.func 82) #[] #[pV g,pV v,pV A,pV j]),(11,sL s.2.2.2.2.2.2.1 s.2.2.2.1 s.2.2.2.2.2.2.2),(41,iv (b.length:Int)),(42,iv (s.2.1:Int))]) (fun s=>[(2,ow d f 147 fe b),(3,bx j #[sL d b f] 143),(5,bx g #[(.map (some G))] 145),(12,ow s.2.2.2.2.1 s.2.2.2.2.2.1 4 uA s.2.2.1),(13,bx v #[sL s.2.2.2.2.1 s.2.2.1 s.2.2.2.2.2.1] 148),(14,bx C #[.func (.func 79) #[] #[]] 150),(15,bx A #[.func (.func 81) #[] #[pV g,pV C]] 151),(16,ow s.2.2.2.2.2.2.1 s.2.2.2.2.2.2.2 51 eu s.2.2.2.1)]) (b.length+1) (b,0,b8,([]:List (List ak)),(some ⟨e9,0,none⟩),b8.length,none,0) ⟨Z,Z,Nat.zero_le _,H,g2,fQ⟩ (.r Z) (.r Z) (fun _ _ h=>absurd h.1 (by simp)) ?_))))))))))
  intro w a4 m s hs
  obtain⟨F,I,a3,B,a',a0,o,q⟩:=s
  obtain⟨f1,S,m4,H,b5,c3⟩:=hs
  replace S:F=List.drop I b:=S
  replace H:bW N b P F I a3 B=some r:=H
  replace f1:m+1=F.length+1:=f1
  replace Q:=Q.oV a4
  replace leB:=leB.trans a4
  replace b5:bZ a' a3.length a0:=b5
  replace c3:bZ o B.length q:=c3
  obtain rfl:m=F.length:=by omega
  clear f1
  dsimp only
  cases F with
  |nil=>
   rw[bW.eq_1] at H
   refine ai (aC bv Z Z (ae (aa (av (eX Z (dY S) (cz (aD (aD (aU (aa (ai (aA Z ?_))))))))))))
   obtain⟨a1,j0,H⟩:=bnd H
   refine gD [16] [ow o q 51 eu B] (U:=Unit) (fun u=>(.tuple #[])) (fun u=>a1.length=B.length) (fun u=>[ow o q 51 eu a1]) Z (aH Z aY) (fun _=>Z) (wn Z) Z Tryz.call84 (aj Z (aj Z aJ)) (fun W hW hp hE=>vk B o q (fun z0 z1=>dR z0 z1) 85 [] Tryz.call85 (fun w' he z0 A0 c0 h0 z1 A1 c1 a y hy=>wS z0 A0 c0 h0 z1 A1 c1 a y hy (HF.start _)) a1 j0 hE) ?_
   intro u hu
   have f2:=hu
   have a5:a1.length=B.length:=f2 --@phi
   have e4:bZ o a1.length q:=by rw[a5];exact c3
   show Tr _ _ (uf _ 98 (.tuple #[])) (up _ 16 (ow o q 51 eu a1)) _
   refine Tr.vD (lf:=[(3,pV j),(7,pV v),(9,pV A),(10,.func (.func 82) #[] #[pV g,pV v,pV A,pV j]),(11,sL o a1 q),(41,iv (b.length:Int)),(42,iv (I:Int)),(43,bV (decide ((I:Int)<(b.length:Int)))),(97,sL o a1 q),(98,(.tuple #[]))]) (le:=[(2,ow d f 147 fe b),(3,bx j #[sL d b f] 143),(5,bx g #[(.map (some G))] 145),(12,ow a' a0 4 uA a3),(13,bx v #[sL a' a3 a0] 148),(14,bx C #[.func (.func 79) #[] #[]] 150),(15,bx A #[.func (.func 81) #[] #[pV g,pV C]] 151),(16,ow o q 51 eu a1)]) (.cons Z (.cons Z (.cons Z (.cons Z (.cons (dM Z (by unfold sL;rw[a5])) (.cons Z (.cons Z (.cons Z (.cons (dM Z (by unfold sL;rw[a5])) (.r Z)))))))))) (.r Z) (ae (aa (ai (aA Z (Tr.k Z (ae (aa (bu ?_))))))))
   obtain rfl:=oI H
   exact Tr.out (m:=[sL o a1 q]) [] (bM Z bL) (fun W hW=>⟨w,(o,q),leB,Z,e4,hW.pick (ks:=[16]) (by decide) (aH Z aY)⟩)
  | cons a6 F=>
   rw[bW.eq_2] at H
   refine ai (aC bv Z Z (ae (aa (av (eO Z (fI S) (aO (aa (av (Tr.block (ai (aA Z (Tr.k Z (ae (aa (av (ai (aG Z (fun _ _ a c=>ah Ny (a.ev Z) (dB c (vs:=[sL a' a3 a0]) (k:=13) Z 0) Z) (aA Z ?_))))))))))))))))))
   obtain⟨m5,j1,H⟩:=bnd H
   obtain⟨g3,g4,g5⟩:=aW j1
   refine aG Z (fun _ _ a c=>au Nc (a.ev Z) b5 (a.ev Z) g3 g4) (aG Z (fun _ _ a c=>ah z8 (a.ev Z) (yF Pg (k:=12) c Z g5) Z) (ae (aa (aP Z H (fun H=>?_) (fun H=>?_)))))
   ·exact cz (aD (aU (aa (aM (aC bz Z Z (aA Z (ae (aF a4 (F,(I+1),a3,B,a',a0,o,q) ⟨Z,dW S,bE S,H,b5,c3⟩ (.cons Z (.cons Z (.cons Z (.cons Z (.cons Z (.cons Z (.cons (congrArg (fun z=>some (Value.int .i64 z)) (dV S D)) .nil))))))) (.r Z)))))))))
   ·refine aO (aa (ai (Tr.k Z (bO 35 147 fe ?_))))
    show Tr _ _ (uf _ 13 (sL none (([]:List fJ)) 0)) _ _
    refine ae (aa ?_)
    have b6:=Bs.Le.refl w
    refine kZ (σ:=(List Bool)×(List fJ)×(Option Addr)×Nat×(Option Addr)×Nat) (fun w s=>iN B (bW N b P F (I+1)) s.1 s.2.1=some r∧bZ s.2.2.1 s.1.length s.2.2.2.1∧bZ s.2.2.2.2.1 s.2.1.length s.2.2.2.2.2) (fun s=>[(3,pV j),(7,pV v),(9,pV A),(10,.func (.func 82) #[] #[pV g,pV v,pV A,pV j]),(11,sL o B q),(13,sL s.2.2.2.2.1 s.2.1 s.2.2.2.2.2),(41,iv (b.length:Int)),(42,iv (I:Int))]) (fun s=>[(2,ow d f 147 fe b),(3,bx j #[sL d b f] 143),(5,bx g #[(.map (some G))] 145),(12,ow s.2.2.1 s.2.2.2.1 4 uA s.1),(13,bx v #[sL s.2.2.1 s.1 s.2.2.2.1] 148),(14,bx C #[.func (.func 79) #[] #[]] 150),(15,bx A #[.func (.func 81) #[] #[pV g,pV C]] 151),(16,ow o q 51 eu B),(35,ow s.2.2.2.2.1 s.2.2.2.2.2 147 fe s.2.1)]) ?_ ?_
    ·refine ai (aA Z (Tr.k Z (ae (aa (Tr.block (cB (σ:=(List Bool)×(List fJ)×Int×(Option Addr)×Nat×(Option Addr)×Nat) (fun m w s=>iM b P B (bW N b P F (I+1)) a6 m s.1 s.2.1 s.2.2.1=some r∧bZ s.2.2.2.1 s.1.length s.2.2.2.2.1∧bZ s.2.2.2.2.2.1 s.2.1.length s.2.2.2.2.2.2) (fun s=>[(3,pV j),(7,pV v),(9,pV A),(10,.func (.func 82) #[] #[pV g,pV v,pV A,pV j]),(11,sL o B q),(12,iv (I:Int)),(13,sL s.2.2.2.2.2.1 s.2.1 s.2.2.2.2.2.2),(14,iv s.2.2.1),(41,iv (b.length:Int)),(42,iv (I:Int))]) (fun s=>[(2,ow d f 147 fe b),(3,bx j #[sL d b f] 143),(5,bx g #[(.map (some G))] 145),(12,ow s.2.2.2.1 s.2.2.2.2.1 4 uA s.1),(13,bx v #[sL s.2.2.2.1 s.1 s.2.2.2.2.1] 148),(14,bx C #[.func (.func 79) #[] #[]] 150),(15,bx A #[.func (.func 81) #[] #[pV g,pV C]] 151),(16,ow o q 51 eu B),(35,ow s.2.2.2.2.2.1 s.2.2.2.2.2.2 147 fe s.2.1)]) N (a3,([]:List fJ),(I:Int),a',a0,none,0) ⟨H,b5,fQ⟩ (.r Z) (.r Z) (fun _ _ h=>jZ (h.1)) ?_))))))
     intro w d2 k8 s hs
     obtain⟨b2,a7,a8,J,K,a9,b0⟩:=s
     obtain⟨H,b7,d3⟩:=hs
     replace H:iM b P B (bW N b P F (I+1)) a6 (k8+1) b2 a7 a8=some r:=H
     replace Q:=Q.oV d2
     replace b6:=b6.trans d2
     replace b7:bZ J b2.length K:=b7
     replace d3:bZ a9 a7.length b0:=d3
     rw[iM.eq_2] at H
     dsimp only
     refine av (ai (aA Z (aC wZ Z Z (ae (aa (aP Z H (fun H=>?_) (fun H=>?_)))))))
     ·refine aO (aa (av (Tr.block (ai (aG Z (fun _ _ a c=>ah Ny (a.ev Z) (dB c (vs:=[sL J b2 K]) (k:=13) Z 0) Z) (aA Z ?_))))))
      obtain⟨m6,j2,H⟩:=bnd H
      obtain⟨g6,g7,g8⟩:=aW j2
      refine aG Z (fun _ _ a c=>au Nc (a.ev Z) b7 (a.ev Z) g6 g7) ?_
      obtain⟨b3,f5,H⟩:=bnd H
      have c6:=lN f5
      refine ng 12 (t:=uA) (l:=b2) (i:=a8) (fo:=0) (cs:=[bV true]) true (wn Z) Z Z Z Z Z g8 QU Z (fun u _=>⟨u,trivial,Z⟩) Z f5 ?_
      have e5:bZ J b3.length K:=by rw[c6];exact b7
      refine Tr.vD (lf:=[(3,pV j),(7,pV v),(9,pV A),(10,.func (.func 82) #[] #[pV g,pV v,pV A,pV j]),(11,sL o B q),(12,iv (I:Int)),(13,sL a9 a7 b0),(14,iv a8),(41,iv (b.length:Int)),(42,iv (I:Int)),(50,iv a8),(51,bV (decide (0≤a8))),(58,sL J b3 K),(59,iv a8)]) (le:=[(2,ow d f 147 fe b),(3,bx j #[sL d b f] 143),(5,bx g #[(.map (some G))] 145),(12,ow J K 4 uA b3),(13,bx v #[sL J b3 K] 148),(14,bx C #[.func (.func 79) #[] #[]] 150),(15,bx A #[.func (.func 81) #[] #[pV g,pV C]] 151),(16,ow o q 51 eu B),(35,ow a9 b0 147 fe a7)]) (.cons Z (.cons Z (.cons Z (.cons Z (.cons Z (.cons Z (.cons Z (.cons Z (.cons Z (.cons Z (.cons Z (.cons Z (.cons (dM Z (by unfold sL;rw[c6])) (.r Z)))))))))))))) (.cons Z (.cons Z (.cons Z (.cons Z (.cons (Xr Z (by unfold sL;rw[c6])) (.r Z)))))) (ae (aa (ai (aA Z (aG Z (fun _ _ a c=>ah vg (a.ev Z) (dB c (vs:=[sL d b f]) (k:=3) Z 0) Z) (aA Z ?_))))))
      obtain⟨E,j3,H⟩:=bnd H
      obtain⟨g9,h1,h2⟩:=aW j3
      refine aG Z (fun _ _ a c=>au xH (a.ev Z) D (a.ev Z) g9 h1) (aG Z (fun _ _ a c=>aN (cs:=[iv E.from_.X,iv E.from_.Y,iv E.to_.X,iv E.to_.Y]) uq qN (a.ev Z) (aI.take (yF rR (k:=2) c Z h2) 4) Z) (dS 43 (e:=147) (vs:=[(0,.agg #[iv E.from_.X,iv E.from_.Y,iv E.to_.X,iv E.to_.Y])]) (cs:=[iv E.from_.X,iv E.from_.Y,iv E.to_.X,iv E.to_.Y]) (wn Z) Z (bB Z dH) (by kernel_rfl) fun m7=>?_))
      obtain⟨f3,j4,H⟩:=bnd H
      refine Tr.append 35 (t:=fe) (l:=a7) (l2:=[E]) (wn Z) Z Z Z Z (fun W hW=>⟨[[iv E.from_.X,iv E.from_.Y,iv E.to_.X,iv E.to_.Y]],(.cons ⟨(),trivial,Z⟩ .nil),dB hW (vs:=[iv E.from_.X,iv E.from_.Y,iv E.to_.X,iv E.to_.Y]) (k:=43) Z 0⟩) zC qN QG (by decide) SF Z j4 fun d4 d5 e6=>(Tr.k Z (ae (aa (av (jF (by kernel_rfl) (by kernel_rfl) (bg Z (fun _ _ a c=>ah vg (a.ev Z) (dB c (vs:=[sL d b f]) (k:=3) Z 0) Z) (dG Z ?_)))))))
      obtain⟨d6,j5,H⟩:=bnd H
      obtain⟨h3,h4,h5⟩:=aW j5
      refine bg Z (fun _ _ a c=>au xH (a.ev Z) D (a.ev Z) h3 h4) (dZ (ag zS) Z (bg Z (fun _ _ a c=>aN (cs:=[iv d6.to_.X,iv d6.to_.Y]) kP gQ (a.ev Z) (aI.take (aI.drop (yF rR (k:=2) c Z h5) 2) 2) Z) (bg Z (fun _ _ a c=>ah vg (a.ev Z) (dB c (vs:=[sL d b f]) (k:=3) Z 0) Z) (dG Z (bg Z (fun _ _ a c=>au xH (a.ev Z) D (a.ev Z) (Int.natCast_nonneg _) (bE S)) (dZ (ag zT) Z (bg Z (fun _ _ a c=>aN (cs:=[iv a6.from_.X,iv a6.from_.Y]) kP gQ (a.ev Z) (aI.take (aI.drop (yF rR (k:=2) c Z (gq S)) 0) 2) Z) (fZ (Br d6.to_ a6.from_) Z Z (dG Z ?_)))))))))
      obtain⟨k9,b1,H⟩:=bnd H
      refine sK 11 [(3,pV j),(7,pV v),(9,pV A),(10,.func (.func 82) #[] #[pV g,pV v,pV A,pV j]),(11,sL o B q),(12,iv (I:Int)),(13,sL d4 f3 d5),(14,iv a8),(41,iv (b.length:Int)),(42,iv (I:Int)),(90,bV k9)] ?_ ?_
      ·cases f6:(jV d6.to_ a6.from_)
       ·rw[f6] at b1
        rw[if_neg (by decide)] at b1
        have H:=b1
        obtain rfl:=oI H
        exact di Z (di Z (di Z (di Z (di Z (di Z (di Z (di Z (di Z (di Z (fZ bH Z Z (Tq.fin (.r Z))))))))))))
       ·rw[f6] at b1
        rw[if_pos Z] at b1
        have H:=b1
        refine Tq.x (fun _ _ a c=>ah Tc (a.ev Z) (dB c (vs:=[.func (.func 81) #[] #[pV g,pV C]]) (k:=15) Z 0) Z) (Tq.x (fun _ _ a c=>ah vg (a.ev Z) (dB c (vs:=[sL d b f]) (k:=3) Z 0) Z) (kH run_move Z ?_))
        obtain⟨c7,j6,H⟩:=bnd H
        obtain⟨h6,h7,h8⟩:=aW j6
        refine Tq.x (fun _ _ a c=>au xH (a.ev Z) D (a.ev Z) h6 h7) (Tq.x (fun _ _ a c=>aN (cs:=[iv c7.from_.X,iv c7.from_.Y,iv c7.to_.X,iv c7.to_.Y]) uq qN (a.ev Z) (aI.take (yF rR (k:=2) c Z h8) 4) Z) (Tq.x (fun _ _ a c=>ah vg (a.ev Z) (dB c (vs:=[sL d b f]) (k:=3) Z 0) Z) (kH run_move Z (Tq.x (fun _ _ a c=>au xH (a.ev Z) D (a.ev Z) (Int.natCast_nonneg _) (bE S)) (Tq.x (fun _ _ a c=>aN (cs:=[iv a6.from_.X,iv a6.from_.Y,iv a6.to_.X,iv a6.to_.Y]) uq qN (a.ev Z) (aI.take (yF rR (k:=2) c Z (gq S)) 4) Z) ?_)))))
        obtain⟨h9,j7,H⟩:=bnd H
        refine rV (r:=(bV h9)) (wg Z Z Z) Z Z Tryz.call81 (aj Z (aj Z aJ)) (fun W hW=>nG c7 a6 P G (Q.ext hW.dz) g (hW.Ex (k:=5) Z) (hW.GI (k:=5) Z) C (hW.Ex (k:=14) Z) (hW.GI (k:=14) Z) h9 j7 (HF.start _)) (fZ bG Z Z ?_)
        obtain rfl:=oI H
        exact Tq.fin (.r Z)
      ·refine iC (aa (aP Z H (fun H=>?_) (fun H=>?_)))
       ·exact cz (LV Z (aD (aD (aU (aF b6 (b3,f3,J,K,d4,d5) ⟨H,e5,e6⟩ (.r Z) (.r Z))))))
       ·refine aO (aL (aa (aM (aA Z (aG Z (fun _ _ a c=>ah vg (a.ev Z) (dB c (vs:=[sL d b f]) (k:=3) Z 0) Z) (aA Z ?_))))))
        obtain⟨c8,j8,H⟩:=bnd H
        obtain⟨i0,i1,i2⟩:=aW j8
        refine aG Z (fun _ _ a c=>au xH (a.ev Z) D (a.ev Z) i0 i1) (aG Z (fun _ _ a c=>aN (cs:=[iv c8.from_.X,iv c8.from_.Y,iv c8.to_.X,iv c8.to_.Y]) uq qN (a.ev Z) (aI.take (yF rR (k:=2) c Z i2) 4) Z) ?_)
        obtain⟨f4,j9,H⟩:=bnd H
        exact x9 (r:=(iv f4)) (wn Z) Z Z Tryz.call82 (aj Z aJ) (fun W hW=>oF c8 P G (Q.ext hW.dz) g (hW.Ex (k:=5) Z) (hW.GI (k:=5) Z) b3 J K (hW.sH (k:=12) Z) v (hW.Ex (k:=13) Z) (hW.GI (k:=13) Z) A b d f (hW.sH (k:=2) Z) j (hW.Ex (k:=3) Z) (hW.GI (k:=3) Z) P G (Q.ext hW.dz) g (hW.Ex (k:=5) Z) (hW.GI (k:=5) Z) C (hW.Ex (k:=15) Z) (hW.GI (k:=15) Z) (hW.Ex (k:=14) Z) (hW.GI (k:=14) Z) f4 j9 (HF.start _)) (Tr.k Z (ae (aF d2 (b3,f3,f4,J,K,d4,d5) ⟨H,e5,e6⟩ (.r Z) (.r Z))))
     ·exact cz (aD (aD (aU (aF b6 (b2,a7,J,K,a9,b0) ⟨H,b7,d3⟩ (.r Z) (.r Z)))))
    ·intro w s e7 hs
     obtain⟨c9,d7,c4,c5,d8,d9⟩:=s
     obtain⟨H,e0,l8⟩:=hs
     replace H:iN B (bW N b P F (I+1)) c9 d7=some r:=H
     replace Q:=Q.oV e7
     replace a4:=a4.trans e7
     replace e0:bZ c4 c9.length c5:=e0
     unfold iN at H
     dsimp only
     refine aM (aA Z (aA Z ?_))
     obtain⟨T,k0,H⟩:=bnd H
     refine gD [39] [emp] (U:=(Option Addr×Nat)) (fun u=>(sL u.1 T u.2)) (fun u=>bZ u.1 T.length u.2) (fun u=>[ow u.1 u.2 24 bi T]) Z (aH Z aY) (fun _=>Z) (wn Z) Z Tryz.call83 (aj Z aJ) (fun W hW hp hE=>BN d7 d8 d9 (hW.Ms (k:=35) Z hp Z) T k0 hE) ?_
     intro u hu
     obtain⟨L,M⟩:=u
     have f9:=hu
     have l0:bZ L T.length M:=f9 --@phi
     dsimp only
     refine Tr.freeze 39 Z fun w f7 k1=>?_
     replace Q:=Q.oV f7
     replace a4:=a4.trans f7
     refine dS 40 (e:=51) (vs:=[(0,sL L T M)]) (cs:=[sL L T M]) (wn Z) Z (bB Z dH) (by kernel_rfl) fun m8=>?_
     obtain⟨l1,k2,H⟩:=bnd H
     exact Tr.append 16 (t:=eu) (l:=B) (l2:=[T]) (wn Z) Z Z Z Z (fun W hW=>⟨[[sL L T M]],(.cons ⟨(L,M),k1,Z⟩ .nil),dB hW (vs:=[sL L T M]) (k:=40) Z 0⟩) HV QR Xx (by decide) Yh Z k2 fun k3 k4 i3=>(Tr.k Z (ae (aL (aa (aM (aC bz Z Z (aA Z (ae (aF a4 (F,(I+1),c9,l1,c4,c5,k3,k4) ⟨Z,dW S,bE S,H,e0,i3⟩ (.cons Z (.cons Z (.cons Z (.cons Z (.cons Z (.cons Z (.cons (congrArg (fun z=>some (Value.int .i64 z)) (dV S D)) .nil))))))) (.r Z))))))))))
 |cons O V=>
  rw[eT.eq_2] at H
  refine ai (aC bv Z Z (ae (aa (av (eO Z (fI a2) (aO (aa (av (Tr.block (ai (aA Z (aG Z (fun _ _ a c=>au xH (a.ev Z) D (a.ev Z) (Int.natCast_nonneg _) (bE a2)) (aG Z (fun _ _ a c=>aN (cs:=[iv O.from_.X,iv O.from_.Y,iv O.to_.X,iv O.to_.Y]) uq qN (a.ev Z) (aI.take (yF rR (k:=2) c Z (gq a2)) 4) Z) (Tr.alloc 44 (wn Z) Z QH fun m9=>(Tr.k Z (bC 44 (cs:=[iv O.from_.X,iv O.from_.Y,iv O.to_.X,iv O.to_.Y]) [iv O.from_.X,iv O.from_.Y,iv O.to_.X,iv O.to_.Y] (wn Z) Z Z Z Z qN Z Z Z (ae (aa (aM (aG Z (fun _ _ a c=>ah Nz (a.ev Z) (dB c (vs:=[(.map (some G))]) (k:=5) Z 0) Z) (aQ (ag zT) Z (aG Z (fun _ _ a c=>aN (cs:=[iv O.from_.X,iv O.from_.Y]) kP gQ (a.ev Z) (aI.take (dB c (vs:=[iv O.from_.X,iv O.from_.Y,iv O.to_.X,iv O.to_.Y]) (k:=44) Z 0) 2) Z) ?_))))))))))))))))))))))
  refine aA Z (dS 45 (e:=3) (vs:=[(0,iv (b4:Int))]) (cs:=[iv (b4:Int)]) (wn Z) Z (bB Z dH) (by kernel_rfl) fun n0=>?_)
  obtain⟨l3,k5,H⟩:=bnd H
  refine J5 4 46 RO (wn Z) Z Mk Me Z Z Z Z b9 k5 fun l5 l6 l9 m0 i4 l7=>(aG Z (fun _ _ a c=>cu (a.ev Z) Z) ?_)
  obtain⟨l4,k6,H⟩:=bnd H
  exact Tr.append 46 (t:=bP) (l:=l3) (l2:=[(b4:Int)]) (wn Z) Z Z Z Z (fun W hW=>⟨[[iv (b4:Int)]],(.cons ⟨(),trivial,Z⟩ .nil),dB hW (vs:=[iv (b4:Int)]) (k:=45) Z 0⟩) kF wP Mf (by decide) Np Z k6 fun m1 m2 i5=>(aG Z (fun _ _ a c=>cu (a.ev Z) Z) (LW 4 46 (wn Z) Z Z Z Z Z Z i4 i5 fun k7 g0=>(ae (aL (aa (aM (aC bz Z Z (aA Z (ae (aF g1 (V,(b4+1),(xe P (O.from_.X,O.from_.Y) l4),k7) ⟨Z,dW a2,bE a2,H,g0⟩ (.cons Z (.cons Z (.cons Z (.cons Z (.cons (congrArg (fun z=>some (Value.int .i64 z)) (dV a2 D)) .nil))))) (.r Z)))))))))))

theorem Ba(N:Nat){w:Bs}(p0:(List aK))(v:Option Addr)(y:Nat)(E:Sl w.R w.W aX v y p0)(r:((List (List ak))×Int))(H:nN N p0=some r)(hE:HF w w.W (ig [emp])):Calls Tryz.prog 12 [sL v p0 y].toArray w.W fun e W'=>∃(w':Bs) (u:(Option Addr×Nat)),w.Le w'∧e= .returned (.tuple #[sL u.1 r.1 u.2,iv r.2])∧(bZ u.1 r.1.length u.2)∧HF w' W' (ig [ow u.1 u.2 51 eu r.1]):=by
 unfold nN at H
 have leB:=Bs.Le.refl w
 refine aZ (n:=31) Tryz.func12 Z Z Z hE (ai (Tr.k Z (bO 1 51 eu ?_)))
 show Tr _ _ (uf _ 2 (sL none (([]:List (List ak))) 0)) _ _
 refine Tr.k Z (ae (aa (av (ai (aA Z ?_)))))
 obtain⟨B,P,H⟩:=bnd H
 refine bR (r:=(iv B)) (wn Z) Z Tryz.call27 (aj Z aJ) (fun W hW=>qc N p0 v y (E.ext hW.dz) B P (HF.start _)) (Tr.k Z (ae (aa (ai (aA Z (aC iP Z Z (ae (aa (aP Z H (fun H=>?_) (fun H=>?_))))))))))
 ·refine ai (aA Z (Tr.k Z (bO 2 51 eu ?_)))
  show Tr _ _ (uf _ 2 (sL none (([]:List (List ak))) 0)) _ _
  refine Tr.k Z (ae (aa (bu (bn ?_))))
  obtain rfl:=oI H
  exact Tr.out (m:=[sL none (([]:List (List ak))) 0,iv B]) [] (bM Z (bM Z bL)) (fun W hW=>⟨w,(none,0),leB,Z,fQ,hW.pick (ks:=[2]) (by decide) (aH Z aY)⟩)
 ·refine aO (aa (ai (aA Z ?_)))
  obtain⟨j,Q,H⟩:=bnd H
  refine dU [3] [emp] (U:=(Option Addr×Nat)) (fun u=>(sL u.1 j u.2)) (fun O W u=>bZ u.1 j.length u.2) (fun u=>[ow u.1 u.2 133 aT j]) Z (aH Z aY) (fun _=>Z) (wn Z) Z Tryz.call29 (aj Z aJ) (fun W hW hp hE=>ru N p0 v y (E.ext (hW.gL hp)) j Q hE) ?_
  intro w u S hu
  obtain⟨l,o⟩:=u
  have G:=hu
  replace leB:=leB.trans S
  have a0:bZ l j.length o:=G --@phi
  dsimp only
  obtain⟨b,T,H⟩:=bnd H
  refine dU [4] [emp] (U:=(Option Addr×Nat)) (fun u=>(sL u.1 b u.2)) (fun O W u=>bZ u.1 b.length u.2) (fun u=>[ow u.1 u.2 51 eu b]) Z (aH Z aY) (fun _=>Z) (wn Z) Z Tryz.call42 (aj Z aJ) (fun W hW hp hE=>yn N j l o (hW.Ms (k:=3) Z hp Z) b T hE) ?_
  intro w u X hu
  obtain⟨d,f⟩:=u
  have I:=hu
  replace leB:=leB.trans X
  have q:bZ d b.length f:=I --@phi
  dsimp only
  refine Tr.k Z (ae (aa (ai (Tr.k Z (ae (aa (av (ai (aA Z (aQ (bD HV) Z (aA Z (ae (aa (Tr.block (cB (σ:=(List (List ak))×Nat×Int) (fun m w s=>m=s.1.length+1∧s.1=List.drop s.2.1 b∧s.2.1≤b.length∧iU b s.1 s.2.1 s.2.2=some r) (fun s=>[(5,sL d b f),(6,iv s.2.2),(17,sL d b f),(18,iv (b.length:Int)),(19,iv (s.2.1:Int))]) (fun s=>[(4,ow d f 51 eu b)]) (b.length+1) (b,0,0) ⟨Z,Z,Nat.zero_le _,H⟩ (.r Z) (.r Z) (fun _ _ h=>absurd h.1 (by simp)) ?_)))))))))))))))
  intro w M m s hs
  obtain⟨g,F,C⟩:=s
  obtain⟨D,i,a2,H⟩:=hs
  replace i:g=List.drop F b:=i
  replace H:iU b g F C=some r:=H
  replace D:m+1=g.length+1:=D
  replace leB:=leB.trans M
  obtain rfl:m=g.length:=by omega
  clear D
  dsimp only
  cases g with
  | nil=>
   rw[iU.eq_1] at H
   refine ai (aC bv Z Z (ae (aa (av (eX Z (dY i) (cz (aD (aD (aU (aa (av (ai (aA Z (aC jd Z Z (ae (aa (aP Z H (fun H=>?_) (fun H=>?_))))))))))))))))))
   ·refine ai (Tr.k Z (bO 5 51 eu ?_))
    show Tr _ _ (uf _ 2 (sL none (([]:List (List ak))) 0)) _ _
    refine Tr.k Z (ae (aa (bu (bn ?_))))
    obtain rfl:=oI H
    exact Tr.out (m:=[sL none (([]:List (List ak))) 0,iv 2]) [] (bM Z (bM Z bL)) (fun W hW=>⟨w,(none,0),leB,Z,fQ,hW.pick (ks:=[5]) (by decide) (aH Z aY)⟩)
   ·refine aO (aa (ai (aA Z (Tr.k Z (Tr.k Z (ae (aa (bu ?_))))))))
    obtain rfl:=oI H
    exact Tr.out (m:=[sL d b f,iv 0]) [] (bM Z (bM Z bL)) (fun W hW=>⟨w,(d,f),leB,Z,q,hW.pick (ks:=[4]) (by decide) (aH Z aY)⟩)
  |cons A g=>
   rw[iU.eq_2] at H
   refine ai (aC bv Z Z (ae (aa (av (eO Z (fI i) (aO (aa (av (Tr.block (ai (aG Z (fun _ _ a c=>au Ls (a.ev Z) q (a.ev Z) (Int.natCast_nonneg _) (bE i)) (J2 (U:=(eu).Ad) (fun u=>(eu).ok w.O w.W u A) (fun u=>(sL u.1 A u.2)) (wn Z) Z (Iy (κ:=4) (t:=eu) (V:=fun u=>(sL u.1 A u.2)) Z (gq i) (fun _ _ u a hc=>ah tF (a.ev Z) hc Z)) ?_))))))))))))
   intro a1 J
   obtain⟨K,L⟩:=a1
   have a3:=J
   dsimp only
   exact Tr.k Z (ae (aa (aM (aA Z (aA Z (aQ (bD qM) Z (aC bz Z Z (Tr.k Z (ae (aL (aa (aM (aC bz Z Z (aA Z (ae (aF M (g,(F+1),(bF (C+(A.length:Int)))) ⟨Z,dW i,bE i,H⟩ (.cons Z (.cons Z (.cons Z (.cons Z (.cons (congrArg (fun z=>some (Value.int .i64 z)) (dV i q)) .nil))))) (.r Z)))))))))))))))))

theorem Ap{w:Bs}(p0:dO)(b:Option Addr)(d:Nat)(f:Sl w.R w.W bi b d p0.points)(r:Int)(H:uX p0=some r)(hE:HF w w.W E0):Calls Tryz.prog 13 [.agg #[sL b p0.points d,iv p0.area]].toArray w.W fun e W'=>e= .returned (iv r)∧HF w W' E0:=by
 unfold uX at H
 have leB:=Bs.Le.refl w
 refine aZ (n:=9) Tryz.func13 Z Z Z hE (ai (fT 1 (cs:=[sL b p0.points d,iv p0.area]) (wn Z) Z Z Z fun g=>(Tr.k Z (ae (aa (ai (aQ (ag CB) Z (aG Z (fun _ _ a c=>ah bT (a.ev Z) (dB c (vs:=[sL b p0.points d,iv p0.area]) (k:=1) Z 1) Z) (aQ (ag CB) Z (aG Z (fun _ _ a c=>ah bT (a.ev Z) (dB c (vs:=[sL b p0.points d,iv p0.area]) (k:=1) Z 1) Z) (aQ EK Z (aG Z (fun _ _ a c=>wY (a.ev Z) (a.ev Z) _) (Tr.k Z (ae (aa (bu ?_))))))))))))))))
 obtain rfl:=oI H
 exact fV leB

theorem wN{w:Bs}(p0:Int)(r:Bool)(H:qA p0=some r)(hE:HF w w.W E0):Calls Tryz.prog 44 [iv p0].toArray w.W fun e W'=>e= .returned (bV r)∧HF w W' E0:=by
 unfold qA at H
 have leB:=Bs.Le.refl w
 refine aZ (n:=6) Tryz.func44 Z Z Z hE (ai (Tr.k Z (ae (aa (ai (aA Z (aA Z (aC iP Z Z (Tr.k Z (ae (aa (bu ?_))))))))))))
 obtain rfl:=oI H
 exact fV leB

theorem Aq{w:Bs}(p0:Int)(p1:Int)(r:Int)(H:qL p0 p1=some r)(hE:HF w w.W E0):Calls Tryz.prog 16 [iv p0,iv p1].toArray w.W fun e W'=>e= .returned (iv r)∧HF w W' E0:=by
 unfold qL at H
 have leB:=Bs.Le.refl w
 refine aZ (n:=20) Tryz.func16 Z Z Z hE (ai (Tr.k Z (ae (aa (ai (aA Z ?_))))))
 obtain⟨a,c,H⟩:=bnd H
 refine bR (r:=(bV a)) (wn Z) Z Tryz.call44 (aj Z aJ) (fun W hW=>wN p0 a c (HF.start _)) (Tr.k Z (ae (aa (ai (aA Z ?_)))))
 obtain⟨b,d,H⟩:=bnd H
 refine bR (r:=(bV b)) (wn Z) Z Tryz.call44 (aj Z aJ) (fun W hW=>wN p1 b d (HF.start _)) (Tr.k Z (ae (aa (av (ai (aA Z (ae (aa (aP Z H (fun H=>?_) (fun H=>?_))))))))))
 ·refine av (ai (aA Z (ae (aa (aP Z H (fun H=>?_) (fun H=>?_))))))
  ·refine ai (Tr.k Z (ae (aa (bu (bn (bn ?_))))))
   obtain rfl:=oI H
   exact fV leB
  ·refine aO (aa (ai (Tr.k Z (ae (aa (bu (bn ?_)))))))
   obtain rfl:=oI H
   exact fV leB
 ·refine aO (aa (av (ai (aA Z (ae (aa (aP Z H (fun H=>?_) (fun H=>?_))))))))
  ·refine ai (Tr.k Z (ae (aa (bu (bn ?_)))))
   obtain rfl:=oI H
   exact fV leB
  ·refine aO (aa (av (ai (aA Z (aA Z (aC bv Z Z (ae (aa (aP Z H (fun H=>?_) (fun H=>?_))))))))))
   ·refine ai (Tr.k Z (ae (aa (bu (bn ?_)))))
    obtain rfl:=oI H
    exact fV leB
   ·refine aO (aa (av (ai (aA Z (aA Z (aC jd Z Z (ae (aa (aP Z H (fun H=>?_) (fun H=>?_))))))))))
    ·refine ai (Tr.k Z (ae (aa (bu (bn ?_)))))
     obtain rfl:=oI H
     exact fV leB
    ·refine aO (aa (ai (Tr.k Z (ae (aa (bu ?_))))))
     obtain rfl:=oI H
     exact fV leB

theorem oJ{w:Bs}(p0:dO)(b:Option Addr)(d:Nat)(l:Sl w.R w.W bi b d p0.points)(p1:dO)(f:Option Addr)(g:Nat)(o:Sl w.R w.W bi f g p1.points)(kL:Nat)(hb0:w.R kL)(hc0:aI w.W kL 0 [.func (.func 13) #[] #[]])(r:Int)(H:kC p0 p1=some r)(hE:HF w w.W E0):Calls Tryz.prog 15 [.agg #[sL b p0.points d,iv p0.area],.agg #[sL f p1.points g,iv p1.area],pV kL].toArray w.W fun e W'=>e= .returned (iv r)∧HF w W' E0:=by
 unfold kC at H
 have leB:=Bs.Le.refl w
 refine aZ (n:=13) Tryz.func15 Z Z Z hE (ai (fT 1 (cs:=[sL b p0.points d,iv p0.area]) (wn Z) Z Z Z fun u=>(fT 2 (cs:=[sL f p1.points g,iv p1.area]) (wn Z) Z Z Z fun v=>(Tr.k Z (ae (aa (av (jF (by kernel_rfl) (by kernel_rfl) (bg Z (fun _ _ a c=>ah VF (a.ev Z) (wo hb0 hc0 c) Z) (bg Z (fun _ _ a c=>aN (cs:=[sL f p1.points g,iv p1.area]) sQ nP (a.ev Z) (aI.take (dB c (vs:=[sL f p1.points g,iv p1.area]) (k:=2) Z 0) 2) Z) ?_))))))))))
 obtain⟨h,q,H⟩:=bnd H
 refine rV (r:=(iv h)) (wn Z) Z Z Tryz.call13 (aj Z aJ) (fun W hW=>Ap p1 f g (o.ext hW.dz) h q (HF.start _)) (bg Z (fun _ _ a c=>ah VF (a.ev Z) (wo hb0 hc0 c) Z) (bg Z (fun _ _ a c=>aN (cs:=[sL b p0.points d,iv p0.area]) sQ nP (a.ev Z) (aI.take (dB c (vs:=[sL b p0.points d,iv p0.area]) (k:=1) Z 0) 2) Z) ?_))
 obtain⟨i,s,H⟩:=bnd H
 refine rV (r:=(iv i)) (wn Z) Z Z Tryz.call13 (aj Z aJ) (fun W hW=>Ap p0 b d (l.ext hW.dz) i s (HF.start _)) ?_
 obtain⟨j,t,H⟩:=bnd H
 refine nT (r:=(iv j)) (wn Z) Z Tryz.call16 (aj Z (aj Z aJ)) (fun W hW=>Aq h i j t (HF.start _)) (sM Z Z (iC (aa (bu ?_))))
 obtain rfl:=oI H
 exact fV leB

theorem jX(N:Nat){w:Bs}(p0:(List dO))(d:Option Addr)(f:Nat)(p1:Int)(p2:Int)(kL:Nat)(hb0:w.R kL)(hc0:aI w.W kL 0 [.func (.func 13) #[] #[]])(r:(List dO))(H:dP N p0 p1 p2=some r)(hE:HF w w.W (ig [ow d f 53 aS p0])):Calls Tryz.prog 87 [sL d p0 f,iv p1,iv p2,.func (.func 15) #[] #[pV kL]].toArray w.W fun e W'=>∃(w':Bs) (u:Unit),w.Le w'∧e= .returned (.tuple #[])∧(r.length=p0.length)∧HF w' W' (ig [ow d f 53 aS r]):=by
 unfold dP at H
 have a5:=(hE.sl (k:=0) Z).form
 have leB:=Bs.Le.refl w
 refine aZ (n:=53) Tryz.func87 Z Z Z hE (ai (aA Z (aC bz Z Z (Tr.k Z (ae (aa (Tr.block (cB (σ:=(List dO)×Int) (fun m w s=>bJ N p1 p2 m s.1 s.2=some r∧s.1.length=p0.length) (fun s=>[(0,sL d s.1 f),(1,iv p1),(2,iv p2),(3,.func (.func 15) #[] #[pV kL]),(8,iv s.2)]) (fun s=>[(0,ow d f 53 aS s.1)]) N (p0,(bF (p1+1))) ⟨H,Z⟩ (.r Z) (.r Z) (fun _ _ h=>jZ (h.1)) ?_))))))))
 intro w a' b6 s hs
 obtain⟨a0,A⟩:=s
 obtain⟨H,T⟩:=hs
 replace H:bJ N p1 p2 (b6+1) a0 A=some r:=H
 replace hc0:=a'.ext.cells hb0 hc0
 replace hb0:=a'.r _ hb0
 replace leB:=leB.trans a'
 replace T:a0.length=p0.length:=T
 have f6:bZ d a0.length f:=(by rw[T];exact a5)
 rw[bJ.eq_2] at H
 dsimp only
 refine av (ai (aA Z (aA Z (aC bv Z Z (ae (aa (aP Z H (fun H=>?_) (fun H=>?_))))))))
 ·refine aO (aa (av (Tr.block (ai (aA Z (Tr.k Z (ae (aa (Tr.block (cB (σ:=(List dO)×Int) (fun m w s=>dh p1 A (bJ N p1 p2 b6) m s.1 s.2=some r∧s.1.length=p0.length) (fun s=>[(0,sL d s.1 f),(1,iv p1),(2,iv p2),(3,.func (.func 15) #[] #[pV kL]),(8,iv A),(9,iv s.2)]) (fun s=>[(0,ow d f 53 aS s.1)]) N (a0,A) ⟨H,T⟩ (.r Z) (.r Z) (fun _ _ h=>jZ (h.1)) ?_))))))))))
  intro w a6 f7 s hs
  obtain⟨B,g⟩:=s
  obtain⟨H,X⟩:=hs
  replace H:dh p1 A (bJ N p1 p2 b6) (f7+1) B g=some r:=H
  replace hc0:=a6.ext.cells hb0 hc0
  replace hb0:=a6.r _ hb0
  replace a':=a'.trans a6
  replace X:B.length=p0.length:=X
  have G:bZ d B.length f:=(by rw[X];exact a5)
  rw[dh.eq_2] at H
  dsimp only
  refine av (av (jF (by kernel_rfl) (by kernel_rfl) (dG Z (dG Z (fZ jd Z Z (dG Z ?_))))))
  obtain⟨a8,Q,H⟩:=bnd H
  refine sK 13 [(0,sL d B f),(1,iv p1),(2,iv p2),(3,.func (.func 15) #[] #[pV kL]),(8,iv A),(9,iv g),(34,bV a8)] ?_ ?_
  ·cases a9:(decide (p1<g))
   ·rw[a9] at Q
    rw[if_neg (by decide)] at Q
    have H:=Q
    obtain rfl:=oI H
    exact di Z (di Z (di Z (di Z (di Z (di Z (di Z (di Z (di Z (di Z (di Z (di Z (fZ bH Z Z (Tq.fin (.r Z))))))))))))))
   ·rw[a9] at Q
    rw[if_pos Z] at Q
    have H:=Q
    refine kH run_move Z (kH run_move Z (kH run_move Z ?_))
    obtain⟨C,e0,H⟩:=bnd H
    obtain⟨b7,b8,b9⟩:=aW e0
    refine Tq.x (fun _ _ a c=>au qm (a.ev Z) G (a.ev Z) b7 b8) (vK (U:=(aS).Ad) (fun u=>(aS).ok w.O w.W u C) (fun u=>(.agg #[sL u.1 C.points u.2,iv C.area])) (wg Z Z Z) Z (Iy (κ:=0) (t:=aS) (V:=fun u=>(.agg #[sL u.1 C.points u.2,iv C.area])) Z b9 (fun _ _ u a hc=>aN (cs:=[sL u.1 C.points u.2,iv C.area]) sQ nP (a.ev Z) (aI.take hc 2) Z)) ?_)
    intro e9 b2
    obtain⟨a1,a2⟩:=e9
    have I:=b2
    replace I:Sl w.O w.W bi a1 a2 C.points:=I
    dsimp only
    refine kH run_move Z (kH run_move Z (uN gu Z Z ?_))
    obtain⟨D,e3,H⟩:=bnd H
    obtain⟨c0,c3,c4⟩:=aW e3
    refine Tq.x (fun _ _ a c=>au qm (a.ev Z) G (a.ev Z) c0 c3) (vK (U:=(aS).Ad) (fun u=>(aS).ok w.O w.W u D) (fun u=>(.agg #[sL u.1 D.points u.2,iv D.area])) (wg Z Z Z) Z (Iy (κ:=0) (t:=aS) (V:=fun u=>(.agg #[sL u.1 D.points u.2,iv D.area])) Z c4 (fun _ _ u a hc=>aN (cs:=[sL u.1 D.points u.2,iv D.area]) sQ nP (a.ev Z) (aI.take hc 2) Z)) ?_)
    intro f1 b3
    obtain⟨a3,a4⟩:=f1
    have J:=b3
    replace J:Sl w.O w.W bi a3 a4 D.points:=J
    dsimp only
    obtain⟨c5,e4,H⟩:=bnd H
    refine rV (r:=(iv c5)) (wg Z Z Z) Z Z Tryz.call15 (aj Z (aj Z aJ)) (fun W hW=>oJ C a1 a2 (I.rl.ext hW.dz) D a3 a4 (J.rl.ext hW.dz) kL (hW.dz.r _ hb0) (hW.dz.cells hb0 hc0) c5 e4 (HF.start _)) (uN bv Z Z (fZ bG Z Z ?_))
    obtain rfl:=oI H
    exact Tq.fin (.r Z)
  ·refine iC (aa (aP Z H (fun H=>?_) (fun H=>?_)))
   ·refine aO (aa (av (Tr.block (rU 16 [(15,(ow d f 53 aS B).S)] [] (by kernel_rfl) (by kernel_rfl) fun f9 f2 f5=>(bY 0 [(37,sL d B f)] (by kernel_rfl) Z Z (by kernel_rfl) ?_ Z Z ?_)))))
    ·exact dG Z (Tq.fin (.r Z))
    refine bY 1 [(38,iv g)] (by kernel_rfl) Z Z (by kernel_rfl) ?_ Z Z ?_
    ·exact dG Z (Tq.fin (.r Z))
    refine dI 2 (by kernel_rfl) Z (wn Z) Z (by kernel_rfl) (fun _ _ a=>run_move (a.ev Z)) Z (dI 3 (by kernel_rfl) Z (wn Z) Z (by kernel_rfl) (fun _ _ a=>run_move (a.ev Z)) Z (dI 4 (by kernel_rfl) Z (wn Z) Z (by kernel_rfl) (fun _ _ a=>gu (a.ev Z) (a.ev Z)) Z (bY 5 [(42,sL d B f)] (by kernel_rfl) Z Z (by kernel_rfl) ?_ Z Z ?_)))
    ·exact dG Z (Tq.fin (.r Z))
    refine bY 6 [(43,iv g)] (by kernel_rfl) Z Z (by kernel_rfl) ?_ Z Z ?_
    ·exact dG Z (Tq.fin (.r Z))
    refine bY 7 [(44,iv (bF (g-1)))] (by kernel_rfl) Z Z (by kernel_rfl) ?_ Z Z ?_
    ·exact fZ gu Z Z (Tq.fin (.r Z))
    obtain⟨j,e5,H⟩:=bnd H
    obtain⟨c6,c7,c8⟩:=aW e5
    refine bY 8 [(45,.pointer (some ⟨pu d,rT d+((bF (g-1))).toNat*2,none⟩))] (by kernel_rfl) Z Z (by kernel_rfl) ?_ Z Z ?_
    ·exact bg Z (fun _ _ a c=>au qm (a.ev Z) G (a.ev Z) c6 c7) (Tq.fin (.r Z))
    refine sW 9 (U:=(aS).Ad) (fun u=>(aS).ok w.O w.W u j) (fun u=>(.agg #[sL u.1 j.points u.2,iv j.area])) (by kernel_rfl) Z (wn Z) Z (by kernel_rfl) (Iy (κ:=0) (t:=aS) (V:=fun u=>(.agg #[sL u.1 j.points u.2,iv j.area])) Z c8 (fun _ _ u a hc=>aN (cs:=[sL u.1 j.points u.2,iv j.area]) sQ nP (a.ev Z) (aI.take hc 2) Z)) ?_
    intro f3 b4
    obtain⟨q,v⟩:=f3
    have K:=b4
    replace K:Sl w.O w.W bi q v j.points:=K
    dsimp only
    refine dI 10 (by kernel_rfl) Z (wn Z) Z (by kernel_rfl) (fun _ _ a=>run_move (a.ev Z)) Z (dI 11 (by kernel_rfl) Z (wn Z) Z (by kernel_rfl) (fun _ _ a=>run_move (a.ev Z)) Z ?_)
    obtain⟨o,e6,H⟩:=bnd H
    obtain⟨c9,d0,d1⟩:=aW e6
    refine dI 12 (by kernel_rfl) Z (wn Z) Z (by kernel_rfl) (fun _ _ a=>au qm (a.ev Z) G (a.ev Z) c9 d0) Z (sW 13 (U:=(aS).Ad) (fun u=>(aS).ok w.O w.W u o) (fun u=>(.agg #[sL u.1 o.points u.2,iv o.area])) (by kernel_rfl) Z (wn Z) Z (by kernel_rfl) (Iy (κ:=0) (t:=aS) (V:=fun u=>(.agg #[sL u.1 o.points u.2,iv o.area])) Z d1 (fun _ _ u a hc=>aN (cs:=[sL u.1 o.points u.2,iv o.area]) sQ nP (a.ev Z) (aI.take hc 2) Z)) ?_)
    intro f4 b5
    obtain⟨y,z⟩:=f4
    have L:=b5
    replace L:Sl w.O w.W bi y z o.points:=L
    dsimp only
    obtain⟨g0,e7,H⟩:=bnd H
    obtain⟨d2,d3,d4⟩:=aW e7
    refine bY 14 [(51,.pointer (some ⟨pu d,rT d+(g).toNat*2,none⟩))] (by kernel_rfl) Z Z (by kernel_rfl) ?_ Z Z ?_
    ·exact bg Z (fun _ _ a c=>au qm (a.ev Z) G (a.ev Z) d2 d3) (Tq.fin (.r Z))
    obtain⟨M,b0,H⟩:=bnd H
    refine Dr.one 15 (by kernel_rfl) ?_
    have E:=lN b0
    refine uu 15 0 (t':=aS) (ll:=B) (ix:=g) (fo:=0) (cs:=[sL q j.points v,iv j.area]) j (fun b hb=>.inl ⟨_,List.mem_cons_self,Z,hb⟩) Z (wn Z) Z Z Z Z Z d4 nP Z (fun u hu=>⟨(q,v),K,Z⟩) Z b0 ?_
    have a7:bZ d M.length f:=by rw[E];exact G
    have d5:=E.trans X
    refine Dr.use (lf:=[(0,sL d M f),(1,iv p1),(2,iv p2),(3,.func (.func 15) #[] #[pV kL]),(8,iv A),(9,iv g),(34,bV a8),(37,sL d M f),(38,iv g),(39,sL d M f),(40,iv g),(41,iv (bF (g-1))),(42,sL d M f),(43,iv g),(44,iv (bF (g-1))),(46,.agg #[sL q j.points v,iv j.area]),(47,sL d M f),(48,iv g),(50,.agg #[sL y o.points z,iv o.area])]) (le:=[(0,ow d f 53 aS M)]) ?_ Z (.cons (dM Z (by unfold sL;rw[E])) (.cons Z (.cons Z (.cons Z (.cons Z (.cons Z (.cons Z (.cons (dM Z (by unfold sL;rw[E])) (.cons Z (.cons (dM Z (by unfold sL;rw[E])) (.cons Z (.cons Z (.cons (dM Z (by unfold sL;rw[E])) (.cons Z (.cons Z (.cons Z (.cons (dM Z (by unfold sL;rw[E])) (.r Z)))))))))))))))))) (.r Z)
    refine tX (by kernel_rfl) ?_
    obtain⟨g1,e8,H⟩:=bnd H
    obtain⟨d6,d7,d8⟩:=aW e8
    refine aG Z (fun _ _ a c=>au qm (a.ev Z) a7 (a.ev Z) d6 d7) ?_
    obtain⟨P,b1,H⟩:=bnd H
    have F:=lN b1
    refine ng 0 (t:=aS) (l:=M) (i:=(bF (g-1))) (fo:=0) (cs:=[sL y o.points z,iv o.area]) o (wn Z) Z Z Z Z Z d8 nP Z (fun u hu=>⟨(y,z),L,Z⟩) Z b1 ?_
    have f8:bZ d P.length f:=by rw[F];exact a7
    have d9:=F.trans d5
    exact Tr.vD (lf:=[(0,sL d P f),(1,iv p1),(2,iv p2),(3,.func (.func 15) #[] #[pV kL]),(8,iv A),(9,iv g),(34,bV a8),(37,sL d P f),(38,iv g),(39,sL d P f),(40,iv g),(41,iv (bF (g-1))),(42,sL d P f),(43,iv g),(44,iv (bF (g-1))),(46,.agg #[sL q j.points v,iv j.area]),(47,sL d P f),(48,iv g),(50,.agg #[sL y o.points z,iv o.area])]) (le:=[(0,ow d f 53 aS P)]) (.cons (dM Z (by unfold sL;rw[F])) (.cons Z (.cons Z (.cons Z (.cons Z (.cons Z (.cons Z (.cons (dM Z (by unfold sL;rw[F])) (.cons Z (.cons (dM Z (by unfold sL;rw[F])) (.cons Z (.cons Z (.cons (dM Z (by unfold sL;rw[F])) (.cons Z (.cons Z (.cons Z (.cons (dM Z (by unfold sL;rw[F])) (.r Z)))))))))))))))))) (.r Z) (ae (aL (aa (aM (aA Z (aC gu Z Z (Tr.k Z (ae (aF a6 (P,(bF (g-1))) ⟨H,d9⟩ (.r Z) (.r Z))))))))))
   ·exact cz (aD (aD (aU (aL (aa (aM (aA Z (aC bz Z Z (Tr.k Z (ae (aF a' (B,(bF (A+1))) ⟨H,X⟩ (.r Z) (.r Z))))))))))))
 ·refine cz (aD (aD (aU (og ?_))))
  obtain rfl:=oI H
  exact Tr.out (m:=[]) [] bL (fun W hW=>⟨w,(),leB,Z,T,hW.pick (ks:=[0]) (by decide) (aH Z aY)⟩)

theorem iY(N:Nat){w:Bs}(p0:(List dO))(d:Option Addr)(g:Nat)(p1:Int)(p2:Int)(p3:Int)(kL:Nat)(hb0:w.R kL)(hc0:aI w.W kL 0 [.func (.func 13) #[] #[]])(r:(List dO))(H:eQ N p0 p1 p2 p3=some r)(hE:HF w w.W (ig [ow d g 53 aS p0])):Calls Tryz.prog 170 [sL d p0 g,iv p1,iv p2,iv p3,.func (.func 15) #[] #[pV kL]].toArray w.W fun e W'=>∃(w':Bs) (u:Unit),w.Le w'∧e= .returned (.tuple #[])∧(r.length=p0.length)∧HF w' W' (ig [ow d g 53 aS r]):=by
 unfold eQ at H
 have P:=(hE.sl (k:=0) Z).form
 have leB:=Bs.Le.refl w
 refine aZ (n:=38) Tryz.func170 Z Z Z hE (ai (Tr.k Z (ae (aa (Tr.block (cB (σ:=(List dO)×Int) (fun m w s=>dA p1 p2 p3 m s.1 s.2=some r∧s.1.length=p0.length) (fun s=>[(0,sL d s.1 g),(1,iv p1),(2,iv p2),(3,iv p3),(10,iv s.2)]) (fun s=>[(0,ow d g 53 aS s.1)]) N (p0,0) ⟨H,Z⟩ (.r Z) (.r Z) (fun _ _ h=>jZ (h.1)) ?_))))))
 intro w X c3 s hs
 obtain⟨C,f⟩:=s
 obtain⟨H,I⟩:=hs
 replace H:dA p1 p2 p3 (c3+1) C f=some r:=H
 replace leB:=leB.trans X
 replace I:C.length=p0.length:=I
 have J:bZ d C.length g:=(by rw[I];exact P)
 rw[dA.eq_2] at H
 dsimp only
 refine av (ai (aA Z (aA Z (aC bv Z Z (ae (aa (aP Z H (fun H=>?_) (fun H=>?_))))))))
 ·refine aO (aa (av (Tr.block (rU 22 [(21,(ow d g 53 aS C).S)] [] (by kernel_rfl) (by kernel_rfl) fun c5 b7 c0=>(bY 0 [(16,sL d C g)] (by kernel_rfl) Z Z (by kernel_rfl) ?_ Z Z ?_)))))
  ·exact dG Z (Tq.fin (.r Z))
  refine bY 1 [(17,iv p1)] (by kernel_rfl) Z Z (by kernel_rfl) ?_ Z Z ?_
  ·exact dG Z (Tq.fin (.r Z))
  refine bY 2 [(18,iv f)] (by kernel_rfl) Z Z (by kernel_rfl) ?_ Z Z ?_
  ·exact dG Z (Tq.fin (.r Z))
  refine bY 3 [(19,iv (bF (p1+f)))] (by kernel_rfl) Z Z (by kernel_rfl) ?_ Z Z ?_
  ·exact fZ bz Z Z (Tq.fin (.r Z))
  refine dI 4 (by kernel_rfl) Z (wn Z) Z (by kernel_rfl) (fun _ _ a=>run_move (a.ev Z)) Z (dI 5 (by kernel_rfl) Z (wn Z) Z (by kernel_rfl) (fun _ _ a=>run_move (a.ev Z)) Z (dI 6 (by kernel_rfl) Z (wn Z) Z (by kernel_rfl) (fun _ _ a=>run_move (a.ev Z)) Z (dI 7 (by kernel_rfl) Z (wn Z) Z (by kernel_rfl) (fun _ _ a=>bz (a.ev Z) (a.ev Z)) Z (bY 8 [(24,sL d C g)] (by kernel_rfl) Z Z (by kernel_rfl) ?_ Z Z ?_))))
  ·exact dG Z (Tq.fin (.r Z))
  refine bY 9 [(25,iv p2)] (by kernel_rfl) Z Z (by kernel_rfl) ?_ Z Z ?_
  ·exact dG Z (Tq.fin (.r Z))
  refine bY 10 [(26,iv f)] (by kernel_rfl) Z Z (by kernel_rfl) ?_ Z Z ?_
  ·exact dG Z (Tq.fin (.r Z))
  refine bY 11 [(27,iv (bF (p2+f)))] (by kernel_rfl) Z Z (by kernel_rfl) ?_ Z Z ?_
  ·exact fZ bz Z Z (Tq.fin (.r Z))
  obtain⟨j,b3,H⟩:=bnd H
  obtain⟨a',a0,a1⟩:=aW b3
  refine bY 12 [(28,.pointer (some ⟨pu d,rT d+((bF (p2+f))).toNat*2,none⟩))] (by kernel_rfl) Z Z (by kernel_rfl) ?_ Z Z ?_
  ·exact bg Z (fun _ _ a c=>au qm (a.ev Z) J (a.ev Z) a' a0) (Tq.fin (.r Z))
  refine sW 13 (U:=(aS).Ad) (fun u=>(aS).ok w.O w.W u j) (fun u=>(.agg #[sL u.1 j.points u.2,iv j.area])) (by kernel_rfl) Z (wn Z) Z (by kernel_rfl) (Iy (κ:=0) (t:=aS) (V:=fun u=>(.agg #[sL u.1 j.points u.2,iv j.area])) Z a1 (fun _ _ u a hc=>aN (cs:=[sL u.1 j.points u.2,iv j.area]) sQ nP (a.ev Z) (aI.take hc 2) Z)) ?_
  intro b8 Q
  obtain⟨q,v⟩:=b8
  have D:=Q
  replace D:Sl w.O w.W bi q v j.points:=D
  dsimp only
  refine dI 14 (by kernel_rfl) Z (wn Z) Z (by kernel_rfl) (fun _ _ a=>run_move (a.ev Z)) Z (dI 15 (by kernel_rfl) Z (wn Z) Z (by kernel_rfl) (fun _ _ a=>run_move (a.ev Z)) Z (dI 16 (by kernel_rfl) Z (wn Z) Z (by kernel_rfl) (fun _ _ a=>run_move (a.ev Z)) Z (dI 17 (by kernel_rfl) Z (wn Z) Z (by kernel_rfl) (fun _ _ a=>bz (a.ev Z) (a.ev Z)) Z ?_)))
  obtain⟨o,b4,H⟩:=bnd H
  obtain⟨a2,a3,a4⟩:=aW b4
  refine dI 18 (by kernel_rfl) Z (wn Z) Z (by kernel_rfl) (fun _ _ a=>au qm (a.ev Z) J (a.ev Z) a2 a3) Z (sW 19 (U:=(aS).Ad) (fun u=>(aS).ok w.O w.W u o) (fun u=>(.agg #[sL u.1 o.points u.2,iv o.area])) (by kernel_rfl) Z (wn Z) Z (by kernel_rfl) (Iy (κ:=0) (t:=aS) (V:=fun u=>(.agg #[sL u.1 o.points u.2,iv o.area])) Z a4 (fun _ _ u a hc=>aN (cs:=[sL u.1 o.points u.2,iv o.area]) sQ nP (a.ev Z) (aI.take hc 2) Z)) ?_)
  intro b9 T
  obtain⟨y,z⟩:=b9
  have E:=T
  replace E:Sl w.O w.W bi y z o.points:=E
  dsimp only
  obtain⟨c6,b5,H⟩:=bnd H
  obtain⟨a5,a6,a7⟩:=aW b5
  refine bY 20 [(36,.pointer (some ⟨pu d,rT d+((bF (p1+f))).toNat*2,none⟩))] (by kernel_rfl) Z Z (by kernel_rfl) ?_ Z Z ?_
  ·exact bg Z (fun _ _ a c=>au qm (a.ev Z) J (a.ev Z) a5 a6) (Tq.fin (.r Z))
  obtain⟨F,L,H⟩:=bnd H
  refine Dr.one 21 (by kernel_rfl) ?_
  have A:=lN L
  refine uu 21 0 (t':=aS) (ll:=C) (ix:=(bF (p1+f))) (fo:=0) (cs:=[sL q j.points v,iv j.area]) j (fun b hb=>.inl ⟨_,List.mem_cons_self,Z,hb⟩) Z (wn Z) Z Z Z Z Z a7 nP Z (fun u hu=>⟨(q,v),D,Z⟩) Z L ?_
  have K:bZ d F.length g:=by rw[A];exact J
  have a8:=A.trans I
  refine Dr.use (lf:=[(0,sL d F g),(1,iv p1),(2,iv p2),(3,iv p3),(10,iv f),(11,iv f),(12,iv p3),(13,bV (decide (f<p3))),(16,sL d F g),(17,iv p1),(18,iv f),(19,iv (bF (p1+f))),(20,sL d F g),(21,iv p2),(22,iv f),(23,iv (bF (p2+f))),(24,sL d F g),(25,iv p2),(26,iv f),(27,iv (bF (p2+f))),(29,.agg #[sL q j.points v,iv j.area]),(30,sL d F g),(31,iv p1),(32,iv f),(33,iv (bF (p1+f))),(35,.agg #[sL y o.points z,iv o.area])]) (le:=[(0,ow d g 53 aS F)]) ?_ Z (.cons (dM Z (by unfold sL;rw[A])) (.cons Z (.cons Z (.cons Z (.cons Z (.cons Z (.cons Z (.cons Z (.cons (dM Z (by unfold sL;rw[A])) (.cons Z (.cons Z (.cons Z (.cons (dM Z (by unfold sL;rw[A])) (.cons Z (.cons Z (.cons Z (.cons (dM Z (by unfold sL;rw[A])) (.cons Z (.cons Z (.cons Z (.cons Z (.cons (dM Z (by unfold sL;rw[A])) (.r Z))))))))))))))))))))))) (.r Z)
  refine tX (by kernel_rfl) ?_
  obtain⟨c7,b6,H⟩:=bnd H
  obtain⟨a9,b0,b1⟩:=aW b6
  refine aG Z (fun _ _ a c=>au qm (a.ev Z) K (a.ev Z) a9 b0) ?_
  obtain⟨G,M,H⟩:=bnd H
  have B:=lN M
  refine ng 0 (t:=aS) (l:=F) (i:=(bF (p2+f))) (fo:=0) (cs:=[sL y o.points z,iv o.area]) o (wn Z) Z Z Z Z Z b1 nP Z (fun u hu=>⟨(y,z),E,Z⟩) Z M ?_
  have c4:bZ d G.length g:=by rw[B];exact K
  have b2:=B.trans a8
  exact Tr.vD (lf:=[(0,sL d G g),(1,iv p1),(2,iv p2),(3,iv p3),(10,iv f),(11,iv f),(12,iv p3),(13,bV (decide (f<p3))),(16,sL d G g),(17,iv p1),(18,iv f),(19,iv (bF (p1+f))),(20,sL d G g),(21,iv p2),(22,iv f),(23,iv (bF (p2+f))),(24,sL d G g),(25,iv p2),(26,iv f),(27,iv (bF (p2+f))),(29,.agg #[sL q j.points v,iv j.area]),(30,sL d G g),(31,iv p1),(32,iv f),(33,iv (bF (p1+f))),(35,.agg #[sL y o.points z,iv o.area])]) (le:=[(0,ow d g 53 aS G)]) (.cons (dM Z (by unfold sL;rw[B])) (.cons Z (.cons Z (.cons Z (.cons Z (.cons Z (.cons Z (.cons Z (.cons (dM Z (by unfold sL;rw[B])) (.cons Z (.cons Z (.cons Z (.cons (dM Z (by unfold sL;rw[B])) (.cons Z (.cons Z (.cons Z (.cons (dM Z (by unfold sL;rw[B])) (.cons Z (.cons Z (.cons Z (.cons Z (.cons (dM Z (by unfold sL;rw[B])) (.r Z))))))))))))))))))))))) (.r Z) (ae (aL (aa (aM (aA Z (aC bz Z Z (Tr.k Z (ae (aF X (G,(bF (f+1))) ⟨H,b2⟩ (.r Z) (.r Z))))))))))
 ·refine cz (aD (aD (aU (og ?_))))
  obtain rfl:=oI H
  exact Tr.out (m:=[]) [] bL (fun W hW=>⟨w,(),leB,Z,I,hW.pick (ks:=[0]) (by decide) (aH Z aY)⟩)

theorem qp(N:Nat){w:Bs}(p0:(List dO))(a:Option Addr)(b:Nat)(p1:Int)(p2:Int)(p3:Int)(kL:Nat)(hb0:w.R kL)(hc0:aI w.W kL 0 [.func (.func 13) #[] #[]])(r:(List dO))(H:gF N p0 p1 p2 p3=some r)(hE:HF w w.W (ig [ow a b 53 aS p0])):Calls Tryz.prog 119 [sL a p0 b,iv p1,iv p2,iv p3,.func (.func 15) #[] #[pV kL]].toArray w.W fun e W'=>∃(w':Bs) (u:Unit),w.Le w'∧e= .returned (.tuple #[])∧(r.length=p0.length)∧HF w' W' (ig [ow a b 53 aS r]):=by
 unfold gF at H
 have F:=(hE.sl (k:=0) Z).form
 have leB:=Bs.Le.refl w
 refine aZ (n:=58) Tryz.func119 Z Z Z hE (ai (aA Z (aA Z (aC gu Z Z (Tr.k Z (ae (aa (ai (aA Z (aA Z (aC gu Z Z (Tr.k Z (ae (aa (av (Tr.block (cB (σ:=(List dO)×Int×Int) (fun m w s=>dm N p2 m s.1 s.2.1 s.2.2=some r∧s.1.length=p0.length) (fun s=>[(0,sL a s.1 b),(2,iv p2),(4,.func (.func 15) #[] #[pV kL]),(10,iv s.2.1),(11,iv s.2.2)]) (fun s=>[(0,ow a b 53 aS s.1)]) N (p0,(bF (p2-p1)),(bF (p3-p2))) ⟨H,Z⟩ (.r Z) (.r Z) (fun _ _ h=>jZ (h.1)) ?_)))))))))))))))))
 intro w q T s hs
 obtain⟨f,c,d⟩:=s
 obtain⟨H,v⟩:=hs
 replace H:dm N p2 (T+1) f c d=some r:=H
 replace hc0:=q.ext.cells hb0 hc0
 replace hb0:=q.r _ hb0
 replace leB:=leB.trans q
 replace v:f.length=p0.length:=v
 have y:bZ a f.length b:=(by rw[v];exact F)
 rw[dm.eq_2] at H
 dsimp only
 refine av (ai (aA Z (aA Z (aC iP Z Z (ae (aa (aP Z H (fun H=>?_) (fun H=>?_))))))))
 ·refine aO (aa (Tr.block (ai (aA Z (aA Z (aC jd Z Z (ae (aa (aP Z H (fun H=>?_) (fun H=>?_))))))))))
  ·refine ai (aA Z (aA Z (aA Z (aC gu Z Z (aA Z (aA Z (aA Z ?_)))))))
   obtain⟨l,G,H⟩:=bnd H
   refine dU [0] [ow a b 53 aS f] (U:=Unit) (fun u=>(.tuple #[])) (fun O W u=>l.length=f.length) (fun u=>[ow a b 53 aS l]) Z (aH Z aY) (fun _=>Z) (wn Z) Z Tryz.call170 (aj Z (aj Z (aj Z (aj Z (aj Z aJ))))) (fun W hW hp hE=>iY N f a b (bF (p2-c)) p2 d kL ((hW.gL hp).r _ hb0) ((hW.gL hp).cells hb0 hc0) l G hE) ?_
   intro w u I hu
   have C:=hu
   replace q:=q.trans I
   have g:l.length=f.length:=C --@phi
   have P:bZ a l.length b:=by rw[g];exact y
   have z:=g.trans v
   show Tr _ _ (uf _ 31 (.tuple #[])) (up _ 0 (ow a b 53 aS l)) _
   exact Tr.vD (lf:=[(0,sL a l b),(2,iv p2),(4,.func (.func 15) #[] #[pV kL]),(10,iv c),(11,iv d),(18,iv c),(19,iv d),(20,bV (c !=d)),(21,iv c),(22,iv d),(23,bV (decide (d<c))),(24,sL a l b),(25,iv p2),(26,iv c),(27,iv (bF (p2-c))),(28,iv p2),(29,iv d),(30,.func (.func 15) #[] #[pV kL]),(31,(.tuple #[]))]) (le:=[(0,ow a b 53 aS l)]) (.cons (dM Z (by unfold sL;rw[g])) (.cons Z (.cons Z (.cons Z (.cons Z (.cons Z (.cons Z (.cons Z (.cons Z (.cons Z (.cons Z (.cons (dM Z (by unfold sL;rw[g])) (.r Z))))))))))))) (.r Z) (ae (aa (aM (aA Z (aA Z (aC gu Z Z (Tr.k Z (ae (aL (aF q (l,(bF (c-d)),d) ⟨H,z⟩ (.r Z) (.r Z)))))))))))
  ·refine ai (aA Z (aA Z (aA Z (aC gu Z Z (aA Z (aA Z (aC bz Z Z (aA Z (aC gu Z Z (aA Z (aA Z ?_)))))))))))
   obtain⟨o,J,H⟩:=bnd H
   refine dU [0] [ow a b 53 aS f] (U:=Unit) (fun u=>(.tuple #[])) (fun O W u=>o.length=f.length) (fun u=>[ow a b 53 aS o]) Z (aH Z aY) (fun _=>Z) (wn Z) Z Tryz.call170 (aj Z (aj Z (aj Z (aj Z (aj Z aJ))))) (fun W hW hp hE=>iY N f a b (bF (p2-c)) (bF ((bF (p2+d))-c)) c kL ((hW.gL hp).r _ hb0) ((hW.gL hp).cells hb0 hc0) o J hE) ?_
   intro w u K hu
   have D:=hu
   replace q:=q.trans K
   have i:o.length=f.length:=D --@phi
   have Q:bZ a o.length b:=by rw[i];exact y
   have A:=i.trans v
   show Tr _ _ (uf _ 46 (.tuple #[])) (up _ 0 (ow a b 53 aS o)) _
   exact Tr.vD (lf:=[(0,sL a o b),(2,iv p2),(4,.func (.func 15) #[] #[pV kL]),(10,iv c),(11,iv d),(18,iv c),(19,iv d),(20,bV (c !=d)),(21,iv c),(22,iv d),(23,bV (decide (d<c))),(35,sL a o b),(36,iv p2),(37,iv c),(38,iv (bF (p2-c))),(39,iv p2),(40,iv d),(41,iv (bF (p2+d))),(42,iv c),(43,iv (bF ((bF (p2+d))-c))),(44,iv c),(45,.func (.func 15) #[] #[pV kL]),(46,(.tuple #[]))]) (le:=[(0,ow a b 53 aS o)]) (.cons (dM Z (by unfold sL;rw[i])) (.cons Z (.cons Z (.cons Z (.cons Z (.cons Z (.cons Z (.cons Z (.cons Z (.cons Z (.cons Z (.cons (dM Z (by unfold sL;rw[i])) (.r Z))))))))))))) (.r Z) (ae (aa (aM (aA Z (aA Z (aC gu Z Z (Tr.k Z (ae (aL (aF q (o,c,(bF (d-c))) ⟨H,A⟩ (.r Z) (.r Z)))))))))))
 ·refine cz (aD (aD (aU (aa (aM (aA Z (aA Z (aA Z (aC gu Z Z (aA Z (aA Z (aA Z ?_))))))))))))
  obtain⟨t,L,H⟩:=bnd H
  refine dU [0] [ow a b 53 aS f] (U:=Unit) (fun u=>(.tuple #[])) (fun O W u=>t.length=f.length) (fun u=>[ow a b 53 aS t]) Z (aH Z aY) (fun _=>Z) (wn Z) Z Tryz.call170 (aj Z (aj Z (aj Z (aj Z (aj Z aJ))))) (fun W hW hp hE=>iY N f a b (bF (p2-c)) p2 c kL ((hW.gL hp).r _ hb0) ((hW.gL hp).cells hb0 hc0) t L hE) ?_
  intro w u M hu
  have E:=hu
  replace leB:=leB.trans M
  have j:t.length=f.length:=E --@phi
  have S:bZ a t.length b:=by rw[j];exact y
  have B:=j.trans v
  show Tr _ _ (uf _ 57 (.tuple #[])) (up _ 0 (ow a b 53 aS t)) _
  refine Tr.vD (lf:=[(0,sL a t b),(2,iv p2),(4,.func (.func 15) #[] #[pV kL]),(10,iv c),(11,iv d),(18,iv c),(19,iv d),(20,bV (c !=d)),(50,sL a t b),(51,iv p2),(52,iv c),(53,iv (bF (p2-c))),(54,iv p2),(55,iv c),(56,.func (.func 15) #[] #[pV kL]),(57,(.tuple #[]))]) (le:=[(0,ow a b 53 aS t)]) (.cons (dM Z (by unfold sL;rw[j])) (.cons Z (.cons Z (.cons Z (.cons Z (.cons Z (.cons Z (.cons Z (.cons (dM Z (by unfold sL;rw[j])) (.r Z)))))))))) (.r Z) (ae (og ?_))
  obtain rfl:=oI H
  exact Tr.out (m:=[]) [] bL (fun W hW=>⟨w,(),leB,Z,B,hW.pick (ks:=[0]) (by decide) (aH Z aY)⟩)

theorem oQ(N:Nat)(rec:(List dO)→Int→Int→Int→Option (List dO))(hrec:∀{w:Bs} (p0:(List dO)) (d:Option Addr) (f:Nat) (p1:Int) (p2:Int) (p3:Int) (kL:Nat) (hb0:w.R kL) (hc0:aI w.W kL 0 [.func (.func 13) #[] #[]]) (r:(List dO)) (H:rec p0 p1 p2 p3=some r) (hE:HF w w.W (ig [ow d f 53 aS p0])),Calls Tryz.prog 88 [sL d p0 f,iv p1,iv p2,iv p3,.func (.func 15) #[] #[pV kL]].toArray w.W fun e W'=>∃(w':Bs) (u:Unit),w.Le w'∧e= .returned (.tuple #[])∧(r.length=p0.length)∧HF w' W' (ig [ow d f 53 aS r])){w:Bs}(p0:(List dO))(d:Option Addr)(f:Nat)(p1:Int)(p2:Int)(p3:Int)(kL:Nat)(hb0:w.R kL)(hc0:aI w.W kL 0 [.func (.func 13) #[] #[]])(r:(List dO))(H:gW N rec p0 p1 p2 p3=some r)(hE:HF w w.W (ig [ow d f 53 aS p0])):Calls Tryz.prog 88 [sL d p0 f,iv p1,iv p2,iv p3,.func (.func 15) #[] #[pV kL]].toArray w.W fun e W'=>∃(w':Bs) (u:Unit),w.Le w'∧e= .returned (.tuple #[])∧(r.length=p0.length)∧HF w' W' (ig [ow d f 53 aS r]):=by
 unfold gW at H
 have v:=(hE.sl (k:=0) Z).form
 have leB:=Bs.Le.refl w
 refine aZ (n:=220) Tryz.func88 Z Z Z hE (av (ai (aA Z (aA Z (aC gu Z Z (aC eU Z Z (ae (aa (aP Z H (fun H=>?_) (fun H=>?_))))))))))
 ·refine ai (aA Z (Tr.k Z (ae (aa (ai (aA Z (Tr.k Z (ae (aa (av (Tr.block (cB (σ:=Int×Int) (fun m w s=>df N p0 p1 m s.1 s.2=some r) (fun s=>[(0,sL d p0 f),(1,iv p1),(4,.func (.func 15) #[] #[pV kL]),(10,iv s.1),(11,iv s.2)]) (fun s=>[(0,ow d f 53 aS p0)]) N (p2,p3) H (.r Z) (.r Z) (fun _ _ h=>jZ (h)) ?_))))))))))))
  intro w f4 t8 s hs
  obtain⟨C,g6⟩:=s
  have H:=hs
  replace H:df N p0 p1 (t8+1) C g6=some r:=H
  replace hc0:=f4.ext.cells hb0 hc0
  replace hb0:=f4.r _ hb0
  replace leB:=leB.trans f4
  rw[df.eq_2] at H
  dsimp only
  refine av (ai (aA Z (aA Z (aC bv Z Z (ae (aa (aP Z H (fun H=>?_) (fun H=>?_))))))))
  ·refine aO (aa (Tr.block (ai (aA Z (aA Z (aC bz Z Z ?_))))))
   obtain⟨v0,o5,H⟩:=bnd H
   refine aG Z (fun _ _ a c=>EI Km zB (a.ev Z) o5) (aC Ce Z Z ?_)
   obtain⟨i8,o6,H⟩:=bnd H
   refine aG Z (fun _ _ a c=>EJ zB Km (a.ev Z) o6) (Tr.k Z (ae (aa (av (jF (by kernel_rfl) (by kernel_rfl) (dG Z (dG Z (dG Z ?_))))))))
   obtain⟨T,o7,H⟩:=bnd H
   obtain⟨i9,j0,j1⟩:=aW o7
   refine bg Z (fun _ _ a c=>au qm (a.ev Z) v (a.ev Z) i9 j0) (vK (U:=(aS).Ad) (fun u=>(aS).ok w.O w.W u T) (fun u=>(.agg #[sL u.1 T.points u.2,iv T.area])) (wn Z) Z (Iy (κ:=0) (t:=aS) (V:=fun u=>(.agg #[sL u.1 T.points u.2,iv T.area])) Z j1 (fun _ _ u a hc=>aN (cs:=[sL u.1 T.points u.2,iv T.area]) sQ nP (a.ev Z) (aI.take hc 2) Z)) ?_)
   intro s4 h8
   obtain⟨d9,e0⟩:=s4
   have b5:=h8
   replace b5:Sl w.O w.W bi d9 e0 T.points:=b5
   dsimp only
   refine dG Z (dG Z ?_)
   obtain⟨X,o8,H⟩:=bnd H
   obtain⟨j2,j3,j4⟩:=aW o8
   refine bg Z (fun _ _ a c=>au qm (a.ev Z) v (a.ev Z) j2 j3) (vK (U:=(aS).Ad) (fun u=>(aS).ok w.O w.W u X) (fun u=>(.agg #[sL u.1 X.points u.2,iv X.area])) (wn Z) Z (Iy (κ:=0) (t:=aS) (V:=fun u=>(.agg #[sL u.1 X.points u.2,iv X.area])) Z j4 (fun _ _ u a hc=>aN (cs:=[sL u.1 X.points u.2,iv X.area]) sQ nP (a.ev Z) (aI.take hc 2) Z)) ?_)
   intro s5 h9
   obtain⟨e3,e4⟩:=s5
   have b6:=h9
   replace b6:Sl w.O w.W bi e3 e4 X.points:=b6
   dsimp only
   obtain⟨j5,o9,H⟩:=bnd H
   refine rV (r:=(iv j5)) (wn Z) Z Z Tryz.call15 (aj Z (aj Z aJ)) (fun W hW=>oJ T d9 e0 (b5.rl.ext hW.dz) X e3 e4 (b6.rl.ext hW.dz) kL (hW.dz.r _ hb0) (hW.dz.cells hb0 hc0) j5 o9 (HF.start _)) (fZ bv Z Z (iC (aa (aP Z H (fun H=>?_) (fun H=>?_)))))
   ·exact aM (aA Z (aC bz Z Z (Tr.k Z (ae (aL (aF f4 ((bF (i8+1)),g6) H (.r Z) (.r Z)))))))
   ·exact aM (aA Z (Tr.k Z (ae (aL (aF f4 (C,i8) H (.r Z) (.r Z))))))
  ·refine cz (aD (aD (aU (aa (av (ai (aA Z (Tr.k Z (ae (aa (Tr.block (cB (σ:=(List dO)×Int) (fun m w s=>cZ C m s.1 s.2=some r∧s.1.length=p0.length) (fun s=>[(0,sL d s.1 f),(10,iv C),(13,iv s.2)]) (fun s=>[(0,ow d f 53 aS s.1)]) N (p0,p1) ⟨H,Z⟩ (.r Z) (.r Z) (fun _ _ h=>jZ (h.1)) ?_))))))))))))
   intro w j6 t9 s hs
   obtain⟨b2,o⟩:=s
   obtain⟨H,d1⟩:=hs
   replace H:cZ C (t9+1) b2 o=some r:=H
   replace leB:=leB.trans j6
   replace d1:b2.length=p0.length:=d1
   have d2:bZ d b2.length f:=(by rw[d1];exact v)
   rw[cZ.eq_2] at H
   dsimp only
   refine av (ai (aA Z (aA Z (aC gu Z Z (aC bv Z Z (ae (aa (aP Z H (fun H=>?_) (fun H=>?_)))))))))
   ·refine aO (aa (av (Tr.block (rU 16 [(15,(ow d f 53 aS b2).S)] [] (by kernel_rfl) (by kernel_rfl) fun u5 s6 t6=>(bY 0 [(61,sL d b2 f)] (by kernel_rfl) Z Z (by kernel_rfl) ?_ Z Z ?_)))))
    ·exact dG Z (Tq.fin (.r Z))
    refine bY 1 [(62,iv o)] (by kernel_rfl) Z Z (by kernel_rfl) ?_ Z Z ?_
    ·exact dG Z (Tq.fin (.r Z))
    refine dI 2 (by kernel_rfl) Z (wn Z) Z (by kernel_rfl) (fun _ _ a=>run_move (a.ev Z)) Z (dI 3 (by kernel_rfl) Z (wn Z) Z (by kernel_rfl) (fun _ _ a=>run_move (a.ev Z)) Z (dI 4 (by kernel_rfl) Z (wn Z) Z (by kernel_rfl) (fun _ _ a=>bz (a.ev Z) (a.ev Z)) Z (bY 5 [(66,sL d b2 f)] (by kernel_rfl) Z Z (by kernel_rfl) ?_ Z Z ?_)))
    ·exact dG Z (Tq.fin (.r Z))
    refine bY 6 [(67,iv o)] (by kernel_rfl) Z Z (by kernel_rfl) ?_ Z Z ?_
    ·exact dG Z (Tq.fin (.r Z))
    refine bY 7 [(68,iv (bF (o+1)))] (by kernel_rfl) Z Z (by kernel_rfl) ?_ Z Z ?_
    ·exact fZ bz Z Z (Tq.fin (.r Z))
    obtain⟨y,p4,H⟩:=bnd H
    obtain⟨j7,j8,j9⟩:=aW p4
    refine bY 8 [(69,.pointer (some ⟨pu d,rT d+((bF (o+1))).toNat*2,none⟩))] (by kernel_rfl) Z Z (by kernel_rfl) ?_ Z Z ?_
    ·exact bg Z (fun _ _ a c=>au qm (a.ev Z) d2 (a.ev Z) j7 j8) (Tq.fin (.r Z))
    refine sW 9 (U:=(aS).Ad) (fun u=>(aS).ok w.O w.W u y) (fun u=>(.agg #[sL u.1 y.points u.2,iv y.area])) (by kernel_rfl) Z (wn Z) Z (by kernel_rfl) (Iy (κ:=0) (t:=aS) (V:=fun u=>(.agg #[sL u.1 y.points u.2,iv y.area])) Z j9 (fun _ _ u a hc=>aN (cs:=[sL u.1 y.points u.2,iv y.area]) sQ nP (a.ev Z) (aI.take hc 2) Z)) ?_
    intro s7 i0
    obtain⟨G,I⟩:=s7
    have b7:=i0
    replace b7:Sl w.O w.W bi G I y.points:=b7
    dsimp only
    refine dI 10 (by kernel_rfl) Z (wn Z) Z (by kernel_rfl) (fun _ _ a=>run_move (a.ev Z)) Z (dI 11 (by kernel_rfl) Z (wn Z) Z (by kernel_rfl) (fun _ _ a=>run_move (a.ev Z)) Z ?_)
    obtain⟨z,p5,H⟩:=bnd H
    obtain⟨k0,k1,k2⟩:=aW p5
    refine dI 12 (by kernel_rfl) Z (wn Z) Z (by kernel_rfl) (fun _ _ a=>au qm (a.ev Z) d2 (a.ev Z) k0 k1) Z (sW 13 (U:=(aS).Ad) (fun u=>(aS).ok w.O w.W u z) (fun u=>(.agg #[sL u.1 z.points u.2,iv z.area])) (by kernel_rfl) Z (wn Z) Z (by kernel_rfl) (Iy (κ:=0) (t:=aS) (V:=fun u=>(.agg #[sL u.1 z.points u.2,iv z.area])) Z k2 (fun _ _ u a hc=>aN (cs:=[sL u.1 z.points u.2,iv z.area]) sQ nP (a.ev Z) (aI.take hc 2) Z)) ?_)
    intro s8 i1
    obtain⟨J,K⟩:=s8
    have b8:=i1
    replace b8:Sl w.O w.W bi J K z.points:=b8
    dsimp only
    obtain⟨v3,p6,H⟩:=bnd H
    obtain⟨k3,k4,k5⟩:=aW p6
    refine bY 14 [(75,.pointer (some ⟨pu d,rT d+(o).toNat*2,none⟩))] (by kernel_rfl) Z Z (by kernel_rfl) ?_ Z Z ?_
    ·exact bg Z (fun _ _ a c=>au qm (a.ev Z) d2 (a.ev Z) k3 k4) (Tq.fin (.r Z))
    obtain⟨b9,h4,H⟩:=bnd H
    refine Dr.one 15 (by kernel_rfl) ?_
    have a':=lN h4
    refine uu 15 0 (t':=aS) (ll:=b2) (ix:=o) (fo:=0) (cs:=[sL G y.points I,iv y.area]) y (fun b hb=>.inl ⟨_,List.mem_cons_self,Z,hb⟩) Z (wn Z) Z Z Z Z Z k5 nP Z (fun u hu=>⟨(G,I),b7,Z⟩) Z h4 ?_
    have g0:bZ d b9.length f:=by rw[a'];exact d2
    have k6:=a'.trans d1
    refine Dr.use (lf:=[(0,sL d b9 f),(10,iv C),(13,iv o),(55,iv o),(56,iv C),(57,iv (bF (C-1))),(58,bV (decide (o<(bF (C-1))))),(61,sL d b9 f),(62,iv o),(63,sL d b9 f),(64,iv o),(65,iv (bF (o+1))),(66,sL d b9 f),(67,iv o),(68,iv (bF (o+1))),(70,.agg #[sL G y.points I,iv y.area]),(71,sL d b9 f),(72,iv o),(74,.agg #[sL J z.points K,iv z.area])]) (le:=[(0,ow d f 53 aS b9)]) ?_ Z (.cons (dM Z (by unfold sL;rw[a'])) (.cons Z (.cons Z (.cons Z (.cons Z (.cons Z (.cons Z (.cons (dM Z (by unfold sL;rw[a'])) (.cons Z (.cons (dM Z (by unfold sL;rw[a'])) (.cons Z (.cons Z (.cons (dM Z (by unfold sL;rw[a'])) (.cons Z (.cons Z (.cons Z (.cons (dM Z (by unfold sL;rw[a'])) (.r Z)))))))))))))))))) (.r Z)
    refine tX (by kernel_rfl) ?_
    obtain⟨v4,p7,H⟩:=bnd H
    obtain⟨k7,k8,k9⟩:=aW p7
    refine aG Z (fun _ _ a c=>au qm (a.ev Z) g0 (a.ev Z) k7 k8) ?_
    obtain⟨c0,h5,H⟩:=bnd H
    have a0:=lN h5
    refine ng 0 (t:=aS) (l:=b9) (i:=(bF (o+1))) (fo:=0) (cs:=[sL J z.points K,iv z.area]) z (wn Z) Z Z Z Z Z k9 nP Z (fun u hu=>⟨(J,K),b8,Z⟩) Z h5 ?_
    have u0:bZ d c0.length f:=by rw[a0];exact g0
    have l0:=a0.trans k6
    exact Tr.vD (lf:=[(0,sL d c0 f),(10,iv C),(13,iv o),(55,iv o),(56,iv C),(57,iv (bF (C-1))),(58,bV (decide (o<(bF (C-1))))),(61,sL d c0 f),(62,iv o),(63,sL d c0 f),(64,iv o),(65,iv (bF (o+1))),(66,sL d c0 f),(67,iv o),(68,iv (bF (o+1))),(70,.agg #[sL G y.points I,iv y.area]),(71,sL d c0 f),(72,iv o),(74,.agg #[sL J z.points K,iv z.area])]) (le:=[(0,ow d f 53 aS c0)]) (.cons (dM Z (by unfold sL;rw[a0])) (.cons Z (.cons Z (.cons Z (.cons Z (.cons Z (.cons Z (.cons (dM Z (by unfold sL;rw[a0])) (.cons Z (.cons (dM Z (by unfold sL;rw[a0])) (.cons Z (.cons Z (.cons (dM Z (by unfold sL;rw[a0])) (.cons Z (.cons Z (.cons Z (.cons (dM Z (by unfold sL;rw[a0])) (.r Z)))))))))))))))))) (.r Z) (ae (aL (aa (aM (aA Z (aC bz Z Z (Tr.k Z (ae (aF j6 (c0,(bF (o+1))) ⟨H,l0⟩ (.r Z) (.r Z))))))))))
   ·refine cz (aD (aD (aU (aa (bu (bn ?_))))))
    obtain rfl:=oI H
    exact Tr.out (m:=[]) [] bL (fun W hW=>⟨w,(),leB,Z,d1,hW.pick (ks:=[0]) (by decide) (aH Z aY)⟩)
 ·refine aO (aa (av (ai (aA Z (aA Z (aC gu Z Z (aC eU Z Z (ae (aa (aP Z H (fun H=>?_) (fun H=>?_)))))))))))
  ·refine ai (aA Z (Tr.k Z (ae (aa (ai (aA Z (Tr.k Z (ae (aa (av (Tr.block (cB (σ:=Int×Int) (fun m w s=>cO N p0 p2 m s.1 s.2=some r) (fun s=>[(0,sL d p0 f),(2,iv p2),(4,.func (.func 15) #[] #[pV kL]),(14,iv s.1),(15,iv s.2)]) (fun s=>[(0,ow d f 53 aS p0)]) N (p1,p2) H (.r Z) (.r Z) (fun _ _ h=>jZ (h)) ?_))))))))))))
   intro w f5 u1 s hs
   obtain⟨E,g7⟩:=s
   have H:=hs
   replace H:cO N p0 p2 (u1+1) E g7=some r:=H
   replace hc0:=f5.ext.cells hb0 hc0
   replace hb0:=f5.r _ hb0
   replace leB:=leB.trans f5
   rw[cO.eq_2] at H
   dsimp only
   refine av (ai (aA Z (aA Z (aC bv Z Z (ae (aa (aP Z H (fun H=>?_) (fun H=>?_))))))))
   ·refine aO (aa (Tr.block (ai (aA Z (aA Z (aC bz Z Z ?_))))))
    obtain⟨v5,p8,H⟩:=bnd H
    refine aG Z (fun _ _ a c=>EI Km zB (a.ev Z) p8) (aC Ce Z Z ?_)
    obtain⟨l1,p9,H⟩:=bnd H
    refine aG Z (fun _ _ a c=>EJ zB Km (a.ev Z) p9) (Tr.k Z (ae (aa (av (jF (by kernel_rfl) (by kernel_rfl) (dG Z (dG Z (dG Z ?_))))))))
    obtain⟨a1,q0,H⟩:=bnd H
    obtain⟨l2,l3,l4⟩:=aW q0
    refine bg Z (fun _ _ a c=>au qm (a.ev Z) v (a.ev Z) l2 l3) (vK (U:=(aS).Ad) (fun u=>(aS).ok w.O w.W u a1) (fun u=>(.agg #[sL u.1 a1.points u.2,iv a1.area])) (wn Z) Z (Iy (κ:=0) (t:=aS) (V:=fun u=>(.agg #[sL u.1 a1.points u.2,iv a1.area])) Z l4 (fun _ _ u a hc=>aN (cs:=[sL u.1 a1.points u.2,iv a1.area]) sQ nP (a.ev Z) (aI.take hc 2) Z)) ?_)
    intro s9 i2
    obtain⟨e5,e6⟩:=s9
    have c3:=i2
    replace c3:Sl w.O w.W bi e5 e6 a1.points:=c3
    dsimp only
    refine dG Z (dG Z ?_)
    obtain⟨a2,q1,H⟩:=bnd H
    obtain⟨l5,l6,l7⟩:=aW q1
    refine bg Z (fun _ _ a c=>au qm (a.ev Z) v (a.ev Z) l5 l6) (vK (U:=(aS).Ad) (fun u=>(aS).ok w.O w.W u a2) (fun u=>(.agg #[sL u.1 a2.points u.2,iv a2.area])) (wn Z) Z (Iy (κ:=0) (t:=aS) (V:=fun u=>(.agg #[sL u.1 a2.points u.2,iv a2.area])) Z l7 (fun _ _ u a hc=>aN (cs:=[sL u.1 a2.points u.2,iv a2.area]) sQ nP (a.ev Z) (aI.take hc 2) Z)) ?_)
    intro t0 i3
    obtain⟨e7,e8⟩:=t0
    have c4:=i3
    replace c4:Sl w.O w.W bi e7 e8 a2.points:=c4
    dsimp only
    obtain⟨l8,q2,H⟩:=bnd H
    refine rV (r:=(iv l8)) (wn Z) Z Z Tryz.call15 (aj Z (aj Z aJ)) (fun W hW=>oJ a1 e5 e6 (c3.rl.ext hW.dz) a2 e7 e8 (c4.rl.ext hW.dz) kL (hW.dz.r _ hb0) (hW.dz.cells hb0 hc0) l8 q2 (HF.start _)) (fZ bv Z Z (dZ jc Z (iC (aa (aP Z H (fun H=>?_) (fun H=>?_))))))
    ·exact aM (aA Z (aC bz Z Z (Tr.k Z (ae (aL (aF f5 ((bF (l1+1)),g7) H (.r Z) (.r Z)))))))
    ·exact aM (aA Z (Tr.k Z (ae (aL (aF f5 (E,l1) H (.r Z) (.r Z))))))
   ·refine cz (aD (aD (aU (aa (av (ai (aA Z (Tr.k Z (ae (aa (Tr.block (cB (σ:=(List dO)×Int) (fun m w s=>cK E m s.1 s.2=some r∧s.1.length=p0.length) (fun s=>[(0,sL d s.1 f),(14,iv E),(17,iv s.2)]) (fun s=>[(0,ow d f 53 aS s.1)]) N (p0,p2) ⟨H,Z⟩ (.r Z) (.r Z) (fun _ _ h=>jZ (h.1)) ?_))))))))))))
    intro w l9 u2 s hs
    obtain⟨b3,q⟩:=s
    obtain⟨H,d3⟩:=hs
    replace H:cK E (u2+1) b3 q=some r:=H
    replace leB:=leB.trans l9
    replace d3:b3.length=p0.length:=d3
    have d4:bZ d b3.length f:=(by rw[d3];exact v)
    rw[cK.eq_2] at H
    dsimp only
    refine av (ai (aA Z (aA Z (aC jd Z Z (ae (aa (aP Z H (fun H=>?_) (fun H=>?_))))))))
    ·refine aO (aa (av (Tr.block (rU 16 [(15,(ow d f 53 aS b3).S)] [] (by kernel_rfl) (by kernel_rfl) fun u6 t1 t7=>(bY 0 [(113,sL d b3 f)] (by kernel_rfl) Z Z (by kernel_rfl) ?_ Z Z ?_)))))
     ·exact dG Z (Tq.fin (.r Z))
     refine bY 1 [(114,iv q)] (by kernel_rfl) Z Z (by kernel_rfl) ?_ Z Z ?_
     ·exact dG Z (Tq.fin (.r Z))
     refine dI 2 (by kernel_rfl) Z (wn Z) Z (by kernel_rfl) (fun _ _ a=>run_move (a.ev Z)) Z (dI 3 (by kernel_rfl) Z (wn Z) Z (by kernel_rfl) (fun _ _ a=>run_move (a.ev Z)) Z (dI 4 (by kernel_rfl) Z (wn Z) Z (by kernel_rfl) (fun _ _ a=>gu (a.ev Z) (a.ev Z)) Z (bY 5 [(118,sL d b3 f)] (by kernel_rfl) Z Z (by kernel_rfl) ?_ Z Z ?_)))
     ·exact dG Z (Tq.fin (.r Z))
     refine bY 6 [(119,iv q)] (by kernel_rfl) Z Z (by kernel_rfl) ?_ Z Z ?_
     ·exact dG Z (Tq.fin (.r Z))
     refine bY 7 [(120,iv (bF (q-1)))] (by kernel_rfl) Z Z (by kernel_rfl) ?_ Z Z ?_
     ·exact fZ gu Z Z (Tq.fin (.r Z))
     obtain⟨A,q3,H⟩:=bnd H
     obtain⟨m0,m1,m2⟩:=aW q3
     refine bY 8 [(121,.pointer (some ⟨pu d,rT d+((bF (q-1))).toNat*2,none⟩))] (by kernel_rfl) Z Z (by kernel_rfl) ?_ Z Z ?_
     ·exact bg Z (fun _ _ a c=>au qm (a.ev Z) d4 (a.ev Z) m0 m1) (Tq.fin (.r Z))
     refine sW 9 (U:=(aS).Ad) (fun u=>(aS).ok w.O w.W u A) (fun u=>(.agg #[sL u.1 A.points u.2,iv A.area])) (by kernel_rfl) Z (wn Z) Z (by kernel_rfl) (Iy (κ:=0) (t:=aS) (V:=fun u=>(.agg #[sL u.1 A.points u.2,iv A.area])) Z m2 (fun _ _ u a hc=>aN (cs:=[sL u.1 A.points u.2,iv A.area]) sQ nP (a.ev Z) (aI.take hc 2) Z)) ?_
     intro t2 i4
     obtain⟨L,M⟩:=t2
     have c5:=i4
     replace c5:Sl w.O w.W bi L M A.points:=c5
     dsimp only
     refine dI 10 (by kernel_rfl) Z (wn Z) Z (by kernel_rfl) (fun _ _ a=>run_move (a.ev Z)) Z (dI 11 (by kernel_rfl) Z (wn Z) Z (by kernel_rfl) (fun _ _ a=>run_move (a.ev Z)) Z ?_)
     obtain⟨B,q4,H⟩:=bnd H
     obtain⟨m3,m4,m5⟩:=aW q4
     refine dI 12 (by kernel_rfl) Z (wn Z) Z (by kernel_rfl) (fun _ _ a=>au qm (a.ev Z) d4 (a.ev Z) m3 m4) Z (sW 13 (U:=(aS).Ad) (fun u=>(aS).ok w.O w.W u B) (fun u=>(.agg #[sL u.1 B.points u.2,iv B.area])) (by kernel_rfl) Z (wn Z) Z (by kernel_rfl) (Iy (κ:=0) (t:=aS) (V:=fun u=>(.agg #[sL u.1 B.points u.2,iv B.area])) Z m5 (fun _ _ u a hc=>aN (cs:=[sL u.1 B.points u.2,iv B.area]) sQ nP (a.ev Z) (aI.take hc 2) Z)) ?_)
     intro t3 i5
     obtain⟨P,Q⟩:=t3
     have c6:=i5
     replace c6:Sl w.O w.W bi P Q B.points:=c6
     dsimp only
     obtain⟨v6,q5,H⟩:=bnd H
     obtain⟨m6,m7,m8⟩:=aW q5
     refine bY 14 [(127,.pointer (some ⟨pu d,rT d+(q).toNat*2,none⟩))] (by kernel_rfl) Z Z (by kernel_rfl) ?_ Z Z ?_
     ·exact bg Z (fun _ _ a c=>au qm (a.ev Z) d4 (a.ev Z) m6 m7) (Tq.fin (.r Z))
     obtain⟨c7,h6,H⟩:=bnd H
     refine Dr.one 15 (by kernel_rfl) ?_
     have a3:=lN h6
     refine uu 15 0 (t':=aS) (ll:=b3) (ix:=q) (fo:=0) (cs:=[sL L A.points M,iv A.area]) A (fun b hb=>.inl ⟨_,List.mem_cons_self,Z,hb⟩) Z (wn Z) Z Z Z Z Z m8 nP Z (fun u hu=>⟨(L,M),c5,Z⟩) Z h6 ?_
     have g1:bZ d c7.length f:=by rw[a3];exact d4
     have m9:=a3.trans d3
     refine Dr.use (lf:=[(0,sL d c7 f),(14,iv E),(17,iv q),(108,iv q),(109,iv E),(110,bV (decide (E<q))),(113,sL d c7 f),(114,iv q),(115,sL d c7 f),(116,iv q),(117,iv (bF (q-1))),(118,sL d c7 f),(119,iv q),(120,iv (bF (q-1))),(122,.agg #[sL L A.points M,iv A.area]),(123,sL d c7 f),(124,iv q),(126,.agg #[sL P B.points Q,iv B.area])]) (le:=[(0,ow d f 53 aS c7)]) ?_ Z (.cons (dM Z (by unfold sL;rw[a3])) (.cons Z (.cons Z (.cons Z (.cons Z (.cons Z (.cons (dM Z (by unfold sL;rw[a3])) (.cons Z (.cons (dM Z (by unfold sL;rw[a3])) (.cons Z (.cons Z (.cons (dM Z (by unfold sL;rw[a3])) (.cons Z (.cons Z (.cons Z (.cons (dM Z (by unfold sL;rw[a3])) (.r Z))))))))))))))))) (.r Z)
     refine tX (by kernel_rfl) ?_
     obtain⟨v7,q6,H⟩:=bnd H
     obtain⟨n0,n1,n2⟩:=aW q6
     refine aG Z (fun _ _ a c=>au qm (a.ev Z) g1 (a.ev Z) n0 n1) ?_
     obtain⟨c8,h7,H⟩:=bnd H
     have a4:=lN h7
     refine ng 0 (t:=aS) (l:=c7) (i:=(bF (q-1))) (fo:=0) (cs:=[sL P B.points Q,iv B.area]) B (wn Z) Z Z Z Z Z n2 nP Z (fun u hu=>⟨(P,Q),c6,Z⟩) Z h7 ?_
     have u3:bZ d c8.length f:=by rw[a4];exact g1
     have n3:=a4.trans m9
     exact Tr.vD (lf:=[(0,sL d c8 f),(14,iv E),(17,iv q),(108,iv q),(109,iv E),(110,bV (decide (E<q))),(113,sL d c8 f),(114,iv q),(115,sL d c8 f),(116,iv q),(117,iv (bF (q-1))),(118,sL d c8 f),(119,iv q),(120,iv (bF (q-1))),(122,.agg #[sL L A.points M,iv A.area]),(123,sL d c8 f),(124,iv q),(126,.agg #[sL P B.points Q,iv B.area])]) (le:=[(0,ow d f 53 aS c8)]) (.cons (dM Z (by unfold sL;rw[a4])) (.cons Z (.cons Z (.cons Z (.cons Z (.cons Z (.cons (dM Z (by unfold sL;rw[a4])) (.cons Z (.cons (dM Z (by unfold sL;rw[a4])) (.cons Z (.cons Z (.cons (dM Z (by unfold sL;rw[a4])) (.cons Z (.cons Z (.cons Z (.cons (dM Z (by unfold sL;rw[a4])) (.r Z))))))))))))))))) (.r Z) (ae (aL (aa (aM (aA Z (aC gu Z Z (Tr.k Z (ae (aF l9 (c8,(bF (q-1))) ⟨H,n3⟩ (.r Z) (.r Z))))))))))
    ·refine cz (aD (aD (aU (aa (bu (bn ?_))))))
     obtain rfl:=oI H
     exact Tr.out (m:=[]) [] bL (fun W hW=>⟨w,(),leB,Z,d3,hW.pick (ks:=[0]) (by decide) (aH Z aY)⟩)
  ·refine aO (aa (ai (aA Z (aA Z (aC bz Z Z ?_)))))
   obtain⟨v8,q7,H⟩:=bnd H
   refine aG Z (fun _ _ a c=>EI Km zB (a.ev Z) q7) (aC Ce Z Z ?_)
   obtain⟨g,q8,H⟩:=bnd H
   refine aG Z (fun _ _ a c=>EJ zB Km (a.ev Z) q8) (Tr.k Z (ae (aa (ai (aA Z (aA Z (aC bz Z Z (Tr.k Z (ae (aa (ai (Tr.k Z (Tr.k Z (ae (aa ?_)))))))))))))))
   have g2:=Bs.Le.refl w
   refine kZ (σ:=Int×Int) (fun w s=>dC N p0 p1 p2 p3 rec g s.1 s.2=some r) (fun s=>[(0,sL d p0 f),(1,iv p1),(2,iv p2),(3,iv p3),(4,.func (.func 15) #[] #[pV kL]),(18,iv g),(19,iv (bF (g+p2))),(20,iv s.1),(21,iv s.2)]) (fun s=>[(0,ow d f 53 aS p0)]) ?_ ?_
   ·refine ai (aA Z (aA Z (aC jd Z Z (ae (aa (aP Z H (fun H=>?_) (fun H=>?_)))))))
    ·exact ai (aA Z (aA Z (aC gu Z Z (Tr.k Z (ae (aa (aM (aA Z (Tr.k Z (ae (aF g2 ((bF ((bF (g+p2))-p3)),g) H (.r Z) (.r Z))))))))))))
    ·exact ai (aA Z (Tr.k Z (ae (aa (aM (aA Z (Tr.k Z (ae (aF g2 (p1,p2) H (.r Z) (.r Z))))))))))
   ·intro w s f6 hs
    obtain⟨g8,g9⟩:=s
    have H:=hs
    replace H:dC N p0 p1 p2 p3 rec g g8 g9=some r:=H
    replace hc0:=f6.ext.cells hb0 hc0
    replace hb0:=f6.r _ hb0
    replace leB:=leB.trans f6
    unfold dC at H
    dsimp only
    refine ai (aA Z (aC gu Z Z (Tr.k Z (ae (aa (av (Tr.block (cB (σ:=Int×Int) (fun m w s=>bK N p0 p1 p2 p3 rec g m s.1 s.2=some r) (fun s=>[(0,sL d p0 f),(1,iv p1),(2,iv p2),(3,iv p3),(4,.func (.func 15) #[] #[pV kL]),(18,iv g),(19,iv (bF (g+p2))),(20,iv s.1),(21,iv s.2),(22,iv (bF ((bF (g+p2))-1)))]) (fun s=>[(0,ow d f 53 aS p0)]) N (g8,g9) H (.r Z) (.r Z) (fun _ _ h=>jZ (h)) ?_))))))))
    intro w f7 u4 s hs
    obtain⟨j,h0⟩:=s
    have H:=hs
    replace H:bK N p0 p1 p2 p3 rec g (u4+1) j h0=some r:=H
    replace hc0:=f7.ext.cells hb0 hc0
    replace hb0:=f7.r _ hb0
    replace leB:=leB.trans f7
    rw[bK.eq_2] at H
    dsimp only
    refine av (ai (aA Z (aA Z (aC bv Z Z (ae (aa (aP Z H (fun H=>?_) (fun H=>?_))))))))
    ·refine aO (aa (Tr.block (ai (aA Z (aA Z (aC bz Z Z ?_))))))
     obtain⟨v9,q9,H⟩:=bnd H
     refine aG Z (fun _ _ a c=>EI Km zB (a.ev Z) q9) (aC Ce Z Z ?_)
     obtain⟨n4,r0,H⟩:=bnd H
     refine aG Z (fun _ _ a c=>EJ zB Km (a.ev Z) r0) (Tr.k Z (ae (aa (av (jF (by kernel_rfl) (by kernel_rfl) (dG Z (dG Z (dG Z (dG Z (fZ gu Z Z ?_))))))))))
     obtain⟨a5,r1,H⟩:=bnd H
     obtain⟨n5,n6,n7⟩:=aW r1
     refine bg Z (fun _ _ a c=>au qm (a.ev Z) v (a.ev Z) n5 n6) (vK (U:=(aS).Ad) (fun u=>(aS).ok w.O w.W u a5) (fun u=>(.agg #[sL u.1 a5.points u.2,iv a5.area])) (wn Z) Z (Iy (κ:=0) (t:=aS) (V:=fun u=>(.agg #[sL u.1 a5.points u.2,iv a5.area])) Z n7 (fun _ _ u a hc=>aN (cs:=[sL u.1 a5.points u.2,iv a5.area]) sQ nP (a.ev Z) (aI.take hc 2) Z)) ?_)
     intro t4 i6
     obtain⟨e9,f1⟩:=t4
     have c9:=i6
     replace c9:Sl w.O w.W bi e9 f1 a5.points:=c9
     dsimp only
     refine dG Z (dG Z ?_)
     obtain⟨a6,r2,H⟩:=bnd H
     obtain⟨n8,n9,o0⟩:=aW r2
     refine bg Z (fun _ _ a c=>au qm (a.ev Z) v (a.ev Z) n8 n9) (vK (U:=(aS).Ad) (fun u=>(aS).ok w.O w.W u a6) (fun u=>(.agg #[sL u.1 a6.points u.2,iv a6.area])) (wn Z) Z (Iy (κ:=0) (t:=aS) (V:=fun u=>(.agg #[sL u.1 a6.points u.2,iv a6.area])) Z o0 (fun _ _ u a hc=>aN (cs:=[sL u.1 a6.points u.2,iv a6.area]) sQ nP (a.ev Z) (aI.take hc 2) Z)) ?_)
     intro t5 i7
     obtain⟨f2,f3⟩:=t5
     have d0:=i7
     replace d0:Sl w.O w.W bi f2 f3 a6.points:=d0
     dsimp only
     obtain⟨o2,r3,H⟩:=bnd H
     refine rV (r:=(iv o2)) (wn Z) Z Z Tryz.call15 (aj Z (aj Z aJ)) (fun W hW=>oJ a5 e9 f1 (c9.rl.ext hW.dz) a6 f2 f3 (d0.rl.ext hW.dz) kL (hW.dz.r _ hb0) (hW.dz.cells hb0 hc0) o2 r3 (HF.start _)) (fZ bv Z Z (dZ jc Z (iC (aa (aP Z H (fun H=>?_) (fun H=>?_))))))
     ·exact aM (aA Z (aC bz Z Z (Tr.k Z (ae (aL (aF f7 ((bF (n4+1)),h0) H (.r Z) (.r Z)))))))
     ·exact aM (aA Z (Tr.k Z (ae (aL (aF f7 (j,n4) H (.r Z) (.r Z))))))
    ·refine cz (aD (aD (aU (aa (ai (aA Z (aA Z (aC gu Z Z (Tr.k Z (ae (aa ?_)))))))))))
     have d5:=Bs.Le.refl w
     refine kZ (σ:=(List dO)) (fun w s=>dD p1 p2 p3 rec g j s=some r∧s.length=p0.length) (fun s=>[(0,sL d s f),(1,iv p1),(3,iv p3),(4,.func (.func 15) #[] #[pV kL]),(18,iv g),(20,iv j),(24,iv (bF ((bF (g+p2))-j)))]) (fun s=>[(0,ow d f 53 aS s)]) ?_ ?_
     ·refine ai (aA Z (aA Z (aC bv Z Z (aA Z (eD 4 [(0,sL d p0 f),(1,iv p1),(2,iv p2),(3,iv p3),(4,.func (.func 15) #[] #[pV kL]),(18,iv g),(20,iv j),(24,iv (bF ((bF (g+p2))-j))),(185,bV ((decide (j<p2))&&(decide (p2<(bF ((bF (g+p2))-j))))))] [(0,ow d f 53 aS p0)] ?_ ?_)))))
      ·cases u7:(decide (j<p2))
       ·exact bq Z (bq Z (bq Z (aC bH Z Z (ae (bA (.r Z) (.r Z))))))
       ·exact dN run_move Z (dN run_move Z (jM bv Z Z (aC bG Z Z (ae (bA (.r Z) (.r Z))))))
      ·show Tr _ _ (LF [(0,sL d p0 f),(1,iv p1),(2,iv p2),(3,iv p3),(4,.func (.func 15) #[] #[pV kL]),(18,iv g),(20,iv j),(24,iv (bF ((bF (g+p2))-j))),(185,bV ((decide (j<p2))&&(decide (p2<(bF ((bF (g+p2))-j))))))]) (LE [(0,ow d f 53 aS p0)]) _
       refine ae (aa (aP Z H (fun H=>?_) (fun H=>?_)))
       ·refine aM (aA Z (aA Z (aA Z (aA Z (aA Z ?_)))))
        obtain⟨b0,r4,H⟩:=bnd H
        refine dU [0] [ow d f 53 aS p0] (U:=Unit) (fun u=>(.tuple #[])) (fun O W u=>b0.length=p0.length) (fun u=>[ow d f 53 aS b0]) Z (aH Z aY) (fun _=>Z) (wn Z) Z Tryz.call119 (aj Z (aj Z (aj Z (aj Z (aj Z aJ))))) (fun W hW hp hE=>qp N p0 d f j p2 (bF ((bF (g+p2))-j)) kL ((hW.gL hp).r _ hb0) ((hW.gL hp).cells hb0 hc0) b0 r4 hE) ?_
        intro w u r5 hu
        have h1:=hu
        replace d5:=d5.trans r5
        have a7:b0.length=p0.length:=h1 --@phi
        have s1:bZ d b0.length f:=by rw[a7];exact v
        have g3:=a7.trans Z
        show Tr _ _ (uf _ 191 (.tuple #[])) (up _ 0 (ow d f 53 aS b0)) _
        exact Tr.vD (lf:=[(0,sL d b0 f),(1,iv p1),(2,iv p2),(3,iv p3),(4,.func (.func 15) #[] #[pV kL]),(18,iv g),(20,iv j),(24,iv (bF ((bF (g+p2))-j))),(185,bV ((decide (j<p2))&&(decide (p2<(bF ((bF (g+p2))-j)))))),(186,sL d b0 f),(187,iv j),(188,iv p2),(189,iv (bF ((bF (g+p2))-j))),(190,.func (.func 15) #[] #[pV kL]),(191,(.tuple #[]))]) (le:=[(0,ow d f 53 aS b0)]) (.cons (dM Z (by unfold sL;rw[a7])) (.cons Z (.cons Z (.cons Z (.cons Z (.cons Z (.cons Z (.cons Z (.cons Z (.cons (dM Z (by unfold sL;rw[a7])) (.r Z))))))))))) (.r Z) (ae (aF d5 b0 ⟨H,g3⟩ (.r Z) (.r Z)))
       ·exact aO (aF d5 p0 ⟨H,Z⟩ (.r Z) (.r Z))
     ·intro w D f8 hs
      obtain⟨H,d6⟩:=hs
      replace H:dD p1 p2 p3 rec g j D=some r:=H
      replace hc0:=f8.ext.cells hb0 hc0
      replace hb0:=f8.r _ hb0
      replace leB:=leB.trans f8
      replace d6:D.length=p0.length:=d6
      have o3:bZ d D.length f:=(by rw[d6];exact v)
      unfold dD at H
      show Tr _ _ (LF [(0,sL d D f),(1,iv p1),(3,iv p3),(4,.func (.func 15) #[] #[pV kL]),(18,iv g),(20,iv j),(24,iv (bF ((bF (g+p2))-j)))]) (LE [(0,ow d f 53 aS D)]) _
      have d7:=Bs.Le.refl w
      refine kZ (σ:=(List dO)) (fun w s=>dE p2 p3 rec g j s=some r∧s.length=p0.length) (fun s=>[(0,sL d s f),(3,iv p3),(4,.func (.func 15) #[] #[pV kL]),(18,iv g),(24,iv (bF ((bF (g+p2))-j)))]) (fun s=>[(0,ow d f 53 aS s)]) ?_ ?_
      ·refine ai (aA Z (aA Z (aC bv Z Z (aA Z (eD 4 [(0,sL d D f),(1,iv p1),(3,iv p3),(4,.func (.func 15) #[] #[pV kL]),(18,iv g),(20,iv j),(24,iv (bF ((bF (g+p2))-j))),(199,bV ((decide (p1<j))&&(decide (j<g))))] [(0,ow d f 53 aS D)] ?_ ?_)))))
       ·cases u8:(decide (p1<j))
        ·exact bq Z (bq Z (bq Z (aC bH Z Z (ae (bA (.r Z) (.r Z))))))
        ·exact dN run_move Z (dN run_move Z (jM bv Z Z (aC bG Z Z (ae (bA (.r Z) (.r Z))))))
       ·show Tr _ _ (LF [(0,sL d D f),(1,iv p1),(3,iv p3),(4,.func (.func 15) #[] #[pV kL]),(18,iv g),(20,iv j),(24,iv (bF ((bF (g+p2))-j))),(199,bV ((decide (p1<j))&&(decide (j<g))))]) (LE [(0,ow d f 53 aS D)]) _
        refine ae (aa (aP Z H (fun H=>?_) (fun H=>?_)))
        ·refine aM (aA Z (aA Z (aA Z (aA Z (aA Z ?_)))))
         obtain⟨b1,r6,H⟩:=bnd H
         refine dU [0] [ow d f 53 aS D] (U:=Unit) (fun u=>(.tuple #[])) (fun O W u=>b1.length=D.length) (fun u=>[ow d f 53 aS b1]) Z (aH Z aY) (fun _=>Z) (wn Z) Z Tryz.call88 (aj Z (aj Z (aj Z (aj Z (aj Z aJ))))) (fun W hW hp hE=>hrec D d f p1 j g kL ((hW.gL hp).r _ hb0) ((hW.gL hp).cells hb0 hc0) b1 r6 hE) ?_
         intro w u r7 hu
         have h2:=hu
         replace d7:=d7.trans r7
         have a8:b1.length=D.length:=h2 --@phi
         have s2:bZ d b1.length f:=by rw[a8];exact o3
         have g4:=a8.trans d6
         show Tr _ _ (uf _ 205 (.tuple #[])) (up _ 0 (ow d f 53 aS b1)) _
         exact Tr.vD (lf:=[(0,sL d b1 f),(1,iv p1),(3,iv p3),(4,.func (.func 15) #[] #[pV kL]),(18,iv g),(20,iv j),(24,iv (bF ((bF (g+p2))-j))),(199,bV ((decide (p1<j))&&(decide (j<g)))),(200,sL d b1 f),(201,iv p1),(202,iv j),(203,iv g),(204,.func (.func 15) #[] #[pV kL]),(205,(.tuple #[]))]) (le:=[(0,ow d f 53 aS b1)]) (.cons (dM Z (by unfold sL;rw[a8])) (.cons Z (.cons Z (.cons Z (.cons Z (.cons Z (.cons Z (.cons Z (.cons (dM Z (by unfold sL;rw[a8])) (.r Z)))))))))) (.r Z) (ae (aF d7 b1 ⟨H,g4⟩ (.r Z) (.r Z)))
        ·exact aO (aF d7 D ⟨H,d6⟩ (.r Z) (.r Z))
      ·intro w F f9 hs
       obtain⟨H,d8⟩:=hs
       replace H:dE p2 p3 rec g j F=some r:=H
       replace hc0:=f9.ext.cells hb0 hc0
       replace hb0:=f9.r _ hb0
       replace leB:=leB.trans f9
       replace d8:F.length=p0.length:=d8
       have o4:bZ d F.length f:=(by rw[d8];exact v)
       unfold dE at H
       show Tr _ _ (LF [(0,sL d F f),(3,iv p3),(4,.func (.func 15) #[] #[pV kL]),(18,iv g),(24,iv (bF ((bF (g+p2))-j)))]) (LE [(0,ow d f 53 aS F)]) _
       refine ai (aA Z (aA Z (aC bv Z Z (aA Z (eD 4 [(0,sL d F f),(3,iv p3),(4,.func (.func 15) #[] #[pV kL]),(18,iv g),(24,iv (bF ((bF (g+p2))-j))),(213,bV ((decide (g<(bF ((bF (g+p2))-j))))&&(decide ((bF ((bF (g+p2))-j))<p3))))] [(0,ow d f 53 aS F)] ?_ ?_)))))
       ·cases u9:(decide (g<(bF ((bF (g+p2))-j))))
        ·exact bq Z (bq Z (bq Z (aC bH Z Z (ae (bA (.r Z) (.r Z))))))
        ·exact dN run_move Z (dN run_move Z (jM bv Z Z (aC bG Z Z (ae (bA (.r Z) (.r Z))))))
       ·show Tr _ _ (LF [(0,sL d F f),(3,iv p3),(4,.func (.func 15) #[] #[pV kL]),(18,iv g),(24,iv (bF ((bF (g+p2))-j))),(213,bV ((decide (g<(bF ((bF (g+p2))-j))))&&(decide ((bF ((bF (g+p2))-j))<p3))))]) (LE [(0,ow d f 53 aS F)]) _
        refine ae (aa (aP Z H (fun H=>?_) (fun H=>?_)))
        ·refine aM (aA Z (aA Z (aA Z (aA Z (aA Z ?_)))))
         obtain⟨b4,r8,H⟩:=bnd H
         refine dU [0] [ow d f 53 aS F] (U:=Unit) (fun u=>(.tuple #[])) (fun O W u=>b4.length=F.length) (fun u=>[ow d f 53 aS b4]) Z (aH Z aY) (fun _=>Z) (wn Z) Z Tryz.call88 (aj Z (aj Z (aj Z (aj Z (aj Z aJ))))) (fun W hW hp hE=>hrec F d f g (bF ((bF (g+p2))-j)) p3 kL ((hW.gL hp).r _ hb0) ((hW.gL hp).cells hb0 hc0) b4 r8 hE) ?_
         intro w u s0 hu
         have h3:=hu
         replace leB:=leB.trans s0
         have a9:b4.length=F.length:=h3 --@phi
         have s3:bZ d b4.length f:=by rw[a9];exact o4
         have g5:=a9.trans d8
         show Tr _ _ (uf _ 219 (.tuple #[])) (up _ 0 (ow d f 53 aS b4)) _
         refine Tr.vD (lf:=[(0,sL d b4 f),(3,iv p3),(4,.func (.func 15) #[] #[pV kL]),(18,iv g),(24,iv (bF ((bF (g+p2))-j))),(213,bV ((decide (g<(bF ((bF (g+p2))-j))))&&(decide ((bF ((bF (g+p2))-j))<p3)))),(214,sL d b4 f),(215,iv g),(216,iv (bF ((bF (g+p2))-j))),(217,iv p3),(218,.func (.func 15) #[] #[pV kL]),(219,(.tuple #[]))]) (le:=[(0,ow d f 53 aS b4)]) (.cons (dM Z (by unfold sL;rw[a9])) (.cons Z (.cons Z (.cons Z (.cons Z (.cons Z (.cons (dM Z (by unfold sL;rw[a9])) (.r Z)))))))) (.r Z) (ae (og ?_))
         obtain rfl:=oI H
         exact Tr.out (m:=[]) [] bL (fun W hW=>⟨w,(),leB,Z,g5,hW.pick (ks:=[0]) (by decide) (aH Z aY)⟩)
        ·refine aO (og ?_)
         obtain rfl:=oI H
         exact Tr.out (m:=[]) [] bL (fun W hW=>⟨w,(),leB,Z,d8,hW.pick (ks:=[0]) (by decide) (aH Z aY)⟩)
theorem jg:∀(N:Nat) {w:Bs} (p0:(List dO)) (a:Option Addr) (b:Nat) (p1:Int) (p2:Int) (p3:Int) (kL:Nat) (hb0:w.R kL) (hc0:aI w.W kL 0 [.func (.func 13) #[] #[]]) (r:(List dO)) (H:bQ N p0 p1 p2 p3=some r) (hE:HF w w.W (ig [ow a b 53 aS p0])),Calls Tryz.prog 88 [sL a p0 b,iv p1,iv p2,iv p3,.func (.func 15) #[] #[pV kL]].toArray w.W fun e W'=>∃(w':Bs) (u:Unit),w.Le w'∧e= .returned (.tuple #[])∧(r.length=p0.length)∧HF w' W' (ig [ow a b 53 aS r])
 |0=>by intros;rename_i H _;cases H
 |N+1=>oQ N (bQ N) (jg N)

theorem qo(N:Nat){w:Bs}(p0:(List dO))(a:Option Addr)(b:Nat)(p1:Int)(kL:Nat)(hb0:w.R kL)(hc0:aI w.W kL 0 [.func (.func 13) #[] #[]])(r:(List dO))(H:iD N p0 p1=some r)(hE:HF w w.W (ig [ow a b 53 aS p0])):Calls Tryz.prog 43 [sL a p0 b,iv p1,.func (.func 15) #[] #[pV kL]].toArray w.W fun e W'=>∃(w':Bs) (u:Unit),w.Le w'∧e= .returned (.tuple #[])∧(r.length=p0.length)∧HF w' W' (ig [ow a b 53 aS r]):=by
 unfold iD at H
 have D:=(hE.sl (k:=0) Z).form
 have leB:=Bs.Le.refl w
 refine aZ (n:=63) Tryz.func43 Z Z Z hE (ai (Tr.k Z (ae (aa (ai (aA Z (Tr.k Z (Tr.k Z (ae (aa (av (Tr.block (cB (σ:=(List dO)×Int×Int) (fun m w s=>dK N p1 m s.1 s.2.1 s.2.2=some r∧s.1.length=p0.length) (fun s=>[(0,sL a s.1 b),(1,iv p1),(2,.func (.func 15) #[] #[pV kL]),(6,iv 20),(7,iv s.2.1),(8,iv s.2.2)]) (fun s=>[(0,ow a b 53 aS s.1)]) N (p0,0,20) ⟨H,Z⟩ (.r Z) (.r Z) (fun _ _ h=>jZ (h.1)) ?_)))))))))))))
 intro w J b8 s hs
 obtain⟨g,B,i⟩:=s
 obtain⟨H,F⟩:=hs
 replace H:dK N p1 (b8+1) g B i=some r:=H
 replace hc0:=J.ext.cells hb0 hc0
 replace hb0:=J.r _ hb0
 replace leB:=leB.trans J
 replace F:g.length=p0.length:=F
 have S:bZ a g.length b:=(by rw[F];exact D)
 rw[dK.eq_2] at H
 dsimp only
 refine av (ai (aA Z (aA Z (aC pQ Z Z (ae (aa (aP Z H (fun H=>?_) (fun H=>?_))))))))
 ·refine aO (aa (Tr.block (ai (aA Z (aA Z (aA Z (aA Z ?_)))))))
  obtain⟨v,a7,H⟩:=bnd H
  refine dU [0] [ow a b 53 aS g] (U:=Unit) (fun u=>(.tuple #[])) (fun O W u=>v.length=g.length) (fun u=>[ow a b 53 aS v]) Z (aH Z aY) (fun _=>Z) (wn Z) Z Tryz.call87 (aj Z (aj Z (aj Z (aj Z aJ)))) (fun W hW hp hE=>jX N g a b B i kL ((hW.gL hp).r _ hb0) ((hW.gL hp).cells hb0 hc0) v a7 hE) ?_
  intro w u a8 hu
  have a2:=hu
  replace J:=J.trans a8
  have l:v.length=g.length:=a2 --@phi
  have b4:bZ a v.length b:=by rw[l];exact S
  have T:=l.trans F
  show Tr _ _ (uf _ 18 (.tuple #[])) (up _ 0 (ow a b 53 aS v)) _
  exact Tr.vD (lf:=[(0,sL a v b),(1,iv p1),(2,.func (.func 15) #[] #[pV kL]),(6,iv 20),(7,iv B),(8,iv i),(11,iv i),(12,iv p1),(13,bV (decide (i≤p1))),(14,sL a v b),(15,iv B),(16,iv i),(17,.func (.func 15) #[] #[pV kL]),(18,(.tuple #[]))]) (le:=[(0,ow a b 53 aS v)]) (.cons (dM Z (by unfold sL;rw[l])) (.cons Z (.cons Z (.cons Z (.cons Z (.cons Z (.cons Z (.cons Z (.cons Z (.cons (dM Z (by unfold sL;rw[l])) (.r Z))))))))))) (.r Z) (ae (aa (ai (aA Z (Tr.k Z (ae (aa (aM (aA Z (aA Z (aC bz Z Z (Tr.k Z (ae (aL (aF J (v,i,(bF (i+20))) ⟨H,T⟩ (.r Z) (.r Z))))))))))))))))
 ·refine cz (aD (aD (aU (aa (ai (aA Z (aA Z (aA Z (aA Z ?_)))))))))
  obtain⟨y,a9,H⟩:=bnd H
  refine dU [0] [ow a b 53 aS g] (U:=Unit) (fun u=>(.tuple #[])) (fun O W u=>y.length=g.length) (fun u=>[ow a b 53 aS y]) Z (aH Z aY) (fun _=>Z) (wn Z) Z Tryz.call87 (aj Z (aj Z (aj Z (aj Z aJ)))) (fun W hW hp hE=>jX N g a b B p1 kL ((hW.gL hp).r _ hb0) ((hW.gL hp).cells hb0 hc0) y a9 hE) ?_
  intro w u Q hu
  have a3:=hu
  replace hc0:=Q.ext.cells hb0 hc0
  replace hb0:=Q.r _ hb0
  replace leB:=leB.trans Q
  have o:y.length=g.length:=a3 --@phi
  have b5:bZ a y.length b:=by rw[o];exact S
  have V:=o.trans F
  show Tr _ _ (uf _ 27 (.tuple #[])) (up _ 0 (ow a b 53 aS y)) _
  refine Tr.vD (lf:=[(0,sL a y b),(1,iv p1),(2,.func (.func 15) #[] #[pV kL]),(6,iv 20),(7,iv B),(8,iv i),(11,iv i),(12,iv p1),(13,bV (decide (i≤p1))),(23,sL a y b),(24,iv B),(25,iv p1),(26,.func (.func 15) #[] #[pV kL]),(27,(.tuple #[]))]) (le:=[(0,ow a b 53 aS y)]) (.cons (dM Z (by unfold sL;rw[o])) (.cons Z (.cons Z (.cons Z (.cons Z (.cons Z (.cons Z (.cons Z (.cons Z (.cons (dM Z (by unfold sL;rw[o])) (.r Z))))))))))) (.r Z) (ae (aa (Tr.block (cB (σ:=(List dO)×Int) (fun m w s=>bI N p1 m s.1 s.2=some r∧s.1.length=p0.length) (fun s=>[(0,sL a s.1 b),(1,iv p1),(2,.func (.func 15) #[] #[pV kL]),(6,iv s.2)]) (fun s=>[(0,ow a b 53 aS s.1)]) N (y,20) ⟨H,V⟩ (.r Z) (.r Z) (fun _ _ h=>jZ (h.1)) ?_))))
  intro w C X s hs
  obtain⟨K,c⟩:=s
  obtain⟨H,G⟩:=hs
  replace H:bI N p1 (X+1) K c=some r:=H
  replace hc0:=C.ext.cells hb0 hc0
  replace hb0:=C.r _ hb0
  replace leB:=leB.trans C
  replace G:K.length=p0.length:=G
  have b9:bZ a K.length b:=(by rw[G];exact D)
  rw[bI.eq_2] at H
  dsimp only
  refine av (ai (aA Z (aA Z (aC bv Z Z (ae (aa (aP Z H (fun H=>?_) (fun H=>?_))))))))
  ·refine aO (aa (Tr.block (ai (aA Z (aC wX Z Z (Tr.k Z (Tr.k Z (ae (aa (av (Tr.block (cB (σ:=(List dO)×Int×Int) (fun m w s=>dJ N p1 c (bI N p1 X) m s.1 s.2.1 s.2.2=some r∧s.1.length=p0.length) (fun s=>[(0,sL a s.1 b),(1,iv p1),(2,.func (.func 15) #[] #[pV kL]),(6,iv c),(7,iv s.2.1),(8,iv s.2.2)]) (fun s=>[(0,ow a b 53 aS s.1)]) N (K,0,(bF (2*c))) ⟨H,G⟩ (.r Z) (.r Z) (fun _ _ h=>jZ (h.1)) ?_))))))))))))
   intro w L c0 s hs
   obtain⟨f,d,j⟩:=s
   obtain⟨H,E⟩:=hs
   replace H:dJ N p1 c (bI N p1 X) (c0+1) f d j=some r:=H
   replace hc0:=L.ext.cells hb0 hc0
   replace hb0:=L.r _ hb0
   replace C:=C.trans L
   replace E:f.length=p0.length:=E
   have a':bZ a f.length b:=(by rw[E];exact D)
   rw[dJ.eq_2] at H
   dsimp only
   refine av (ai (aA Z (aA Z (aC pQ Z Z (ae (aa (aP Z H (fun H=>?_) (fun H=>?_))))))))
   ·refine aO (aa (Tr.block (ai (aA Z (aA Z (aA Z (aA Z (aC bz Z Z (aA Z (aA Z ?_))))))))))
    obtain⟨z,b0,H⟩:=bnd H
    refine dU [0] [ow a b 53 aS f] (U:=Unit) (fun u=>(.tuple #[])) (fun O W u=>z.length=f.length) (fun u=>[ow a b 53 aS z]) Z (aH Z aY) (fun _=>Z) (wn Z) Z Tryz.call88 (aj Z (aj Z (aj Z (aj Z (aj Z aJ))))) (fun W hW hp hE=>jg N f a b d (bF (d+c)) j kL ((hW.gL hp).r _ hb0) ((hW.gL hp).cells hb0 hc0) z b0 hE) ?_
    intro w u b1 hu
    have a4:=hu
    replace L:=L.trans b1
    have q:z.length=f.length:=a4 --@phi
    have b6:bZ a z.length b:=by rw[q];exact a'
    have a0:=q.trans E
    show Tr _ _ (uf _ 43 (.tuple #[])) (up _ 0 (ow a b 53 aS z)) _
    exact Tr.vD (lf:=[(0,sL a z b),(1,iv p1),(2,.func (.func 15) #[] #[pV kL]),(6,iv c),(7,iv d),(8,iv j),(33,iv j),(34,iv p1),(35,bV (decide (j≤p1))),(36,sL a z b),(37,iv d),(38,iv d),(39,iv c),(40,iv (bF (d+c))),(41,iv j),(42,.func (.func 15) #[] #[pV kL]),(43,(.tuple #[]))]) (le:=[(0,ow a b 53 aS z)]) (.cons (dM Z (by unfold sL;rw[q])) (.cons Z (.cons Z (.cons Z (.cons Z (.cons Z (.cons Z (.cons Z (.cons Z (.cons (dM Z (by unfold sL;rw[q])) (.r Z))))))))))) (.r Z) (ae (aa (ai (aA Z (Tr.k Z (ae (aa (aM (aA Z (aA Z (aC wX Z Z (aC bz Z Z (Tr.k Z (ae (aL (aF L (z,j,(bF (j+(bF (2*c))))) ⟨H,a0⟩ (.r Z) (.r Z)))))))))))))))))
   ·refine cz (aD (aD (aU (aa ?_))))
    have I:=Bs.Le.refl w
    refine kZ (σ:=(List dO)) (fun w s=>dL c (bI N p1 X) s=some r∧s.length=p0.length) (fun s=>[(0,sL a s b),(1,iv p1),(2,.func (.func 15) #[] #[pV kL]),(6,iv c)]) (fun s=>[(0,ow a b 53 aS s)]) ?_ ?_
    ·refine ai (aA Z (aA Z (aC bz Z Z (Tr.k Z (ae (aa (ai (aA Z (aA Z (aC bv Z Z (ae (aa (aP Z H (fun H=>?_) (fun H=>?_))))))))))))))
     ·refine aM (aA Z (aA Z (aA Z (aA Z (aA Z ?_)))))
      obtain⟨A,b2,H⟩:=bnd H
      refine dU [0] [ow a b 53 aS f] (U:=Unit) (fun u=>(.tuple #[])) (fun O W u=>A.length=f.length) (fun u=>[ow a b 53 aS A]) Z (aH Z aY) (fun _=>Z) (wn Z) Z Tryz.call88 (aj Z (aj Z (aj Z (aj Z (aj Z aJ))))) (fun W hW hp hE=>jg N f a b d (bF (d+c)) p1 kL ((hW.gL hp).r _ hb0) ((hW.gL hp).cells hb0 hc0) A b2 hE) ?_
      intro w u b3 hu
      have a5:=hu
      replace I:=I.trans b3
      have t:A.length=f.length:=a5 --@phi
      have b7:bZ a A.length b:=by rw[t];exact a'
      have a1:=t.trans E
      show Tr _ _ (uf _ 60 (.tuple #[])) (up _ 0 (ow a b 53 aS A)) _
      exact Tr.vD (lf:=[(0,sL a A b),(1,iv p1),(2,.func (.func 15) #[] #[pV kL]),(6,iv c),(7,iv d),(8,iv j),(9,iv (bF (d+c))),(33,iv j),(34,iv p1),(35,bV (decide (j≤p1))),(49,iv d),(50,iv c),(51,iv (bF (d+c))),(52,iv (bF (d+c))),(53,iv p1),(54,bV (decide ((bF (d+c))<p1))),(55,sL a A b),(56,iv d),(57,iv (bF (d+c))),(58,iv p1),(59,.func (.func 15) #[] #[pV kL]),(60,(.tuple #[]))]) (le:=[(0,ow a b 53 aS A)]) (.cons (dM Z (by unfold sL;rw[t])) (.cons Z (.cons Z (.cons Z (.cons Z (.cons Z (.cons Z (.cons Z (.cons Z (.cons Z (.cons Z (.cons Z (.cons Z (.cons Z (.cons Z (.cons Z (.cons (dM Z (by unfold sL;rw[t])) (.r Z)))))))))))))))))) (.r Z) (ae (aF I A ⟨H,a1⟩ (.r Z) (.r Z)))
     ·exact aO (aF I f ⟨H,E⟩ (.r Z) (.r Z))
    ·intro w M a6 hs
     obtain⟨H,P⟩:=hs
     replace H:dL c (bI N p1 X) M=some r:=H
     replace C:=C.trans a6
     replace P:M.length=p0.length:=P
     have c3:bZ a M.length b:=(by rw[P];exact D)
     unfold dL at H
     show Tr _ _ (LF [(0,sL a M b),(1,iv p1),(2,.func (.func 15) #[] #[pV kL]),(6,iv c)]) (LE [(0,ow a b 53 aS M)]) _
     exact aM (aA Z (aC wX Z Z (Tr.k Z (ae (aL (aF C (M,(bF (c*2))) ⟨H,P⟩ (.r Z) (.r Z)))))))
  ·refine cz (aD (aD (aU (og ?_))))
   obtain rfl:=oI H
   exact Tr.out (m:=[]) [] bL (fun W hW=>⟨w,(),leB,Z,G,hW.pick (ks:=[0]) (by decide) (aH Z aY)⟩)

theorem pY(N:Nat){w:Bs}(p0:(List dO))(a:Option Addr)(b:Nat)(kL:Nat)(hb0:w.R kL)(hc0:aI w.W kL 0 [.func (.func 13) #[] #[]])(r:(List dO))(H:fC N p0=some r)(hE:HF w w.W (ig [ow a b 53 aS p0])):Calls Tryz.prog 14 [sL a p0 b,.func (.func 15) #[] #[pV kL]].toArray w.W fun e W'=>∃(w':Bs) (u:Unit),w.Le w'∧e= .returned (.tuple #[])∧(r.length=p0.length)∧HF w' W' (ig [ow a b 53 aS r]):=by
 unfold fC at H
 have h:=(hE.sl (k:=0) Z).form
 have leB:=Bs.Le.refl w
 refine aZ (n:=9) Tryz.func14 Z Z Z hE (aM (aA Z (aA Z (aQ (bD QO) Z (aA Z ?_)))))
 obtain⟨d,i,H⟩:=bnd H
 refine dU [0] [ow a b 53 aS p0] (U:=Unit) (fun u=>(.tuple #[])) (fun O W u=>d.length=p0.length) (fun u=>[ow a b 53 aS d]) Z (aH Z aY) (fun _=>Z) (wn Z) Z Tryz.call43 (aj Z (aj Z (aj Z aJ))) (fun W hW hp hE=>qo N p0 a b (p0.length:Int) kL ((hW.gL hp).r _ hb0) ((hW.gL hp).cells hb0 hc0) d i hE) ?_
 intro w u j hu
 have g:=hu
 replace leB:=leB.trans j
 have c:d.length=p0.length:=g --@phi
 have l:bZ a d.length b:=by rw[c];exact h
 have f:=c.trans Z
 show Tr _ _ (uf _ 8 (.tuple #[])) (up _ 0 (ow a b 53 aS d)) _
 refine Tr.vD (lf:=[(0,sL a d b),(1,.func (.func 15) #[] #[pV kL]),(4,sL a d b),(5,sL a d b),(6,iv (p0.length:Int)),(7,.func (.func 15) #[] #[pV kL]),(8,(.tuple #[]))]) (le:=[(0,ow a b 53 aS d)]) (.cons (dM Z (by unfold sL;rw[c])) (.cons Z (.cons (dM Z (by unfold sL;rw[c])) (.cons (dM Z (by unfold sL;rw[c])) (.r Z))))) (.r Z) (ae (og ?_))
 obtain rfl:=oI H
 exact Tr.out (m:=[]) [] bL (fun W hW=>⟨w,(),leB,Z,f,hW.pick (ks:=[0]) (by decide) (aH Z aY)⟩)

end Go.Proofs.YtblmajfbibbiaaaGreatDoor
