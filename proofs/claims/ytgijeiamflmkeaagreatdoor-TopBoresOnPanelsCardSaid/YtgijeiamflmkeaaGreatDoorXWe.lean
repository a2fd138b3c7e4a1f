/- The walks: each function computes its plain function. -/
import Derived.Test.YtgijeiamflmkeaaGreatDoorXWd
namespace Go.Proofs.YtgijeiamflmkeaaGreatDoor
open Go.RowKit
set_option maxRecDepth 100000
set_option maxHeartbeats 1000000
theorem yA(N:Nat){w:Bs}(p0:(List bz))(v:Option Addr)(z:Nat)(c6:Sl w.O w.W aW v z p0)(p1:(List bz))(A:Option Addr)(B:Nat)(c7:Sl w.O w.W aW A B p1)(p2:Bool→Bool→Option Bool)(fid2:Nat)(o:List Value)(hg2:∀args W,(callFunc fid2 args).run Tryz.prog W= .ok (.enter fid2 args) W)(hf2:∀(w':Bs),w.Ext w'→∀(z0:Bool) (z1:Bool),∀y,p2 z0 z1=some y→Calls Tryz.prog fid2 (([bV z0,bV z1]:List Value)++o).toArray w'.W fun e W''=>e= .returned (bV y)∧HF w' W'' E0)(r:(List bz))(H:qL N p0 p1 p2=some r)(hE:HF w w.W (mF [emp])):Calls Tryz.prog 85 [sL v p0 z,sL A p1 B,.func (.func fid2) #[] o.toArray].toArray w.W fun e W'=>∃(w':Bs) (u:(Option Addr×Nat)),w.Le w'∧e= .returned (sL u.1 r u.2)∧(fQ u.1 r.length u.2)∧HF w' W' (mF [ow u.1 u.2 121 aW r]):=by
 unfold qL at H
 have leB:=Bs.Le.refl w
 refine aX (n:=126) Tryz.func85 Z Z Z hE (aj (Tr.k Z (bY 1 121 aW ?_)))
 show Tr _ _ (uf _ 6 (sL none (([]:List bz)) 0)) _ _
 refine ae (aa (aj (Tr.k Z (bY 2 121 aW ?_))))
 show Tr _ _ (uf _ 7 (sL none (([]:List bz)) 0)) _ _
 refine ae (aa (az (aj (aA Z (aD (bA ve) Z (aA Z (aD (bA ve) Z (av bE Z Z (av dM Z Z (ae (aa (aN Z H (fun H=>?_) (fun H=>?_)))))))))))))
 ·refine aj (Tr.k Z (bY 3 121 aW ?_))
  show Tr _ _ (uf _ 6 (sL none (([]:List bz)) 0)) _ _
  refine ae (aa (aJ (ai ?_)))
  obtain rfl:=oI H
  exact bR (m:=[sL none (([]:List bz)) 0]) [] (bu Z bG) (fun W hW=>⟨w,(none,0),leB,Z,fP,hW.pick (ks:=[3]) (by decide) (bn Z bO)⟩)
 ·refine aM (aa (aj (Tr.k Z (Tr.k Z (ae (aa (az (aj (aA Z (aA Z (fK 4 (e:=71) (vs:=[(0,sL v p0 z),(1,sL A p1 B)]) (cs:=[sL v p0 z,sL A p1 B]) (wn Z) Z (bQ Z (bQ Z dR)) (by kernel_rfl) fun g5=>(aD (bA QI) Z (aA Z (ae (aa (Tr.block (Tr.own 4 fV [p0,p1] (css:=[[sL v p0 z],[sL A p1 B]]) Z (.cons ⟨(v,z),c6,Z⟩ (.cons ⟨(A,B),c7,Z⟩ .nil)) Z (by decide) (Bv Z) (II 4 9 Z Z Z (cO (σ:=Int×Int×(List (List bz))×Int×(Option Addr)×Nat) (fun m w s=>ek N p0 p1 p2 m s.1 s.2.1 s.2.2.1 s.2.2.2.1=some r∧fQ s.2.2.2.2.1 s.2.2.1.length s.2.2.2.2.2) (fun s=>[(0,sL v p0 z),(1,sL A p1 B),(2,.func (.func fid2) #[] o.toArray),(7,sL none (([]:List bz)) 0),(8,iv s.1),(9,iv s.2.1),(25,sL s.2.2.2.2.1 s.2.2.1 s.2.2.2.2.2),(26,iv 2),(27,iv s.2.2.2.1)]) (fun s=>[(2,ow none 0 121 aW ([]:List bz)),(9,ow s.2.2.2.2.1 s.2.2.2.2.2 71 fV s.2.2.1)]) N (0,0,[p0,p1],0,(some ⟨g5,0,none⟩),2) ⟨H,(RN g5 Z)⟩ (.r Z) (.r Z) (fun _ _ h=>oq (h.1)) ?_)))))))))))))))))))
  intro w a7 g6 s hs
  obtain⟨b5,g,E,L,C,D⟩:=s
  obtain⟨H,b6⟩:=hs
  replace H:ek N p0 p1 p2 (g6+1) b5 g E L=some r:=H
  replace c6:=c6.le a7
  replace c7:=c7.le a7
  replace hf2:=fun w' he=>hf2 w' (a7.ext.trans he)
  replace leB:=leB.trans a7
  replace b6:fQ C E.length D:=b6
  rw[ek.eq_2] at H
  dsimp only
  refine aj (av bi Z Z (ae (aa (az (aN Z H (fun H=>?_) (fun H=>?_))))))
  ·refine aM (aa (az (Tr.block (aj (aA Z ?_)))))
   obtain⟨X,j6,H⟩:=bnd H
   obtain⟨g7,g8,g9⟩:=bJ j6
   refine aC Z (fun _ _ a c=>aB NZ (a.ev Z) b6 (a.ev Z) g7 g8) (U4 (U:=(fV).Ad) (fun u=>(fV).ok w.O w.W u X) (fun u=>(sL u.1 X u.2)) (wn Z) Z (YA (κ:=9) (t:=fV) (V:=fun u=>(sL u.1 X u.2)) Z g9 (fun _ _ u a hc=>ah Iw (a.ev Z) hc Z)) ?_)
   intro l3 f4
   obtain⟨q,Q⟩:=l3
   have f:=f4
   replace f:Sl w.O w.W aW q Q X:=f
   dsimp only
   refine Tr.k Z (Tr.k Z (ae (aa (aj (aA Z (aD (bA ve) Z (av dE Z Z (ae (aa (aN Z H (fun H=>?_) (fun H=>?_)))))))))))
   ·have e6:=Bs.Le.refl w
    refine pz (σ:=Int×Int) (fun w s=>lv E L (ek N p0 p1 p2 g6) X s.1 s.2=some r) (fun s=>[(0,sL v p0 z),(1,sL A p1 B),(2,.func (.func fid2) #[] o.toArray),(7,sL none (([]:List bz)) 0),(8,iv s.1),(9,iv s.2),(11,sL q X Q),(25,sL C E D),(26,iv 2),(27,iv L)]) (fun s=>[(2,ow none 0 121 aW ([]:List bz)),(9,ow C D 71 fV E)]) ?_ ?_
    ·refine aj (aA Z (av dM Z Z (aA Z (bM 4 [(0,sL v p0 z),(1,sL A p1 B),(2,.func (.func fid2) #[] o.toArray),(7,sL none (([]:List bz)) 0),(8,iv b5),(9,iv g),(11,sL q X Q),(25,sL C E D),(26,iv 2),(27,iv L),(41,bV ((L==0)||((p0.length:Int)==0)))] [(2,ow none 0 121 aW ([]:List bz)),(9,ow C D 71 fV E)] ?_ ?_))))
     ·cases o2:(L==0)
      ·exact bC run_move Z (bC (bA ve) Z (dI dM Z Z (av aU Z Z (ae (aR (.r Z) (.r Z))))))
      ·exact aG Z (aG Z (aG Z (av aT Z Z (ae (aR (.r Z) (.r Z))))))
     ·show Tr _ _ (LF [(0,sL v p0 z),(1,sL A p1 B),(2,.func (.func fid2) #[] o.toArray),(7,sL none (([]:List bz)) 0),(8,iv b5),(9,iv g),(11,sL q X Q),(25,sL C E D),(26,iv 2),(27,iv L),(41,bV ((L==0)||((p0.length:Int)==0)))]) (LE [(2,ow none 0 121 aW ([]:List bz)),(9,ow C D 71 fV E)]) _
      refine ae (aa (aN Z H (fun H=>?_) (fun H=>?_)))
      ·refine fZ (by kernel_rfl) (by kernel_rfl) (dY Z ?_)
       obtain⟨l4,j7,H⟩:=bnd H
       obtain⟨h0,h1,h2⟩:=bJ j7
       obtain⟨l5,d1,f5,h3⟩:=(f).el h2
       obtain⟨m9,n0⟩:=l5
       have k7:=f5
       replace d1:w.R (rM q):=Or.inl d1
       refine bL Z (fun _ _ a c=>aB rY (a.ev Z) f.form (a.ev Z) h0 h1) (dD (ag vw) Z (bL Z (fun _ _ a c=>ah bF (a.ev Z) (aI.drop (tY d1 h3 c) 0) Z) (dY Z (dY Z (dD (bA ve) Z (dL gH Z Z ?_))))))
       obtain⟨l6,j8,H⟩:=bnd H
       obtain⟨h4,h5,h6⟩:=bJ j8
       obtain⟨l7,d2,f6,h7⟩:=(f).el h6
       obtain⟨n1,n2⟩:=l7
       have k8:=f6
       replace d2:w.R (rM q):=Or.inl d2
       exact bL Z (fun _ _ a c=>aB rY (a.ev Z) f.form (a.ev Z) h4 h5) (dD (ag q9) Z (bL Z (fun _ _ a c=>ah bF (a.ev Z) (aI.drop (tY d2 h7 c) 1) Z) (jB Z Z (jB Z Z (gz (aP e6 (l4.Y0,l6.Y1) H (.r Z) (.r Z)))))))
      ·exact aM (aP e6 (b5,g) H (.r Z) (.r Z))
    ·intro w s d3 hs
     obtain⟨e8,e9⟩:=s
     have H:=hs
     replace H:lv E L (ek N p0 p1 p2 g6) X e8 e9=some r:=H
     replace hf2:=fun w' he=>hf2 w' (d3.ext.trans he)
     replace f:=f.le d3
     replace a7:=a7.trans d3
     unfold lv at H
     dsimp only
     refine fZ (by kernel_rfl) (by kernel_rfl) (dY Z (dY Z ?_))
     obtain⟨l8,j9,H⟩:=bnd H
     obtain⟨h8,h9,i0⟩:=bJ j9
     obtain⟨l9,d4,f7,i1⟩:=(f).el i0
     obtain⟨n3,n4⟩:=l9
     have k9:=f7
     replace d4:w.R (rM q):=Or.inl d4
     refine bL Z (fun _ _ a c=>aB rY (a.ev Z) f.form (a.ev Z) h8 h9) (dD (ag vw) Z (bL Z (fun _ _ a c=>ah bF (a.ev Z) (aI.drop (tY d4 i1 c) 0) Z) (bL Z (fun _ _ a c=>xe (a.ev Z) (a.ev Z) _) (dY Z (dY Z (dY Z (dD (bA ve) Z (dL gH Z Z ?_))))))))
     obtain⟨m0,k0,H⟩:=bnd H
     obtain⟨i2,i3,i4⟩:=bJ k0
     obtain⟨m1,d5,f8,i5⟩:=(f).el i4
     obtain⟨n5,n6⟩:=m1
     have l0:=f8
     replace d5:w.R (rM q):=Or.inl d5
     exact bL Z (fun _ _ a c=>aB rY (a.ev Z) f.form (a.ev Z) i2 i3) (dD (ag q9) Z (bL Z (fun _ _ a c=>ah bF (a.ev Z) (aI.drop (tY d5 i5 c) 1) Z) (bL Z (fun _ _ a c=>xg (a.ev Z) (a.ev Z) _) (jB Z Z (jB Z Z (gz (aQ (aa (aV (av bE Z Z (aA Z (ae (aP a7 ((min e8 l8.Y0),(max e9 m0.Y1),E,(bP (L+1)),C,D) ⟨H,b6⟩ (.r Z) (.r Z))))))))))))))
   ·exact aM (aQ (aa (aV (av bE Z Z (aA Z (ae (aP a7 (b5,g,E,(bP (L+1)),C,D) ⟨H,b6⟩ (.r Z) (.r Z))))))))
  ·refine bZ (aF (aF (bg (aa (az (Tr.block (cO (σ:=(List bz)×(List bz)×(List bz)×Int×(Option Addr)×Nat×(Option Addr)×Nat×(Option Addr)×Nat) (fun m w s=>gT N p2 g m s.1 s.2.1 s.2.2.1 s.2.2.2.1=some r∧Sl w.O w.W aW s.2.2.2.2.1 s.2.2.2.2.2.1 s.1∧Sl w.O w.W aW s.2.2.2.2.2.2.1 s.2.2.2.2.2.2.2.1 s.2.1∧fQ s.2.2.2.2.2.2.2.2.1 s.2.2.1.length s.2.2.2.2.2.2.2.2.2) (fun s=>[(0,sL s.2.2.2.2.1 s.1 s.2.2.2.2.2.1),(1,sL s.2.2.2.2.2.2.1 s.2.1 s.2.2.2.2.2.2.2.1),(2,.func (.func fid2) #[] o.toArray),(7,sL s.2.2.2.2.2.2.2.2.1 s.2.2.1 s.2.2.2.2.2.2.2.2.2),(8,iv s.2.2.2.1),(9,iv g)]) (fun s=>[(2,ow s.2.2.2.2.2.2.2.2.1 s.2.2.2.2.2.2.2.2.2 121 aW s.2.2.1)]) N (p0,p1,([]:List bz),b5,v,z,A,B,none,0) ⟨H,c6,c7,fP⟩ (.r Z) (.r Z) (fun _ _ h=>oq (h.1)) ?_)))))))
   intro w I e7 s hs
   obtain⟨d8,a2,i,p,d9,e0,a4,a5,b,d⟩:=s
   obtain⟨H,e3,b7,e4⟩:=hs
   replace H:gT N p2 g (e7+1) d8 a2 i p=some r:=H
   replace hf2:=fun w' he=>hf2 w' (I.ext.trans he)
   replace leB:=leB.trans I
   replace e3:Sl w.O w.W aW d9 e0 d8:=e3
   replace b7:Sl w.O w.W aW a4 a5 a2:=b7
   replace e4:fQ b i.length d:=e4
   rw[gT.eq_2] at H
   dsimp only
   refine az (aj (aA Z (aA Z (av bi Z Z (ae (aa (aN Z H (fun H=>?_) (fun H=>?_))))))))
   ·refine aM (aa (Tr.block (az (Tr.block (cO (σ:=(List bz)×(Option Addr)×Nat) (fun m w s=>kK N p2 g a2 i p (gT N p2 g e7) m s.1=some r∧Sl w.O w.W aW s.2.1 s.2.2 s.1) (fun s=>[(0,sL s.2.1 s.1 s.2.2),(1,sL a4 a2 a5),(2,.func (.func fid2) #[] o.toArray),(7,sL b i d),(8,iv p),(9,iv g)]) (fun s=>[(2,ow b d 121 aW i)]) N (d8,d9,e0) ⟨H,e3⟩ (.r Z) (.r Z) (fun _ _ h=>oq (h.1)) ?_)))))
    intro w c8 m2 s hs
    obtain⟨K,F,G⟩:=s
    obtain⟨H,j⟩:=hs
    replace H:kK N p2 g a2 i p (gT N p2 g e7) (m2+1) K=some r:=H
    replace b7:=b7.le c8
    replace hf2:=fun w' he=>hf2 w' (c8.ext.trans he)
    replace I:=I.trans c8
    replace j:Sl w.O w.W aW F G K:=j
    rw[kK.eq_2] at H
    dsimp only
    refine az (aj (aA Z (aD (bA ve) Z (av dE Z Z (aA Z ?_)))))
    obtain⟨i6,b0,H⟩:=bnd H
    refine bM 7 [(0,sL F K G),(1,sL a4 a2 a5),(2,.func (.func fid2) #[] o.toArray),(7,sL b i d),(8,iv p),(9,iv g),(82,bV i6)] [(2,ow b d 121 aW i)] ?_ ?_
    ·cases b8:(decide (0<(K.length:Int)))
     ·rw[b8] at b0
      rw[if_neg (by decide)] at b0
      have H:=b0
      obtain rfl:=oI H
      exact aG Z (aG Z (aG Z (aG Z (aG Z (aG Z (av aU Z Z (ae (aR (.r Z) (.r Z)))))))))
     ·rw[b8] at b0
      rw[if_pos Z] at b0
      have H:=b0
      refine bC run_move Z ?_
      obtain⟨o3,k1,H⟩:=bnd H
      obtain⟨i7,i8,i9⟩:=bJ k1
      obtain⟨m3,d6,f9,j0⟩:=(j).el i9
      obtain⟨n7,n8⟩:=m3
      have l1:=f9
      replace d6:w.R (rM F):=Or.inl d6
      refine Tr.x (fun _ _ a c=>aB rY (a.ev Z) j.form (a.ev Z) i7 i8) (bC (ag q9) Z (Tr.x (fun _ _ a c=>ah bF (a.ev Z) (aI.drop (tY d6 j0 c) 1) Z) (bC run_move Z (dI iT Z Z (av aT Z Z ?_)))))
      obtain rfl:=oI H
      exact ae (aR (.r Z) (.r Z))
    ·show Tr _ _ (LF [(0,sL F K G),(1,sL a4 a2 a5),(2,.func (.func fid2) #[] o.toArray),(7,sL b i d),(8,iv p),(9,iv g),(82,bV i6)]) (LE [(2,ow b d 121 aW i)]) _
     refine ae (aa (aN Z H (fun H=>?_) (fun H=>?_)))
     ·refine aM (aa (Tr.block (aV (aA Z ?_))))
      obtain⟨m4,f2,H⟩:=bnd H
      exact aC Z (fun _ _ a c=>Aa rY (a.ev Z) j.form (a.ev Z) f2) (Tr.k Z (ae (aQ (aP c8 (m4,(zb F (1:Int).toNat 3 G),(G-(1:Int).toNat)) ⟨H,(Sl.cut j f2)⟩ (.r Z) (.r Z)))))
     ·refine bZ (aF (aF (bg (aa (az (Tr.block (cO (σ:=(List bz)×(Option Addr)×Nat) (fun m w s=>kJ N p2 g i p (gT N p2 g e7) K m s.1=some r∧Sl w.O w.W aW s.2.1 s.2.2 s.1) (fun s=>[(0,sL F K G),(1,sL s.2.1 s.1 s.2.2),(2,.func (.func fid2) #[] o.toArray),(7,sL b i d),(8,iv p),(9,iv g)]) (fun s=>[(2,ow b d 121 aW i)]) N (a2,a4,a5) ⟨H,b7⟩ (.r Z) (.r Z) (fun _ _ h=>oq (h.1)) ?_)))))))
      intro w c9 m5 s hs
      obtain⟨a8,a0,a1⟩:=s
      obtain⟨H,l⟩:=hs
      replace H:kJ N p2 g i p (gT N p2 g e7) K (m5+1) a8=some r:=H
      replace j:=j.le c9
      replace hf2:=fun w' he=>hf2 w' (c9.ext.trans he)
      replace I:=I.trans c9
      replace l:Sl w.O w.W aW a0 a1 a8:=l
      rw[kJ.eq_2] at H
      dsimp only
      refine az (aj (aA Z (aD (bA ve) Z (av dE Z Z (aA Z ?_)))))
      obtain⟨j1,b1,H⟩:=bnd H
      refine bM 7 [(0,sL F K G),(1,sL a0 a8 a1),(2,.func (.func fid2) #[] o.toArray),(7,sL b i d),(8,iv p),(9,iv g),(95,bV j1)] [(2,ow b d 121 aW i)] ?_ ?_
      ·cases b8:(decide (0<(a8.length:Int)))
       ·rw[b8] at b1
        rw[if_neg (by decide)] at b1
        have H:=b1
        obtain rfl:=oI H
        exact aG Z (aG Z (aG Z (aG Z (aG Z (aG Z (av aU Z Z (ae (aR (.r Z) (.r Z)))))))))
       ·rw[b8] at b1
        rw[if_pos Z] at b1
        have H:=b1
        refine bC run_move Z ?_
        obtain⟨o4,k2,H⟩:=bnd H
        obtain⟨j2,j3,j4⟩:=bJ k2
        obtain⟨m6,d7,g0,j5⟩:=(l).el j4
        obtain⟨n9,o0⟩:=m6
        have l2:=g0
        replace d7:w.R (rM a0):=Or.inl d7
        refine Tr.x (fun _ _ a c=>aB rY (a.ev Z) l.form (a.ev Z) j2 j3) (bC (ag q9) Z (Tr.x (fun _ _ a c=>ah bF (a.ev Z) (aI.drop (tY d7 j5 c) 1) Z) (bC run_move Z (dI iT Z Z (av aT Z Z ?_)))))
        obtain rfl:=oI H
        exact ae (aR (.r Z) (.r Z))
      ·show Tr _ _ (LF [(0,sL F K G),(1,sL a0 a8 a1),(2,.func (.func fid2) #[] o.toArray),(7,sL b i d),(8,iv p),(9,iv g),(95,bV j1)]) (LE [(2,ow b d 121 aW i)]) _
       refine ae (aa (aN Z H (fun H=>?_) (fun H=>?_)))
       ·refine aM (aa (Tr.block (aV (aA Z ?_))))
        obtain⟨m7,f3,H⟩:=bnd H
        exact aC Z (fun _ _ a c=>Aa rY (a.ev Z) l.form (a.ev Z) f3) (Tr.k Z (ae (aQ (aP c9 (m7,(zb a0 (1:Int).toNat 3 a1),(a1-(1:Int).toNat)) ⟨H,(Sl.cut l f3)⟩ (.r Z) (.r Z)))))
       ·refine bZ (aF (aF (bg (aa (aj (aA Z (aA Z (aA Z ?_))))))))
        obtain⟨M,k3,H⟩:=bnd H
        refine jc [] [] (U:=(Option Addr×Nat)) (fun u=>(.tuple #[sL u.1 M.1 u.2,iv M.2])) (fun O W u=>Sl O W cK u.1 u.2 M.1) (fun u=>[]) Z bO (fun _=>Z) (wn Z) Z Tryz.call129 (ak Z (ak Z (ak Z aH))) (fun W hW hp hE=>wO K F G (j.uF (hW.fM hp)) p g M k3 hE) ?_
        intro w u d0 hu
        obtain⟨c0,c3⟩:=u
        have g1:=hu
        replace j:=j.le d0
        replace l:=l.le d0
        replace hf2:=fun w' he=>hf2 w' (d0.ext.trans he)
        replace I:=I.trans d0
        have J:Sl w.O w.W cK c0 c3 M.1:=g1 --@phi
        dsimp only
        refine aA Z (aC Z (fun _ _ a c=>bX (a.ev Z) Z) (aC Z (fun _ _ a c=>bX (a.ev Z) Z) (Tr.k Z (Tr.k Z (ae (aa (aj (aA Z (aA Z (aA Z ?_))))))))))
        obtain⟨P,k4,H⟩:=bnd H
        refine jc [] [] (U:=(Option Addr×Nat)) (fun u=>(.tuple #[sL u.1 P.1 u.2,iv P.2])) (fun O W u=>Sl O W cK u.1 u.2 P.1) (fun u=>[]) Z bO (fun _=>Z) (wn Z) Z Tryz.call129 (ak Z (ak Z (ak Z aH))) (fun W hW hp hE=>wO a8 a0 a1 (l.uF (hW.fM hp)) p g P k4 hE) ?_
        intro w u b9 hu
        obtain⟨c4,c5⟩:=u
        have g2:=hu
        replace j:=j.le b9
        replace l:=l.le b9
        replace hf2:=fun w' he=>hf2 w' (b9.ext.trans he)
        replace J:=J.le b9
        replace I:=I.trans b9
        have a':Sl w.O w.W cK c4 c5 P.1:=g2 --@phi
        dsimp only
        refine aA Z (aC Z (fun _ _ a c=>bX (a.ev Z) Z) (aC Z (fun _ _ a c=>bX (a.ev Z) Z) (Tr.k Z (Tr.k Z (ae (aa (aj (aA Z (aA Z (aC Z (fun _ _ a c=>xe (a.ev Z) (a.ev Z) _) (Tr.k Z (ae (aa (aj (aA Z (aA Z (aA Z (aA Z (aA Z (aA Z ?_))))))))))))))))))))
        obtain⟨a3,k5,H⟩:=bnd H
        refine kz [12] [emp] (U:=(Option Addr×Nat)) (fun u=>(sL u.1 a3 u.2)) (fun u=>fQ u.1 a3.length u.2) (fun u=>[ow u.1 u.2 3 cK a3]) Z (bn Z bO) (fun _=>Z) (wn Z) Z Tryz.call130 (ak Z (ak Z (ak Z aH))) (fun W hW hp hE=>F5 N M.1 c0 c3 (J.rl.ext (hW.fM hp)) P.1 c4 c5 (a'.rl.ext (hW.fM hp)) p2 fid2 o hg2 (fun w' he=>hf2 w' ((hW.fM hp).trans he)) a3 k5 hE) ?_
        intro u hu
        obtain⟨S,T⟩:=u
        have g3:=hu
        have m8:fQ S a3.length T:=g3 --@phi
        dsimp only
        refine gV (vs:=[(0,iv p),(1,iv (min M.2 P.2)),(2,sL S a3 T)]) (cs:=[iv p,iv (min M.2 P.2),sL S a3 T]) (wn Z) Z (bQ Z (bQ Z (bQ Z dR))) (by kernel_rfl) (Tr.freeze 12 Z fun w b2 e5=>?_)
        replace j:=j.le b2
        replace l:=l.le b2
        replace hf2:=fun w' he=>hf2 w' (b2.ext.trans he)
        replace J:=J.le b2
        replace a':=a'.le b2
        replace I:=I.trans b2
        obtain⟨a9,k6,H⟩:=bnd H
        refine jc [2] [ow b d 121 aW i] (U:=(Option Addr×Nat)) (fun u=>(sL u.1 a9 u.2)) (fun O W u=>fQ u.1 a9.length u.2) (fun u=>[ow u.1 u.2 121 aW a9]) Z (bn Z bO) (fun _=>Z) (wn Z) Z Tryz.call43 (ak Z (ak Z aH)) (fun W hW hp hE=>rA i b d (bz.mk p (min M.2 P.2) a3) S T (e5.uF (hW.fM hp)) a9 k6 hE) ?_
        intro w u a6 hu
        obtain⟨b3,b4⟩:=u
        have g4:=hu
        replace j:=j.le a6
        replace l:=l.le a6
        replace hf2:=fun w' he=>hf2 w' (a6.ext.trans he)
        replace J:=J.le a6
        replace a':=a'.le a6
        replace e5:=e5.le a6
        replace I:=I.trans a6
        have f1:fQ b3 a9.length b4:=g4 --@phi
        dsimp only
        exact Tr.k Z (ae (aa (aV (aA Z (Tr.k Z (ae (aQ (aP I (K,a8,a9,(min M.2 P.2),F,G,a0,a1,b3,b4) ⟨H,j,l,f1⟩ (.r Z) (.r Z)))))))))
   ·refine bZ (aF (aF (bg (aa (aj (aA Z (Tr.k Z (ae (aa (aJ ?_))))))))))
    obtain rfl:=oI H
    exact bR (m:=[sL b i d]) [] (bu Z bG) (fun W hW=>⟨w,(b,d),leB,Z,e4,hW.pick (ks:=[2]) (by decide) (bn Z bO)⟩)

theorem zn{w:Bs}(p0:Bool)(p1:Bool)(r:Bool)(H:nI p0 p1=some r)(hE:HF w w.W E0):Calls Tryz.prog 86 [bV p0,bV p1].toArray w.W fun e W'=>e= .returned (bV r)∧HF w W' E0:=by
 unfold nI at H
 have leB:=Bs.Le.refl w
 refine aX (n:=10) Tryz.func86 Z Z Z hE (aj (Tr.k Z (ae (aa (aj (aA Z (aA Z (bM 3 [(9,bV (p0&&(!p1)))] [] ?_ ?_))))))))
 ·cases a:p0
  ·exact aG Z (aG Z (av aU Z Z (ae (aR (.r Z) .nil))))
  ·exact bC run_move Z (bC bT Z (av aT Z Z (ae (aR (.r Z) .nil))))
 ·show Tr _ _ (LF [(9,bV (p0&&(!p1)))]) (LE []) _
  refine Tr.k Z (ae (aa (aJ ?_)))
  obtain rfl:=oI H
  exact bD leB

theorem vF(N:Nat){w:Bs}(p0:(List bz))(d:Option Addr)(f:Nat)(l:Sl w.O w.W aW d f p0)(p1:(List bz))(g:Option Addr)(h:Nat)(o:Sl w.O w.W aW g h p1)(r:(List bz))(H:lJ N p0 p1=some r)(hE:HF w w.W (mF [emp])):Calls Tryz.prog 35 [sL d p0 f,sL g p1 h].toArray w.W fun e W'=>∃(w':Bs) (u:(Option Addr×Nat)),w.Le w'∧e= .returned (sL u.1 r u.2)∧(fQ u.1 r.length u.2)∧HF w' W' (mF [ow u.1 u.2 121 aW r]):=by
 unfold lJ at H
 have leB:=Bs.Le.refl w
 refine aX (n:=8) Tryz.func35 Z Z Z hE (aj (Tr.k Z (bY 1 121 aW ?_)))
 show Tr _ _ (uf _ 4 (sL none (([]:List bz)) 0)) _ _
 refine ae (aa (aj (aA Z (aA Z ?_))))
 obtain⟨c,p,H⟩:=bnd H
 refine jc [2] [emp] (U:=(Option Addr×Nat)) (fun u=>(sL u.1 c u.2)) (fun O W u=>fQ u.1 c.length u.2) (fun u=>[ow u.1 u.2 121 aW c]) Z (bn Z bO) (fun _=>Z) (wn Z) Z Tryz.call85 (ak Z (ak Z (ak Z aH))) (fun W hW hp hE=>yA N p0 d f (l.uF (hW.fM hp)) p1 g h (o.uF (hW.fM hp)) (fun z0 z1=>nI z0 z1) 86 [] Tryz.call86 (fun w' he z0 z1 y hy=>zn z0 z1 y hy (HF.start _)) c p hE) ?_
 intro w u q hu
 obtain⟨a,b⟩:=u
 have j:=hu
 replace leB:=leB.trans q
 have i:fQ a c.length b:=j --@phi
 dsimp only
 refine Tr.k Z (ae (aa (aJ ?_)))
 obtain rfl:=oI H
 exact bR (m:=[sL a c b]) [] (bu Z bG) (fun W hW=>⟨w,(a,b),leB,Z,i,hW.pick (ks:=[2]) (by decide) (bn Z bO)⟩)

theorem AY{w:Bs}(p0:Bool)(p1:Bool)(r:Bool)(H:oO p0 p1=some r)(hE:HF w w.W E0):Calls Tryz.prog 221 [bV p0,bV p1].toArray w.W fun e W'=>e= .returned (bV r)∧HF w W' E0:=by
 unfold oO at H
 have leB:=Bs.Le.refl w
 refine aX (n:=9) Tryz.func221 Z Z Z hE (aj (Tr.k Z (ae (aa (aj (aA Z (aA Z (bM 2 [(8,bV (p0||p1))] [] ?_ ?_))))))))
 ·cases a:p0
  ·exact bC run_move Z (av aU Z Z (ae (aR (.r Z) .nil)))
  ·exact aG Z (av aT Z Z (ae (aR (.r Z) .nil)))
 ·show Tr _ _ (LF [(8,bV (p0||p1))]) (LE []) _
  refine Tr.k Z (ae (aa (aJ ?_)))
  obtain rfl:=oI H
  exact bD leB

theorem CF(N:Nat){w:Bs}(p0:(List bz))(d:Option Addr)(f:Nat)(l:Sl w.O w.W aW d f p0)(p1:(List bz))(g:Option Addr)(h:Nat)(o:Sl w.O w.W aW g h p1)(r:(List bz))(H:oD N p0 p1=some r)(hE:HF w w.W (mF [emp])):Calls Tryz.prog 213 [sL d p0 f,sL g p1 h].toArray w.W fun e W'=>∃(w':Bs) (u:(Option Addr×Nat)),w.Le w'∧e= .returned (sL u.1 r u.2)∧(fQ u.1 r.length u.2)∧HF w' W' (mF [ow u.1 u.2 121 aW r]):=by
 unfold oD at H
 have leB:=Bs.Le.refl w
 refine aX (n:=8) Tryz.func213 Z Z Z hE (aj (Tr.k Z (bY 1 121 aW ?_)))
 show Tr _ _ (uf _ 4 (sL none (([]:List bz)) 0)) _ _
 refine ae (aa (aj (aA Z (aA Z ?_))))
 obtain⟨c,p,H⟩:=bnd H
 refine jc [2] [emp] (U:=(Option Addr×Nat)) (fun u=>(sL u.1 c u.2)) (fun O W u=>fQ u.1 c.length u.2) (fun u=>[ow u.1 u.2 121 aW c]) Z (bn Z bO) (fun _=>Z) (wn Z) Z Tryz.call85 (ak Z (ak Z (ak Z aH))) (fun W hW hp hE=>yA N p0 d f (l.uF (hW.fM hp)) p1 g h (o.uF (hW.fM hp)) (fun z0 z1=>oO z0 z1) 221 [] Tryz.call221 (fun w' he z0 z1 y hy=>AY z0 z1 y hy (HF.start _)) c p hE) ?_
 intro w u q hu
 obtain⟨a,b⟩:=u
 have j:=hu
 replace leB:=leB.trans q
 have i:fQ a c.length b:=j --@phi
 dsimp only
 refine Tr.k Z (ae (aa (aJ ?_)))
 obtain rfl:=oI H
 exact bR (m:=[sL a c b]) [] (bu Z bG) (fun W hW=>⟨w,(a,b),leB,Z,i,hW.pick (ks:=[2]) (by decide) (bn Z bO)⟩)

theorem vE{w:Bs}(p0:(List bz))(l:Option Addr)(o:Nat)(j:Sl w.R w.W aW l o p0)(r:Int)(H:oP p0=some r)(hE:HF w w.W E0):Calls Tryz.prog 202 [sL l p0 o].toArray w.W fun e W'=>e= .returned (iv r)∧HF w W' E0:=by
 unfold oP at H
 have leB:=Bs.Le.refl w
 refine aX (n:=20) Tryz.func202 Z Z Z hE (aj (Tr.k Z (ae (aa (aj (Tr.k Z (ae (aa (az (aj (aA Z (aD (bA ve) Z (aA Z (ae (aa (Tr.block (cO (σ:=(List bz)×Nat×Int) (fun m w s=>m=s.1.length+1∧s.1=List.drop s.2.1 p0∧s.2.1≤p0.length∧iF s.1 s.2.1 s.2.2=some r) (fun s=>[(3,iv s.2.2),(6,sL l p0 o),(7,iv (p0.length:Int)),(8,iv (s.2.1:Int))]) (fun s=>[]) (p0.length+1) (p0,0,0) ⟨Z,Z,Nat.zero_le _,H⟩ (.r Z) .nil (fun _ _ h=>absurd h.1 (by simp)) ?_)))))))))))))))))
 intro w p m s hs
 obtain⟨b,u,q⟩:=s
 obtain⟨t,f,D,H⟩:=hs
 replace f:b=List.drop u p0:=f
 replace H:iF b u q=some r:=H
 replace t:m+1=b.length+1:=t
 replace j:=j.iR p
 replace leB:=leB.trans p
 obtain rfl:m=b.length:=by omega
 clear t
 dsimp only
 cases b with
 |nil=>
  rw[iF.eq_1] at H
  refine aj (av bi Z Z (ae (aa (az (dn Z (cz f) (bZ (aF (aF (bg (aa (aj (aA Z (Tr.k Z (ae (aa (aJ ?_))))))))))))))))
  obtain rfl:=oI H
  exact bD leB
 |cons d b=>
  rw[iF.eq_2] at H
  refine aj (av bi Z Z (ae (aa (az (dm Z (dz f) (aM (aa (az (Tr.block (aj ?_))))))))))
  obtain⟨C,y,v,A⟩:=(j).el (dA f)
  obtain⟨g,i⟩:=C
  have B:=v
  exact aC Z (fun _ _ a c=>aB rY (a.ev Z) j.form (a.ev Z) (Int.natCast_nonneg _) (bq f)) (aC Z (fun _ _ a c=>aL (cs:=[iv d.Y0,iv d.Y1,sL g d.Xs i]) K3 zV (a.ev Z) (aI.take (tY y A c) 3) Z) (Tr.alloc 3 (wn Z) Z Nq fun E=>(bv 3 (cs:=[iv d.Y0,iv d.Y1,sL g d.Xs i]) [iv d.Y0,iv d.Y1,sL g d.Xs i] (wn Z) Z Z Z Z zV Z Z Z (ae (aa (aV (aA Z (aD (ag pJ) Z (aC Z (fun _ _ a c=>ah o7 (a.ev Z) (bN c (vs:=[iv d.Y0,iv d.Y1,sL g d.Xs i]) (k:=3) Z 2) Z) (aD (bA ni) Z (aC Z (fun _ _ a c=>OC (a.ev Z) (a.ev Z) (by decide)) (av bE Z Z (Tr.k Z (ae (aQ (aa (aV (av bE Z Z (aA Z (ae (aP p (b,(u+1),(bP (q+(bP (Int.tdiv (d.Xs.length:Int) 2))))) ⟨Z,df f,bq f,H⟩ (.cons Z (.cons Z (.cons Z (.cons (congrArg (fun z=>some (Value.int .i64 z)) (cZ f j.form)) .nil)))) .nil)))))))))))))))))))))

theorem p8(N:Nat){w:Bs}(p0:di)(d:Option Addr)(f:Nat)(a9:Sl w.R w.W cB d f p0.p.Tools)(g:Option Addr)(h:Nat)(b0:Sl w.R w.W bH g h p0.p.Steps)(i:Option Addr)(j:Nat)(b1:Sl w.R w.W fV i j p0.tools)(v:Option Addr)(y:Nat)(J:Nat)(p1:(List bz))(E:Option Addr)(F:Nat)(B:Sl w.O w.W aW E F p1)(r:(Int×(List bz)))(H:jR N p0 p1=some r)(hE:HF w w.W (mF [bx J #[iv p0.p.Unit,sL d p0.p.Tools f,sL g p0.p.Steps h,sL i p0.tools j,sL v p0.image y,bV p0.clear,iv p0.tool,iv p0.place.X,iv p0.place.Y,bV p0.placed,iv p0.off,iv p0.on] 108,ow v y 121 aW p0.image])):Calls Tryz.prog 199 [pV J,sL E p1 F].toArray w.W fun e W'=>∃(w':Bs) (u:(Option Addr×Nat)),w.Le w'∧e= .returned (iv r.1)∧(fQ u.1 r.2.length u.2)∧HF w' W' (mF [bx J #[iv p0.p.Unit,sL d p0.p.Tools f,sL g p0.p.Steps h,sL i p0.tools j,sL u.1 r.2 u.2,bV p0.clear,iv p0.tool,iv p0.place.X,iv p0.place.Y,bV p0.placed,iv p0.off,iv p0.on] 108,ow u.1 u.2 121 aW r.2]):=by
 unfold jR at H
 have a':=(hE.sl (k:=1) Z).form
 have leB:=Bs.Le.refl w
 refine aX (n:=38) Tryz.func199 Z Z Z hE (aj (Tr.k Z (ae (aa ?_))))
 have b:=Bs.Le.refl w
 refine pz (σ:=(List bz)×(Option Addr)×Nat) (fun w s=>jg s.1=some r∧fQ s.2.1 s.1.length s.2.2) (fun s=>[(0,pV J)]) (fun s=>[(0,bx J #[iv p0.p.Unit,sL d p0.p.Tools f,sL g p0.p.Steps h,sL i p0.tools j,sL s.2.1 s.1 s.2.2,bV p0.clear,iv p0.tool,iv p0.place.X,iv p0.place.Y,bV p0.placed,iv p0.off,iv p0.on] 108),(4,ow s.2.1 s.2.2 121 aW s.1)]) ?_ ?_
 ·refine Tr.block (aj (aA Z ?_))
  obtain⟨a2,a5,H⟩:=bnd H
  refine aS (r:=(bV a2)) (wn Z) Z Tryz.call212 (ak Z aH) (fun W hW=>AZ p1 E F (B.rl.ext hW.aY) a2 a5 (HF.start _)) (aD bT Z (Tr.k Z (ae (aa (aN Z H (fun H=>?_) (fun H=>?_))))))
  ·refine aj (Tr.k Z (ae (aa (aJ (au (ai ?_))))))
   obtain rfl:=oI H
   exact bR (m:=[iv 1]) [] (bu Z bG) (fun W hW=>⟨w,(v,y),leB,Z,a',hW.pick (ks:=[0,1]) (by decide) (bn Z (bn Z bO))⟩)
  ·refine aj (aA Z (aD cu Z (aD (ag Mo) Z (aC Z (fun _ _ a c=>ah BG (a.ev Z) (bN c (vs:=[iv p0.p.Unit,sL d p0.p.Tools f,sL g p0.p.Steps h,sL i p0.tools j,sL v p0.image y,bV p0.clear,iv p0.tool,iv p0.place.X,iv p0.place.Y,bV p0.placed,iv p0.off,iv p0.on]) (k:=0) Z 5) Z) (Tr.k Z (ae (aa (aN Z H (fun H=>?_) (fun H=>?_)))))))))
   ·refine aV (aA Z (aA Z (aD cu Z (aD (ag yj) Z (aC Z (fun _ _ a c=>ah Iw (a.ev Z) (bN c (vs:=[iv p0.p.Unit,sL d p0.p.Tools f,sL g p0.p.Steps h,sL i p0.tools j,sL v p0.image y,bV p0.clear,iv p0.tool,iv p0.place.X,iv p0.place.Y,bV p0.placed,iv p0.off,iv p0.on]) (k:=0) Z 4) Z) (aA Z (Tr.freeze 1 Z fun w Q K=>?_)))))))
    replace B:=B.le Q
    replace b:=b.trans Q
    obtain⟨z,a6,H⟩:=bnd H
    refine jc [5] [emp] (U:=(Option Addr×Nat)) (fun u=>(sL u.1 z u.2)) (fun O W u=>fQ u.1 z.length u.2) (fun u=>[ow u.1 u.2 121 aW z]) Z (bn Z bO) (fun _=>Z) (wn Z) Z Tryz.call35 (ak Z (ak Z aH)) (fun W hW hp hE=>vF N p0.image v y (K.uF (hW.fM hp)) p1 E F (B.uF (hW.fM hp)) z a6 hE) ?_
    intro w u S hu
    obtain⟨l,o⟩:=u
    have a0:=hu
    replace K:=K.le S
    replace b:=b.trans S
    have M:fQ l z.length o:=a0 --@phi
    dsimp only
    exact aD cu Z (aD (ag yj) Z (bv 0 (cs:=[sL l z o]) [iv p0.p.Unit,sL d p0.p.Tools f,sL g p0.p.Steps h,sL i p0.tools j,sL l z o,bV p0.clear,iv p0.tool,iv p0.place.X,iv p0.place.Y,bV p0.placed,iv p0.off,iv p0.on] (wn Z) Z Z Z Z QO Z Z Z (ae (aQ (II 5 4 Z Z Z (aP b (z,l,o) ⟨H,M⟩ (.r Z) (.r Z)))))))
   ·refine aV (aA Z (aA Z (aD cu Z (aD (ag yj) Z (aC Z (fun _ _ a c=>ah Iw (a.ev Z) (bN c (vs:=[iv p0.p.Unit,sL d p0.p.Tools f,sL g p0.p.Steps h,sL i p0.tools j,sL v p0.image y,bV p0.clear,iv p0.tool,iv p0.place.X,iv p0.place.Y,bV p0.placed,iv p0.off,iv p0.on]) (k:=0) Z 4) Z) (aA Z (Tr.freeze 1 Z fun w T L=>?_)))))))
    replace B:=B.le T
    replace b:=b.trans T
    obtain⟨A,a7,H⟩:=bnd H
    refine jc [6] [emp] (U:=(Option Addr×Nat)) (fun u=>(sL u.1 A u.2)) (fun O W u=>fQ u.1 A.length u.2) (fun u=>[ow u.1 u.2 121 aW A]) Z (bn Z bO) (fun _=>Z) (wn Z) Z Tryz.call213 (ak Z (ak Z aH)) (fun W hW hp hE=>CF N p0.image v y (L.uF (hW.fM hp)) p1 E F (B.uF (hW.fM hp)) A a7 hE) ?_
    intro w u V hu
    obtain⟨q,t⟩:=u
    have a1:=hu
    replace L:=L.le V
    replace b:=b.trans V
    have P:fQ q A.length t:=a1 --@phi
    dsimp only
    exact aD cu Z (aD (ag yj) Z (bv 0 (cs:=[sL q A t]) [iv p0.p.Unit,sL d p0.p.Tools f,sL g p0.p.Steps h,sL i p0.tools j,sL q A t,bV p0.clear,iv p0.tool,iv p0.place.X,iv p0.place.Y,bV p0.placed,iv p0.off,iv p0.on] (wn Z) Z Z Z Z QO Z Z Z (ae (aQ (II 6 4 Z Z Z (aP b (A,q,t) ⟨H,P⟩ (.r Z) (.r Z)))))))
 ·intro w s a3 hs
  obtain⟨G,C,D⟩:=s
  obtain⟨H,I⟩:=hs
  replace H:jg G=some r:=H
  replace leB:=leB.trans a3
  replace I:fQ C G.length D:=I
  unfold jg at H
  dsimp only
  refine az (aj (aA Z (aD cu Z (aD (ag yj) Z (aC Z (fun _ _ a c=>ah Iw (a.ev Z) (bN c (vs:=[iv p0.p.Unit,sL d p0.p.Tools f,sL g p0.p.Steps h,sL i p0.tools j,sL C G D,bV p0.clear,iv p0.tool,iv p0.place.X,iv p0.place.Y,bV p0.placed,iv p0.off,iv p0.on]) (k:=0) Z 4) Z) ?_)))))
  obtain⟨a4,a8,H⟩:=bnd H
  refine aS (r:=(iv a4)) (wn Z) Z Tryz.call202 (ak Z aH) (fun W hW=>vE G C D (hW.wo (k:=4) Z) a4 a8 (HF.start _)) (av dE Z Z (ae (aa (aN Z H (fun H=>?_) (fun H=>?_)))))
  ·refine aj (Tr.k Z (ae (aa (aJ (ai ?_)))))
   obtain rfl:=oI H
   exact bR (m:=[iv 2]) [] (bu Z bG) (fun W hW=>⟨w,(C,D),leB,Z,I,hW.pick (ks:=[0,4]) (by decide) (bn Z (bn Z bO))⟩)
  ·refine aM (aa (aj (Tr.k Z (ae (aa (aJ ?_))))))
   obtain rfl:=oI H
   exact bR (m:=[iv 0]) [] (bu Z bG) (fun W hW=>⟨w,(C,D),leB,Z,I,hW.pick (ks:=[0,4]) (by decide) (bn Z (bn Z bO))⟩)

theorem qp{w:Bs}(p0:di)(b:Option Addr)(d:Nat)(D:Sl w.R w.W cB b d p0.p.Tools)(f:Option Addr)(g:Nat)(E:Sl w.R w.W bH f g p0.p.Steps)(h:Option Addr)(i:Nat)(F:Sl w.R w.W fV h i p0.tools)(j:Option Addr)(l:Nat)(G:Sl w.R w.W aW j l p0.image)(o:Nat)(p1:aK)(r:(Int×Int×Int×Bool×Int))(H:jf p0 p1=some r)(hE:HF w w.W (mF [bx o #[iv p0.p.Unit,sL b p0.p.Tools d,sL f p0.p.Steps g,sL h p0.tools i,sL j p0.image l,bV p0.clear,iv p0.tool,iv p0.place.X,iv p0.place.Y,bV p0.placed,iv p0.off,iv p0.on] 108])):Calls Tryz.prog 172 [pV o,.agg #[iv p1.X,iv p1.Y],.pointer (some ⟨o,10,none⟩)].toArray w.W fun e W'=>∃u:Unit,e= .returned (iv r.1)∧(True)∧HF w W' (mF [bx o #[iv p0.p.Unit,sL b p0.p.Tools d,sL f p0.p.Steps g,sL h p0.tools i,sL j p0.image l,bV p0.clear,iv p0.tool,iv r.2.1,iv r.2.2.1,bV r.2.2.2.1,iv r.2.2.2.2,iv p0.on] 108]):=by
 unfold jf at H
 have leB:=Bs.Le.refl w
 refine aX (n:=32) Tryz.func172 Z Z Z hE (aj (dh 1 (cs:=[iv p1.X,iv p1.Y]) (wn Z) Z Z Z fun t=>(Tr.k Z (ae (aa (az (aj (aC Z (fun _ _ a c=>aL (cs:=[iv p1.X,iv p1.Y]) iC eU (a.ev Z) (aI.take (bN c (vs:=[iv p1.X,iv p1.Y]) (k:=1) Z 0) 2) Z) ?_))))))))
 obtain⟨z,B,H⟩:=bnd H
 refine aS (r:=(bV z)) (wn Z) Z Tryz.call74 (ak Z aH) (fun W hW=>nY p1 z B (HF.start _)) (aD bT Z (ae (aa (aN Z H (fun H=>?_) (fun H=>?_)))))
 ·refine aj (Tr.k Z (ae (aa (aJ (ai ?_)))))
  obtain rfl:=oI H
  exact bR (m:=[iv 1]) [] (bu Z bG) (fun W hW=>⟨(),Z,trivial,HF.qC leB (hW.pick (ks:=[0]) (by decide) (bn Z bO)) ⟨KX _ _ _,trivial⟩⟩)
 ·refine aM (aa ?_)
  have y:=Bs.Le.refl w
  refine pz (σ:=Int) (fun w s=>il p1 s=some r) (fun s=>[(0,pV o),(4,pV t)]) (fun s=>[(0,bx o #[iv p0.p.Unit,sL b p0.p.Tools d,sL f p0.p.Steps g,sL h p0.tools i,sL j p0.image l,bV p0.clear,iv p0.tool,iv p0.place.X,iv p0.place.Y,bV p0.placed,iv s,iv p0.on] 108),(1,bx t #[iv p1.X,iv p1.Y] 54)]) ?_ ?_
  ·refine aj (aA Z (aD cu Z (aD (ag Am) Z (aC Z (fun _ _ a c=>ah BG (a.ev Z) (bN c (vs:=[iv p0.p.Unit,sL b p0.p.Tools d,sL f p0.p.Steps g,sL h p0.tools i,sL j p0.image l,bV p0.clear,iv p0.tool,iv p0.place.X,iv p0.place.Y,bV p0.placed,iv p0.off,iv p0.on]) (k:=0) Z 9) Z) (ae (aa (aN Z H (fun H=>?_) (fun H=>?_))))))))
   ·refine nP 9 (by kernel_rfl) (by kernel_rfl) (dY Z (dD cu Z (bL Z (fun _ _ a c=>ah bF (a.ev Z) (bN c (vs:=[iv p0.p.Unit,sL b p0.p.Tools d,sL f p0.p.Steps g,sL h p0.tools i,sL j p0.image l,bV p0.clear,iv p0.tool,iv p0.place.X,iv p0.place.Y,bV p0.placed,iv p0.off,iv p0.on]) (k:=0) Z 10) Z) (dY Z (dD cu Z (dD (ag wF) Z (bL Z (fun _ _ a c=>aL (cs:=[iv p0.place.X,iv p0.place.Y]) iC eU (a.ev Z) (aI.take (bN c (vs:=[iv p0.p.Unit,sL b p0.p.Tools d,sL f p0.p.Steps g,sL h p0.tools i,sL j p0.image l,bV p0.clear,iv p0.tool,iv p0.place.X,iv p0.place.Y,bV p0.placed,iv p0.off,iv p0.on]) (k:=0) Z 7) 2) Z) (bL Z (fun _ _ a c=>aL (cs:=[iv p1.X,iv p1.Y]) iC eU (a.ev Z) (aI.take (bN c (vs:=[iv p1.X,iv p1.Y]) (k:=1) Z 0) 2) Z) ?_))))))))
    obtain⟨q,C,H⟩:=bnd H
    exact lH (r:=(iv q)) (wn Z) Z Tryz.call198 (ak Z (ak Z aH)) (fun W hW=>Cc p0.place p1 q C (HF.start _)) (gz (av bE Z Z (aD cu Z (bv 0 (cs:=[iv (bP (p0.off+q))]) [iv p0.p.Unit,sL b p0.p.Tools d,sL f p0.p.Steps g,sL h p0.tools i,sL j p0.image l,bV p0.clear,iv p0.tool,iv p0.place.X,iv p0.place.Y,bV p0.placed,iv (bP (p0.off+q)),iv p0.on] (wn Z) Z Z Z Z vM Z Z Z (ae (aP y (bP (p0.off+q)) H (.r Z) (.r Z)))))))
   ·exact aM (aP y p0.off H (.r Z) (.r Z))
  ·intro w v A hs
   have H:=hs
   replace H:il p1 v=some r:=H
   replace leB:=leB.trans A
   unfold il at H
   show Tr _ _ (LF [(0,pV o),(4,pV t)]) (LE [(0,bx o #[iv p0.p.Unit,sL b p0.p.Tools d,sL f p0.p.Steps g,sL h p0.tools i,sL j p0.image l,bV p0.clear,iv p0.tool,iv p0.place.X,iv p0.place.Y,bV p0.placed,iv v,iv p0.on] 108),(1,bx t #[iv p1.X,iv p1.Y] 54)]) _
   refine aj (aA Z (aA Z (aC Z (fun _ _ a c=>aL (cs:=[iv p1.X,iv p1.Y]) iC eU (a.ev Z) (aI.take (bN c (vs:=[iv p1.X,iv p1.Y]) (k:=1) Z 0) 2) Z) (aD cu Z (aD (ag wF) Z (bv 0 (cs:=[iv p1.X,iv p1.Y]) [iv p0.p.Unit,sL b p0.p.Tools d,sL f p0.p.Steps g,sL h p0.tools i,sL j p0.image l,bV p0.clear,iv p0.tool,iv p1.X,iv p1.Y,bV p0.placed,iv v,iv p0.on] (wn Z) Z Z Z Z eU Z Z Z (aD cu Z (aD (ag Am) Z (bv 0 (cs:=[bV true]) [iv p0.p.Unit,sL b p0.p.Tools d,sL f p0.p.Steps g,sL h p0.tools i,sL j p0.image l,bV p0.clear,iv p0.tool,iv p1.X,iv p1.Y,bV true,iv v,iv p0.on] (wn Z) Z Z Z Z V5 Z Z Z (ae (aa (aj (Tr.k Z (ae (aa (aJ ?_))))))))))))))))
   obtain rfl:=oI H
   exact bR (m:=[iv 0]) [] (bu Z bG) (fun W hW=>⟨(),Z,trivial,HF.qC leB (hW.pick (ks:=[0]) (by decide) (bn Z bO)) ⟨KX _ _ _,trivial⟩⟩)

theorem xK(N:Nat){w:Bs}(p0:di)(g:Option Addr)(h:Nat)(A:Sl w.R w.W cB g h p0.p.Tools)(i:Option Addr)(j:Nat)(B:Sl w.R w.W bH i j p0.p.Steps)(d:Option Addr)(f:Nat)(t:Sl w.R w.W fV d f p0.tools)(l:Option Addr)(o:Nat)(q:Nat)(p1:aK)(r:(Int×Int×Int×Bool×Int×(List bz)))(H:mf N p0 p1=some r)(hE:HF w w.W (mF [bx q #[iv p0.p.Unit,sL g p0.p.Tools h,sL i p0.p.Steps j,sL d p0.tools f,sL l p0.image o,bV p0.clear,iv p0.tool,iv p0.place.X,iv p0.place.Y,bV p0.placed,iv p0.off,iv p0.on] 108,ow l o 121 aW p0.image])):Calls Tryz.prog 173 [pV q,.agg #[iv p1.X,iv p1.Y]].toArray w.W fun e W'=>∃(w':Bs) (u:(Option Addr×Nat)),w.Le w'∧e= .returned (iv r.1)∧(fQ u.1 r.2.2.2.2.2.length u.2)∧HF w' W' (mF [bx q #[iv p0.p.Unit,sL g p0.p.Tools h,sL i p0.p.Steps j,sL d p0.tools f,sL u.1 r.2.2.2.2.2 u.2,bV p0.clear,iv p0.tool,iv r.2.1,iv r.2.2.1,bV r.2.2.2.1,iv r.2.2.2.2.1,iv p0.on] 108,ow u.1 u.2 121 aW r.2.2.2.2.2]):=by
 unfold mf at H
 have L:=(hE.sl (k:=1) Z).form
 have leB:=Bs.Le.refl w
 refine aX (n:=35) Tryz.func173 Z Z Z hE (aj (dh 2 (cs:=[iv p1.X,iv p1.Y]) (wn Z) Z Z Z fun b4=>(Tr.k Z (ae (aa (az (aj (aA Z (aD cu Z (aD (ag Ao) Z (aC Z (fun _ _ a c=>ah bF (a.ev Z) (bN c (vs:=[iv p0.p.Unit,sL g p0.p.Tools h,sL i p0.p.Steps j,sL d p0.tools f,sL l p0.image o,bV p0.clear,iv p0.tool,iv p0.place.X,iv p0.place.Y,bV p0.placed,iv p0.off,iv p0.on]) (k:=0) Z 6) Z) (av bi Z Z (ae (aa (aN Z H (fun H=>?_) (fun H=>?_))))))))))))))))
 ·refine aj (Tr.k Z (ae (aa (aJ (ai ?_)))))
  obtain rfl:=oI H
  exact bR (m:=[iv 11]) [] (bu Z bG) (fun W hW=>⟨w,(l,o),leB,Z,L,hW.pick (ks:=[0,1]) (by decide) (bn Z (bn Z bO))⟩)
 ·refine aM (aa (az (az (nP 5 (by kernel_rfl) (by kernel_rfl) (dY Z (bL Z (fun _ _ a c=>aL (cs:=[iv p1.X,iv p1.Y]) iC eU (a.ev Z) (aI.take (bN c (vs:=[iv p1.X,iv p1.Y]) (k:=2) Z 0) 2) Z) (dY Z (dD cu Z (dD (ag Mm) Z (gz ?_))))))))))
  obtain⟨b,a4,H⟩:=bnd H
  refine kz [0] [bx q #[iv p0.p.Unit,sL g p0.p.Tools h,sL i p0.p.Steps j,sL d p0.tools f,sL l p0.image o,bV p0.clear,iv p0.tool,iv p0.place.X,iv p0.place.Y,bV p0.placed,iv p0.off,iv p0.on] 108] (U:=Unit) (fun u=>(iv b.1)) (fun u=>True) (fun u=>[bx q #[iv p0.p.Unit,sL g p0.p.Tools h,sL i p0.p.Steps j,sL d p0.tools f,sL l p0.image o,bV p0.clear,iv p0.tool,iv b.2.1,iv b.2.2.1,bV b.2.2.2.1,iv b.2.2.2.2,iv p0.on] 108]) Z (bn Z bO) (fun _=>Z) (wn Z) Z Tryz.call172 (ak Z (ak Z (ak Z aH))) (fun W hW hp hE=>qp p0 g h (A.ext (hW.fM hp)) i j (B.ext (hW.fM hp)) d f (t.ext (hW.fM hp)) l o (hW.TJ (k:=1) Z hp Z) q p1 b a4 hE) ?_
  intro u hu
  show Tr _ _ (uf _ 16 (iv b.1)) (up _ 0 (bx q #[iv p0.p.Unit,sL g p0.p.Tools h,sL i p0.p.Steps j,sL d p0.tools f,sL l p0.image o,bV p0.clear,iv p0.tool,iv b.2.1,iv b.2.2.1,bV b.2.2.2.1,iv b.2.2.2.2,iv p0.on] 108)) _
  refine Tr.k Z (ae (aa (aj (aA Z (av dW Z Z (ae (aa (aN Z H (fun H=>?_) (fun H=>?_)))))))))
  ·refine aj (aA Z (Tr.k Z (ae (aa (aJ (ai ?_))))))
   obtain rfl:=oI H
   exact bR (m:=[iv b.1]) [] (bu Z bG) (fun W hW=>⟨w,(l,o),leB,Z,L,hW.pick (ks:=[0,1]) (by decide) (bn Z (bn Z bO))⟩)
  ·refine aM (aa (az (ui 14 [] [] (by kernel_rfl) (by kernel_rfl) fun b3 a8 b1=>(bU 0 [(20,pV q)] (by kernel_rfl) Z Z (by kernel_rfl) ?_ Z Z ?_))))
   ·exact dY Z (bK (.r Z))
   refine bU 1 [(21,pV q)] (by kernel_rfl) Z Z (by kernel_rfl) ?_ Z Z ?_
   ·exact dY Z (bK (.r Z))
   refine bU 2 [(22,pV q)] (by kernel_rfl) Z Z (by kernel_rfl) ?_ Z Z ?_
   ·exact dD cu Z (bK (.r Z))
   refine bU 3 [(23,.pointer (some ⟨q,3,none⟩))] (by kernel_rfl) Z Z (by kernel_rfl) ?_ Z Z ?_
   ·exact dD (ag D6) Z (bK (.r Z))
   refine bU 4 [(24,sL d p0.tools f)] (by kernel_rfl) Z Z (by kernel_rfl) ?_ Z Z ?_
   ·exact bL Z (fun _ _ a c=>ah Oh (a.ev Z) (bN c (vs:=[iv p0.p.Unit,sL g p0.p.Tools h,sL i p0.p.Steps j,sL d p0.tools f,sL l p0.image o,bV p0.clear,iv p0.tool,iv b.2.1,iv b.2.2.1,bV b.2.2.2.1,iv b.2.2.2.2,iv p0.on]) (k:=0) Z 3) Z) (bK (.r Z))
   refine bU 5 [(25,pV q)] (by kernel_rfl) Z Z (by kernel_rfl) ?_ Z Z ?_
   ·exact dY Z (bK (.r Z))
   refine bU 6 [(26,pV q)] (by kernel_rfl) Z Z (by kernel_rfl) ?_ Z Z ?_
   ·exact dD cu Z (bK (.r Z))
   refine bU 7 [(27,.pointer (some ⟨q,6,none⟩))] (by kernel_rfl) Z Z (by kernel_rfl) ?_ Z Z ?_
   ·exact dD (ag Ao) Z (bK (.r Z))
   refine bU 8 [(28,iv p0.tool)] (by kernel_rfl) Z Z (by kernel_rfl) ?_ Z Z ?_
   ·exact bL Z (fun _ _ a c=>ah bF (a.ev Z) (bN c (vs:=[iv p0.p.Unit,sL g p0.p.Tools h,sL i p0.p.Steps j,sL d p0.tools f,sL l p0.image o,bV p0.clear,iv p0.tool,iv b.2.1,iv b.2.2.1,bV b.2.2.2.1,iv b.2.2.2.2,iv p0.on]) (k:=0) Z 6) Z) (bK (.r Z))
   obtain⟨Q,a5,H⟩:=bnd H
   obtain⟨a0,a1,a2⟩:=bJ a5
   obtain⟨a9,s,T,a3⟩:=(t).el a2
   obtain⟨J,K⟩:=a9
   have y:=T
   replace y:Sl w.R w.W aW J K Q:=y
   refine bU 9 [(29,.pointer (some ⟨rM d,vJ d+(p0.tool).toNat*1,none⟩))] (by kernel_rfl) Z Z (by kernel_rfl) ?_ Z Z ?_
   ·exact bL Z (fun _ _ a c=>aB NZ (a.ev Z) t.form (a.ev Z) a0 a1) (bK (.r Z))
   refine bU 10 [(30,sL J Q K)] (by kernel_rfl) Z Z (by kernel_rfl) ?_ Z Z ?_
   ·exact bL Z (fun _ _ a c=>ah Iw (a.ev Z) (tY s a3 c) Z) (bK (.r Z))
   refine bU 11 [(31,.agg #[iv p1.X,iv p1.Y])] (by kernel_rfl) Z Z (by kernel_rfl) ?_ Z Z ?_
   ·exact bL Z (fun _ _ a c=>aL (cs:=[iv p1.X,iv p1.Y]) iC eU (a.ev Z) (aI.take (bN c (vs:=[iv p1.X,iv p1.Y]) (k:=2) Z 0) 2) Z) (bK (.r Z))
   refine bU 12 [(32,.agg #[iv p1.X,iv p1.Y])] (by kernel_rfl) Z Z (by kernel_rfl) ?_ Z Z ?_
   ·exact bL Z (fun _ _ a c=>aL (cs:=[iv p1.X,iv p1.Y]) iC eU (a.ev Z) (aI.take (bN c (vs:=[iv p1.X,iv p1.Y]) (k:=2) Z 0) 2) Z) (bK (.r Z))
   obtain⟨z,a6,H⟩:=bnd H
   refine Dr.one 13 (by kernel_rfl) (IM 13 [3] [emp] (U:=(Option Addr×Nat)) (fun u=>(sL u.1 z u.2)) (fun O W u=>fQ u.1 z.length u.2) (fun u=>[ow u.1 u.2 121 aW z]) Z (bn Z bO) (fun _=>Z) (KF Z) Z (wn Z) Z Tryz.call200 (ak Z (ak Z (ak Z aH))) (fun W hW hp hE=>zF N Q J K (y.ext (hW.fM hp)) p1 p1 z a6 hE) ?_)
   intro w u G hu b2
   obtain⟨C,D⟩:=u
   have V:=hu
   replace A:=A.iR G
   replace B:=B.iR G
   replace t:=t.iR G
   replace s:=G.r _ s
   replace leB:=leB.trans G
   have b0:fQ C z.length D:=V
   dsimp only
   refine vT (by kernel_rfl) (Tr.freeze 3 Z fun w I M=>?_)
   replace A:=A.iR I
   replace B:=B.iR I
   replace t:=t.iR I
   replace s:=I.r _ s
   replace leB:=leB.trans I
   obtain⟨v,a7,H⟩:=bnd H
   refine jc [0,1] [bx q #[iv p0.p.Unit,sL g p0.p.Tools h,sL i p0.p.Steps j,sL d p0.tools f,sL l p0.image o,bV p0.clear,iv p0.tool,iv b.2.1,iv b.2.2.1,bV b.2.2.2.1,iv b.2.2.2.2,iv p0.on] 108,ow l o 121 aW p0.image] (U:=(Option Addr×Nat)) (fun u=>(iv v.1)) (fun O W u=>fQ u.1 v.2.length u.2) (fun u=>[bx q #[iv p0.p.Unit,sL g p0.p.Tools h,sL i p0.p.Steps j,sL d p0.tools f,sL u.1 v.2 u.2,bV p0.clear,iv p0.tool,iv b.2.1,iv b.2.2.1,bV b.2.2.2.1,iv b.2.2.2.2,iv p0.on] 108,ow u.1 u.2 121 aW v.2]) Z (bn Z (bn Z bO)) (fun _=>Z) (wn Z) Z Tryz.call199 (ak Z (ak Z aH)) (fun W hW hp hE=>p8 N (di.mk p0.p p0.tools p0.image p0.clear p0.tool (aK.mk b.2.1 b.2.2.1) b.2.2.2.1 b.2.2.2.2 p0.on) g h (A.ext (hW.fM hp)) i j (B.ext (hW.fM hp)) d f (t.ext (hW.fM hp)) l o q z C D (M.uF (hW.fM hp)) v a7 hE) ?_
   intro w u P hu
   obtain⟨E,F⟩:=u
   have a':=hu
   replace s:=P.r _ s
   replace M:=M.le P
   replace leB:=leB.trans P
   have S:fQ E v.2.length F:=a' --@phi
   dsimp only
   refine Tr.k Z (ae (aa (aJ ?_)))
   obtain rfl:=oI H
   exact bR (m:=[iv v.1]) [] (bu Z bG) (fun W hW=>⟨w,(E,F),leB,Z,S,hW.pick (ks:=[0,1]) (by decide) (bn Z (bn Z bO))⟩)

theorem vG{w:Bs}(p0:di)(b:Option Addr)(d:Nat)(D:Sl w.R w.W cB b d p0.p.Tools)(f:Option Addr)(g:Nat)(E:Sl w.R w.W bH f g p0.p.Steps)(h:Option Addr)(i:Nat)(F:Sl w.R w.W fV h i p0.tools)(j:Option Addr)(l:Nat)(G:Sl w.R w.W aW j l p0.image)(o:Nat)(p1:aK)(r:(Int×Int×Int×Bool×Int))(H:jQ p0 p1=some r)(hE:HF w w.W (mF [bx o #[iv p0.p.Unit,sL b p0.p.Tools d,sL f p0.p.Steps g,sL h p0.tools i,sL j p0.image l,bV p0.clear,iv p0.tool,iv p0.place.X,iv p0.place.Y,bV p0.placed,iv p0.off,iv p0.on] 108])):Calls Tryz.prog 172 [pV o,.agg #[iv p1.X,iv p1.Y],.pointer (some ⟨o,11,none⟩)].toArray w.W fun e W'=>∃u:Unit,e= .returned (iv r.1)∧(True)∧HF w W' (mF [bx o #[iv p0.p.Unit,sL b p0.p.Tools d,sL f p0.p.Steps g,sL h p0.tools i,sL j p0.image l,bV p0.clear,iv p0.tool,iv r.2.1,iv r.2.2.1,bV r.2.2.2.1,iv p0.off,iv r.2.2.2.2] 108]):=by
 unfold jQ at H
 have leB:=Bs.Le.refl w
 refine aX (n:=32) Tryz.func172 Z Z Z hE (aj (dh 1 (cs:=[iv p1.X,iv p1.Y]) (wn Z) Z Z Z fun t=>(Tr.k Z (ae (aa (az (aj (aC Z (fun _ _ a c=>aL (cs:=[iv p1.X,iv p1.Y]) iC eU (a.ev Z) (aI.take (bN c (vs:=[iv p1.X,iv p1.Y]) (k:=1) Z 0) 2) Z) ?_))))))))
 obtain⟨z,B,H⟩:=bnd H
 refine aS (r:=(bV z)) (wn Z) Z Tryz.call74 (ak Z aH) (fun W hW=>nY p1 z B (HF.start _)) (aD bT Z (ae (aa (aN Z H (fun H=>?_) (fun H=>?_)))))
 ·refine aj (Tr.k Z (ae (aa (aJ (ai ?_)))))
  obtain rfl:=oI H
  exact bR (m:=[iv 1]) [] (bu Z bG) (fun W hW=>⟨(),Z,trivial,HF.qC leB (hW.pick (ks:=[0]) (by decide) (bn Z bO)) ⟨KX _ _ _,trivial⟩⟩)
 ·refine aM (aa ?_)
  have y:=Bs.Le.refl w
  refine pz (σ:=Int) (fun w s=>ik p1 s=some r) (fun s=>[(0,pV o),(4,pV t)]) (fun s=>[(0,bx o #[iv p0.p.Unit,sL b p0.p.Tools d,sL f p0.p.Steps g,sL h p0.tools i,sL j p0.image l,bV p0.clear,iv p0.tool,iv p0.place.X,iv p0.place.Y,bV p0.placed,iv p0.off,iv s] 108),(1,bx t #[iv p1.X,iv p1.Y] 54)]) ?_ ?_
  ·refine aj (aA Z (aD cu Z (aD (ag Am) Z (aC Z (fun _ _ a c=>ah BG (a.ev Z) (bN c (vs:=[iv p0.p.Unit,sL b p0.p.Tools d,sL f p0.p.Steps g,sL h p0.tools i,sL j p0.image l,bV p0.clear,iv p0.tool,iv p0.place.X,iv p0.place.Y,bV p0.placed,iv p0.off,iv p0.on]) (k:=0) Z 9) Z) (ae (aa (aN Z H (fun H=>?_) (fun H=>?_))))))))
   ·refine nP 9 (by kernel_rfl) (by kernel_rfl) (dY Z (dD cu Z (bL Z (fun _ _ a c=>ah bF (a.ev Z) (bN c (vs:=[iv p0.p.Unit,sL b p0.p.Tools d,sL f p0.p.Steps g,sL h p0.tools i,sL j p0.image l,bV p0.clear,iv p0.tool,iv p0.place.X,iv p0.place.Y,bV p0.placed,iv p0.off,iv p0.on]) (k:=0) Z 11) Z) (dY Z (dD cu Z (dD (ag wF) Z (bL Z (fun _ _ a c=>aL (cs:=[iv p0.place.X,iv p0.place.Y]) iC eU (a.ev Z) (aI.take (bN c (vs:=[iv p0.p.Unit,sL b p0.p.Tools d,sL f p0.p.Steps g,sL h p0.tools i,sL j p0.image l,bV p0.clear,iv p0.tool,iv p0.place.X,iv p0.place.Y,bV p0.placed,iv p0.off,iv p0.on]) (k:=0) Z 7) 2) Z) (bL Z (fun _ _ a c=>aL (cs:=[iv p1.X,iv p1.Y]) iC eU (a.ev Z) (aI.take (bN c (vs:=[iv p1.X,iv p1.Y]) (k:=1) Z 0) 2) Z) ?_))))))))
    obtain⟨q,C,H⟩:=bnd H
    exact lH (r:=(iv q)) (wn Z) Z Tryz.call198 (ak Z (ak Z aH)) (fun W hW=>Cc p0.place p1 q C (HF.start _)) (gz (av bE Z Z (aD cu Z (bv 0 (cs:=[iv (bP (p0.on+q))]) [iv p0.p.Unit,sL b p0.p.Tools d,sL f p0.p.Steps g,sL h p0.tools i,sL j p0.image l,bV p0.clear,iv p0.tool,iv p0.place.X,iv p0.place.Y,bV p0.placed,iv p0.off,iv (bP (p0.on+q))] (wn Z) Z Z Z Z vM Z Z Z (ae (aP y (bP (p0.on+q)) H (.r Z) (.r Z)))))))
   ·exact aM (aP y p0.on H (.r Z) (.r Z))
  ·intro w v A hs
   have H:=hs
   replace H:ik p1 v=some r:=H
   replace leB:=leB.trans A
   unfold ik at H
   show Tr _ _ (LF [(0,pV o),(4,pV t)]) (LE [(0,bx o #[iv p0.p.Unit,sL b p0.p.Tools d,sL f p0.p.Steps g,sL h p0.tools i,sL j p0.image l,bV p0.clear,iv p0.tool,iv p0.place.X,iv p0.place.Y,bV p0.placed,iv p0.off,iv v] 108),(1,bx t #[iv p1.X,iv p1.Y] 54)]) _
   refine aj (aA Z (aA Z (aC Z (fun _ _ a c=>aL (cs:=[iv p1.X,iv p1.Y]) iC eU (a.ev Z) (aI.take (bN c (vs:=[iv p1.X,iv p1.Y]) (k:=1) Z 0) 2) Z) (aD cu Z (aD (ag wF) Z (bv 0 (cs:=[iv p1.X,iv p1.Y]) [iv p0.p.Unit,sL b p0.p.Tools d,sL f p0.p.Steps g,sL h p0.tools i,sL j p0.image l,bV p0.clear,iv p0.tool,iv p1.X,iv p1.Y,bV p0.placed,iv p0.off,iv v] (wn Z) Z Z Z Z eU Z Z Z (aD cu Z (aD (ag Am) Z (bv 0 (cs:=[bV true]) [iv p0.p.Unit,sL b p0.p.Tools d,sL f p0.p.Steps g,sL h p0.tools i,sL j p0.image l,bV p0.clear,iv p0.tool,iv p1.X,iv p1.Y,bV true,iv p0.off,iv v] (wn Z) Z Z Z Z V5 Z Z Z (ae (aa (aj (Tr.k Z (ae (aa (aJ ?_))))))))))))))))
   obtain rfl:=oI H
   exact bR (m:=[iv 0]) [] (bu Z bG) (fun W hW=>⟨(),Z,trivial,HF.qC leB (hW.pick (ks:=[0]) (by decide) (bn Z bO)) ⟨KX _ _ _,trivial⟩⟩)

theorem yF(N:Nat){w:Bs}(p0:di)(i:Option Addr)(j:Nat)(A:Sl w.R w.W cB i j p0.p.Tools)(l:Option Addr)(o:Nat)(B:Sl w.R w.W bH l o p0.p.Steps)(d:Option Addr)(h:Nat)(t:Sl w.R w.W fV d h p0.tools)(f:Option Addr)(g:Nat)(q:Nat)(p1:aK)(r:(Int×Int×Int×Bool×Int×(List bz)))(H:mO N p0 p1=some r)(hE:HF w w.W (mF [bx q #[iv p0.p.Unit,sL i p0.p.Tools j,sL l p0.p.Steps o,sL d p0.tools h,sL f p0.image g,bV p0.clear,iv p0.tool,iv p0.place.X,iv p0.place.Y,bV p0.placed,iv p0.off,iv p0.on] 108,ow f g 121 aW p0.image])):Calls Tryz.prog 174 [pV q,.agg #[iv p1.X,iv p1.Y]].toArray w.W fun e W'=>∃(w':Bs) (u:(Option Addr×Nat)),w.Le w'∧e= .returned (iv r.1)∧(fQ u.1 r.2.2.2.2.2.length u.2)∧HF w' W' (mF [bx q #[iv p0.p.Unit,sL i p0.p.Tools j,sL l p0.p.Steps o,sL d p0.tools h,sL u.1 r.2.2.2.2.2 u.2,bV p0.clear,iv p0.tool,iv r.2.1,iv r.2.2.1,bV r.2.2.2.1,iv p0.off,iv r.2.2.2.2.1] 108,ow u.1 u.2 121 aW r.2.2.2.2.2]):=by
 unfold mO at H
 have J:=(hE.sl (k:=1) Z).form
 have leB:=Bs.Le.refl w
 refine aX (n:=65) Tryz.func174 Z Z Z hE (aj (dh 2 (cs:=[iv p1.X,iv p1.Y]) (wn Z) Z Z Z fun M=>(Tr.k Z (ae (aa (az (aj (aA Z (aD cu Z (aD (ag Ao) Z (aC Z (fun _ _ a c=>ah bF (a.ev Z) (bN c (vs:=[iv p0.p.Unit,sL i p0.p.Tools j,sL l p0.p.Steps o,sL d p0.tools h,sL f p0.image g,bV p0.clear,iv p0.tool,iv p0.place.X,iv p0.place.Y,bV p0.placed,iv p0.off,iv p0.on]) (k:=0) Z 6) Z) (av bi Z Z (aA Z (bM 6 [(0,pV q),(3,pV M),(18,bV ((decide (p0.tool<0))||(!p0.placed)))] [(0,bx q #[iv p0.p.Unit,sL i p0.p.Tools j,sL l p0.p.Steps o,sL d p0.tools h,sL f p0.image g,bV p0.clear,iv p0.tool,iv p0.place.X,iv p0.place.Y,bV p0.placed,iv p0.off,iv p0.on] 108),(1,ow f g 121 aW p0.image),(2,bx M #[iv p1.X,iv p1.Y] 54)] ?_ ?_))))))))))))))
 ·cases a5:(decide (p0.tool<0))
  ·exact bC run_move Z (bC cu Z (bC (ag Am) Z (Tr.x (fun _ _ a c=>ah BG (a.ev Z) (bN c (vs:=[iv p0.p.Unit,sL i p0.p.Tools j,sL l p0.p.Steps o,sL d p0.tools h,sL f p0.image g,bV p0.clear,iv p0.tool,iv p0.place.X,iv p0.place.Y,bV p0.placed,iv p0.off,iv p0.on]) (k:=0) Z 9) Z) (bC bT Z (av aU Z Z (ae (aR (.r Z) (.r Z))))))))
  ·exact aG Z (aG Z (aG Z (aG Z (aG Z (av aT Z Z (ae (aR (.r Z) (.r Z))))))))
 ·show Tr _ _ (LF [(0,pV q),(3,pV M),(18,bV ((decide (p0.tool<0))||(!p0.placed)))]) (LE [(0,bx q #[iv p0.p.Unit,sL i p0.p.Tools j,sL l p0.p.Steps o,sL d p0.tools h,sL f p0.image g,bV p0.clear,iv p0.tool,iv p0.place.X,iv p0.place.Y,bV p0.placed,iv p0.off,iv p0.on] 108),(1,ow f g 121 aW p0.image),(2,bx M #[iv p1.X,iv p1.Y] 54)]) _
  refine ae (aa (aN Z H (fun H=>?_) (fun H=>?_)))
  ·refine aj (Tr.k Z (ae (aa (aJ (ai ?_)))))
   obtain rfl:=oI H
   exact bR (m:=[iv 11]) [] (bu Z bG) (fun W hW=>⟨w,(f,g),leB,Z,J,hW.pick (ks:=[0,1]) (by decide) (bn Z (bn Z bO))⟩)
  ·refine aM (aa (az (az (fZ (by kernel_rfl) (by kernel_rfl) (dD (ag fU) Z (bL Z (fun _ _ a c=>ah bF (a.ev Z) (bN c (vs:=[iv p1.X,iv p1.Y]) (k:=2) Z 0) Z) (dY Z (dD cu Z (dD (ag wF) Z (dD (ag fU) Z (bL Z (fun _ _ a c=>ah bF (a.ev Z) (bN c (vs:=[iv p0.p.Unit,sL i p0.p.Tools j,sL l p0.p.Steps o,sL d p0.tools h,sL f p0.image g,bV p0.clear,iv p0.tool,iv p0.place.X,iv p0.place.Y,bV p0.placed,iv p0.off,iv p0.on]) (k:=0) Z 7) Z) (dL dW Z Z (dY Z (mi 9 [(0,pV q),(3,pV M),(36,bV ((p1.X !=p0.place.X)&&(p1.Y !=p0.place.Y)))] ?_ ?_))))))))))))))
   ·cases a5:(p1.X !=p0.place.X)
    ·exact bB Z (bB Z (bB Z (bB Z (bB Z (bB Z (bB Z (bB Z (dL aU Z Z (bK (.r Z))))))))))
    ·refine dJ (ag fT) Z (Tq.x (fun _ _ a c=>ah bF (a.ev Z) (bN c (vs:=[iv p1.X,iv p1.Y]) (k:=2) Z 1) Z) (dJ run_move Z (dJ cu Z (dJ (ag wF) Z (dJ (ag fT) Z (Tq.x (fun _ _ a c=>ah bF (a.ev Z) (bN c (vs:=[iv p0.p.Unit,sL i p0.p.Tools j,sL l p0.p.Steps o,sL d p0.tools h,sL f p0.image g,bV p0.clear,iv p0.tool,iv p0.place.X,iv p0.place.Y,bV p0.placed,iv p0.off,iv p0.on]) (k:=0) Z 8) Z) ?_))))))
     exact lg dW Z Z (dL aT Z Z (bK (.r Z)))
   ·refine gz (aa (aN Z H (fun H=>?_) (fun H=>?_)))
    ·refine aj (Tr.k Z (ae (aa (aJ (ai ?_)))))
     obtain rfl:=oI H
     exact bR (m:=[iv 3]) [] (bu Z bG) (fun W hW=>⟨w,(f,g),leB,Z,J,hW.pick (ks:=[0,1]) (by decide) (bn Z (bn Z bO))⟩)
    ·refine aM (aa (aj (aA Z (aD cu Z (aD (ag wF) Z (aC Z (fun _ _ a c=>aL (cs:=[iv p0.place.X,iv p0.place.Y]) iC eU (a.ev Z) (aI.take (bN c (vs:=[iv p0.p.Unit,sL i p0.p.Tools j,sL l p0.p.Steps o,sL d p0.tools h,sL f p0.image g,bV p0.clear,iv p0.tool,iv p0.place.X,iv p0.place.Y,bV p0.placed,iv p0.off,iv p0.on]) (k:=0) Z 7) 2) Z) (Tr.alloc 3 (wn Z) Z vY fun b6=>(bv 3 (cs:=[iv p0.place.X,iv p0.place.Y]) [iv p0.place.X,iv p0.place.Y] (wn Z) Z Z Z Z eU Z Z Z (ae (aa (az (az (nP 5 (by kernel_rfl) (by kernel_rfl) (dY Z (bL Z (fun _ _ a c=>aL (cs:=[iv p1.X,iv p1.Y]) iC eU (a.ev Z) (aI.take (bN c (vs:=[iv p1.X,iv p1.Y]) (k:=2) Z 0) 2) Z) (dY Z (dD cu Z (dD (ag Su) Z (gz ?_)))))))))))))))))))
     obtain⟨b,a6,H⟩:=bnd H
     refine kz [0] [bx q #[iv p0.p.Unit,sL i p0.p.Tools j,sL l p0.p.Steps o,sL d p0.tools h,sL f p0.image g,bV p0.clear,iv p0.tool,iv p0.place.X,iv p0.place.Y,bV p0.placed,iv p0.off,iv p0.on] 108] (U:=Unit) (fun u=>(iv b.1)) (fun u=>True) (fun u=>[bx q #[iv p0.p.Unit,sL i p0.p.Tools j,sL l p0.p.Steps o,sL d p0.tools h,sL f p0.image g,bV p0.clear,iv p0.tool,iv b.2.1,iv b.2.2.1,bV b.2.2.2.1,iv p0.off,iv b.2.2.2.2] 108]) Z (bn Z bO) (fun _=>Z) (wn Z) Z Tryz.call172 (ak Z (ak Z (ak Z aH))) (fun W hW hp hE=>vG p0 i j (A.ext (hW.fM hp)) l o (B.ext (hW.fM hp)) d h (t.ext (hW.fM hp)) f g (hW.TJ (k:=1) Z hp Z) q p1 b a6 hE) ?_
     intro u hu
     show Tr _ _ (uf _ 46 (iv b.1)) (up _ 0 (bx q #[iv p0.p.Unit,sL i p0.p.Tools j,sL l p0.p.Steps o,sL d p0.tools h,sL f p0.image g,bV p0.clear,iv p0.tool,iv b.2.1,iv b.2.2.1,bV b.2.2.2.1,iv p0.off,iv b.2.2.2.2] 108)) _
     refine Tr.k Z (ae (aa (aj (aA Z (av dW Z Z (ae (aa (aN Z H (fun H=>?_) (fun H=>?_)))))))))
     ·refine aj (aA Z (Tr.k Z (ae (aa (aJ (ai ?_))))))
      obtain rfl:=oI H
      exact bR (m:=[iv b.1]) [] (bu Z bG) (fun W hW=>⟨w,(f,g),leB,Z,J,hW.pick (ks:=[0,1]) (by decide) (bn Z (bn Z bO))⟩)
     ·refine aM (aa (az (ui 14 [] [] (by kernel_rfl) (by kernel_rfl) fun b5 b0 b3=>(bU 0 [(50,pV q)] (by kernel_rfl) Z Z (by kernel_rfl) ?_ Z Z ?_))))
      ·exact dY Z (bK (.r Z))
      refine bU 1 [(51,pV q)] (by kernel_rfl) Z Z (by kernel_rfl) ?_ Z Z ?_
      ·exact dY Z (bK (.r Z))
      refine bU 2 [(52,pV q)] (by kernel_rfl) Z Z (by kernel_rfl) ?_ Z Z ?_
      ·exact dD cu Z (bK (.r Z))
      refine bU 3 [(53,.pointer (some ⟨q,3,none⟩))] (by kernel_rfl) Z Z (by kernel_rfl) ?_ Z Z ?_
      ·exact dD (ag D6) Z (bK (.r Z))
      refine bU 4 [(54,sL d p0.tools h)] (by kernel_rfl) Z Z (by kernel_rfl) ?_ Z Z ?_
      ·exact bL Z (fun _ _ a c=>ah Oh (a.ev Z) (bN c (vs:=[iv p0.p.Unit,sL i p0.p.Tools j,sL l p0.p.Steps o,sL d p0.tools h,sL f p0.image g,bV p0.clear,iv p0.tool,iv b.2.1,iv b.2.2.1,bV b.2.2.2.1,iv p0.off,iv b.2.2.2.2]) (k:=0) Z 3) Z) (bK (.r Z))
      refine bU 5 [(55,pV q)] (by kernel_rfl) Z Z (by kernel_rfl) ?_ Z Z ?_
      ·exact dY Z (bK (.r Z))
      refine bU 6 [(56,pV q)] (by kernel_rfl) Z Z (by kernel_rfl) ?_ Z Z ?_
      ·exact dD cu Z (bK (.r Z))
      refine bU 7 [(57,.pointer (some ⟨q,6,none⟩))] (by kernel_rfl) Z Z (by kernel_rfl) ?_ Z Z ?_
      ·exact dD (ag Ao) Z (bK (.r Z))
      refine bU 8 [(58,iv p0.tool)] (by kernel_rfl) Z Z (by kernel_rfl) ?_ Z Z ?_
      ·exact bL Z (fun _ _ a c=>ah bF (a.ev Z) (bN c (vs:=[iv p0.p.Unit,sL i p0.p.Tools j,sL l p0.p.Steps o,sL d p0.tools h,sL f p0.image g,bV p0.clear,iv p0.tool,iv b.2.1,iv b.2.2.1,bV b.2.2.2.1,iv p0.off,iv b.2.2.2.2]) (k:=0) Z 6) Z) (bK (.r Z))
      obtain⟨S,a7,H⟩:=bnd H
      obtain⟨a1,a2,a3⟩:=bJ a7
      obtain⟨b1,s,V,a4⟩:=(t).el a3
      obtain⟨K,L⟩:=b1
      have y:=V
      replace y:Sl w.R w.W aW K L S:=y
      refine bU 9 [(59,.pointer (some ⟨rM d,vJ d+(p0.tool).toNat*1,none⟩))] (by kernel_rfl) Z Z (by kernel_rfl) ?_ Z Z ?_
      ·exact bL Z (fun _ _ a c=>aB NZ (a.ev Z) t.form (a.ev Z) a1 a2) (bK (.r Z))
      refine bU 10 [(60,sL K S L)] (by kernel_rfl) Z Z (by kernel_rfl) ?_ Z Z ?_
      ·exact bL Z (fun _ _ a c=>ah Iw (a.ev Z) (tY s a4 c) Z) (bK (.r Z))
      refine bU 11 [(61,.agg #[iv p0.place.X,iv p0.place.Y])] (by kernel_rfl) Z Z (by kernel_rfl) ?_ Z Z ?_
      ·exact bL Z (fun _ _ a c=>aL (cs:=[iv p0.place.X,iv p0.place.Y]) iC eU (a.ev Z) (aI.take (bN c (vs:=[iv p0.place.X,iv p0.place.Y]) (k:=3) Z 0) 2) Z) (bK (.r Z))
      refine bU 12 [(62,.agg #[iv p1.X,iv p1.Y])] (by kernel_rfl) Z Z (by kernel_rfl) ?_ Z Z ?_
      ·exact bL Z (fun _ _ a c=>aL (cs:=[iv p1.X,iv p1.Y]) iC eU (a.ev Z) (aI.take (bN c (vs:=[iv p1.X,iv p1.Y]) (k:=2) Z 0) 2) Z) (bK (.r Z))
      obtain⟨z,a8,H⟩:=bnd H
      refine Dr.one 13 (by kernel_rfl) (IM 13 [4] [emp] (U:=(Option Addr×Nat)) (fun u=>(sL u.1 z u.2)) (fun O W u=>fQ u.1 z.length u.2) (fun u=>[ow u.1 u.2 121 aW z]) Z (bn Z bO) (fun _=>Z) (KF Z) Z (wn Z) Z Tryz.call200 (ak Z (ak Z (ak Z aH))) (fun W hW hp hE=>zF N S K L (y.ext (hW.fM hp)) p0.place p1 z a8 hE) ?_)
      intro w u G hu b4
      obtain⟨C,D⟩:=u
      have a':=hu
      replace A:=A.iR G
      replace B:=B.iR G
      replace t:=t.iR G
      replace s:=G.r _ s
      replace leB:=leB.trans G
      have b2:fQ C z.length D:=a'
      dsimp only
      refine vT (by kernel_rfl) (Tr.freeze 4 Z fun w I P=>?_)
      replace A:=A.iR I
      replace B:=B.iR I
      replace t:=t.iR I
      replace s:=I.r _ s
      replace leB:=leB.trans I
      obtain⟨v,a9,H⟩:=bnd H
      refine jc [0,1] [bx q #[iv p0.p.Unit,sL i p0.p.Tools j,sL l p0.p.Steps o,sL d p0.tools h,sL f p0.image g,bV p0.clear,iv p0.tool,iv b.2.1,iv b.2.2.1,bV b.2.2.2.1,iv p0.off,iv b.2.2.2.2] 108,ow f g 121 aW p0.image] (U:=(Option Addr×Nat)) (fun u=>(iv v.1)) (fun O W u=>fQ u.1 v.2.length u.2) (fun u=>[bx q #[iv p0.p.Unit,sL i p0.p.Tools j,sL l p0.p.Steps o,sL d p0.tools h,sL u.1 v.2 u.2,bV p0.clear,iv p0.tool,iv b.2.1,iv b.2.2.1,bV b.2.2.2.1,iv p0.off,iv b.2.2.2.2] 108,ow u.1 u.2 121 aW v.2]) Z (bn Z (bn Z bO)) (fun _=>Z) (wn Z) Z Tryz.call199 (ak Z (ak Z aH)) (fun W hW hp hE=>p8 N (di.mk p0.p p0.tools p0.image p0.clear p0.tool (aK.mk b.2.1 b.2.2.1) b.2.2.2.1 p0.off b.2.2.2.2) i j (A.ext (hW.fM hp)) l o (B.ext (hW.fM hp)) d h (t.ext (hW.fM hp)) f g q z C D (P.uF (hW.fM hp)) v a9 hE) ?_
      intro w u Q hu
      obtain⟨E,F⟩:=u
      have a0:=hu
      replace s:=Q.r _ s
      replace P:=P.le Q
      replace leB:=leB.trans Q
      have T:fQ E v.2.length F:=a0 --@phi
      dsimp only
      refine Tr.k Z (ae (aa (aJ ?_)))
      obtain rfl:=oI H
      exact bR (m:=[iv v.1]) [] (bu Z bG) (fun W hW=>⟨w,(E,F),leB,Z,T,hW.pick (ks:=[0,1]) (by decide) (bn Z (bn Z bO))⟩)

theorem BH{w:Bs}(p0:aO)(p1:aO)(r:Int)(H:nR p0 p1=some r)(hE:HF w w.W E0):Calls Tryz.prog 215 [.agg #[iv p0.X0,iv p0.Y0,iv p0.X1,iv p0.Y1],.agg #[iv p1.X0,iv p1.Y0,iv p1.X1,iv p1.Y1]].toArray w.W fun e W'=>e= .returned (iv r)∧HF w W' E0:=by
 unfold nR at H
 have leB:=Bs.Le.refl w
 refine aX (n:=10) Tryz.func215 Z Z Z hE (aj (dh 1 (cs:=[iv p0.X0,iv p0.Y0,iv p0.X1,iv p0.Y1]) (wn Z) Z Z Z fun b=>(dh 2 (cs:=[iv p1.X0,iv p1.Y0,iv p1.X1,iv p1.Y1]) (wn Z) Z Z Z fun d=>(Tr.k Z (ae (aa (aj (aD (ag kU) Z (aC Z (fun _ _ a c=>ah bF (a.ev Z) (bN c (vs:=[iv p0.X0,iv p0.Y0,iv p0.X1,iv p0.Y1]) (k:=1) Z 0) Z) (aD (ag kU) Z (aC Z (fun _ _ a c=>ah bF (a.ev Z) (bN c (vs:=[iv p1.X0,iv p1.Y0,iv p1.X1,iv p1.Y1]) (k:=2) Z 0) Z) (av gH Z Z (Tr.k Z (ae (aa (aJ ?_))))))))))))))))
 obtain rfl:=oI H
 exact bD leB

theorem Er(N:Nat){w:Bs}(p0:(List (List aK)))(T:Option Addr)(V:Nat)(a3:Sl w.R w.W H9 T V p0)(r:(List bz))(H:rC N p0=some r)(hE:HF w w.W (mF [emp])):Calls Tryz.prog 201 [sL T p0 V].toArray w.W fun e W'=>∃(w':Bs) (u:(Option Addr×Nat)),w.Le w'∧e= .returned (sL u.1 r u.2)∧(fQ u.1 r.length u.2)∧HF w' W' (mF [ow u.1 u.2 121 aW r]):=by
 unfold rC at H
 have leB:=Bs.Le.refl w
 refine aX (n:=138) Tryz.func201 Z Z Z hE (aj (Tr.k Z (bY 1 121 aW ?_)))
 show Tr _ _ (uf _ 2 (sL none (([]:List bz)) 0)) _ _
 refine ae (aa (aj (Tr.k Z (bY 2 3 cK ?_))))
 show Tr _ _ (uf _ 3 (sL none (([]:List Int)) 0)) _ _
 refine ae (aa (aj (Tr.k Z (bY 3 77 bf ?_))))
 show Tr _ _ (uf _ 4 (sL none (([]:List aO)) 0)) _ _
 refine ae (aa (az (aj (aA Z (aD (bA V3) Z (aA Z (ae (aa (Tr.block (cO (σ:=(List (List aK))×Nat×(List Int)×(List aO)×(Option Addr)×Nat×(Option Addr)×Nat) (fun m w s=>m=s.1.length+1∧s.1=List.drop s.2.1 p0∧s.2.1≤p0.length∧iJ N s.1 s.2.1 s.2.2.1 s.2.2.2.1=some r∧fQ s.2.2.2.2.1 s.2.2.1.length s.2.2.2.2.2.1∧fQ s.2.2.2.2.2.2.1 s.2.2.2.1.length s.2.2.2.2.2.2.2) (fun s=>[(3,sL s.2.2.2.2.1 s.2.2.1 s.2.2.2.2.2.1),(4,sL s.2.2.2.2.2.2.1 s.2.2.2.1 s.2.2.2.2.2.2.2),(16,sL T p0 V),(17,iv (p0.length:Int)),(18,iv (s.2.1:Int))]) (fun s=>[(2,ow s.2.2.2.2.1 s.2.2.2.2.2.1 3 cK s.2.2.1),(3,ow s.2.2.2.2.2.2.1 s.2.2.2.2.2.2.2 77 bf s.2.2.2.1)]) (p0.length+1) (p0,0,([]:List Int),([]:List aO),none,0,none,0) ⟨Z,Z,Nat.zero_le _,H,fP,fP⟩ (.r Z) (.r Z) (fun _ _ h=>absurd h.1 (by simp)) ?_))))))))))
 intro w d1 m s hs
 obtain⟨G,a8,a4,Q,A,B,d,f⟩:=s
 obtain⟨e0,a5,k9,H,c6,c7⟩:=hs
 replace a5:G=List.drop a8 p0:=a5
 replace H:iJ N G a8 a4 Q=some r:=H
 replace e0:m+1=G.length+1:=e0
 replace a3:=a3.iR d1
 replace leB:=leB.trans d1
 replace c6:fQ A a4.length B:=c6
 replace c7:fQ d Q.length f:=c7
 obtain rfl:m=G.length:=by omega
 clear e0
 dsimp only
 cases G with
 | nil =>
  rw[iJ.eq_1] at H
  refine aj (av bi Z Z (ae (aa (az (dn Z (cz a5) (bZ (aF (aF (bg (aa (aj (aA Z ?_))))))))))))
  obtain⟨S,i2,H⟩:=bnd H
  refine kz [2] [ow A B 3 cK a4] (U:=Unit) (fun u=>(.tuple #[])) (fun u=>S.length=a4.length) (fun u=>[ow A B 3 cK S]) Z (bn Z bO) (fun _=>Z) (wn Z) Z Tryz.call39 (ak Z aH) (fun W hW hp hE=>vB a4 A B S i2 hE) ?_
  intro u hu
  have e3:=hu
  have a9:S.length=a4.length:=e3 --@phi
  have k1:fQ A S.length B:=by rw[a9];exact c6
  show Tr _ _ (uf _ 66 (.tuple #[])) (up _ 2 (ow A B 3 cK S)) _
  refine Tr.EM (lf:=[(3,sL A S B),(4,sL d Q f),(16,sL T p0 V),(17,iv (p0.length:Int)),(18,iv (a8:Int)),(19,bV (decide ((a8:Int)<(p0.length:Int)))),(65,sL A S B),(66,(.tuple #[]))]) (le:=[(2,ow A B 3 cK S),(3,ow d f 77 bf Q)]) (.cons (pG Z (by unfold sL;rw[a9])) (.cons Z (.cons Z (.cons Z (.cons Z (.cons Z (.cons (pG Z (by unfold sL;rw[a9])) (.r Z)))))))) (.r Z) (ae (aa (aj (aA Z ?_))))
  obtain⟨o,i3,H⟩:=bnd H
  refine kz [2] [ow A B 3 cK S] (U:=(Option Addr×Nat)) (fun u=>(sL u.1 o u.2)) (fun u=>fQ u.1 o.length u.2) (fun u=>[ow u.1 u.2 3 cK o]) Z (bn Z bO) (fun _=>Z) (wn Z) Z Tryz.call40 (ak Z aH) (fun W hW hp hE=>tJ S A B o i3 hE) ?_
  intro u hu
  obtain⟨i,j⟩:=u
  have f4:=hu
  have a6:fQ i o.length j:=f4 --@phi
  dsimp only
  refine Tr.k Z (ae (aa (aj (aA Z ?_))))
  obtain⟨b,i4,H⟩:=bnd H
  refine kz [3] [ow d f 77 bf Q] (U:=Unit) (fun u=>(.tuple #[])) (fun u=>b.length=Q.length) (fun u=>[ow d f 77 bf b]) Z (bn Z bO) (fun _=>Z) (wn Z) Z Tryz.call37 (ak Z (ak Z aH)) (fun W hW hp hE=>nW Q d f (fun z0 z1=>nR z0 z1) 215 [] Tryz.call215 (fun w' he z0 z1 y hy=>BH z0 z1 y hy (HF.start _)) b i4 hE) ?_
  intro u hu
  have e4:=hu
  have b0:b.length=Q.length:=e4 --@phi
  have a':fQ d b.length f:=by rw[b0];exact c7
  show Tr _ _ (uf _ 70 (.tuple #[])) (up _ 3 (ow d f 77 bf b)) _
  refine Tr.EM (lf:=[(3,sL i o j),(4,sL d b f),(16,sL T p0 V),(17,iv (p0.length:Int)),(18,iv (a8:Int)),(19,bV (decide ((a8:Int)<(p0.length:Int)))),(66,(.tuple #[])),(68,sL i o j),(69,sL d b f),(70,(.tuple #[]))]) (le:=[(2,ow i j 3 cK o),(3,ow d f 77 bf b)]) (.cons Z (.cons (pG Z (by unfold sL;rw[b0])) (.cons Z (.cons Z (.cons Z (.cons Z (.cons Z (.cons Z (.cons (pG Z (by unfold sL;rw[b0])) (.r Z)))))))))) (.r Z) (ae (aa (aj (Tr.k Z (bY 28 121 aW ?_)))))
  show Tr _ _ (uf _ 10 (sL none (([]:List bz)) 0)) _ _
  refine ae (aa (az (aj (Tr.k Z (ae (aa (Tr.block (cO (σ:=(List bz)×Int×(Option Addr)×Nat) (fun m w s=>iI o b m s.1 s.2.1=some r∧fQ s.2.2.1 s.1.length s.2.2.2) (fun s=>[(3,sL i o j),(4,sL d b f),(10,sL s.2.2.1 s.1 s.2.2.2),(11,iv s.2.1)]) (fun s=>[(2,ow i j 3 cK o),(3,ow d f 77 bf b),(28,ow s.2.2.1 s.2.2.2 121 aW s.1)]) N (([]:List bz),0,none,0) ⟨H,fP⟩ (.r Z) (.r Z) (fun _ _ h=>oq (h.1)) ?_))))))))
  intro w b1 f7 s hs
  obtain⟨E,a7,C,D⟩:=s
  obtain⟨H,d3⟩:=hs
  replace H:iI o b (f7+1) E a7=some r:=H
  replace leB:=leB.trans b1
  replace d3:fQ C E.length D:=d3
  rw[iI.eq_2] at H
  dsimp only
  refine az (aj (aA Z (av bE Z Z (aA Z (aD (bA ni) Z (av bi Z Z (ae (aa (aN Z H (fun H=>?_) (fun H=>?_))))))))))
  ·refine aM (aa (az (Tr.block (aj (Tr.k Z (bY 43 3 cK ?_))))))
   show Tr _ _ (uf _ 12 (sL none (([]:List Int)) 0)) _ _
   refine ae (aa (az (aj (aA Z (aD (bA o8) Z (aA Z (ae (aa (Tr.block (cO (σ:=(List aO)×Nat×(List Int)×(Option Addr)×Nat) (fun m w s=>m=s.1.length+1∧s.1=List.drop s.2.1 b∧s.2.1≤b.length∧iH o E a7 (iI o b f7) s.1 s.2.1 s.2.2.1=some r∧fQ s.2.2.2.1 s.2.2.1.length s.2.2.2.2) (fun s=>[(3,sL i o j),(4,sL d b f),(10,sL C E D),(11,iv a7),(12,sL s.2.2.2.1 s.2.2.1 s.2.2.2.2),(78,sL d b f),(79,iv (b.length:Int)),(80,iv (s.2.1:Int))]) (fun s=>[(2,ow i j 3 cK o),(3,ow d f 77 bf b),(28,ow C D 121 aW E),(43,ow s.2.2.2.1 s.2.2.2.2 3 cK s.2.2.1)]) (b.length+1) (b,0,([]:List Int),none,0) ⟨Z,Z,Nat.zero_le _,H,fP⟩ (.r Z) (.r Z) (fun _ _ h=>absurd h.1 (by simp)) ?_))))))))))
   intro w d4 m s hs
   obtain⟨I,c5,J,K,L⟩:=s
   obtain⟨e5,F,l0,H,b3⟩:=hs
   replace F:I=List.drop c5 b:=F
   replace H:iH o E a7 (iI o b f7) I c5 J=some r:=H
   replace e5:m+1=I.length+1:=e5
   replace b1:=b1.trans d4
   replace b3:fQ K J.length L:=b3
   obtain rfl:m=I.length:=by omega
   clear e5
   dsimp only
   cases I with
   |nil=>
    rw[iH.eq_1] at H
    refine aj (av bi Z Z (ae (aa (az (dn Z (cz F) (bZ (aF (aF (bg (aa (nP 12 (by kernel_rfl) (by kernel_rfl) (dY Z (dY Z (dY Z ?_))))))))))))))
    obtain⟨e6,i5,H⟩:=bnd H
    obtain⟨f8,f9,g0⟩:=bJ i5
    refine bL Z (fun _ _ a c=>aB lF (a.ev Z) a6 (a.ev Z) f8 f9) (bL Z (fun _ _ a c=>ah bF (a.ev Z) (GY lT (k:=2) c Z g0) Z) (dY Z (dY Z (dL bE Z Z ?_))))
    obtain⟨e7,i6,H⟩:=bnd H
    obtain⟨g1,g2,g3⟩:=bJ i6
    refine bL Z (fun _ _ a c=>aB lF (a.ev Z) a6 (a.ev Z) g1 g2) (bL Z (fun _ _ a c=>ah bF (a.ev Z) (GY lT (k:=2) c Z g3) Z) (dY Z (AP (vs:=[(0,iv e6),(1,iv e7),(2,sL K J L)]) (cs:=[iv e6,iv e7,sL K J L]) (wn Z) Z (bQ Z (bQ Z (bQ Z dR))) (by kernel_rfl) (gz (Tr.freeze 43 Z fun w i7 d5=>?_)))))
    replace b1:=b1.trans i7
    obtain⟨b2,i8,H⟩:=bnd H
    refine jc [28] [ow C D 121 aW E] (U:=(Option Addr×Nat)) (fun u=>(sL u.1 b2 u.2)) (fun O W u=>fQ u.1 b2.length u.2) (fun u=>[ow u.1 u.2 121 aW b2]) Z (bn Z bO) (fun _=>Z) (wn Z) Z Tryz.call43 (ak Z (ak Z aH)) (fun W hW hp hE=>rA E C D (bz.mk e6 e7 J) K L (d5.uF (hW.fM hp)) b2 i8 hE) ?_
    intro w u f1 hu
    obtain⟨b4,b5⟩:=u
    have f5:=hu
    replace d5:=d5.le f1
    replace b1:=b1.trans f1
    have e8:fQ b4 b2.length b5:=f5 --@phi
    dsimp only
    exact Tr.k Z (ae (aQ (aa (aV (aA Z (av bE Z Z (Tr.k Z (ae (aP b1 (b2,(bP (a7+1)),b4,b5) ⟨H,e8⟩ (.r Z) (.r Z))))))))))
   | cons q I=>
    rw[iH.eq_2] at H
    refine aj (av bi Z Z (ae (aa (az (dm Z (dz F) (aM (aa (az (Tr.block (aj (aC Z (fun _ _ a c=>aB sH (a.ev Z) a' (a.ev Z) (Int.natCast_nonneg _) (bq F)) (aC Z (fun _ _ a c=>aL (cs:=[iv q.X0,iv q.Y0,iv q.X1,iv q.Y1]) o9 jy (a.ev Z) (aI.take (GY kQ (k:=3) c Z (dA F)) 4) Z) (Tr.alloc 48 (wn Z) Z tQ fun g4=>(bv 48 (cs:=[iv q.X0,iv q.Y0,iv q.X1,iv q.Y1]) [iv q.X0,iv q.Y0,iv q.X1,iv q.Y1] (wn Z) Z Z Z Z jy Z Z Z (ae (aa (az (az (fZ (by kernel_rfl) (by kernel_rfl) (dD (ag lW) Z (bL Z (fun _ _ a c=>ah bF (a.ev Z) (bN c (vs:=[iv q.X0,iv q.Y0,iv q.X1,iv q.Y1]) (k:=48) Z 1) Z) ?_)))))))))))))))))))))
    refine dY Z (dY Z ?_)
    obtain⟨k2,i9,H⟩:=bnd H
    obtain⟨g5,g6,g7⟩:=bJ i9
    refine bL Z (fun _ _ a c=>aB lF (a.ev Z) a6 (a.ev Z) g5 g6) (bL Z (fun _ _ a c=>ah bF (a.ev Z) (GY lT (k:=2) c Z g7) Z) (dL dE Z Z (dY Z ?_)))
    obtain⟨k3,b6,H⟩:=bnd H
    refine mi 8 [(3,sL i o j),(4,sL d b f),(10,sL C E D),(11,iv a7),(12,sL K J L),(14,pV g4),(78,sL d b f),(79,iv (b.length:Int)),(80,iv (c5:Int)),(99,bV k3)] ?_ ?_
    ·cases b9:(decide (k2<q.Y0))
     ·rw[b9] at b6
      rw[if_neg (by decide)] at b6
      have H:=b6
      refine dJ (ag qw) Z (Tq.x (fun _ _ a c=>ah bF (a.ev Z) (bN c (vs:=[iv q.X0,iv q.Y0,iv q.X1,iv q.Y1]) (k:=48) Z 3) Z) (dJ run_move Z (dJ run_move Z ?_)))
      obtain⟨l1,j0,H⟩:=bnd H
      obtain⟨g8,g9,h0⟩:=bJ j0
      refine Tq.x (fun _ _ a c=>aB lF (a.ev Z) a6 (a.ev Z) g8 g9) (Tq.x (fun _ _ a c=>ah bF (a.ev Z) (GY lT (k:=2) c Z h0) Z) (lg iT Z Z (dL aU Z Z ?_)))
      obtain rfl:=oI H
      exact bK (.r Z)
     ·rw[b9] at b6
      rw[if_pos Z] at b6
      have H:=b6
      obtain rfl:=oI H
      exact bB Z (bB Z (bB Z (bB Z (bB Z (bB Z (bB Z (dL aT Z Z (bK (.r Z)))))))))
    ·refine gz (aa (aN Z H (fun H=>?_) (fun H=>?_)))
     ·exact bZ (aF (bg (aa (aV (av bE Z Z (aA Z (ae (aP d4 (I,(c5+1),J,K,L) ⟨Z,df F,bq F,H,b3⟩ (.cons Z (.cons Z (.cons Z (.cons Z (.cons Z (.cons Z (.cons Z (.cons (congrArg (fun z=>some (Value.int .i64 z)) (cZ F a')) .nil)))))))) (.r Z)))))))))
     ·refine aM (aa (aj (aA Z (aD (bA ni) Z (Tr.k Z (ae (aa (az (fZ (by kernel_rfl) (by kernel_rfl) (dY Z (dL dE Z Z (dY Z ?_))))))))))))
      obtain⟨k4,b7,H⟩:=bnd H
      refine mi 9 [(3,sL i o j),(4,sL d b f),(10,sL C E D),(11,iv a7),(12,sL K J L),(14,pV g4),(15,iv (J.length:Int)),(78,sL d b f),(79,iv (b.length:Int)),(80,iv (c5:Int)),(113,bV k4)] ?_ ?_
      ·cases b9:(decide (0<(J.length:Int)))
       ·rw[b9] at b7
        rw[if_neg (by decide)] at b7
        have H:=b7
        obtain rfl:=oI H
        exact bB Z (bB Z (bB Z (bB Z (bB Z (bB Z (bB Z (bB Z (dL aU Z Z (bK (.r Z))))))))))
       ·rw[b9] at b7
        rw[if_pos Z] at b7
        have H:=b7
        refine dJ run_move Z (dJ run_move Z (lg gH Z Z ?_))
        obtain⟨l3,j1,H⟩:=bnd H
        obtain⟨h1,h2,h3⟩:=bJ j1
        refine Tq.x (fun _ _ a c=>aB lF (a.ev Z) b3 (a.ev Z) h1 h2) (Tq.x (fun _ _ a c=>ah bF (a.ev Z) (GY lT (k:=43) c Z h3) Z) (dJ (ag kU) Z (Tq.x (fun _ _ a c=>ah bF (a.ev Z) (bN c (vs:=[iv q.X0,iv q.Y0,iv q.X1,iv q.Y1]) (k:=48) Z 0) Z) (lg dM Z Z (dL aT Z Z ?_)))))
        obtain rfl:=oI H
        exact bK (.r Z)
      ·refine gz (aa (aN Z H (fun H=>?_) (fun H=>?_)))
       ·refine aV (aA Z (aA Z (av gH Z Z ?_)))
        obtain⟨k5,d6,H⟩:=bnd H
        exact aC Z (fun _ _ a c=>Gd lF (a.ev Z) b3 (a.ev Z) d6) (Tr.k Z (ae (aQ (aa (aV (av bE Z Z (aA Z (ae (IG 43 d6 Z (aP d4 (I,(c5+1),k5,K,L) ⟨Z,df F,bq F,H,(G6 b3 d6)⟩ (.cons Z (.cons Z (.cons Z (.cons Z (.cons Z (.cons Z (.cons Z (.cons (congrArg (fun z=>some (Value.int .i64 z)) (cZ F a')) .nil)))))))) (.r Z)))))))))))
       ·refine aV (aA Z (aD (ag kU) Z (aC Z (fun _ _ a c=>ah bF (a.ev Z) (bN c (vs:=[iv q.X0,iv q.Y0,iv q.X1,iv q.Y1]) (k:=48) Z 0) Z) (fK 49 (e:=3) (vs:=[(0,iv q.X0)]) (cs:=[iv q.X0]) (wn Z) Z (bQ Z dR) (by kernel_rfl) fun l4=>?_))))
        obtain⟨k6,j2,H⟩:=bnd H
        exact Tr.append 43 (t:=cK) (l:=J) (l2:=[q.X0]) (wn Z) Z Z Z Z (fun W hW=>⟨[[iv q.X0]],(.cons ⟨(),trivial,Z⟩ .nil),bN hW (vs:=[iv q.X0]) (k:=49) Z 0⟩) ni vM PL (by decide) Qi Z j2 fun j3 j4 h4=>(Tr.k Z (ae (aQ (aa (aV (av bE Z Z (aA Z (ae (aP d4 (I,(c5+1),k6,j3,j4) ⟨Z,df F,bq F,H,h4⟩ (.cons Z (.cons Z (.cons Z (.cons Z (.cons Z (.cons Z (.cons Z (.cons (congrArg (fun z=>some (Value.int .i64 z)) (cZ F a')) .nil)))))))) (.r Z))))))))))
  ·refine bZ (aF (aF (bg (aa (aj (aA Z (Tr.k Z (ae (aa (aJ ?_))))))))))
   obtain rfl:=oI H
   exact bR (m:=[sL C E D]) [] (bu Z bG) (fun W hW=>⟨w,(C,D),leB,Z,d3,hW.pick (ks:=[28]) (by decide) (bn Z bO)⟩)
 | cons a0 G=>
  rw[iJ.eq_2] at H
  refine aj (av bi Z Z (ae (aa (az (dm Z (dz a5) (aM (aa (az (Tr.block (aj ?_))))))))))
  obtain⟨k7,h5,f6,h6⟩:=(a3).el (dA a5)
  obtain⟨a1,a2⟩:=k7
  have v:=f6
  replace v:Sl w.R w.W dP a1 a2 a0:=v
  refine aC Z (fun _ _ a c=>aB Wy (a.ev Z) a3.form (a.ev Z) (Int.natCast_nonneg _) (bq a5)) (aC Z (fun _ _ a c=>ah Ef (a.ev Z) (tY h5 h6 c) Z) (Tr.k Z (ae (aa (aj (aA Z (aD (bA xO) Z (aA Z (ae (aa (Tr.block (cO (σ:=(List aK)×Nat×(List Int)×(List aO)×(Option Addr)×Nat×(Option Addr)×Nat) (fun m w s=>m=s.1.length+1∧s.1=List.drop s.2.1 a0∧s.2.1≤a0.length∧jl (iJ N G (a8+1)) a0 s.1 s.2.1 s.2.2.1 s.2.2.2.1=some r∧fQ s.2.2.2.2.1 s.2.2.1.length s.2.2.2.2.2.1∧fQ s.2.2.2.2.2.2.1 s.2.2.2.1.length s.2.2.2.2.2.2.2) (fun s=>[(3,sL s.2.2.2.2.1 s.2.2.1 s.2.2.2.2.2.1),(4,sL s.2.2.2.2.2.2.1 s.2.2.2.1 s.2.2.2.2.2.2.2),(6,sL a1 a0 a2),(16,sL T p0 V),(17,iv (p0.length:Int)),(18,iv (a8:Int)),(22,sL a1 a0 a2),(23,iv (a0.length:Int)),(24,iv (s.2.1:Int))]) (fun s=>[(2,ow s.2.2.2.2.1 s.2.2.2.2.2.1 3 cK s.2.2.1),(3,ow s.2.2.2.2.2.2.1 s.2.2.2.2.2.2.2 77 bf s.2.2.2.1)]) (a0.length+1) (a0,0,a4,Q,A,B,d,f) ⟨Z,Z,Nat.zero_le _,H,c6,c7⟩ (.r Z) (.r Z) (fun _ _ h=>absurd h.1 (by simp)) ?_))))))))))))
  intro w d2 m s hs
  obtain⟨M,d8,c4,b8,c8,c9,c0,c3⟩:=s
  obtain⟨e9,P,l5,H,d7,d0⟩:=hs
  replace P:M=List.drop d8 a0:=P
  replace H:jl (iJ N G (a8+1)) a0 M d8 c4 b8=some r:=H
  replace e9:m+1=M.length+1:=e9
  replace v:=v.iR d2
  replace a3:=a3.iR d2
  replace d1:=d1.trans d2
  replace d7:fQ c8 c4.length c9:=d7
  replace d0:fQ c0 b8.length c3:=d0
  obtain rfl:m=M.length:=by omega
  clear e9
  dsimp only
  cases M with
  |nil=>
   rw[jl.eq_1] at H
   exact aj (av bi Z Z (ae (aa (az (dn Z (cz P) (bZ (aF (aF (bg (aQ (aa (aV (av bE Z Z (aA Z (ae (aP d1 (G,(a8+1),c4,b8,c8,c9,c0,c3) ⟨Z,df a5,bq a5,H,d7,d0⟩ (.cons Z (.cons Z (.cons Z (.cons Z (.cons (congrArg (fun z=>some (Value.int .i64 z)) (cZ a5 a3.form)) .nil))))) (.r Z)))))))))))))))))
  | cons g M=>
   rw[jl.eq_2] at H
   refine aj (av bi Z Z (ae (aa (az (dm Z (dz P) (aM (aa (az (Tr.block (aj (aA Z (aC Z (fun _ _ a c=>aB D9 (a.ev Z) v.form (a.ev Z) (Int.natCast_nonneg _) (bq P)) (aC Z (fun _ _ a c=>aL (cs:=[iv g.X,iv g.Y]) iC eU (a.ev Z) (aI.take (pq qK v (dA P) c) 2) Z) (Tr.alloc 58 (wn Z) Z vY fun l6=>(Tr.k Z (bv 58 (cs:=[iv g.X,iv g.Y]) [iv g.X,iv g.Y] (wn Z) Z Z Z Z eU Z Z Z (ae (aa (aj (aA Z (aA Z (av bE Z Z (aA Z (aD (bA xO) Z ?_))))))))))))))))))))))))
   obtain⟨l7,j5,H⟩:=bnd H
   refine aC Z (fun _ _ a c=>Ra (a.ev Z) (a.ev Z) j5) ?_
   obtain⟨p,j6,H⟩:=bnd H
   obtain⟨h7,h8,h9⟩:=bJ j6
   refine aC Z (fun _ _ a c=>aB D9 (a.ev Z) v.form (a.ev Z) h7 h8) (aC Z (fun _ _ a c=>aL (cs:=[iv p.X,iv p.Y]) iC eU (a.ev Z) (aI.take (pq qK v h9 c) 2) Z) (Tr.alloc 59 (wn Z) Z vY fun l8=>(bv 59 (cs:=[iv p.X,iv p.Y]) [iv p.X,iv p.Y] (wn Z) Z Z Z Z eU Z Z Z (ae (aa (aj (aA Z (aD (ag fT) Z (aC Z (fun _ _ a c=>ah bF (a.ev Z) (bN c (vs:=[iv g.X,iv g.Y]) (k:=58) Z 1) Z) (fK 60 (e:=3) (vs:=[(0,iv g.Y)]) (cs:=[iv g.Y]) (wn Z) Z (bQ Z dR) (by kernel_rfl) fun l9=>?_))))))))))
   obtain⟨i0,j7,H⟩:=bnd H
   refine Tr.append 2 (t:=cK) (l:=c4) (l2:=[g.Y]) (wn Z) Z Z Z Z (fun W hW=>⟨[[iv g.Y]],(.cons ⟨(),trivial,Z⟩ .nil),bN hW (vs:=[iv g.Y]) (k:=60) Z 0⟩) ni vM PL (by decide) Qi Z j7 fun f2 f3 d9=>(Tr.k Z (ae (aa (aj (aD (ag fU) Z (aC Z (fun _ _ a c=>ah bF (a.ev Z) (bN c (vs:=[iv g.X,iv g.Y]) (k:=58) Z 0) Z) (aD (ag fU) Z (aC Z (fun _ _ a c=>ah bF (a.ev Z) (bN c (vs:=[iv p.X,iv p.Y]) (k:=59) Z 0) Z) (av dM Z Z (ae (aa (aN Z H (fun H=>?_) (fun H=>?_)))))))))))))
   ·refine aV (aA Z (aD (ag fU) Z (aC Z (fun _ _ a c=>ah bF (a.ev Z) (bN c (vs:=[iv g.X,iv g.Y]) (k:=58) Z 0) Z) (aD (ag fT) Z (aC Z (fun _ _ a c=>ah bF (a.ev Z) (bN c (vs:=[iv g.X,iv g.Y]) (k:=58) Z 1) Z) (aD (ag fT) Z (aC Z (fun _ _ a c=>ah bF (a.ev Z) (bN c (vs:=[iv p.X,iv p.Y]) (k:=59) Z 1) Z) (aC Z (fun _ _ a c=>xe (a.ev Z) (a.ev Z) _) (aD (ag fT) Z (aC Z (fun _ _ a c=>ah bF (a.ev Z) (bN c (vs:=[iv g.X,iv g.Y]) (k:=58) Z 1) Z) (aD (ag fT) Z (aC Z (fun _ _ a c=>ah bF (a.ev Z) (bN c (vs:=[iv p.X,iv p.Y]) (k:=59) Z 1) Z) (aC Z (fun _ _ a c=>xg (a.ev Z) (a.ev Z) _) ?_)))))))))))))
    refine gV (vs:=[(0,iv g.X),(1,iv (min g.Y p.Y)),(3,iv (max g.Y p.Y))]) (cs:=[iv g.X,iv (min g.Y p.Y),iv 0,iv (max g.Y p.Y)]) (wn Z) Z (bQ Z (bQ Z (bQ Z dR))) (by kernel_rfl) (fK 61 (e:=77) (vs:=[(0,.agg #[iv g.X,iv (min g.Y p.Y),iv 0,iv (max g.Y p.Y)])]) (cs:=[iv g.X,iv (min g.Y p.Y),iv 0,iv (max g.Y p.Y)]) (wn Z) Z (bQ Z dR) (by kernel_rfl) fun m0=>?_)
    obtain⟨k8,j8,H⟩:=bnd H
    exact Tr.append 3 (t:=bf) (l:=b8) (l2:=[(aO.mk g.X (min g.Y p.Y) 0 (max g.Y p.Y))]) (wn Z) Z Z Z Z (fun W hW=>⟨[[iv g.X,iv (min g.Y p.Y),iv 0,iv (max g.Y p.Y)]],(.cons ⟨(),trivial,Z⟩ .nil),bN hW (vs:=[iv g.X,iv (min g.Y p.Y),iv 0,iv (max g.Y p.Y)]) (k:=61) Z 0⟩) o8 jy Jk (by decide) JX Z j8 fun j9 k0 i1=>(Tr.k Z (ae (aQ (aa (aV (av bE Z Z (aA Z (ae (aP d2 (M,(d8+1),i0,k8,f2,f3,j9,k0) ⟨Z,df P,bq P,H,d9,i1⟩ (.cons Z (.cons Z (.cons Z (.cons Z (.cons Z (.cons Z (.cons Z (.cons Z (.cons (congrArg (fun z=>some (Value.int .i64 z)) (cZ P v.form)) .nil))))))))) (.r Z))))))))))
   ·exact aM (aQ (aa (aV (av bE Z Z (aA Z (ae (aP d2 (M,(d8+1),i0,b8,f2,f3,c0,c3) ⟨Z,df P,bq P,H,d9,d0⟩ (.cons Z (.cons Z (.cons Z (.cons Z (.cons Z (.cons Z (.cons Z (.cons Z (.cons (congrArg (fun z=>some (Value.int .i64 z)) (cZ P v.form)) .nil))))))))) (.r Z))))))))

theorem wV{w:Bs}(p0:aK)(r:Bool)(H:iL p0=some r)(hE:HF w w.W E0):Calls Tryz.prog 203 [.agg #[iv p0.X,iv p0.Y]].toArray w.W fun e W'=>e= .returned (bV r)∧HF w W' E0:=by
 unfold iL at H
 have leB:=Bs.Le.refl w
 refine aX (n:=6) Tryz.func203 Z Z Z hE (aj (dh 1 (cs:=[iv p0.X,iv p0.Y]) (wn Z) Z Z Z fun f=>(Tr.k Z (ae (aa (aj (aC Z (fun _ _ a c=>aL (cs:=[iv p0.X,iv p0.Y]) iC eU (a.ev Z) (aI.take (bN c (vs:=[iv p0.X,iv p0.Y]) (k:=1) Z 0) 2) Z) ?_)))))))
 obtain⟨b,d,H⟩:=bnd H
 refine aS (r:=(bV b)) (wn Z) Z Tryz.call74 (ak Z aH) (fun W hW=>nY p0 b d (HF.start _)) (aD bT Z (Tr.k Z (ae (aa (aJ ?_)))))
 obtain rfl:=oI H
 exact bD leB

theorem yG(N:Nat){w:Bs}(p0:di)(f:Option Addr)(g:Nat)(i:Sl w.R w.W cB f g p0.p.Tools)(j:Option Addr)(o:Nat)(q:Sl w.R w.W bH j o p0.p.Steps)(v:Option Addr)(A:Nat)(B:Sl w.R w.W fV v A p0.tools)(b:Option Addr)(d:Nat)(Q:Nat)(p1:(List aK))(a3:Option Addr)(a4:Nat)(a':Sl w.R w.W dP a3 a4 p1)(p2:aK)(r:(Int×(List bz)))(H:mP N p0 p1 p2=some r)(hE:HF w w.W (mF [bx Q #[iv p0.p.Unit,sL f p0.p.Tools g,sL j p0.p.Steps o,sL v p0.tools A,sL b p0.image d,bV p0.clear,iv p0.tool,iv p0.place.X,iv p0.place.Y,bV p0.placed,iv p0.off,iv p0.on] 108,ow b d 121 aW p0.image])):Calls Tryz.prog 175 [pV Q,sL a3 p1 a4,.agg #[iv p2.X,iv p2.Y]].toArray w.W fun e W'=>∃(w':Bs) (u:(Option Addr×Nat)),w.Le w'∧e= .returned (iv r.1)∧(fQ u.1 r.2.length u.2)∧HF w' W' (mF [bx Q #[iv p0.p.Unit,sL f p0.p.Tools g,sL j p0.p.Steps o,sL v p0.tools A,sL u.1 r.2 u.2,bV p0.clear,iv p0.tool,iv p0.place.X,iv p0.place.Y,bV p0.placed,iv p0.off,iv p0.on] 108,ow u.1 u.2 121 aW r.2]):=by
 unfold mP at H
 have a6:=(hE.sl (k:=1) Z).form
 have leB:=Bs.Le.refl w
 refine aX (n:=36) Tryz.func175 Z Z Z hE (aj (dh 2 (cs:=[iv p2.X,iv p2.Y]) (wn Z) Z Z Z fun a7=>(Tr.k Z (ae (aa (aj (Tr.k Z (bY 3 54 dP ?_))))))))
 show Tr _ _ (uf _ 7 (sL none (([]:List aK)) 0)) _ _
 refine ae (aa (az (aj (aA Z (aD (bA xO) Z (aA Z (ae (aa (Tr.block (cO (σ:=(List aK)×Nat×(List aK)×(Option Addr)×Nat) (fun m w s=>m=s.1.length+1∧s.1=List.drop s.2.1 p1∧s.2.1≤p1.length∧fD N p0 p2 s.1 s.2.1 s.2.2.1=some r∧fQ s.2.2.2.1 s.2.2.1.length s.2.2.2.2) (fun s=>[(0,pV Q),(5,pV a7),(7,sL s.2.2.2.1 s.2.2.1 s.2.2.2.2),(11,sL a3 p1 a4),(12,iv (p1.length:Int)),(13,iv (s.2.1:Int))]) (fun s=>[(0,bx Q #[iv p0.p.Unit,sL f p0.p.Tools g,sL j p0.p.Steps o,sL v p0.tools A,sL b p0.image d,bV p0.clear,iv p0.tool,iv p0.place.X,iv p0.place.Y,bV p0.placed,iv p0.off,iv p0.on] 108),(1,ow b d 121 aW p0.image),(2,bx a7 #[iv p2.X,iv p2.Y] 54),(3,ow s.2.2.2.1 s.2.2.2.2 54 dP s.2.2.1)]) (p1.length+1) (p1,0,([]:List aK),none,0) ⟨Z,Z,Nat.zero_le _,H,fP⟩ (.r Z) (.r Z) (fun _ _ h=>absurd h.1 (by simp)) ?_))))))))))
 intro w a2 m s hs
 obtain⟨D,b2,F,K,L⟩:=s
 obtain⟨b0,M,d2,H,d1⟩:=hs
 replace M:D=List.drop b2 p1:=M
 replace H:fD N p0 p2 D b2 F=some r:=H
 replace b0:m+1=D.length+1:=b0
 replace i:=i.iR a2
 replace q:=q.iR a2
 replace B:=B.iR a2
 replace a':=a'.iR a2
 replace leB:=leB.trans a2
 obtain rfl:m=D.length:=by omega
 clear b0
 dsimp only
 cases D with
 | nil=>
  rw[fD.eq_1] at H
  refine aj (av bi Z Z (ae (aa (az (dn Z (cz M) (bZ (aF (aF (bg (aa (aj (aA Z (Tr.freeze 3 Z fun w a5 E=>?_)))))))))))))
  replace i:=i.iR a5
  replace q:=q.iR a5
  replace B:=B.iR a5
  replace leB:=leB.trans a5
  refine fK 8 (e:=46) (vs:=[(0,sL K F L)]) (cs:=[sL K F L]) (wn Z) Z (bQ Z dR) (by kernel_rfl) fun c8=>(Tr.own 8 H9 [F] (css:=[[sL K F L]]) Z (.cons ⟨(K,L),E,Z⟩ .nil) Z (by decide) (Bv Z) ?_)
  obtain⟨P,b8,H⟩:=bnd H
  refine jc [9] [emp] (U:=(Option Addr×Nat)) (fun u=>(sL u.1 P u.2)) (fun O W u=>fQ u.1 P.length u.2) (fun u=>[ow u.1 u.2 121 aW P]) Z (bn Z bO) (fun _=>Z) (wn Z) Z Tryz.call201 (ak Z aH) (fun W hW hp hE=>Er N [F] (some ⟨c8,0,none⟩) 1 (hW.TJ (k:=8) Z hp Z) P b8 hE) ?_
  intro w u a0 hu
  obtain⟨I,J⟩:=u
  have b3:=hu
  replace i:=i.iR a0
  replace q:=q.iR a0
  replace B:=B.iR a0
  replace E:=E.le a0
  replace leB:=leB.trans a0
  have c9:fQ I P.length J:=b3 --@phi
  dsimp only
  refine Tr.k Z (ae (aa (az (aj (aA Z ?_)))))
  obtain⟨b5,b9,H⟩:=bnd H
  refine aS (r:=(iv b5)) (wn Z) Z Tryz.call202 (ak Z aH) (fun W hW=>vE P I J (hW.wo (k:=9) Z) b5 b9 (HF.start _)) (av dE Z Z (ae (aa (aN Z H (fun H=>?_) (fun H=>?_)))))
  ·refine aj (Tr.k Z (ae (aa (aJ (ai ?_)))))
   obtain rfl:=oI H
   exact bR (m:=[iv 2]) [] (bu Z bG) (fun W hW=>⟨w,(b,d),leB,Z,a6,hW.pick (ks:=[0,1]) (by decide) (bn Z (bn Z bO))⟩)
  ·refine aM (aa (az (aj (aA Z ?_))))
   obtain⟨b6,c0,H⟩:=bnd H
   refine aS (r:=(bV b6)) (wn Z) Z Tryz.call164 (ak Z (ak Z aH)) (fun W hW=>pR F K L (E.rl.ext hW.aY) (fun z0=>iL z0) 203 [] Tryz.call203 (fun w' he z0 y hy=>wV z0 y hy (HF.start _)) b6 c0 (HF.start _)) (ae (aa (aN Z H (fun H=>?_) (fun H=>?_))))
   ·refine aj (Tr.k Z (ae (aa (aJ (ai ?_)))))
    obtain rfl:=oI H
    exact bR (m:=[iv 1]) [] (bu Z bG) (fun W hW=>⟨w,(b,d),leB,Z,a6,hW.pick (ks:=[0,1]) (by decide) (bn Z (bn Z bO))⟩)
   ·refine aM (aa (aj (aA Z (aA Z (Tr.freeze 9 Z fun w a1 a8=>?_)))))
    replace i:=i.iR a1
    replace q:=q.iR a1
    replace B:=B.iR a1
    replace E:=E.le a1
    replace leB:=leB.trans a1
    obtain⟨G,c3,H⟩:=bnd H
    refine jc [0,1] [bx Q #[iv p0.p.Unit,sL f p0.p.Tools g,sL j p0.p.Steps o,sL v p0.tools A,sL b p0.image d,bV p0.clear,iv p0.tool,iv p0.place.X,iv p0.place.Y,bV p0.placed,iv p0.off,iv p0.on] 108,ow b d 121 aW p0.image] (U:=(Option Addr×Nat)) (fun u=>(iv G.1)) (fun O W u=>fQ u.1 G.2.length u.2) (fun u=>[bx Q #[iv p0.p.Unit,sL f p0.p.Tools g,sL j p0.p.Steps o,sL v p0.tools A,sL u.1 G.2 u.2,bV p0.clear,iv p0.tool,iv p0.place.X,iv p0.place.Y,bV p0.placed,iv p0.off,iv p0.on] 108,ow u.1 u.2 121 aW G.2]) Z (bn Z (bn Z bO)) (fun _=>Z) (wn Z) Z Tryz.call199 (ak Z (ak Z aH)) (fun W hW hp hE=>p8 N p0 f g (i.ext (hW.fM hp)) j o (q.ext (hW.fM hp)) v A (B.ext (hW.fM hp)) b d Q P I J (a8.uF (hW.fM hp)) G c3 hE) ?_
    intro w u a9 hu
    obtain⟨T,V⟩:=u
    have b4:=hu
    replace E:=E.le a9
    replace a8:=a8.le a9
    replace leB:=leB.trans a9
    have b1:fQ T G.2.length V:=b4 --@phi
    dsimp only
    refine Tr.k Z (ae (aa (aJ ?_)))
    obtain rfl:=oI H
    exact bR (m:=[iv G.1]) [] (bu Z bG) (fun W hW=>⟨w,(T,V),leB,Z,b1,hW.pick (ks:=[0,1]) (by decide) (bn Z (bn Z bO))⟩)
 |cons S D=>
  rw[fD.eq_2] at H
  refine aj (av bi Z Z (ae (aa (az (dm Z (dz M) (aM (aa (az (Tr.block (aj (aC Z (fun _ _ a c=>aB D9 (a.ev Z) a'.form (a.ev Z) (Int.natCast_nonneg _) (bq M)) (aC Z (fun _ _ a c=>aL (cs:=[iv S.X,iv S.Y]) iC eU (a.ev Z) (aI.take (pq qK a' (dA M) c) 2) Z) (Tr.alloc 10 (wn Z) Z vY fun d3=>(bv 10 (cs:=[iv S.X,iv S.Y]) [iv S.X,iv S.Y] (wn Z) Z Z Z Z eU Z Z Z (ae (aa (aV (aA Z (aA Z (aC Z (fun _ _ a c=>aL (cs:=[iv S.X,iv S.Y]) iC eU (a.ev Z) (aI.take (bN c (vs:=[iv S.X,iv S.Y]) (k:=10) Z 0) 2) Z) (aC Z (fun _ _ a c=>aL (cs:=[iv p2.X,iv p2.Y]) iC eU (a.ev Z) (aI.take (bN c (vs:=[iv p2.X,iv p2.Y]) (k:=2) Z 0) 2) Z) ?_)))))))))))))))))))))
  obtain⟨C,c4,H⟩:=bnd H
  refine aS (r:=(.agg #[iv C.X,iv C.Y])) (wn Z) Z Tryz.call171 (ak Z (ak Z (ak Z aH))) (fun W hW=>sJ p0 f g (i.ext hW.aY) j o (q.ext hW.aY) v A (B.ext hW.aY) b d (hW.wo (k:=1) Z) Q (hW.AC (k:=0) Z) (hW.Jd (k:=0) Z) S p2 C c4 (HF.start _)) (fK 11 (e:=54) (vs:=[(0,.agg #[iv C.X,iv C.Y])]) (cs:=[iv C.X,iv C.Y]) (wn Z) Z (bQ Z dR) (by kernel_rfl) fun d4=>?_)
  obtain⟨d0,c5,H⟩:=bnd H
  exact Tr.append 3 (t:=dP) (l:=F) (l2:=[C]) (wn Z) Z Z Z Z (fun W hW=>⟨[[iv C.X,iv C.Y]],(.cons ⟨(),trivial,Z⟩ .nil),bN hW (vs:=[iv C.X,iv C.Y]) (k:=11) Z 0⟩) xO eU Xd (by decide) XV Z c5 fun c6 c7 b7=>(Tr.k Z (ae (aQ (aa (aV (av bE Z Z (aA Z (ae (aP a2 (D,(b2+1),d0,c6,c7) ⟨Z,df M,bq M,H,b7⟩ (.cons Z (.cons Z (.cons Z (.cons Z (.cons Z (.cons (congrArg (fun z=>some (Value.int .i64 z)) (cZ M a'.form)) .nil)))))) (.r Z))))))))))

theorem yE(rec:di→(List aZ)→aK→Option (Int×Bool×Int×Int×Int×Bool×Int×Int×(List bz)))(hrec:∀{w:Bs} (p0:di) (d:Option Addr) (f:Nat) (J:Sl w.R w.W cB d f p0.p.Tools) (g:Option Addr) (i:Nat) (K:Sl w.R w.W bH g i p0.p.Steps) (j:Option Addr) (l:Nat) (M:Sl w.R w.W fV j l p0.tools) (q:Option Addr) (t:Nat) (o:Nat) (p1:(List aZ)) (y:Option Addr) (z:Nat) (c5:Sl w.R w.W bH y z p1) (p2:aK) (r:(Int×Bool×Int×Int×Int×Bool×Int×Int×(List bz))) (H:rec p0 p1 p2=some r) (hE:HF w w.W (mF [bx o #[iv p0.p.Unit,sL d p0.p.Tools f,sL g p0.p.Steps i,sL j p0.tools l,sL q p0.image t,bV p0.clear,iv p0.tool,iv p0.place.X,iv p0.place.Y,bV p0.placed,iv p0.off,iv p0.on] 108,ow q t 121 aW p0.image])),Calls Tryz.prog 84 [pV o,sL y p1 z,.agg #[iv p2.X,iv p2.Y]].toArray w.W fun e W'=>∃(w':Bs) (u:(Option Addr×Nat)),w.Le w'∧e= .returned (iv r.1)∧(fQ u.1 r.2.2.2.2.2.2.2.2.length u.2)∧HF w' W' (mF [bx o #[iv p0.p.Unit,sL d p0.p.Tools f,sL g p0.p.Steps i,sL j p0.tools l,sL u.1 r.2.2.2.2.2.2.2.2 u.2,bV r.2.1,iv r.2.2.1,iv r.2.2.2.1,iv r.2.2.2.2.1,bV r.2.2.2.2.2.1,iv r.2.2.2.2.2.2.1,iv r.2.2.2.2.2.2.2.1] 108,ow u.1 u.2 121 aW r.2.2.2.2.2.2.2.2]))(N:Nat){w:Bs}(p0:di)(d:Option Addr)(f:Nat)(J:Sl w.R w.W cB d f p0.p.Tools)(g:Option Addr)(i:Nat)(K:Sl w.R w.W bH g i p0.p.Steps)(j:Option Addr)(l:Nat)(M:Sl w.R w.W fV j l p0.tools)(q:Option Addr)(t:Nat)(o:Nat)(p1:aZ)(y:Option Addr)(z:Nat)(c5:Sl w.R w.W dP y z p1.Points)(B:Option Addr)(C:Nat)(a5:Sl w.R w.W bH B C p1.Steps)(p2:aK)(r:(Int×Bool×Int×Int×Int×Bool×Int×Int×(List bz)))(H:jm rec N p0 p1 p2=some r)(hE:HF w w.W (mF [bx o #[iv p0.p.Unit,sL d p0.p.Tools f,sL g p0.p.Steps i,sL j p0.tools l,sL q p0.image t,bV p0.clear,iv p0.tool,iv p0.place.X,iv p0.place.Y,bV p0.placed,iv p0.off,iv p0.on] 108,ow q t 121 aW p0.image])):Calls Tryz.prog 128 [pV o,.agg #[iv p1.Kind,sv p1.Name,iv p1.At.X,iv p1.At.Y,sL y p1.Points z,iv p1.NX,iv p1.NY,sL B p1.Steps C],.agg #[iv p2.X,iv p2.Y]].toArray w.W fun e W'=>∃(w':Bs) (u:(Option Addr×Nat)),w.Le w'∧e= .returned (iv r.1)∧(fQ u.1 r.2.2.2.2.2.2.2.2.length u.2)∧HF w' W' (mF [bx o #[iv p0.p.Unit,sL d p0.p.Tools f,sL g p0.p.Steps i,sL j p0.tools l,sL u.1 r.2.2.2.2.2.2.2.2 u.2,bV r.2.1,iv r.2.2.1,iv r.2.2.2.1,iv r.2.2.2.2.1,bV r.2.2.2.2.2.1,iv r.2.2.2.2.2.2.1,iv r.2.2.2.2.2.2.2.1] 108,ow u.1 u.2 121 aW r.2.2.2.2.2.2.2.2]):=by
 unfold jm at H
 have a2:=(hE.sl (k:=1) Z).form
 have leB:=Bs.Le.refl w
 refine aX (n:=116) Tryz.func128 Z Z Z hE (aj (dh 2 (cs:=[iv p1.Kind,sv p1.Name,iv p1.At.X,iv p1.At.Y,sL y p1.Points z,iv p1.NX,iv p1.NY,sL B p1.Steps C]) (wn Z) Z Z Z fun F=>(dh 3 (cs:=[iv p2.X,iv p2.Y]) (wn Z) Z Z Z fun L=>(Tr.k Z (ae (aa (aj (aA Z (aD (ag Ai) Z (aC Z (fun _ _ a c=>aL (cs:=[iv p1.At.X,iv p1.At.Y]) iC eU (a.ev Z) (aI.take (bN c (vs:=[iv p1.Kind,sv p1.Name,iv p1.At.X,iv p1.At.Y,sL y p1.Points z,iv p1.NX,iv p1.NY,sL B p1.Steps C]) (k:=2) Z 2) 2) Z) (aC Z (fun _ _ a c=>aL (cs:=[iv p2.X,iv p2.Y]) iC eU (a.ev Z) (aI.take (bN c (vs:=[iv p2.X,iv p2.Y]) (k:=3) Z 0) 2) Z) ?_)))))))))))
 obtain⟨A,g5,H⟩:=bnd H
 refine aS (r:=(.agg #[iv A.X,iv A.Y])) (wn Z) Z Tryz.call171 (ak Z (ak Z (ak Z aH))) (fun W hW=>sJ p0 d f (J.ext hW.aY) g i (K.ext hW.aY) j l (M.ext hW.aY) q t (hW.wo (k:=1) Z) o (hW.AC (k:=0) Z) (hW.Jd (k:=0) Z) p1.At p2 A g5 (HF.start _)) (Tr.alloc 4 (wn Z) Z vY fun d1=>(bv 4 (cs:=[iv A.X,iv A.Y]) [iv A.X,iv A.Y] (wn Z) Z Z Z Z eU Z Z Z (ae (aa ?_))))
 have S:=Bs.Le.refl w
 refine pz (σ:=(List bz)×Bool×Int×Int×Int×Bool×Int×Int×(Option Addr)×Nat) (fun w s=>fC s.1 s.2.1 s.2.2.1 s.2.2.2.1 s.2.2.2.2.1 s.2.2.2.2.2.1 s.2.2.2.2.2.2.1 s.2.2.2.2.2.2.2.1=some r∧fQ s.2.2.2.2.2.2.2.2.1 s.1.length s.2.2.2.2.2.2.2.2.2) (fun s=>[]) (fun s=>[(0,bx o #[iv p0.p.Unit,sL d p0.p.Tools f,sL g p0.p.Steps i,sL j p0.tools l,sL s.2.2.2.2.2.2.2.2.1 s.1 s.2.2.2.2.2.2.2.2.2,bV s.2.1,iv s.2.2.1,iv s.2.2.2.1,iv s.2.2.2.2.1,bV s.2.2.2.2.2.1,iv s.2.2.2.2.2.2.1,iv s.2.2.2.2.2.2.2.1] 108),(1,ow s.2.2.2.2.2.2.2.2.1 s.2.2.2.2.2.2.2.2.2 121 aW s.1)]) ?_ ?_
 ·refine aj (aD (ag DU) Z (aC Z (fun _ _ a c=>ah bF (a.ev Z) (bN c (vs:=[iv p1.Kind,sv p1.Name,iv p1.At.X,iv p1.At.Y,sL y p1.Points z,iv p1.NX,iv p1.NY,sL B p1.Steps C]) (k:=2) Z 0) Z) (ae (aa (Tr.block ?_)))))
  have e4:=Bs.Le.refl w
  refine pz (σ:=Bool) (fun w s=>gN N p0 p1 p2 rec A s=some r) (fun s=>[(0,pV o),(4,pV F),(5,pV L),(7,pV d1),(18,iv p1.Kind),(19,bV s)]) (fun s=>[(0,bx o #[iv p0.p.Unit,sL d p0.p.Tools f,sL g p0.p.Steps i,sL j p0.tools l,sL q p0.image t,bV p0.clear,iv p0.tool,iv p0.place.X,iv p0.place.Y,bV p0.placed,iv p0.off,iv p0.on] 108),(1,ow q t 121 aW p0.image),(2,bx F #[iv p1.Kind,sv p1.Name,iv p1.At.X,iv p1.At.Y,sL y p1.Points z,iv p1.NX,iv p1.NY,sL B p1.Steps C] 214),(3,bx L #[iv p2.X,iv p2.Y] 54),(4,bx d1 #[iv A.X,iv A.Y] 54)]) ?_ ?_
  ·refine aj (av dM Z Z (Tr.k Z (ae (aa (aN Z H (fun H=>?_) (fun H=>?_))))))
   ·exact aM (aP e4 (p1.Kind==1) H (.r Z) (.r Z))
   ·exact aV (av dM Z Z (Tr.k Z (ae (aP e4 (p1.Kind==2) H (.r Z) (.r Z)))))
  ·intro w f5 a0 hs
   have H:=hs
   replace H:gN N p0 p1 p2 rec A f5=some r:=H
   replace J:=J.iR a0
   replace K:=K.iR a0
   replace M:=M.iR a0
   replace c5:=c5.iR a0
   replace a5:=a5.iR a0
   replace leB:=leB.trans a0
   replace S:=S.trans a0
   unfold gN at H
   show Tr _ _ (LF [(0,pV o),(4,pV F),(5,pV L),(7,pV d1),(18,iv p1.Kind),(19,bV f5)]) (LE [(0,bx o #[iv p0.p.Unit,sL d p0.p.Tools f,sL g p0.p.Steps i,sL j p0.tools l,sL q p0.image t,bV p0.clear,iv p0.tool,iv p0.place.X,iv p0.place.Y,bV p0.placed,iv p0.off,iv p0.on] 108),(1,ow q t 121 aW p0.image),(2,bx F #[iv p1.Kind,sv p1.Name,iv p1.At.X,iv p1.At.Y,sL y p1.Points z,iv p1.NX,iv p1.NY,sL B p1.Steps C] 214),(3,bx L #[iv p2.X,iv p2.Y] 54),(4,bx d1 #[iv A.X,iv A.Y] 54)]) _
   refine aN Z H (fun H=>?_) (fun H=>?_)
   ·exact aV (aA Z (aD (ag DU) Z (aC Z (fun _ _ a c=>ah bF (a.ev Z) (bN c (vs:=[iv p1.Kind,sv p1.Name,iv p1.At.X,iv p1.At.Y,sL y p1.Points z,iv p1.NX,iv p1.NY,sL B p1.Steps C]) (k:=2) Z 0) Z) (av dM Z Z (aD cu Z (aD (ag Mo) Z (bv 0 (cs:=[bV (p1.Kind==2)]) [iv p0.p.Unit,sL d p0.p.Tools f,sL g p0.p.Steps i,sL j p0.tools l,sL q p0.image t,bV (p1.Kind==2),iv p0.tool,iv p0.place.X,iv p0.place.Y,bV p0.placed,iv p0.off,iv p0.on] (wn Z) Z Z Z Z V5 Z Z Z (ae (aQ (aP S (p0.image,(p1.Kind==2),p0.tool,p0.place.X,p0.place.Y,p0.placed,p0.off,p0.on,q,t) ⟨H,a2⟩ .nil (.r Z)))))))))))
   ·refine aj (av dM Z Z (Tr.k Z (ae (aa (aN Z H (fun H=>?_) (fun H=>?_))))))
    ·refine nP 8 (by kernel_rfl) (by kernel_rfl) (dY Z (dY Z (dD cu Z (dD (ag Ap) Z (bL Z (fun _ _ a c=>aL (cs:=[iv p0.p.Unit,sL d p0.p.Tools f,sL g p0.p.Steps i]) yw wZ (a.ev Z) (aI.take (bN c (vs:=[iv p0.p.Unit,sL d p0.p.Tools f,sL g p0.p.Steps i,sL j p0.tools l,sL q p0.image t,bV p0.clear,iv p0.tool,iv p0.place.X,iv p0.place.Y,bV p0.placed,iv p0.off,iv p0.on]) (k:=0) Z 0) 3) Z) (dD (ag Hz) Z (bL Z (fun _ _ a c=>ah jD (a.ev Z) (bN c (vs:=[iv p1.Kind,sv p1.Name,iv p1.At.X,iv p1.At.Y,sL y p1.Points z,iv p1.NX,iv p1.NY,sL B p1.Steps C]) (k:=2) Z 1) Z) ?_)))))))
     obtain⟨c9,g6,H⟩:=bnd H
     exact lH (r:=(iv c9)) (wn Z) Z Tryz.call162 (ak Z (ak Z aH)) (fun W hW=>yD p0.p d f (J.ext hW.aY) g i (K.ext hW.aY) p1.Name c9 g6 (HF.start _)) (gz (aD cu Z (aD (ag Ao) Z (bv 0 (cs:=[iv c9]) [iv p0.p.Unit,sL d p0.p.Tools f,sL g p0.p.Steps i,sL j p0.tools l,sL q p0.image t,bV p0.clear,iv c9,iv p0.place.X,iv p0.place.Y,bV p0.placed,iv p0.off,iv p0.on] (wn Z) Z Z Z Z vM Z Z Z (ae (aQ (aP S (p0.image,p0.clear,c9,p0.place.X,p0.place.Y,p0.placed,p0.off,p0.on,q,t) ⟨H,a2⟩ .nil (.r Z))))))))
    ·refine aj (av dM Z Z (Tr.k Z (ae (aa (aN Z H (fun H=>?_) (fun H=>?_))))))
     ·refine az (nP 5 (by kernel_rfl) (by kernel_rfl) (dY Z (bL Z (fun _ _ a c=>aL (cs:=[iv A.X,iv A.Y]) iC eU (a.ev Z) (aI.take (bN c (vs:=[iv A.X,iv A.Y]) (k:=4) Z 0) 2) Z) (dY Z (dD cu Z (dD (ag Mm) Z (gz ?_)))))))
      obtain⟨T,g7,H⟩:=bnd H
      refine kz [0] [bx o #[iv p0.p.Unit,sL d p0.p.Tools f,sL g p0.p.Steps i,sL j p0.tools l,sL q p0.image t,bV p0.clear,iv p0.tool,iv p0.place.X,iv p0.place.Y,bV p0.placed,iv p0.off,iv p0.on] 108] (U:=Unit) (fun u=>(iv T.1)) (fun u=>True) (fun u=>[bx o #[iv p0.p.Unit,sL d p0.p.Tools f,sL g p0.p.Steps i,sL j p0.tools l,sL q p0.image t,bV p0.clear,iv p0.tool,iv T.2.1,iv T.2.2.1,bV T.2.2.2.1,iv T.2.2.2.2,iv p0.on] 108]) Z (bn Z bO) (fun _=>Z) (wn Z) Z Tryz.call172 (ak Z (ak Z (ak Z aH))) (fun W hW hp hE=>qp p0 d f (J.ext (hW.fM hp)) g i (K.ext (hW.fM hp)) j l (M.ext (hW.fM hp)) q t (hW.TJ (k:=1) Z hp Z) o A T g7 hE) ?_
      intro u hu
      show Tr _ _ (uf _ 47 (iv T.1)) (up _ 0 (bx o #[iv p0.p.Unit,sL d p0.p.Tools f,sL g p0.p.Steps i,sL j p0.tools l,sL q p0.image t,bV p0.clear,iv p0.tool,iv T.2.1,iv T.2.2.1,bV T.2.2.2.1,iv T.2.2.2.2,iv p0.on] 108)) _
      refine Tr.k Z (ae (aa (aJ (au (ai ?_)))))
      obtain rfl:=oI H
      exact bR (m:=[iv T.1]) [] (bu Z bG) (fun W hW=>⟨w,(q,t),leB,Z,a2,hW.pick (ks:=[0,1]) (by decide) (bn Z (bn Z bO))⟩)
     ·refine aj (av dM Z Z (Tr.k Z (ae (aa (aN Z H (fun H=>?_) (fun H=>?_))))))
      ·refine aj (aA Z (aC Z (fun _ _ a c=>aL (cs:=[iv A.X,iv A.Y]) iC eU (a.ev Z) (aI.take (bN c (vs:=[iv A.X,iv A.Y]) (k:=4) Z 0) 2) Z) ?_))
       obtain⟨G,g8,H⟩:=bnd H
       refine jc [0,1] [bx o #[iv p0.p.Unit,sL d p0.p.Tools f,sL g p0.p.Steps i,sL j p0.tools l,sL q p0.image t,bV p0.clear,iv p0.tool,iv p0.place.X,iv p0.place.Y,bV p0.placed,iv p0.off,iv p0.on] 108,ow q t 121 aW p0.image] (U:=(Option Addr×Nat)) (fun u=>(iv G.1)) (fun O W u=>fQ u.1 G.2.2.2.2.2.length u.2) (fun u=>[bx o #[iv p0.p.Unit,sL d p0.p.Tools f,sL g p0.p.Steps i,sL j p0.tools l,sL u.1 G.2.2.2.2.2 u.2,bV p0.clear,iv p0.tool,iv G.2.1,iv G.2.2.1,bV G.2.2.2.1,iv G.2.2.2.2.1,iv p0.on] 108,ow u.1 u.2 121 aW G.2.2.2.2.2]) Z (bn Z (bn Z bO)) (fun _=>Z) (wn Z) Z Tryz.call173 (ak Z (ak Z aH)) (fun W hW hp hE=>xK N p0 d f (J.ext (hW.fM hp)) g i (K.ext (hW.fM hp)) j l (M.ext (hW.fM hp)) q t o A G g8 hE) ?_
       intro w u g9 hu
       obtain⟨b4,b5⟩:=u
       have f1:=hu
       replace leB:=leB.trans g9
       have e5:fQ b4 G.2.2.2.2.2.length b5:=f1 --@phi
       dsimp only
       refine Tr.k Z (ae (aa (aJ (au (ai ?_)))))
       obtain rfl:=oI H
       exact bR (m:=[iv G.1]) [] (bu Z bG) (fun W hW=>⟨w,(b4,b5),leB,Z,e5,hW.pick (ks:=[0,1]) (by decide) (bn Z (bn Z bO))⟩)
      ·refine aj (av dM Z Z (Tr.k Z (ae (aa (aN Z H (fun H=>?_) (fun H=>?_))))))
       ·refine aj (aA Z (aC Z (fun _ _ a c=>aL (cs:=[iv A.X,iv A.Y]) iC eU (a.ev Z) (aI.take (bN c (vs:=[iv A.X,iv A.Y]) (k:=4) Z 0) 2) Z) ?_))
        obtain⟨I,h0,H⟩:=bnd H
        refine jc [0,1] [bx o #[iv p0.p.Unit,sL d p0.p.Tools f,sL g p0.p.Steps i,sL j p0.tools l,sL q p0.image t,bV p0.clear,iv p0.tool,iv p0.place.X,iv p0.place.Y,bV p0.placed,iv p0.off,iv p0.on] 108,ow q t 121 aW p0.image] (U:=(Option Addr×Nat)) (fun u=>(iv I.1)) (fun O W u=>fQ u.1 I.2.2.2.2.2.length u.2) (fun u=>[bx o #[iv p0.p.Unit,sL d p0.p.Tools f,sL g p0.p.Steps i,sL j p0.tools l,sL u.1 I.2.2.2.2.2 u.2,bV p0.clear,iv p0.tool,iv I.2.1,iv I.2.2.1,bV I.2.2.2.1,iv p0.off,iv I.2.2.2.2.1] 108,ow u.1 u.2 121 aW I.2.2.2.2.2]) Z (bn Z (bn Z bO)) (fun _=>Z) (wn Z) Z Tryz.call174 (ak Z (ak Z aH)) (fun W hW hp hE=>yF N p0 d f (J.ext (hW.fM hp)) g i (K.ext (hW.fM hp)) j l (M.ext (hW.fM hp)) q t o A I h0 hE) ?_
        intro w u h1 hu
        obtain⟨b6,b7⟩:=u
        have f2:=hu
        replace leB:=leB.trans h1
        have e6:fQ b6 I.2.2.2.2.2.length b7:=f2 --@phi
        dsimp only
        refine Tr.k Z (ae (aa (aJ (au (ai ?_)))))
        obtain rfl:=oI H
        exact bR (m:=[iv I.1]) [] (bu Z bG) (fun W hW=>⟨w,(b6,b7),leB,Z,e6,hW.pick (ks:=[0,1]) (by decide) (bn Z (bn Z bO))⟩)
       ·refine aj (av dM Z Z (Tr.k Z (ae (aa (aN Z H (fun H=>?_) (fun H=>?_))))))
        ·refine aj (aA Z (aD (ag Ah) Z (aC Z (fun _ _ a c=>ah Ef (a.ev Z) (bN c (vs:=[iv p1.Kind,sv p1.Name,iv p1.At.X,iv p1.At.Y,sL y p1.Points z,iv p1.NX,iv p1.NY,sL B p1.Steps C]) (k:=2) Z 4) Z) (aC Z (fun _ _ a c=>aL (cs:=[iv p2.X,iv p2.Y]) iC eU (a.ev Z) (aI.take (bN c (vs:=[iv p2.X,iv p2.Y]) (k:=3) Z 0) 2) Z) ?_))))
         obtain⟨a1,h2,H⟩:=bnd H
         refine jc [0,1] [bx o #[iv p0.p.Unit,sL d p0.p.Tools f,sL g p0.p.Steps i,sL j p0.tools l,sL q p0.image t,bV p0.clear,iv p0.tool,iv p0.place.X,iv p0.place.Y,bV p0.placed,iv p0.off,iv p0.on] 108,ow q t 121 aW p0.image] (U:=(Option Addr×Nat)) (fun u=>(iv a1.1)) (fun O W u=>fQ u.1 a1.2.length u.2) (fun u=>[bx o #[iv p0.p.Unit,sL d p0.p.Tools f,sL g p0.p.Steps i,sL j p0.tools l,sL u.1 a1.2 u.2,bV p0.clear,iv p0.tool,iv p0.place.X,iv p0.place.Y,bV p0.placed,iv p0.off,iv p0.on] 108,ow u.1 u.2 121 aW a1.2]) Z (bn Z (bn Z bO)) (fun _=>Z) (wn Z) Z Tryz.call175 (ak Z (ak Z (ak Z aH))) (fun W hW hp hE=>yG N p0 d f (J.ext (hW.fM hp)) g i (K.ext (hW.fM hp)) j l (M.ext (hW.fM hp)) q t o p1.Points y z (c5.ext (hW.fM hp)) p2 a1 h2 hE) ?_
         intro w u h3 hu
         obtain⟨b8,b9⟩:=u
         have f3:=hu
         replace leB:=leB.trans h3
         have e7:fQ b8 a1.2.length b9:=f3 --@phi
         dsimp only
         refine Tr.k Z (ae (aa (aJ (au (ai ?_)))))
         obtain rfl:=oI H
         exact bR (m:=[iv a1.1]) [] (bu Z bG) (fun W hW=>⟨w,(b8,b9),leB,Z,e7,hW.pick (ks:=[0,1]) (by decide) (bn Z (bn Z bO))⟩)
        ·refine aj (av dM Z Z (Tr.k Z (ae (aa (aN Z H (fun H=>?_) (fun H=>?_))))))
         ·refine aj (aD (ag DR) Z (aC Z (fun _ _ a c=>ah bF (a.ev Z) (bN c (vs:=[iv p1.Kind,sv p1.Name,iv p1.At.X,iv p1.At.Y,sL y p1.Points z,iv p1.NX,iv p1.NY,sL B p1.Steps C]) (k:=2) Z 6) Z) (aA Z (ae (aa (Tr.block (cO (σ:=(List bz)×Bool×Int×Int×Int×Bool×Int×Int×Int×(Option Addr)×Nat) (fun m w s=>eP N p0 p1 p2 rec m s.1 s.2.1 s.2.2.1 s.2.2.2.1 s.2.2.2.2.1 s.2.2.2.2.2.1 s.2.2.2.2.2.2.1 s.2.2.2.2.2.2.2.1 s.2.2.2.2.2.2.2.2.1=some r∧fQ s.2.2.2.2.2.2.2.2.2.1 s.1.length s.2.2.2.2.2.2.2.2.2.2) (fun s=>[(0,pV o),(4,pV F),(5,pV L),(68,iv p1.NY),(69,iv s.2.2.2.2.2.2.2.2.1)]) (fun s=>[(0,bx o #[iv p0.p.Unit,sL d p0.p.Tools f,sL g p0.p.Steps i,sL j p0.tools l,sL s.2.2.2.2.2.2.2.2.2.1 s.1 s.2.2.2.2.2.2.2.2.2.2,bV s.2.1,iv s.2.2.1,iv s.2.2.2.1,iv s.2.2.2.2.1,bV s.2.2.2.2.2.1,iv s.2.2.2.2.2.2.1,iv s.2.2.2.2.2.2.2.1] 108),(1,ow s.2.2.2.2.2.2.2.2.2.1 s.2.2.2.2.2.2.2.2.2.2 121 aW s.1),(2,bx F #[iv p1.Kind,sv p1.Name,iv p1.At.X,iv p1.At.Y,sL y p1.Points z,iv p1.NX,iv p1.NY,sL B p1.Steps C] 214),(3,bx L #[iv p2.X,iv p2.Y] 54)]) N (p0.image,p0.clear,p0.tool,p0.place.X,p0.place.Y,p0.placed,p0.off,p0.on,0,q,t) ⟨H,a2⟩ (.r Z) (.r Z) (fun _ _ h=>oq (h.1)) ?_)))))))
          intro w a6 f6 s hs
          obtain⟨c4,d2,d3,d4,d5,d6,d7,d8,D,c0,c3⟩:=s
          obtain⟨H,c6⟩:=hs
          replace H:eP N p0 p1 p2 rec (f6+1) c4 d2 d3 d4 d5 d6 d7 d8 D=some r:=H
          replace J:=J.iR a6
          replace K:=K.iR a6
          replace M:=M.iR a6
          replace a5:=a5.iR a6
          replace leB:=leB.trans a6
          replace S:=S.trans a6
          replace c6:fQ c0 c4.length c3:=c6
          rw[eP.eq_2] at H
          dsimp only
          refine aj (av bi Z Z (ae (aa (az (aN Z H (fun H=>?_) (fun H=>?_))))))
          ·refine aM (aa (az (Tr.block (aj (aA Z (Tr.k Z (ae (aa (aj (aD (ag DT) Z (aC Z (fun _ _ a c=>ah bF (a.ev Z) (bN c (vs:=[iv p1.Kind,sv p1.Name,iv p1.At.X,iv p1.At.Y,sL y p1.Points z,iv p1.NX,iv p1.NY,sL B p1.Steps C]) (k:=2) Z 5) Z) (aA Z (ae (aa (Tr.block (cO (σ:=(List bz)×Bool×Int×Int×Int×Bool×Int×Int×Int×(Option Addr)×Nat) (fun m w s=>gM p0 p1 p2 rec D (eP N p0 p1 p2 rec f6) m s.1 s.2.1 s.2.2.1 s.2.2.2.1 s.2.2.2.2.1 s.2.2.2.2.2.1 s.2.2.2.2.2.2.1 s.2.2.2.2.2.2.2.1 s.2.2.2.2.2.2.2.2.1=some r∧fQ s.2.2.2.2.2.2.2.2.2.1 s.1.length s.2.2.2.2.2.2.2.2.2.2) (fun s=>[(0,pV o),(4,pV F),(5,pV L),(8,iv D),(68,iv p1.NY),(69,iv D),(73,iv p1.NX),(74,iv s.2.2.2.2.2.2.2.2.1)]) (fun s=>[(0,bx o #[iv p0.p.Unit,sL d p0.p.Tools f,sL g p0.p.Steps i,sL j p0.tools l,sL s.2.2.2.2.2.2.2.2.2.1 s.1 s.2.2.2.2.2.2.2.2.2.2,bV s.2.1,iv s.2.2.1,iv s.2.2.2.1,iv s.2.2.2.2.1,bV s.2.2.2.2.2.1,iv s.2.2.2.2.2.2.1,iv s.2.2.2.2.2.2.2.1] 108),(1,ow s.2.2.2.2.2.2.2.2.2.1 s.2.2.2.2.2.2.2.2.2.2 121 aW s.1),(2,bx F #[iv p1.Kind,sv p1.Name,iv p1.At.X,iv p1.At.Y,sL y p1.Points z,iv p1.NX,iv p1.NY,sL B p1.Steps C] 214),(3,bx L #[iv p2.X,iv p2.Y] 54)]) N (c4,d2,d3,d4,d5,d6,d7,d8,0,c0,c3) ⟨H,c6⟩ (.r Z) (.r Z) (fun _ _ h=>oq (h.1)) ?_))))))))))))))))
           intro w a' h5 s hs
           obtain⟨V,a7,a8,a9,b0,b1,b2,b3,E,P,Q⟩:=s
           obtain⟨H,d9⟩:=hs
           replace H:gM p0 p1 p2 rec D (eP N p0 p1 p2 rec f6) (h5+1) V a7 a8 a9 b0 b1 b2 b3 E=some r:=H
           replace J:=J.iR a'
           replace K:=K.iR a'
           replace M:=M.iR a'
           replace a5:=a5.iR a'
           replace leB:=leB.trans a'
           replace a6:=a6.trans a'
           replace d9:fQ P V.length Q:=d9
           rw[gM.eq_2] at H
           dsimp only
           refine aj (av bi Z Z (ae (aa (az (aN Z H (fun H=>?_) (fun H=>?_))))))
           ·refine aM (aa (az (Tr.block (aj (aA Z (Tr.k Z (ae (aa (az (Ej 30 [(29,.makeFunc (.func 0) #[] #[])] [(29,⟨10,22,.func (.func 0) #[] #[],fun b=>pV b,fun b=>bx b #[iv 0,iv 0] 54⟩)] [(0,pV o),(4,pV F),(5,pV L),(8,iv D),(9,iv E),(10,.func (.func 0) #[] #[]),(68,iv p1.NY),(69,iv D),(73,iv p1.NX),(74,iv E),(75,bV (decide (E<p1.NX))),(76,iv E),(77,pV L),(78,iv p2.X),(79,iv E),(80,.pointer (some ⟨F,2,none⟩)),(81,.pointer (some ⟨F,2,none⟩)),(82,iv p1.At.X),(83,iv (bP (E*p1.At.X))),(84,pV o),(85,pV o),(86,pV o),(87,pV o),(88,iv p0.p.Unit),(89,iv (bP ((bP (E*p1.At.X))*p0.p.Unit))),(90,iv (bP (p2.X+(bP ((bP (E*p1.At.X))*p0.p.Unit))))),(91,.pointer (some ⟨L,1,none⟩)),(92,iv p2.Y),(93,iv D),(94,.pointer (some ⟨F,2,none⟩)),(95,.pointer (some ⟨F,3,none⟩)),(96,iv p1.At.Y),(97,iv (bP (D*p1.At.Y))),(98,pV o),(99,pV o),(100,pV o),(101,pV o),(102,iv p0.p.Unit),(103,iv (bP ((bP (D*p1.At.Y))*p0.p.Unit))),(104,iv (bP (p2.Y+(bP ((bP (D*p1.At.Y))*p0.p.Unit))))),(105,.agg #[iv (bP (p2.X+(bP ((bP (E*p1.At.X))*p0.p.Unit)))),iv (bP (p2.Y+(bP ((bP (D*p1.At.Y))*p0.p.Unit))))])] (by kernel_rfl) (by kernel_rfl) (by kernel_rfl) (by kernel_rfl) (by kernel_rfl) (by kernel_rfl) (by kernel_rfl) (oz (Hw Z Z vY) qF) (oz Z qF) (oz Z qF) ?_ ?_))))))))))
            ·refine dD (ag fU) Z (bL Z (fun _ _ a c=>ah bF (a.ev Z) (bN c (vs:=[iv p2.X,iv p2.Y]) (k:=3) Z 0) Z) (dY Z (dD (ag Ai) Z (dD (ag fU) Z (bL Z (fun _ _ a c=>ah bF (a.ev Z) (bN c (vs:=[iv p1.Kind,sv p1.Name,iv p1.At.X,iv p1.At.Y,sL y p1.Points z,iv p1.NX,iv p1.NY,sL B p1.Steps C]) (k:=2) Z 2) Z) (dL rG Z Z (dY Z (dD cu Z (dD (ag Ap) Z (dD (ag sN) Z (bL Z (fun _ _ a c=>ah bF (a.ev Z) (bN c (vs:=[iv p0.p.Unit,sL d p0.p.Tools f,sL g p0.p.Steps i,sL j p0.tools l,sL P V Q,bV a7,iv a8,iv a9,iv b0,bV b1,iv b2,iv b3]) (k:=0) Z 0) Z) (dL rG Z Z (dL bE Z Z (dD (ag fT) Z (bL Z (fun _ _ a c=>ah bF (a.ev Z) (bN c (vs:=[iv p2.X,iv p2.Y]) (k:=3) Z 1) Z) (dY Z (dD (ag Ai) Z (dD (ag fT) Z (bL Z (fun _ _ a c=>ah bF (a.ev Z) (bN c (vs:=[iv p1.Kind,sv p1.Name,iv p1.At.X,iv p1.At.Y,sL y p1.Points z,iv p1.NX,iv p1.NY,sL B p1.Steps C]) (k:=2) Z 3) Z) (dL rG Z Z (dY Z (dD cu Z (dD (ag Ap) Z (dD (ag sN) Z (bL Z (fun _ _ a c=>ah bF (a.ev Z) (bN c (vs:=[iv p0.p.Unit,sL d p0.p.Tools f,sL g p0.p.Steps i,sL j p0.tools l,sL P V Q,bV a7,iv a8,iv a9,iv b0,bV b1,iv b2,iv b3]) (k:=0) Z 0) Z) (dL rG Z Z (dL bE Z Z (AP (vs:=[(0,iv (bP (p2.X+(bP ((bP (E*p1.At.X))*p0.p.Unit))))),(1,iv (bP (p2.Y+(bP ((bP (D*p1.At.Y))*p0.p.Unit)))))]) (cs:=[iv (bP (p2.X+(bP ((bP (E*p1.At.X))*p0.p.Unit)))),iv (bP (p2.Y+(bP ((bP (D*p1.At.Y))*p0.p.Unit))))]) (wn Z) Z (bQ Z (bQ Z dR)) (by kernel_rfl) ?_))))))))))))))))))))))))))))
             exact BB (vs:=[]) (wn Z) Z aH (bK (.r Z))
            ·intro e8
             refine Tr.EM (lf:=[(0,pV o),(4,pV F),(5,pV L),(8,iv D),(10,.pointer (some ⟨(e8 29),0,none⟩)),(68,iv p1.NY),(69,iv D),(73,iv p1.NX),(74,iv E),(105,.agg #[iv (bP (p2.X+(bP ((bP (E*p1.At.X))*p0.p.Unit)))),iv (bP (p2.Y+(bP ((bP (D*p1.At.Y))*p0.p.Unit))))])]) (le:=[(0,bx o #[iv p0.p.Unit,sL d p0.p.Tools f,sL g p0.p.Steps i,sL j p0.tools l,sL P V Q,bV a7,iv a8,iv a9,iv b0,bV b1,iv b2,iv b3] 108),(1,ow P Q 121 aW V),(2,bx F #[iv p1.Kind,sv p1.Name,iv p1.At.X,iv p1.At.Y,sL y p1.Points z,iv p1.NX,iv p1.NY,sL B p1.Steps C] 214),(3,bx L #[iv p2.X,iv p2.Y] 54),(22,bx (e8 29) #[iv 0,iv 0] 54)]) (.r Z) (.r Z) (bv 22 (cs:=[iv (bP (p2.X+(bP ((bP (E*p1.At.X))*p0.p.Unit)))),iv (bP (p2.Y+(bP ((bP (D*p1.At.Y))*p0.p.Unit))))]) [iv (bP (p2.X+(bP ((bP (E*p1.At.X))*p0.p.Unit)))),iv (bP (p2.Y+(bP ((bP (D*p1.At.Y))*p0.p.Unit))))] (wn Z) Z Z Z Z eU Z Z Z (ae (aa (aj (aA Z (aD (ag yh) Z (aC Z (fun _ _ a c=>ah Eg (a.ev Z) (bN c (vs:=[iv p1.Kind,sv p1.Name,iv p1.At.X,iv p1.At.Y,sL y p1.Points z,iv p1.NX,iv p1.NY,sL B p1.Steps C]) (k:=2) Z 7) Z) (aC Z (fun _ _ a c=>aL (cs:=[iv (bP (p2.X+(bP ((bP (E*p1.At.X))*p0.p.Unit)))),iv (bP (p2.Y+(bP ((bP (D*p1.At.Y))*p0.p.Unit))))]) iC eU (a.ev Z) (aI.take (bN c (vs:=[iv (bP (p2.X+(bP ((bP (E*p1.At.X))*p0.p.Unit)))),iv (bP (p2.Y+(bP ((bP (D*p1.At.Y))*p0.p.Unit))))]) (k:=22) Z 0) 2) Z) ?_))))))))
             obtain⟨v,h4,H⟩:=bnd H
             refine jc [0,1] [bx o #[iv p0.p.Unit,sL d p0.p.Tools f,sL g p0.p.Steps i,sL j p0.tools l,sL P V Q,bV a7,iv a8,iv a9,iv b0,bV b1,iv b2,iv b3] 108,ow P Q 121 aW V] (U:=(Option Addr×Nat)) (fun u=>(iv v.1)) (fun O W u=>fQ u.1 v.2.2.2.2.2.2.2.2.length u.2) (fun u=>[bx o #[iv p0.p.Unit,sL d p0.p.Tools f,sL g p0.p.Steps i,sL j p0.tools l,sL u.1 v.2.2.2.2.2.2.2.2 u.2,bV v.2.1,iv v.2.2.1,iv v.2.2.2.1,iv v.2.2.2.2.1,bV v.2.2.2.2.2.1,iv v.2.2.2.2.2.2.1,iv v.2.2.2.2.2.2.2.1] 108,ow u.1 u.2 121 aW v.2.2.2.2.2.2.2.2]) Z (bn Z (bn Z bO)) (fun _=>Z) (wn Z) Z Tryz.call84 (ak Z (ak Z (ak Z aH))) (fun W hW hp hE=>hrec (di.mk p0.p p0.tools V a7 a8 (aK.mk a9 b0) b1 b2 b3) d f (J.ext (hW.fM hp)) g i (K.ext (hW.fM hp)) j l (M.ext (hW.fM hp)) P Q o p1.Steps B C (a5.ext (hW.fM hp)) (aK.mk (bP (p2.X+(bP ((bP (E*p1.At.X))*p0.p.Unit)))) (bP (p2.Y+(bP ((bP (D*p1.At.Y))*p0.p.Unit))))) v h4 hE) ?_
             intro w u e9 hu
             obtain⟨a3,a4⟩:=u
             have f4:=hu
             replace leB:=leB.trans e9
             replace a':=a'.trans e9
             have d0:fQ a3 v.2.2.2.2.2.2.2.2.length a4:=f4 --@phi
             dsimp only
             refine Tr.k Z (ae (aa (aj (aA Z (av dW Z Z (ae (aa (aN Z H (fun H=>?_) (fun H=>?_)))))))))
             ·refine aj (aA Z (Tr.k Z (ae (aa (aJ (au (ai (ai (au (au (ai (ai (au (au (ai ?_)))))))))))))))
              obtain rfl:=oI H
              exact bR (m:=[iv v.1]) [] (bu Z bG) (fun W hW=>⟨w,(a3,a4),leB,Z,d0,hW.pick (ks:=[0,1]) (by decide) (bn Z (bn Z bO))⟩)
             ·exact aM (aQ (aa (aV (av bE Z Z (aA Z (ae (aP a' (v.2.2.2.2.2.2.2.2,v.2.1,v.2.2.1,v.2.2.2.1,v.2.2.2.2.1,v.2.2.2.2.2.1,v.2.2.2.2.2.2.1,v.2.2.2.2.2.2.2.1,(bP (E+1)),a3,a4) ⟨H,d0⟩ (.r Z) (.r Z))))))))
           ·exact bZ (aF (aF (bg (aQ (aa (aV (av bE Z Z (aA Z (ae (aP a6 (V,a7,a8,a9,b0,b1,b2,b3,(bP (D+1)),P,Q) ⟨H,d9⟩ (.r Z) (.r Z)))))))))))
          ·exact bZ (aF (aF (bg (aQ (aP S (c4,d2,d3,d4,d5,d6,d7,d8,c0,c3) ⟨H,c6⟩ .nil (.r Z))))))
         ·exact aM (aQ (aP S (p0.image,p0.clear,p0.tool,p0.place.X,p0.place.Y,p0.placed,p0.off,p0.on,q,t) ⟨H,a2⟩ .nil (.r Z)))
 ·intro w s f7 hs
  obtain⟨e0,f8,f9,g0,g1,g2,g3,g4,c7,c8⟩:=s
  obtain⟨H,e3⟩:=hs
  replace H:fC e0 f8 f9 g0 g1 g2 g3 g4=some r:=H
  replace leB:=leB.trans f7
  replace e3:fQ c7 e0.length c8:=e3
  unfold fC at H
  dsimp only
  refine aj (Tr.k Z (ae (aa (aJ ?_))))
  obtain rfl:=oI H
  exact bR (m:=[iv 0]) [] (bu Z bG) (fun W hW=>⟨w,(c7,c8),leB,Z,e3,hW.pick (ks:=[0,1]) (by decide) (bn Z (bn Z bO))⟩)
theorem xJ(N:Nat)(rec:di→(List aZ)→aK→Option (Int×Bool×Int×Int×Int×Bool×Int×Int×(List bz)))(hrec:∀{w:Bs} (p0:di) (f:Option Addr) (g:Nat) (V:Sl w.R w.W cB f g p0.p.Tools) (i:Option Addr) (j:Nat) (a':Sl w.R w.W bH i j p0.p.Steps) (l:Option Addr) (o:Nat) (a0:Sl w.R w.W fV l o p0.tools) (Q:Option Addr) (S:Nat) (A:Nat) (p1:(List aZ)) (F:Option Addr) (G:Nat) (C:Sl w.R w.W bH F G p1) (p2:aK) (r:(Int×Bool×Int×Int×Int×Bool×Int×Int×(List bz))) (H:rec p0 p1 p2=some r) (hE:HF w w.W (mF [bx A #[iv p0.p.Unit,sL f p0.p.Tools g,sL i p0.p.Steps j,sL l p0.tools o,sL Q p0.image S,bV p0.clear,iv p0.tool,iv p0.place.X,iv p0.place.Y,bV p0.placed,iv p0.off,iv p0.on] 108,ow Q S 121 aW p0.image])),Calls Tryz.prog 84 [pV A,sL F p1 G,.agg #[iv p2.X,iv p2.Y]].toArray w.W fun e W'=>∃(w':Bs) (u:(Option Addr×Nat)),w.Le w'∧e= .returned (iv r.1)∧(fQ u.1 r.2.2.2.2.2.2.2.2.length u.2)∧HF w' W' (mF [bx A #[iv p0.p.Unit,sL f p0.p.Tools g,sL i p0.p.Steps j,sL l p0.tools o,sL u.1 r.2.2.2.2.2.2.2.2 u.2,bV r.2.1,iv r.2.2.1,iv r.2.2.2.1,iv r.2.2.2.2.1,bV r.2.2.2.2.2.1,iv r.2.2.2.2.2.2.1,iv r.2.2.2.2.2.2.2.1] 108,ow u.1 u.2 121 aW r.2.2.2.2.2.2.2.2])){w:Bs}(p0:di)(f:Option Addr)(g:Nat)(V:Sl w.R w.W cB f g p0.p.Tools)(i:Option Addr)(j:Nat)(a':Sl w.R w.W bH i j p0.p.Steps)(l:Option Addr)(o:Nat)(a0:Sl w.R w.W fV l o p0.tools)(Q:Option Addr)(S:Nat)(A:Nat)(p1:(List aZ))(F:Option Addr)(G:Nat)(C:Sl w.R w.W bH F G p1)(p2:aK)(r:(Int×Bool×Int×Int×Int×Bool×Int×Int×(List bz)))(H:qR N rec p0 p1 p2=some r)(hE:HF w w.W (mF [bx A #[iv p0.p.Unit,sL f p0.p.Tools g,sL i p0.p.Steps j,sL l p0.tools o,sL Q p0.image S,bV p0.clear,iv p0.tool,iv p0.place.X,iv p0.place.Y,bV p0.placed,iv p0.off,iv p0.on] 108,ow Q S 121 aW p0.image])):Calls Tryz.prog 84 [pV A,sL F p1 G,.agg #[iv p2.X,iv p2.Y]].toArray w.W fun e W'=>∃(w':Bs) (u:(Option Addr×Nat)),w.Le w'∧e= .returned (iv r.1)∧(fQ u.1 r.2.2.2.2.2.2.2.2.length u.2)∧HF w' W' (mF [bx A #[iv p0.p.Unit,sL f p0.p.Tools g,sL i p0.p.Steps j,sL l p0.tools o,sL u.1 r.2.2.2.2.2.2.2.2 u.2,bV r.2.1,iv r.2.2.1,iv r.2.2.2.1,iv r.2.2.2.2.1,bV r.2.2.2.2.2.1,iv r.2.2.2.2.2.2.1,iv r.2.2.2.2.2.2.2.1] 108,ow u.1 u.2 121 aW r.2.2.2.2.2.2.2.2]):=by
 unfold qR at H
 have b5:=(hE.sl (k:=1) Z).form
 have leB:=Bs.Le.refl w
 refine aX (n:=24) Tryz.func84 Z Z Z hE (aj (dh 2 (cs:=[iv p2.X,iv p2.Y]) (wn Z) Z Z Z fun a4=>(Tr.k Z (ae (aa (az (aj (aA Z (aD (bA Jm) Z (aA Z (ae (aa (Tr.block (cO (σ:=(List aZ)×Nat×(List bz)×Bool×Int×Int×Int×Bool×Int×Int×(Option Addr)×Nat) (fun m w s=>m=s.1.length+1∧s.1=List.drop s.2.1 p1∧s.2.1≤p1.length∧gJ N p0 p2 rec s.1 s.2.1 s.2.2.1 s.2.2.2.1 s.2.2.2.2.1 s.2.2.2.2.2.1 s.2.2.2.2.2.2.1 s.2.2.2.2.2.2.2.1 s.2.2.2.2.2.2.2.2.1 s.2.2.2.2.2.2.2.2.2.1=some r∧fQ s.2.2.2.2.2.2.2.2.2.2.1 s.2.2.1.length s.2.2.2.2.2.2.2.2.2.2.2) (fun s=>[(0,pV A),(5,pV a4),(10,sL F p1 G),(11,iv (p1.length:Int)),(12,iv (s.2.1:Int))]) (fun s=>[(0,bx A #[iv p0.p.Unit,sL f p0.p.Tools g,sL i p0.p.Steps j,sL l p0.tools o,sL s.2.2.2.2.2.2.2.2.2.2.1 s.2.2.1 s.2.2.2.2.2.2.2.2.2.2.2,bV s.2.2.2.1,iv s.2.2.2.2.1,iv s.2.2.2.2.2.1,iv s.2.2.2.2.2.2.1,bV s.2.2.2.2.2.2.2.1,iv s.2.2.2.2.2.2.2.2.1,iv s.2.2.2.2.2.2.2.2.2.1] 108),(1,ow s.2.2.2.2.2.2.2.2.2.2.1 s.2.2.2.2.2.2.2.2.2.2.2 121 aW s.2.2.1),(2,bx a4 #[iv p2.X,iv p2.Y] 54)]) (p1.length+1) (p1,0,p0.image,p0.clear,p0.tool,p0.place.X,p0.place.Y,p0.placed,p0.off,p0.on,Q,S) ⟨Z,Z,Nat.zero_le _,H,b5⟩ (.r Z) (.r Z) (fun _ _ h=>absurd h.1 (by simp)) ?_))))))))))))))
 intro w L m s hs
 obtain⟨B,b4,T,a5,a6,a7,a8,a9,b0,b1,I,J⟩:=s
 obtain⟨b3,K,c3,H,b2⟩:=hs
 replace K:B=List.drop b4 p1:=K
 replace H:gJ N p0 p2 rec B b4 T a5 a6 a7 a8 a9 b0 b1=some r:=H
 replace b3:m+1=B.length+1:=b3
 replace V:=V.iR L
 replace a':=a'.iR L
 replace a0:=a0.iR L
 replace C:=C.iR L
 replace leB:=leB.trans L
 replace b2:fQ I T.length J:=b2
 obtain rfl:m=B.length:=by omega
 clear b3
 dsimp only
 cases B with
 |nil=>
  rw[gJ.eq_1] at H
  refine aj (av bi Z Z (ae (aa (az (dn Z (cz K) (bZ (aF (aF (bg (aa (aj (Tr.k Z (ae (aa (aJ ?_)))))))))))))))
  obtain rfl:=oI H
  exact bR (m:=[iv 0]) [] (bu Z bG) (fun W hW=>⟨w,(I,J),leB,Z,b2,hW.pick (ks:=[0,1]) (by decide) (bn Z (bn Z bO))⟩)
 | cons b B=>
  rw[gJ.eq_2] at H
  refine aj (av bi Z Z (ae (aa (az (dm Z (dz K) (aM (aa (az (Tr.block (aj ?_))))))))))
  obtain⟨c0,a2,b6,b8⟩:=(C).el (dA K)
  obtain⟨⟨q,t⟩,⟨v,y⟩⟩:=c0
  obtain⟨M,P⟩:=vP.1 b6
  replace M:Sl w.R w.W dP q t b.Points:=M
  replace P:Sl w.R w.W bH v y b.Steps:=P
  refine aC Z (fun _ _ a c=>aB SA (a.ev Z) C.form (a.ev Z) (Int.natCast_nonneg _) (bq K)) (aC Z (fun _ _ a c=>aL (cs:=[iv b.Kind,sv b.Name,iv b.At.X,iv b.At.Y,sL q b.Points t,iv b.NX,iv b.NY,sL v b.Steps y]) Ff yO (a.ev Z) (aI.take (tY a2 b8 c) 8) Z) (Tr.alloc 5 (wn Z) Z Nl fun c4=>(bv 5 (cs:=[iv b.Kind,sv b.Name,iv b.At.X,iv b.At.Y,sL q b.Points t,iv b.NX,iv b.NY,sL v b.Steps y]) [iv b.Kind,sv b.Name,iv b.At.X,iv b.At.Y,sL q b.Points t,iv b.NX,iv b.NY,sL v b.Steps y] (wn Z) Z Z Z Z yO Z Z Z (ae (aa (aj (aA Z (aC Z (fun _ _ a c=>aL (cs:=[iv b.Kind,sv b.Name,iv b.At.X,iv b.At.Y,sL q b.Points t,iv b.NX,iv b.NY,sL v b.Steps y]) Ff yO (a.ev Z) (aI.take (bN c (vs:=[iv b.Kind,sv b.Name,iv b.At.X,iv b.At.Y,sL q b.Points t,iv b.NX,iv b.NY,sL v b.Steps y]) (k:=5) Z 0) 8) Z) (aC Z (fun _ _ a c=>aL (cs:=[iv p2.X,iv p2.Y]) iC eU (a.ev Z) (aI.take (bN c (vs:=[iv p2.X,iv p2.Y]) (k:=2) Z 0) 2) Z) ?_)))))))))
  obtain⟨d,b9,H⟩:=bnd H
  refine jc [0,1] [bx A #[iv p0.p.Unit,sL f p0.p.Tools g,sL i p0.p.Steps j,sL l p0.tools o,sL I T J,bV a5,iv a6,iv a7,iv a8,bV a9,iv b0,iv b1] 108,ow I J 121 aW T] (U:=(Option Addr×Nat)) (fun u=>(iv d.1)) (fun O W u=>fQ u.1 d.2.2.2.2.2.2.2.2.length u.2) (fun u=>[bx A #[iv p0.p.Unit,sL f p0.p.Tools g,sL i p0.p.Steps j,sL l p0.tools o,sL u.1 d.2.2.2.2.2.2.2.2 u.2,bV d.2.1,iv d.2.2.1,iv d.2.2.2.1,iv d.2.2.2.2.1,bV d.2.2.2.2.2.1,iv d.2.2.2.2.2.2.1,iv d.2.2.2.2.2.2.2.1] 108,ow u.1 u.2 121 aW d.2.2.2.2.2.2.2.2]) Z (bn Z (bn Z bO)) (fun _=>Z) (wn Z) Z Tryz.call128 (ak Z (ak Z (ak Z aH))) (fun W hW hp hE=>yE rec hrec N (di.mk p0.p p0.tools T a5 a6 (aK.mk a7 a8) a9 b0 b1) f g (V.ext (hW.fM hp)) i j (a'.ext (hW.fM hp)) l o (a0.ext (hW.fM hp)) I J A b q t (M.ext (hW.fM hp)) v y (P.ext (hW.fM hp)) p2 d b9 hE) ?_
  intro w u a1 hu
  obtain⟨D,E⟩:=u
  have b7:=hu
  replace C:=C.iR a1
  replace a2:=a1.r _ a2
  replace leB:=leB.trans a1
  replace L:=L.trans a1
  have a3:fQ D d.2.2.2.2.2.2.2.2.length E:=b7 --@phi
  dsimp only
  refine Tr.k Z (ae (aa (aj (aA Z (av dW Z Z (ae (aa (aN Z H (fun H=>?_) (fun H=>?_)))))))))
  ·refine aj (aA Z (Tr.k Z (ae (aa (aJ (au (ai (ai (au (ai ?_))))))))))
   obtain rfl:=oI H
   exact bR (m:=[iv d.1]) [] (bu Z bG) (fun W hW=>⟨w,(D,E),leB,Z,a3,hW.pick (ks:=[0,1]) (by decide) (bn Z (bn Z bO))⟩)
  ·exact aM (aQ (aa (aV (av bE Z Z (aA Z (ae (aP L (B,(b4+1),d.2.2.2.2.2.2.2.2,d.2.1,d.2.2.1,d.2.2.2.1,d.2.2.2.2.1,d.2.2.2.2.2.1,d.2.2.2.2.2.2.1,d.2.2.2.2.2.2.2.1,D,E) ⟨Z,df K,bq K,H,a3⟩ (.cons Z (.cons Z (.cons Z (.cons Z (.cons (congrArg (fun z=>some (Value.int .i64 z)) (cZ K C.form)) .nil))))) (.r Z))))))))
theorem uz:∀(N:Nat) {w:Bs} (p0:di) (a:Option Addr) (b:Nat) (o:Sl w.R w.W cB a b p0.p.Tools) (c:Option Addr) (d:Nat) (q:Sl w.R w.W bH c d p0.p.Steps) (f:Option Addr) (g:Nat) (s:Sl w.R w.W fV f g p0.tools) (h:Option Addr) (i:Nat) (n:Nat) (p1:(List aZ)) (j:Option Addr) (l:Nat) (t:Sl w.R w.W bH j l p1) (p2:aK) (r:(Int×Bool×Int×Int×Int×Bool×Int×Int×(List bz))) (H:lQ N p0 p1 p2=some r) (hE:HF w w.W (mF [bx n #[iv p0.p.Unit,sL a p0.p.Tools b,sL c p0.p.Steps d,sL f p0.tools g,sL h p0.image i,bV p0.clear,iv p0.tool,iv p0.place.X,iv p0.place.Y,bV p0.placed,iv p0.off,iv p0.on] 108,ow h i 121 aW p0.image])),Calls Tryz.prog 84 [pV n,sL j p1 l,.agg #[iv p2.X,iv p2.Y]].toArray w.W fun e W'=>∃(w':Bs) (u:(Option Addr×Nat)),w.Le w'∧e= .returned (iv r.1)∧(fQ u.1 r.2.2.2.2.2.2.2.2.length u.2)∧HF w' W' (mF [bx n #[iv p0.p.Unit,sL a p0.p.Tools b,sL c p0.p.Steps d,sL f p0.tools g,sL u.1 r.2.2.2.2.2.2.2.2 u.2,bV r.2.1,iv r.2.2.1,iv r.2.2.2.1,iv r.2.2.2.2.1,bV r.2.2.2.2.2.1,iv r.2.2.2.2.2.2.1,iv r.2.2.2.2.2.2.2.1] 108,ow u.1 u.2 121 aW r.2.2.2.2.2.2.2.2])
 |0=>by intros;rename_i H _;cases H
 |N+1=>xJ N (lQ N) (uz N)

end Go.Proofs.YtgijeiamflmkeaaGreatDoor
