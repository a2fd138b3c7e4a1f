/- The walks: each function computes its plain function. -/
import Derived.Test.YtblmajfbibbiaaaGreatDoorXWd
namespace Go.Proofs.YtblmajfbibbiaaaGreatDoor
open Go.RowKit
set_option maxRecDepth 100000
set_option maxHeartbeats 1000000
theorem yo(N:Nat){w:Bs}(p0:(List bf))(z:Option Addr)(A:Nat)(c7:Sl w.O w.W aT z A p0)(p1:(List bf))(B:Option Addr)(C:Nat)(c8:Sl w.O w.W aT B C p1)(p2:Bool→Bool→Option Bool)(fid2:Nat)(o:List Value)(hg2:∀args W,(callFunc fid2 args).run Tryz.prog W= .ok (.enter fid2 args) W)(hf2:∀(w':Bs),w.Ext w'→∀(z0:Bool) (z1:Bool),∀y,p2 z0 z1=some y→Calls Tryz.prog fid2 (([bV z0,bV z1]:List Value)++o).toArray w'.W fun e W''=>e= .returned (bV y)∧HF w' W'' E0)(r:(List bf))(H:qE N p0 p1 p2=some r)(hE:HF w w.W (ig [emp])):Calls Tryz.prog 243 [sL z p0 A,sL B p1 C,.func (.func fid2) #[] o.toArray].toArray w.W fun e W'=>∃(w':Bs) (u:(Option Addr×Nat)),w.Le w'∧e= .returned (sL u.1 r u.2)∧(bZ u.1 r.length u.2)∧HF w' W' (ig [ow u.1 u.2 133 aT r]):=by
 unfold qE at H
 have leB:=Bs.Le.refl w
 refine aZ (n:=126) Tryz.func243 Z Z Z hE (ai (Tr.k Z (bO 1 133 aT ?_)))
 show Tr _ _ (uf _ 6 (sL none (([]:List bf)) 0)) _ _
 refine ae (aa (ai (Tr.k Z (bO 2 133 aT ?_))))
 show Tr _ _ (uf _ 7 (sL none (([]:List bf)) 0)) _ _
 refine ae (aa (av (ai (aA Z (aQ (bD ug) Z (aA Z (aQ (bD ug) Z (aC bz Z Z (aC eU Z Z (ae (aa (aP Z H (fun H=>?_) (fun H=>?_)))))))))))))
 ·refine ai (Tr.k Z (bO 3 133 aT ?_))
  show Tr _ _ (uf _ 6 (sL none (([]:List bf)) 0)) _ _
  refine ae (aa (bu (bn ?_)))
  obtain rfl:=oI H
  exact Tr.out (m:=[sL none (([]:List bf)) 0]) [] (bM Z bL) (fun W hW=>⟨w,(none,0),leB,Z,fQ,hW.pick (ks:=[3]) (by decide) (aH Z aY)⟩)
 ·refine aO (aa (ai (Tr.k Z (Tr.k Z (ae (aa (av (ai (aA Z (aA Z (dS 4 (e:=88) (vs:=[(0,sL z p0 A),(1,sL B p1 C)]) (cs:=[sL z p0 A,sL B p1 C]) (wn Z) Z (bB Z (bB Z dH)) (by kernel_rfl) fun g6=>(aQ (bD VS) Z (aA Z (ae (aa (Tr.block (Tr.own 4 jy [p0,p1] (css:=[[sL z p0 A],[sL B p1 C]]) Z (.cons ⟨(z,A),c7,Z⟩ (.cons ⟨(B,C),c8,Z⟩ .nil)) Z (by decide) (yK Z) (DX 4 9 Z Z Z (cB (σ:=Int×Int×(List (List bf))×Int×(Option Addr)×Nat) (fun m w s=>eZ N p0 p1 p2 m s.1 s.2.1 s.2.2.1 s.2.2.2.1=some r∧bZ s.2.2.2.2.1 s.2.2.1.length s.2.2.2.2.2) (fun s=>[(0,sL z p0 A),(1,sL B p1 C),(2,.func (.func fid2) #[] o.toArray),(7,sL none (([]:List bf)) 0),(8,iv s.1),(9,iv s.2.1),(25,sL s.2.2.2.2.1 s.2.2.1 s.2.2.2.2.2),(26,iv 2),(27,iv s.2.2.2.1)]) (fun s=>[(2,ow none 0 133 aT ([]:List bf)),(9,ow s.2.2.2.2.1 s.2.2.2.2.2 88 jy s.2.2.1)]) N (0,0,[p0,p1],0,(some ⟨g6,0,none⟩),2) ⟨H,(RH g6 Z)⟩ (.r Z) (.r Z) (fun _ _ h=>jZ (h.1)) ?_)))))))))))))))))))
  intro w a8 g7 s hs
  obtain⟨b6,g,F,M,D,E⟩:=s
  obtain⟨H,b7⟩:=hs
  replace H:eZ N p0 p1 p2 (g7+1) b6 g F M=some r:=H
  replace c7:=c7.le a8
  replace c8:=c8.le a8
  replace hf2:=fun w' he=>hf2 w' (a8.ext.trans he)
  replace leB:=leB.trans a8
  replace b7:bZ D F.length E:=b7
  rw[eZ.eq_2] at H
  dsimp only
  refine ai (aC bv Z Z (ae (aa (av (aP Z H (fun H=>?_) (fun H=>?_))))))
  ·refine aO (aa (av (Tr.block (ai (aA Z ?_)))))
   obtain⟨a',j7,H⟩:=bnd H
   obtain⟨g8,g9,h0⟩:=aW j7
   refine aG Z (fun _ _ a c=>au WR (a.ev Z) b7 (a.ev Z) g8 g9) (J2 (U:=(jy).Ad) (fun u=>(jy).ok w.O w.W u a') (fun u=>(sL u.1 a' u.2)) (wn Z) Z (Iy (κ:=9) (t:=jy) (V:=fun u=>(sL u.1 a' u.2)) Z h0 (fun _ _ u a hc=>ah LM (a.ev Z) hc Z)) ?_)
   intro l4 f5
   obtain⟨v,S⟩:=l4
   have f:=f5
   replace f:Sl w.O w.W aT v S a':=f
   dsimp only
   refine Tr.k Z (Tr.k Z (ae (aa (ai (aA Z (aQ (bD ug) Z (aC jd Z Z (ae (aa (aP Z H (fun H=>?_) (fun H=>?_)))))))))))
   ·have e7:=Bs.Le.refl w
    refine kZ (σ:=Int×Int) (fun w s=>kT F M (eZ N p0 p1 p2 g7) a' s.1 s.2=some r) (fun s=>[(0,sL z p0 A),(1,sL B p1 C),(2,.func (.func fid2) #[] o.toArray),(7,sL none (([]:List bf)) 0),(8,iv s.1),(9,iv s.2),(11,sL v a' S),(25,sL D F E),(26,iv 2),(27,iv M)]) (fun s=>[(2,ow none 0 133 aT ([]:List bf)),(9,ow D E 88 jy F)]) ?_ ?_
    ·refine ai (aA Z (aC eU Z Z (aA Z (eD 4 [(0,sL z p0 A),(1,sL B p1 C),(2,.func (.func fid2) #[] o.toArray),(7,sL none (([]:List bf)) 0),(8,iv b6),(9,iv g),(11,sL v a' S),(25,sL D F E),(26,iv 2),(27,iv M),(41,bV ((M==0)||((p0.length:Int)==0)))] [(2,ow none 0 133 aT ([]:List bf)),(9,ow D E 88 jy F)] ?_ ?_))))
     ·cases o3:(M==0)
      ·exact dN run_move Z (dN (bD ug) Z (jM eU Z Z (aC bH Z Z (ae (bA (.r Z) (.r Z))))))
      ·exact bq Z (bq Z (bq Z (aC bG Z Z (ae (bA (.r Z) (.r Z))))))
     ·show Tr _ _ (LF [(0,sL z p0 A),(1,sL B p1 C),(2,.func (.func fid2) #[] o.toArray),(7,sL none (([]:List bf)) 0),(8,iv b6),(9,iv g),(11,sL v a' S),(25,sL D F E),(26,iv 2),(27,iv M),(41,bV ((M==0)||((p0.length:Int)==0)))]) (LE [(2,ow none 0 133 aT ([]:List bf)),(9,ow D E 88 jy F)]) _
      refine ae (aa (aP Z H (fun H=>?_) (fun H=>?_)))
      ·refine jF (by kernel_rfl) (by kernel_rfl) (dG Z ?_)
       obtain⟨l5,j8,H⟩:=bnd H
       obtain⟨h1,h2,h3⟩:=aW j8
       obtain⟨l6,d2,f6,h4⟩:=(f).el h3
       obtain⟨n0,n1⟩:=l6
       have k8:=f6
       replace d2:w.R (pu v):=Or.inl d2
       refine bg Z (fun _ _ a c=>au pM (a.ev Z) f.form (a.ev Z) h1 h2) (dZ (ag oz) Z (bg Z (fun _ _ a c=>ah bT (a.ev Z) (aI.drop (wo d2 h4 c) 0) Z) (dG Z (dG Z (dZ (bD ug) Z (fZ gu Z Z ?_))))))
       obtain⟨l7,j9,H⟩:=bnd H
       obtain⟨h5,h6,h7⟩:=aW j9
       obtain⟨l8,d3,f7,h8⟩:=(f).el h7
       obtain⟨n2,n3⟩:=l8
       have k9:=f7
       replace d3:w.R (pu v):=Or.inl d3
       exact bg Z (fun _ _ a c=>au pM (a.ev Z) f.form (a.ev Z) h5 h6) (dZ (ag nC) Z (bg Z (fun _ _ a c=>ah bT (a.ev Z) (aI.drop (wo d3 h8 c) 1) Z) (sM Z Z (sM Z Z (iC (aF e7 (l5.Y0,l7.Y1) H (.r Z) (.r Z)))))))
      ·exact aO (aF e7 (b6,g) H (.r Z) (.r Z))
    ·intro w s d4 hs
     obtain⟨e9,f1⟩:=s
     have H:=hs
     replace H:kT F M (eZ N p0 p1 p2 g7) a' e9 f1=some r:=H
     replace hf2:=fun w' he=>hf2 w' (d4.ext.trans he)
     replace f:=f.le d4
     replace a8:=a8.trans d4
     unfold kT at H
     dsimp only
     refine jF (by kernel_rfl) (by kernel_rfl) (dG Z (dG Z ?_))
     obtain⟨l9,k0,H⟩:=bnd H
     obtain⟨h9,i0,i1⟩:=aW k0
     obtain⟨m0,d5,f8,i2⟩:=(f).el i1
     obtain⟨n4,n5⟩:=m0
     have l0:=f8
     replace d5:w.R (pu v):=Or.inl d5
     refine bg Z (fun _ _ a c=>au pM (a.ev Z) f.form (a.ev Z) h9 i0) (dZ (ag oz) Z (bg Z (fun _ _ a c=>ah bT (a.ev Z) (aI.drop (wo d5 i2 c) 0) Z) (bg Z (fun _ _ a c=>vE (a.ev Z) (a.ev Z) _) (dG Z (dG Z (dG Z (dZ (bD ug) Z (fZ gu Z Z ?_))))))))
     obtain⟨m1,k1,H⟩:=bnd H
     obtain⟨i3,i4,i5⟩:=aW k1
     obtain⟨m2,d6,f9,i6⟩:=(f).el i5
     obtain⟨n6,n7⟩:=m2
     have l1:=f9
     replace d6:w.R (pu v):=Or.inl d6
     exact bg Z (fun _ _ a c=>au pM (a.ev Z) f.form (a.ev Z) i3 i4) (dZ (ag nC) Z (bg Z (fun _ _ a c=>ah bT (a.ev Z) (aI.drop (wo d6 i6 c) 1) Z) (bg Z (fun _ _ a c=>wY (a.ev Z) (a.ev Z) _) (sM Z Z (sM Z Z (iC (aL (aa (aM (aC bz Z Z (aA Z (ae (aF a8 ((min e9 l9.Y0),(max f1 m1.Y1),F,(bF (M+1)),D,E) ⟨H,b7⟩ (.r Z) (.r Z))))))))))))))
   ·exact aO (aL (aa (aM (aC bz Z Z (aA Z (ae (aF a8 (b6,g,F,(bF (M+1)),D,E) ⟨H,b7⟩ (.r Z) (.r Z))))))))
  ·refine cz (aD (aD (aU (aa (av (Tr.block (cB (σ:=(List bf)×(List bf)×(List bf)×Int×(Option Addr)×Nat×(Option Addr)×Nat×(Option Addr)×Nat) (fun m w s=>gZ N p2 g m s.1 s.2.1 s.2.2.1 s.2.2.2.1=some r∧Sl w.O w.W aT s.2.2.2.2.1 s.2.2.2.2.2.1 s.1∧Sl w.O w.W aT s.2.2.2.2.2.2.1 s.2.2.2.2.2.2.2.1 s.2.1∧bZ s.2.2.2.2.2.2.2.2.1 s.2.2.1.length s.2.2.2.2.2.2.2.2.2) (fun s=>[(0,sL s.2.2.2.2.1 s.1 s.2.2.2.2.2.1),(1,sL s.2.2.2.2.2.2.1 s.2.1 s.2.2.2.2.2.2.2.1),(2,.func (.func fid2) #[] o.toArray),(7,sL s.2.2.2.2.2.2.2.2.1 s.2.2.1 s.2.2.2.2.2.2.2.2.2),(8,iv s.2.2.2.1),(9,iv g)]) (fun s=>[(2,ow s.2.2.2.2.2.2.2.2.1 s.2.2.2.2.2.2.2.2.2 133 aT s.2.2.1)]) N (p0,p1,([]:List bf),b6,z,A,B,C,none,0) ⟨H,c7,c8,fQ⟩ (.r Z) (.r Z) (fun _ _ h=>jZ (h.1)) ?_)))))))
   intro w J e8 s hs
   obtain⟨d9,a3,i,q,e0,e3,a5,a6,b,d⟩:=s
   obtain⟨H,e4,b8,e5⟩:=hs
   replace H:gZ N p2 g (e8+1) d9 a3 i q=some r:=H
   replace hf2:=fun w' he=>hf2 w' (J.ext.trans he)
   replace leB:=leB.trans J
   replace e4:Sl w.O w.W aT e0 e3 d9:=e4
   replace b8:Sl w.O w.W aT a5 a6 a3:=b8
   replace e5:bZ b i.length d:=e5
   rw[gZ.eq_2] at H
   dsimp only
   refine av (ai (aA Z (aA Z (aC bv Z Z (ae (aa (aP Z H (fun H=>?_) (fun H=>?_))))))))
   ·refine aO (aa (Tr.block (av (Tr.block (cB (σ:=(List bf)×(Option Addr)×Nat) (fun m w s=>kz N p2 g a3 i q (gZ N p2 g e8) m s.1=some r∧Sl w.O w.W aT s.2.1 s.2.2 s.1) (fun s=>[(0,sL s.2.1 s.1 s.2.2),(1,sL a5 a3 a6),(2,.func (.func fid2) #[] o.toArray),(7,sL b i d),(8,iv q),(9,iv g)]) (fun s=>[(2,ow b d 133 aT i)]) N (d9,e0,e3) ⟨H,e4⟩ (.r Z) (.r Z) (fun _ _ h=>jZ (h.1)) ?_)))))
    intro w c9 m3 s hs
    obtain⟨L,G,I⟩:=s
    obtain⟨H,j⟩:=hs
    replace H:kz N p2 g a3 i q (gZ N p2 g e8) (m3+1) L=some r:=H
    replace b8:=b8.le c9
    replace hf2:=fun w' he=>hf2 w' (c9.ext.trans he)
    replace J:=J.trans c9
    replace j:Sl w.O w.W aT G I L:=j
    rw[kz.eq_2] at H
    dsimp only
    refine av (ai (aA Z (aQ (bD ug) Z (aC jd Z Z (aA Z ?_)))))
    obtain⟨i7,b1,H⟩:=bnd H
    refine eD 7 [(0,sL G L I),(1,sL a5 a3 a6),(2,.func (.func fid2) #[] o.toArray),(7,sL b i d),(8,iv q),(9,iv g),(82,bV i7)] [(2,ow b d 133 aT i)] ?_ ?_
    ·cases b9:(decide (0<(L.length:Int)))
     ·rw[b9] at b1
      rw[if_neg (by decide)] at b1
      have H:=b1
      obtain rfl:=oI H
      exact bq Z (bq Z (bq Z (bq Z (bq Z (bq Z (aC bH Z Z (ae (bA (.r Z) (.r Z)))))))))
     ·rw[b9] at b1
      rw[if_pos Z] at b1
      have H:=b1
      refine dN run_move Z ?_
      obtain⟨o4,k2,H⟩:=bnd H
      obtain⟨i8,i9,j0⟩:=aW k2
      obtain⟨m4,d7,g0,j1⟩:=(j).el j0
      obtain⟨n8,n9⟩:=m4
      have l2:=g0
      replace d7:w.R (pu G):=Or.inl d7
      refine Tr.x (fun _ _ a c=>au pM (a.ev Z) j.form (a.ev Z) i8 i9) (dN (ag nC) Z (Tr.x (fun _ _ a c=>ah bT (a.ev Z) (aI.drop (wo d7 j1 c) 1) Z) (dN run_move Z (jM pQ Z Z (aC bG Z Z ?_)))))
      obtain rfl:=oI H
      exact ae (bA (.r Z) (.r Z))
    ·show Tr _ _ (LF [(0,sL G L I),(1,sL a5 a3 a6),(2,.func (.func fid2) #[] o.toArray),(7,sL b i d),(8,iv q),(9,iv g),(82,bV i7)]) (LE [(2,ow b d 133 aT i)]) _
     refine ae (aa (aP Z H (fun H=>?_) (fun H=>?_)))
     ·refine aO (aa (Tr.block (aM (aA Z ?_))))
      obtain⟨m5,f3,H⟩:=bnd H
      exact aG Z (fun _ _ a c=>uI pM (a.ev Z) j.form (a.ev Z) f3) (Tr.k Z (ae (aL (aF c9 (m5,(ve G (1:Int).toNat 3 I),(I-(1:Int).toNat)) ⟨H,(Sl.cut j f3)⟩ (.r Z) (.r Z)))))
     ·refine cz (aD (aD (aU (aa (av (Tr.block (cB (σ:=(List bf)×(Option Addr)×Nat) (fun m w s=>ky N p2 g i q (gZ N p2 g e8) L m s.1=some r∧Sl w.O w.W aT s.2.1 s.2.2 s.1) (fun s=>[(0,sL G L I),(1,sL s.2.1 s.1 s.2.2),(2,.func (.func fid2) #[] o.toArray),(7,sL b i d),(8,iv q),(9,iv g)]) (fun s=>[(2,ow b d 133 aT i)]) N (a3,a5,a6) ⟨H,b8⟩ (.r Z) (.r Z) (fun _ _ h=>jZ (h.1)) ?_)))))))
      intro w d0 m6 s hs
      obtain⟨a9,a1,a2⟩:=s
      obtain⟨H,l⟩:=hs
      replace H:ky N p2 g i q (gZ N p2 g e8) L (m6+1) a9=some r:=H
      replace j:=j.le d0
      replace hf2:=fun w' he=>hf2 w' (d0.ext.trans he)
      replace J:=J.trans d0
      replace l:Sl w.O w.W aT a1 a2 a9:=l
      rw[ky.eq_2] at H
      dsimp only
      refine av (ai (aA Z (aQ (bD ug) Z (aC jd Z Z (aA Z ?_)))))
      obtain⟨j2,b2,H⟩:=bnd H
      refine eD 7 [(0,sL G L I),(1,sL a1 a9 a2),(2,.func (.func fid2) #[] o.toArray),(7,sL b i d),(8,iv q),(9,iv g),(95,bV j2)] [(2,ow b d 133 aT i)] ?_ ?_
      ·cases b9:(decide (0<(a9.length:Int)))
       ·rw[b9] at b2
        rw[if_neg (by decide)] at b2
        have H:=b2
        obtain rfl:=oI H
        exact bq Z (bq Z (bq Z (bq Z (bq Z (bq Z (aC bH Z Z (ae (bA (.r Z) (.r Z)))))))))
       ·rw[b9] at b2
        rw[if_pos Z] at b2
        have H:=b2
        refine dN run_move Z ?_
        obtain⟨o5,k3,H⟩:=bnd H
        obtain⟨j3,j4,j5⟩:=aW k3
        obtain⟨m7,d8,g1,j6⟩:=(l).el j5
        obtain⟨o0,o2⟩:=m7
        have l3:=g1
        replace d8:w.R (pu a1):=Or.inl d8
        refine Tr.x (fun _ _ a c=>au pM (a.ev Z) l.form (a.ev Z) j3 j4) (dN (ag nC) Z (Tr.x (fun _ _ a c=>ah bT (a.ev Z) (aI.drop (wo d8 j6 c) 1) Z) (dN run_move Z (jM pQ Z Z (aC bG Z Z ?_)))))
        obtain rfl:=oI H
        exact ae (bA (.r Z) (.r Z))
      ·show Tr _ _ (LF [(0,sL G L I),(1,sL a1 a9 a2),(2,.func (.func fid2) #[] o.toArray),(7,sL b i d),(8,iv q),(9,iv g),(95,bV j2)]) (LE [(2,ow b d 133 aT i)]) _
       refine ae (aa (aP Z H (fun H=>?_) (fun H=>?_)))
       ·refine aO (aa (Tr.block (aM (aA Z ?_))))
        obtain⟨m8,f4,H⟩:=bnd H
        exact aG Z (fun _ _ a c=>uI pM (a.ev Z) l.form (a.ev Z) f4) (Tr.k Z (ae (aL (aF d0 (m8,(ve a1 (1:Int).toNat 3 a2),(a2-(1:Int).toNat)) ⟨H,(Sl.cut l f4)⟩ (.r Z) (.r Z)))))
       ·refine cz (aD (aD (aU (aa (ai (aA Z (aA Z (aA Z ?_))))))))
        obtain⟨P,k4,H⟩:=bnd H
        refine dU [] [] (U:=(Option Addr×Nat)) (fun u=>(.tuple #[sL u.1 P.1 u.2,iv P.2])) (fun O W u=>Sl O W bP u.1 u.2 P.1) (fun u=>[]) Z aY (fun _=>Z) (wn Z) Z Tryz.call246 (aj Z (aj Z (aj Z aJ))) (fun W hW hp hE=>wH L G I (j.rF (hW.gL hp)) q g P k4 hE) ?_
        intro w u d1 hu
        obtain⟨c3,c4⟩:=u
        have g2:=hu
        replace j:=j.le d1
        replace l:=l.le d1
        replace hf2:=fun w' he=>hf2 w' (d1.ext.trans he)
        replace J:=J.trans d1
        have K:Sl w.O w.W bP c3 c4 P.1:=g2 --@phi
        dsimp only
        refine aA Z (aG Z (fun _ _ a c=>cu (a.ev Z) Z) (aG Z (fun _ _ a c=>cu (a.ev Z) Z) (Tr.k Z (Tr.k Z (ae (aa (ai (aA Z (aA Z (aA Z ?_))))))))))
        obtain⟨Q,k5,H⟩:=bnd H
        refine dU [] [] (U:=(Option Addr×Nat)) (fun u=>(.tuple #[sL u.1 Q.1 u.2,iv Q.2])) (fun O W u=>Sl O W bP u.1 u.2 Q.1) (fun u=>[]) Z aY (fun _=>Z) (wn Z) Z Tryz.call246 (aj Z (aj Z (aj Z aJ))) (fun W hW hp hE=>wH a9 a1 a2 (l.rF (hW.gL hp)) q g Q k5 hE) ?_
        intro w u c0 hu
        obtain⟨c5,c6⟩:=u
        have g3:=hu
        replace j:=j.le c0
        replace l:=l.le c0
        replace hf2:=fun w' he=>hf2 w' (c0.ext.trans he)
        replace K:=K.le c0
        replace J:=J.trans c0
        have a0:Sl w.O w.W bP c5 c6 Q.1:=g3 --@phi
        dsimp only
        refine aA Z (aG Z (fun _ _ a c=>cu (a.ev Z) Z) (aG Z (fun _ _ a c=>cu (a.ev Z) Z) (Tr.k Z (Tr.k Z (ae (aa (ai (aA Z (aA Z (aG Z (fun _ _ a c=>vE (a.ev Z) (a.ev Z) _) (Tr.k Z (ae (aa (ai (aA Z (aA Z (aA Z (aA Z (aA Z (aA Z ?_))))))))))))))))))))
        obtain⟨a4,k6,H⟩:=bnd H
        refine gD [12] [emp] (U:=(Option Addr×Nat)) (fun u=>(sL u.1 a4 u.2)) (fun u=>bZ u.1 a4.length u.2) (fun u=>[ow u.1 u.2 3 bP a4]) Z (aH Z aY) (fun _=>Z) (wn Z) Z Tryz.call113 (aj Z (aj Z (aj Z aJ))) (fun W hW hp hE=>vo N P.1 c3 c4 (K.rl.ext (hW.gL hp)) Q.1 c5 c6 (a0.rl.ext (hW.gL hp)) p2 fid2 o hg2 (fun w' he=>hf2 w' ((hW.gL hp).trans he)) a4 k6 hE) ?_
        intro u hu
        obtain⟨T,X⟩:=u
        have g4:=hu
        have m9:bZ T a4.length X:=g4 --@phi
        dsimp only
        refine iR (vs:=[(0,iv q),(1,iv (min P.2 Q.2)),(2,sL T a4 X)]) (cs:=[iv q,iv (min P.2 Q.2),sL T a4 X]) (wn Z) Z (bB Z (bB Z (bB Z dH))) (by kernel_rfl) (Tr.freeze 12 Z fun w b3 e6=>?_)
        replace j:=j.le b3
        replace l:=l.le b3
        replace hf2:=fun w' he=>hf2 w' (b3.ext.trans he)
        replace K:=K.le b3
        replace a0:=a0.le b3
        replace J:=J.trans b3
        obtain⟨b0,k7,H⟩:=bnd H
        refine dU [2] [ow b d 133 aT i] (U:=(Option Addr×Nat)) (fun u=>(sL u.1 b0 u.2)) (fun O W u=>bZ u.1 b0.length u.2) (fun u=>[ow u.1 u.2 133 aT b0]) Z (aH Z aY) (fun _=>Z) (wn Z) Z Tryz.call69 (aj Z (aj Z aJ)) (fun W hW hp hE=>qV i b d (bf.mk q (min P.2 Q.2) a4) T X (e6.rF (hW.gL hp)) b0 k7 hE) ?_
        intro w u a7 hu
        obtain⟨b4,b5⟩:=u
        have g5:=hu
        replace j:=j.le a7
        replace l:=l.le a7
        replace hf2:=fun w' he=>hf2 w' (a7.ext.trans he)
        replace K:=K.le a7
        replace a0:=a0.le a7
        replace e6:=e6.le a7
        replace J:=J.trans a7
        have f2:bZ b4 b0.length b5:=g5 --@phi
        dsimp only
        exact Tr.k Z (ae (aa (aM (aA Z (Tr.k Z (ae (aL (aF J (L,a9,b0,(min P.2 Q.2),G,I,a1,a2,b4,b5) ⟨H,j,l,f2⟩ (.r Z) (.r Z)))))))))
   ·refine cz (aD (aD (aU (aa (ai (aA Z (Tr.k Z (ae (aa (bu ?_))))))))))
    obtain rfl:=oI H
    exact Tr.out (m:=[sL b i d]) [] (bM Z bL) (fun W hW=>⟨w,(b,d),leB,Z,e5,hW.pick (ks:=[2]) (by decide) (aH Z aY)⟩)

theorem yZ{w:Bs}(p0:Bool)(p1:Bool)(r:Bool)(H:nE p0 p1=some r)(hE:HF w w.W E0):Calls Tryz.prog 244 [bV p0,bV p1].toArray w.W fun e W'=>e= .returned (bV r)∧HF w W' E0:=by
 unfold nE at H
 have leB:=Bs.Le.refl w
 refine aZ (n:=10) Tryz.func244 Z Z Z hE (ai (Tr.k Z (ae (aa (ai (aA Z (aA Z (eD 3 [(9,bV (p0&&(!p1)))] [] ?_ ?_))))))))
 ·cases a:p0
  ·exact bq Z (bq Z (aC bH Z Z (ae (bA (.r Z) .nil))))
  ·exact dN run_move Z (dN jc Z (aC bG Z Z (ae (bA (.r Z) .nil))))
 ·show Tr _ _ (LF [(9,bV (p0&&(!p1)))]) (LE []) _
  refine Tr.k Z (ae (aa (bu ?_)))
  obtain rfl:=oI H
  exact fV leB

theorem Ai(N:Nat){w:Bs}(p0:(List bf))(d:Option Addr)(f:Nat)(l:Sl w.O w.W aT d f p0)(p1:(List bf))(g:Option Addr)(h:Nat)(o:Sl w.O w.W aT g h p1)(r:(List bf))(H:mV N p0 p1=some r)(hE:HF w w.W (ig [emp])):Calls Tryz.prog 235 [sL d p0 f,sL g p1 h].toArray w.W fun e W'=>∃(w':Bs) (u:(Option Addr×Nat)),w.Le w'∧e= .returned (sL u.1 r u.2)∧(bZ u.1 r.length u.2)∧HF w' W' (ig [ow u.1 u.2 133 aT r]):=by
 unfold mV at H
 have leB:=Bs.Le.refl w
 refine aZ (n:=8) Tryz.func235 Z Z Z hE (ai (Tr.k Z (bO 1 133 aT ?_)))
 show Tr _ _ (uf _ 4 (sL none (([]:List bf)) 0)) _ _
 refine ae (aa (ai (aA Z (aA Z ?_))))
 obtain⟨c,q,H⟩:=bnd H
 refine dU [2] [emp] (U:=(Option Addr×Nat)) (fun u=>(sL u.1 c u.2)) (fun O W u=>bZ u.1 c.length u.2) (fun u=>[ow u.1 u.2 133 aT c]) Z (aH Z aY) (fun _=>Z) (wn Z) Z Tryz.call243 (aj Z (aj Z (aj Z aJ))) (fun W hW hp hE=>yo N p0 d f (l.rF (hW.gL hp)) p1 g h (o.rF (hW.gL hp)) (fun z0 z1=>nE z0 z1) 244 [] Tryz.call244 (fun w' he z0 z1 y hy=>yZ z0 z1 y hy (HF.start _)) c q hE) ?_
 intro w u s hu
 obtain⟨a,b⟩:=u
 have j:=hu
 replace leB:=leB.trans s
 have i:bZ a c.length b:=j --@phi
 dsimp only
 refine Tr.k Z (ae (aa (bu ?_)))
 obtain rfl:=oI H
 exact Tr.out (m:=[sL a c b]) [] (bM Z bL) (fun W hW=>⟨w,(a,b),leB,Z,i,hW.pick (ks:=[2]) (by decide) (aH Z aY)⟩)

theorem Ah{w:Bs}(p0:Bool)(p1:Bool)(r:Bool)(H:oD p0 p1=some r)(hE:HF w w.W E0):Calls Tryz.prog 245 [bV p0,bV p1].toArray w.W fun e W'=>e= .returned (bV r)∧HF w W' E0:=by
 unfold oD at H
 have leB:=Bs.Le.refl w
 refine aZ (n:=9) Tryz.func245 Z Z Z hE (ai (Tr.k Z (ae (aa (ai (aA Z (aA Z (eD 2 [(8,bV (p0||p1))] [] ?_ ?_))))))))
 ·cases a:p0
  ·exact dN run_move Z (aC bH Z Z (ae (bA (.r Z) .nil)))
  ·exact bq Z (aC bG Z Z (ae (bA (.r Z) .nil)))
 ·show Tr _ _ (LF [(8,bV (p0||p1))]) (LE []) _
  refine Tr.k Z (ae (aa (bu ?_)))
  obtain rfl:=oI H
  exact fV leB

theorem BO(N:Nat){w:Bs}(p0:(List bf))(d:Option Addr)(f:Nat)(l:Sl w.O w.W aT d f p0)(p1:(List bf))(g:Option Addr)(h:Nat)(o:Sl w.O w.W aT g h p1)(r:(List bf))(H:ol N p0 p1=some r)(hE:HF w w.W (ig [emp])):Calls Tryz.prog 236 [sL d p0 f,sL g p1 h].toArray w.W fun e W'=>∃(w':Bs) (u:(Option Addr×Nat)),w.Le w'∧e= .returned (sL u.1 r u.2)∧(bZ u.1 r.length u.2)∧HF w' W' (ig [ow u.1 u.2 133 aT r]):=by
 unfold ol at H
 have leB:=Bs.Le.refl w
 refine aZ (n:=8) Tryz.func236 Z Z Z hE (ai (Tr.k Z (bO 1 133 aT ?_)))
 show Tr _ _ (uf _ 4 (sL none (([]:List bf)) 0)) _ _
 refine ae (aa (ai (aA Z (aA Z ?_))))
 obtain⟨c,q,H⟩:=bnd H
 refine dU [2] [emp] (U:=(Option Addr×Nat)) (fun u=>(sL u.1 c u.2)) (fun O W u=>bZ u.1 c.length u.2) (fun u=>[ow u.1 u.2 133 aT c]) Z (aH Z aY) (fun _=>Z) (wn Z) Z Tryz.call243 (aj Z (aj Z (aj Z aJ))) (fun W hW hp hE=>yo N p0 d f (l.rF (hW.gL hp)) p1 g h (o.rF (hW.gL hp)) (fun z0 z1=>oD z0 z1) 245 [] Tryz.call245 (fun w' he z0 z1 y hy=>Ah z0 z1 y hy (HF.start _)) c q hE) ?_
 intro w u s hu
 obtain⟨a,b⟩:=u
 have j:=hu
 replace leB:=leB.trans s
 have i:bZ a c.length b:=j --@phi
 dsimp only
 refine Tr.k Z (ae (aa (bu ?_)))
 obtain rfl:=oI H
 exact Tr.out (m:=[sL a c b]) [] (bM Z bL) (fun W hW=>⟨w,(a,b),leB,Z,i,hW.pick (ks:=[2]) (by decide) (aH Z aY)⟩)

theorem yu(N:Nat){w:Bs}(p0:fq)(d:Option Addr)(f:Nat)(a9:Sl w.R w.W aR d f p0.p.Tools)(g:Option Addr)(h:Nat)(b0:Sl w.R w.W az g h p0.p.Steps)(i:Option Addr)(j:Nat)(b1:Sl w.R w.W jy i j p0.tools)(z:Option Addr)(A:Nat)(J:Nat)(p1:(List bf))(E:Option Addr)(F:Nat)(B:Sl w.O w.W aT E F p1)(r:(Int×(List bf)))(H:mF N p0 p1=some r)(hE:HF w w.W (ig [bx J #[iv p0.p.Unit,sL d p0.p.Tools f,sL g p0.p.Steps h,sL i p0.tools j,sL z p0.image A,bV p0.clear,iv p0.tool,iv p0.place.X,iv p0.place.Y,bV p0.placed,iv p0.off,iv p0.on] 142,ow z A 133 aT p0.image])):Calls Tryz.prog 225 [pV J,sL E p1 F].toArray w.W fun e W'=>∃(w':Bs) (u:(Option Addr×Nat)),w.Le w'∧e= .returned (iv r.1)∧(bZ u.1 r.2.length u.2)∧HF w' W' (ig [bx J #[iv p0.p.Unit,sL d p0.p.Tools f,sL g p0.p.Steps h,sL i p0.tools j,sL u.1 r.2 u.2,bV p0.clear,iv p0.tool,iv p0.place.X,iv p0.place.Y,bV p0.placed,iv p0.off,iv p0.on] 142,ow u.1 u.2 133 aT r.2]):=by
 unfold mF at H
 have a8:=(hE.sl (k:=1) Z).form
 have leB:=Bs.Le.refl w
 refine aZ (n:=38) Tryz.func225 Z Z Z hE (ai (Tr.k Z (ae (aa ?_))))
 have b:=Bs.Le.refl w
 refine kZ (σ:=(List bf)×(Option Addr)×Nat) (fun w s=>jb s.1=some r∧bZ s.2.1 s.1.length s.2.2) (fun s=>[(0,pV J)]) (fun s=>[(0,bx J #[iv p0.p.Unit,sL d p0.p.Tools f,sL g p0.p.Steps h,sL i p0.tools j,sL s.2.1 s.1 s.2.2,bV p0.clear,iv p0.tool,iv p0.place.X,iv p0.place.Y,bV p0.placed,iv p0.off,iv p0.on] 142),(4,ow s.2.1 s.2.2 133 aT s.1)]) ?_ ?_
 ·refine Tr.block (ai (aA Z ?_))
  obtain⟨a1,a4,H⟩:=bnd H
  refine bR (r:=(bV a1)) (wn Z) Z Tryz.call31 (aj Z aJ) (fun W hW=>uR p1 E F (B.rl.ext hW.dz) a1 a4 (HF.start _)) (aQ jc Z (Tr.k Z (ae (aa (aP Z H (fun H=>?_) (fun H=>?_))))))
  ·refine av ?_
   cases H
  ·refine ai (aA Z (aQ fw Z (aQ (ag Lh) Z (aG Z (fun _ _ a c=>ah z8 (a.ev Z) (dB c (vs:=[iv p0.p.Unit,sL d p0.p.Tools f,sL g p0.p.Steps h,sL i p0.tools j,sL z p0.image A,bV p0.clear,iv p0.tool,iv p0.place.X,iv p0.place.Y,bV p0.placed,iv p0.off,iv p0.on]) (k:=0) Z 5) Z) (Tr.k Z (ae (aa (aP Z H (fun H=>?_) (fun H=>?_)))))))))
   ·refine aM (aA Z (aA Z (aQ fw Z (aQ (ag xX) Z (aG Z (fun _ _ a c=>ah LM (a.ev Z) (dB c (vs:=[iv p0.p.Unit,sL d p0.p.Tools f,sL g p0.p.Steps h,sL i p0.tools j,sL z p0.image A,bV p0.clear,iv p0.tool,iv p0.place.X,iv p0.place.Y,bV p0.placed,iv p0.off,iv p0.on]) (k:=0) Z 4) Z) (aA Z (Tr.freeze 1 Z fun w Q K=>?_)))))))
    replace B:=B.le Q
    replace b:=b.trans Q
    obtain⟨v,a5,H⟩:=bnd H
    refine dU [5] [emp] (U:=(Option Addr×Nat)) (fun u=>(sL u.1 v u.2)) (fun O W u=>bZ u.1 v.length u.2) (fun u=>[ow u.1 u.2 133 aT v]) Z (aH Z aY) (fun _=>Z) (wn Z) Z Tryz.call235 (aj Z (aj Z aJ)) (fun W hW hp hE=>Ai N p0.image z A (K.rF (hW.gL hp)) p1 E F (B.rF (hW.gL hp)) v a5 hE) ?_
    intro w u S hu
    obtain⟨l,o⟩:=u
    have a':=hu
    replace K:=K.le S
    replace b:=b.trans S
    have M:bZ l v.length o:=a' --@phi
    dsimp only
    exact aQ fw Z (aQ (ag xX) Z (bC 0 (cs:=[sL l v o]) [iv p0.p.Unit,sL d p0.p.Tools f,sL g p0.p.Steps h,sL i p0.tools j,sL l v o,bV p0.clear,iv p0.tool,iv p0.place.X,iv p0.place.Y,bV p0.placed,iv p0.off,iv p0.on] (wn Z) Z Z Z Z Vn Z Z Z (ae (aL (DX 5 4 Z Z Z (aF b (v,l,o) ⟨H,M⟩ (.r Z) (.r Z)))))))
   ·refine aM (aA Z (aA Z (aQ fw Z (aQ (ag xX) Z (aG Z (fun _ _ a c=>ah LM (a.ev Z) (dB c (vs:=[iv p0.p.Unit,sL d p0.p.Tools f,sL g p0.p.Steps h,sL i p0.tools j,sL z p0.image A,bV p0.clear,iv p0.tool,iv p0.place.X,iv p0.place.Y,bV p0.placed,iv p0.off,iv p0.on]) (k:=0) Z 4) Z) (aA Z (Tr.freeze 1 Z fun w T L=>?_)))))))
    replace B:=B.le T
    replace b:=b.trans T
    obtain⟨y,a6,H⟩:=bnd H
    refine dU [6] [emp] (U:=(Option Addr×Nat)) (fun u=>(sL u.1 y u.2)) (fun O W u=>bZ u.1 y.length u.2) (fun u=>[ow u.1 u.2 133 aT y]) Z (aH Z aY) (fun _=>Z) (wn Z) Z Tryz.call236 (aj Z (aj Z aJ)) (fun W hW hp hE=>BO N p0.image z A (L.rF (hW.gL hp)) p1 E F (B.rF (hW.gL hp)) y a6 hE) ?_
    intro w u V hu
    obtain⟨q,t⟩:=u
    have a0:=hu
    replace L:=L.le V
    replace b:=b.trans V
    have P:bZ q y.length t:=a0 --@phi
    dsimp only
    exact aQ fw Z (aQ (ag xX) Z (bC 0 (cs:=[sL q y t]) [iv p0.p.Unit,sL d p0.p.Tools f,sL g p0.p.Steps h,sL i p0.tools j,sL q y t,bV p0.clear,iv p0.tool,iv p0.place.X,iv p0.place.Y,bV p0.placed,iv p0.off,iv p0.on] (wn Z) Z Z Z Z Vn Z Z Z (ae (aL (DX 6 4 Z Z Z (aF b (y,q,t) ⟨H,P⟩ (.r Z) (.r Z)))))))
 ·intro w s a2 hs
  obtain⟨G,C,D⟩:=s
  obtain⟨H,I⟩:=hs
  replace H:jb G=some r:=H
  replace leB:=leB.trans a2
  replace I:bZ C G.length D:=I
  unfold jb at H
  dsimp only
  refine av (ai (aA Z (aQ fw Z (aQ (ag xX) Z (aG Z (fun _ _ a c=>ah LM (a.ev Z) (dB c (vs:=[iv p0.p.Unit,sL d p0.p.Tools f,sL g p0.p.Steps h,sL i p0.tools j,sL C G D,bV p0.clear,iv p0.tool,iv p0.place.X,iv p0.place.Y,bV p0.placed,iv p0.off,iv p0.on]) (k:=0) Z 4) Z) ?_)))))
  obtain⟨a3,a7,H⟩:=bnd H
  refine bR (r:=(iv a3)) (wn Z) Z Tryz.call73 (aj Z aJ) (fun W hW=>qW G C D (hW.sH (k:=4) Z) a3 a7 (HF.start _)) (aC jd Z Z (ae (aa (aP Z H (fun H=>?_) (fun H=>?_)))))
  ·refine ai (Tr.k Z (ae (aa (bu (bn ?_)))))
   obtain rfl:=oI H
   exact Tr.out (m:=[iv 2]) [] (bM Z bL) (fun W hW=>⟨w,(C,D),leB,Z,I,hW.pick (ks:=[0,4]) (by decide) (aH Z (aH Z aY))⟩)
  ·refine aO (aa (ai (Tr.k Z (ae (aa (bu ?_))))))
   obtain rfl:=oI H
   exact Tr.out (m:=[iv 0]) [] (bM Z bL) (fun W hW=>⟨w,(C,D),leB,Z,I,hW.pick (ks:=[0,4]) (by decide) (aH Z (aH Z aY))⟩)

theorem Bb{w:Bs}(p0:aK)(p1:aK)(r:Int)(H:nO p0 p1=some r)(hE:HF w w.W E0):Calls Tryz.prog 238 [.agg #[iv p0.X0,iv p0.Y0,iv p0.X1,iv p0.Y1],.agg #[iv p1.X0,iv p1.Y0,iv p1.X1,iv p1.Y1]].toArray w.W fun e W'=>e= .returned (iv r)∧HF w W' E0:=by
 unfold nO at H
 have leB:=Bs.Le.refl w
 refine aZ (n:=10) Tryz.func238 Z Z Z hE (ai (fT 1 (cs:=[iv p0.X0,iv p0.Y0,iv p0.X1,iv p0.Y1]) (wn Z) Z Z Z fun b=>(fT 2 (cs:=[iv p1.X0,iv p1.Y0,iv p1.X1,iv p1.Y1]) (wn Z) Z Z Z fun d=>(Tr.k Z (ae (aa (ai (aQ (ag oW) Z (aG Z (fun _ _ a c=>ah bT (a.ev Z) (dB c (vs:=[iv p0.X0,iv p0.Y0,iv p0.X1,iv p0.Y1]) (k:=1) Z 0) Z) (aQ (ag oW) Z (aG Z (fun _ _ a c=>ah bT (a.ev Z) (dB c (vs:=[iv p1.X0,iv p1.Y0,iv p1.X1,iv p1.Y1]) (k:=2) Z 0) Z) (aC gu Z Z (Tr.k Z (ae (aa (bu ?_))))))))))))))))
 obtain rfl:=oI H
 exact fV leB

theorem CR(N:Nat){w:Bs}(p0:(List (List ak)))(V:Option Addr)(a':Nat)(a4:Sl w.R w.W eu V a' p0)(r:(List bf))(H:qX N p0=some r)(hE:HF w w.W (ig [emp])):Calls Tryz.prog 227 [sL V p0 a'].toArray w.W fun e W'=>∃(w':Bs) (u:(Option Addr×Nat)),w.Le w'∧e= .returned (sL u.1 r u.2)∧(bZ u.1 r.length u.2)∧HF w' W' (ig [ow u.1 u.2 133 aT r]):=by
 unfold qX at H
 have leB:=Bs.Le.refl w
 refine aZ (n:=138) Tryz.func227 Z Z Z hE (ai (Tr.k Z (bO 1 133 aT ?_)))
 show Tr _ _ (uf _ 2 (sL none (([]:List bf)) 0)) _ _
 refine ae (aa (ai (Tr.k Z (bO 2 3 bP ?_))))
 show Tr _ _ (uf _ 3 (sL none (([]:List Int)) 0)) _ _
 refine ae (aa (ai (Tr.k Z (bO 3 45 aX ?_))))
 show Tr _ _ (uf _ 4 (sL none (([]:List aK)) 0)) _ _
 refine ae (aa (av (ai (aA Z (aQ (bD HV) Z (aA Z (ae (aa (Tr.block (cB (σ:=(List (List ak))×Nat×(List Int)×(List aK)×(Option Addr)×Nat×(Option Addr)×Nat) (fun m w s=>m=s.1.length+1∧s.1=List.drop s.2.1 p0∧s.2.1≤p0.length∧iI N s.1 s.2.1 s.2.2.1 s.2.2.2.1=some r∧bZ s.2.2.2.2.1 s.2.2.1.length s.2.2.2.2.2.1∧bZ s.2.2.2.2.2.2.1 s.2.2.2.1.length s.2.2.2.2.2.2.2) (fun s=>[(3,sL s.2.2.2.2.1 s.2.2.1 s.2.2.2.2.2.1),(4,sL s.2.2.2.2.2.2.1 s.2.2.2.1 s.2.2.2.2.2.2.2),(16,sL V p0 a'),(17,iv (p0.length:Int)),(18,iv (s.2.1:Int))]) (fun s=>[(2,ow s.2.2.2.2.1 s.2.2.2.2.2.1 3 bP s.2.2.1),(3,ow s.2.2.2.2.2.2.1 s.2.2.2.2.2.2.2 45 aX s.2.2.2.1)]) (p0.length+1) (p0,0,([]:List Int),([]:List aK),none,0,none,0) ⟨Z,Z,Nat.zero_le _,H,fQ,fQ⟩ (.r Z) (.r Z) (fun _ _ h=>absurd h.1 (by simp)) ?_))))))))))
 intro w d2 m s hs
 obtain⟨I,a9,a5,S,B,C,d,f⟩:=s
 obtain⟨e3,a6,l0,H,c7,c8⟩:=hs
 replace a6:I=List.drop a9 p0:=a6
 replace H:iI N I a9 a5 S=some r:=H
 replace e3:m+1=I.length+1:=e3
 replace a4:=a4.oV d2
 replace leB:=leB.trans d2
 replace c7:bZ B a5.length C:=c7
 replace c8:bZ d S.length f:=c8
 obtain rfl:m=I.length:=by omega
 clear e3
 dsimp only
 cases I with
 | nil =>
  rw[iI.eq_1] at H
  refine ai (aC bv Z Z (ae (aa (av (eX Z (dY a6) (cz (aD (aD (aU (aa (ai (aA Z ?_))))))))))))
  obtain⟨T,i3,H⟩:=bnd H
  refine gD [2] [ow B C 3 bP a5] (U:=Unit) (fun u=>(.tuple #[])) (fun u=>T.length=a5.length) (fun u=>[ow B C 3 bP T]) Z (aH Z aY) (fun _=>Z) (wn Z) Z Tryz.call65 (aj Z aJ) (fun W hW hp hE=>uQ a5 B C T i3 hE) ?_
  intro u hu
  have e4:=hu
  have b0:T.length=a5.length:=e4 --@phi
  have k2:bZ B T.length C:=by rw[b0];exact c7
  show Tr _ _ (uf _ 66 (.tuple #[])) (up _ 2 (ow B C 3 bP T)) _
  refine Tr.vD (lf:=[(3,sL B T C),(4,sL d S f),(16,sL V p0 a'),(17,iv (p0.length:Int)),(18,iv (a9:Int)),(19,bV (decide ((a9:Int)<(p0.length:Int)))),(65,sL B T C),(66,(.tuple #[]))]) (le:=[(2,ow B C 3 bP T),(3,ow d f 45 aX S)]) (.cons (dM Z (by unfold sL;rw[b0])) (.cons Z (.cons Z (.cons Z (.cons Z (.cons Z (.cons (dM Z (by unfold sL;rw[b0])) (.r Z)))))))) (.r Z) (ae (aa (ai (aA Z ?_))))
  obtain⟨o,i4,H⟩:=bnd H
  refine gD [2] [ow B C 3 bP T] (U:=(Option Addr×Nat)) (fun u=>(sL u.1 o u.2)) (fun u=>bZ u.1 o.length u.2) (fun u=>[ow u.1 u.2 3 bP o]) Z (aH Z aY) (fun _=>Z) (wn Z) Z Tryz.call66 (aj Z aJ) (fun W hW hp hE=>sU T B C o i4 hE) ?_
  intro u hu
  obtain⟨i,j⟩:=u
  have f5:=hu
  have a7:bZ i o.length j:=f5 --@phi
  dsimp only
  refine Tr.k Z (ae (aa (ai (aA Z ?_))))
  obtain⟨b,i5,H⟩:=bnd H
  refine gD [3] [ow d f 45 aX S] (U:=Unit) (fun u=>(.tuple #[])) (fun u=>b.length=S.length) (fun u=>[ow d f 45 aX b]) Z (aH Z aY) (fun _=>Z) (wn Z) Z Tryz.call63 (aj Z (aj Z aJ)) (fun W hW hp hE=>nU S d f (fun z0 z1=>nO z0 z1) 238 [] Tryz.call238 (fun w' he z0 z1 y hy=>Bb z0 z1 y hy (HF.start _)) b i5 hE) ?_
  intro u hu
  have e5:=hu
  have b1:b.length=S.length:=e5 --@phi
  have a0:bZ d b.length f:=by rw[b1];exact c8
  show Tr _ _ (uf _ 70 (.tuple #[])) (up _ 3 (ow d f 45 aX b)) _
  refine Tr.vD (lf:=[(3,sL i o j),(4,sL d b f),(16,sL V p0 a'),(17,iv (p0.length:Int)),(18,iv (a9:Int)),(19,bV (decide ((a9:Int)<(p0.length:Int)))),(66,(.tuple #[])),(68,sL i o j),(69,sL d b f),(70,(.tuple #[]))]) (le:=[(2,ow i j 3 bP o),(3,ow d f 45 aX b)]) (.cons Z (.cons (dM Z (by unfold sL;rw[b1])) (.cons Z (.cons Z (.cons Z (.cons Z (.cons Z (.cons Z (.cons (dM Z (by unfold sL;rw[b1])) (.r Z)))))))))) (.r Z) (ae (aa (ai (Tr.k Z (bO 28 133 aT ?_)))))
  show Tr _ _ (uf _ 10 (sL none (([]:List bf)) 0)) _ _
  refine ae (aa (av (ai (Tr.k Z (ae (aa (Tr.block (cB (σ:=(List bf)×Int×(Option Addr)×Nat) (fun m w s=>iH o b m s.1 s.2.1=some r∧bZ s.2.2.1 s.1.length s.2.2.2) (fun s=>[(3,sL i o j),(4,sL d b f),(10,sL s.2.2.1 s.1 s.2.2.2),(11,iv s.2.1)]) (fun s=>[(2,ow i j 3 bP o),(3,ow d f 45 aX b),(28,ow s.2.2.1 s.2.2.2 133 aT s.1)]) N (([]:List bf),0,none,0) ⟨H,fQ⟩ (.r Z) (.r Z) (fun _ _ h=>jZ (h.1)) ?_))))))))
  intro w b2 f8 s hs
  obtain⟨F,a8,D,E⟩:=s
  obtain⟨H,d4⟩:=hs
  replace H:iH o b (f8+1) F a8=some r:=H
  replace leB:=leB.trans b2
  replace d4:bZ D F.length E:=d4
  rw[iH.eq_2] at H
  dsimp only
  refine av (ai (aA Z (aC bz Z Z (aA Z (aQ (bD kF) Z (aC bv Z Z (ae (aa (aP Z H (fun H=>?_) (fun H=>?_))))))))))
  ·refine aO (aa (av (Tr.block (ai (Tr.k Z (bO 43 3 bP ?_))))))
   show Tr _ _ (uf _ 12 (sL none (([]:List Int)) 0)) _ _
   refine ae (aa (av (ai (aA Z (aQ (bD rM) Z (aA Z (ae (aa (Tr.block (cB (σ:=(List aK)×Nat×(List Int)×(Option Addr)×Nat) (fun m w s=>m=s.1.length+1∧s.1=List.drop s.2.1 b∧s.2.1≤b.length∧iG o F a8 (iH o b f8) s.1 s.2.1 s.2.2.1=some r∧bZ s.2.2.2.1 s.2.2.1.length s.2.2.2.2) (fun s=>[(3,sL i o j),(4,sL d b f),(10,sL D F E),(11,iv a8),(12,sL s.2.2.2.1 s.2.2.1 s.2.2.2.2),(78,sL d b f),(79,iv (b.length:Int)),(80,iv (s.2.1:Int))]) (fun s=>[(2,ow i j 3 bP o),(3,ow d f 45 aX b),(28,ow D E 133 aT F),(43,ow s.2.2.2.1 s.2.2.2.2 3 bP s.2.2.1)]) (b.length+1) (b,0,([]:List Int),none,0) ⟨Z,Z,Nat.zero_le _,H,fQ⟩ (.r Z) (.r Z) (fun _ _ h=>absurd h.1 (by simp)) ?_))))))))))
   intro w d5 m s hs
   obtain⟨J,c6,K,L,M⟩:=s
   obtain⟨e6,G,l1,H,b4⟩:=hs
   replace G:J=List.drop c6 b:=G
   replace H:iG o F a8 (iH o b f8) J c6 K=some r:=H
   replace e6:m+1=J.length+1:=e6
   replace b2:=b2.trans d5
   replace b4:bZ L K.length M:=b4
   obtain rfl:m=J.length:=by omega
   clear e6
   dsimp only
   cases J with
   |nil=>
    rw[iG.eq_1] at H
    refine ai (aC bv Z Z (ae (aa (av (eX Z (dY G) (cz (aD (aD (aU (aa (jN 12 (by kernel_rfl) (by kernel_rfl) (dG Z (dG Z (dG Z ?_))))))))))))))
    obtain⟨e7,i6,H⟩:=bnd H
    obtain⟨f9,g0,g1⟩:=aW i6
    refine bg Z (fun _ _ a c=>au iX (a.ev Z) a7 (a.ev Z) f9 g0) (bg Z (fun _ _ a c=>ah bT (a.ev Z) (yF jm (k:=2) c Z g1) Z) (dG Z (dG Z (fZ bz Z Z ?_))))
    obtain⟨e8,i7,H⟩:=bnd H
    obtain⟨g2,g3,g4⟩:=aW i7
    refine bg Z (fun _ _ a c=>au iX (a.ev Z) a7 (a.ev Z) g2 g3) (bg Z (fun _ _ a c=>ah bT (a.ev Z) (yF jm (k:=2) c Z g4) Z) (dG Z (uP (vs:=[(0,iv e7),(1,iv e8),(2,sL L K M)]) (cs:=[iv e7,iv e8,sL L K M]) (wn Z) Z (bB Z (bB Z (bB Z dH))) (by kernel_rfl) (iC (Tr.freeze 43 Z fun w i8 d6=>?_)))))
    replace b2:=b2.trans i8
    obtain⟨b3,i9,H⟩:=bnd H
    refine dU [28] [ow D E 133 aT F] (U:=(Option Addr×Nat)) (fun u=>(sL u.1 b3 u.2)) (fun O W u=>bZ u.1 b3.length u.2) (fun u=>[ow u.1 u.2 133 aT b3]) Z (aH Z aY) (fun _=>Z) (wn Z) Z Tryz.call69 (aj Z (aj Z aJ)) (fun W hW hp hE=>qV F D E (bf.mk e7 e8 K) L M (d6.rF (hW.gL hp)) b3 i9 hE) ?_
    intro w u f2 hu
    obtain⟨b5,b6⟩:=u
    have f6:=hu
    replace d6:=d6.le f2
    replace b2:=b2.trans f2
    have e9:bZ b5 b3.length b6:=f6 --@phi
    dsimp only
    exact Tr.k Z (ae (aL (aa (aM (aA Z (aC bz Z Z (Tr.k Z (ae (aF b2 (b3,(bF (a8+1)),b5,b6) ⟨H,e9⟩ (.r Z) (.r Z))))))))))
   | cons v J=>
    rw[iG.eq_2] at H
    refine ai (aC bv Z Z (ae (aa (av (eO Z (fI G) (aO (aa (av (Tr.block (ai (aG Z (fun _ _ a c=>au uh (a.ev Z) a0 (a.ev Z) (Int.natCast_nonneg _) (bE G)) (aG Z (fun _ _ a c=>aN (cs:=[iv v.X0,iv v.Y0,iv v.X1,iv v.Y1]) qJ kG (a.ev Z) (aI.take (yF lY (k:=3) c Z (gq G)) 4) Z) (Tr.alloc 48 (wn Z) Z vz fun g5=>(bC 48 (cs:=[iv v.X0,iv v.Y0,iv v.X1,iv v.Y1]) [iv v.X0,iv v.Y0,iv v.X1,iv v.Y1] (wn Z) Z Z Z Z kG Z Z Z (ae (aa (av (av (jF (by kernel_rfl) (by kernel_rfl) (dZ (ag rq) Z (bg Z (fun _ _ a c=>ah bT (a.ev Z) (dB c (vs:=[iv v.X0,iv v.Y0,iv v.X1,iv v.Y1]) (k:=48) Z 1) Z) ?_)))))))))))))))))))))
    refine dG Z (dG Z ?_)
    obtain⟨k3,j0,H⟩:=bnd H
    obtain⟨g6,g7,g8⟩:=aW j0
    refine bg Z (fun _ _ a c=>au iX (a.ev Z) a7 (a.ev Z) g6 g7) (bg Z (fun _ _ a c=>ah bT (a.ev Z) (yF jm (k:=2) c Z g8) Z) (fZ jd Z Z (dG Z ?_)))
    obtain⟨k4,b7,H⟩:=bnd H
    refine sK 8 [(3,sL i o j),(4,sL d b f),(10,sL D F E),(11,iv a8),(12,sL L K M),(14,pV g5),(78,sL d b f),(79,iv (b.length:Int)),(80,iv (c6:Int)),(99,bV k4)] ?_ ?_
    ·cases c0:(decide (k3<v.Y0))
     ·rw[c0] at b7
      rw[if_neg (by decide)] at b7
      have H:=b7
      refine kH (ag yP) Z (Tq.x (fun _ _ a c=>ah bT (a.ev Z) (dB c (vs:=[iv v.X0,iv v.Y0,iv v.X1,iv v.Y1]) (k:=48) Z 3) Z) (kH run_move Z (kH run_move Z ?_)))
      obtain⟨l3,j1,H⟩:=bnd H
      obtain⟨g9,h0,h1⟩:=aW j1
      refine Tq.x (fun _ _ a c=>au iX (a.ev Z) a7 (a.ev Z) g9 h0) (Tq.x (fun _ _ a c=>ah bT (a.ev Z) (yF jm (k:=2) c Z h1) Z) (uN pQ Z Z (fZ bH Z Z ?_)))
      obtain rfl:=oI H
      exact Tq.fin (.r Z)
     ·rw[c0] at b7
      rw[if_pos Z] at b7
      have H:=b7
      obtain rfl:=oI H
      exact di Z (di Z (di Z (di Z (di Z (di Z (di Z (fZ bG Z Z (Tq.fin (.r Z)))))))))
    ·refine iC (aa (aP Z H (fun H=>?_) (fun H=>?_)))
     ·exact cz (aD (aU (aa (aM (aC bz Z Z (aA Z (ae (aF d5 (J,(c6+1),K,L,M) ⟨Z,dW G,bE G,H,b4⟩ (.cons Z (.cons Z (.cons Z (.cons Z (.cons Z (.cons Z (.cons Z (.cons (congrArg (fun z=>some (Value.int .i64 z)) (dV G a0)) .nil)))))))) (.r Z)))))))))
     ·refine aO (aa (ai (aA Z (aQ (bD kF) Z (Tr.k Z (ae (aa (av (jF (by kernel_rfl) (by kernel_rfl) (dG Z (fZ jd Z Z (dG Z ?_))))))))))))
      obtain⟨k5,b8,H⟩:=bnd H
      refine sK 9 [(3,sL i o j),(4,sL d b f),(10,sL D F E),(11,iv a8),(12,sL L K M),(14,pV g5),(15,iv (K.length:Int)),(78,sL d b f),(79,iv (b.length:Int)),(80,iv (c6:Int)),(113,bV k5)] ?_ ?_
      ·cases c0:(decide (0<(K.length:Int)))
       ·rw[c0] at b8
        rw[if_neg (by decide)] at b8
        have H:=b8
        obtain rfl:=oI H
        exact di Z (di Z (di Z (di Z (di Z (di Z (di Z (di Z (fZ bH Z Z (Tq.fin (.r Z))))))))))
       ·rw[c0] at b8
        rw[if_pos Z] at b8
        have H:=b8
        refine kH run_move Z (kH run_move Z (uN gu Z Z ?_))
        obtain⟨l4,j2,H⟩:=bnd H
        obtain⟨h2,h3,h4⟩:=aW j2
        refine Tq.x (fun _ _ a c=>au iX (a.ev Z) b4 (a.ev Z) h2 h3) (Tq.x (fun _ _ a c=>ah bT (a.ev Z) (yF jm (k:=43) c Z h4) Z) (kH (ag oW) Z (Tq.x (fun _ _ a c=>ah bT (a.ev Z) (dB c (vs:=[iv v.X0,iv v.Y0,iv v.X1,iv v.Y1]) (k:=48) Z 0) Z) (uN eU Z Z (fZ bG Z Z ?_)))))
        obtain rfl:=oI H
        exact Tq.fin (.r Z)
      ·refine iC (aa (aP Z H (fun H=>?_) (fun H=>?_)))
       ·refine aM (aA Z (aA Z (aC gu Z Z ?_)))
        obtain⟨k6,d7,H⟩:=bnd H
        exact aG Z (fun _ _ a c=>Jn iX (a.ev Z) b4 (a.ev Z) d7) (Tr.k Z (ae (aL (aa (aM (aC bz Z Z (aA Z (ae (GR 43 d7 Z (aF d5 (J,(c6+1),k6,L,M) ⟨Z,dW G,bE G,H,(FX b4 d7)⟩ (.cons Z (.cons Z (.cons Z (.cons Z (.cons Z (.cons Z (.cons Z (.cons (congrArg (fun z=>some (Value.int .i64 z)) (dV G a0)) .nil)))))))) (.r Z)))))))))))
       ·refine aM (aA Z (aQ (ag oW) Z (aG Z (fun _ _ a c=>ah bT (a.ev Z) (dB c (vs:=[iv v.X0,iv v.Y0,iv v.X1,iv v.Y1]) (k:=48) Z 0) Z) (dS 49 (e:=3) (vs:=[(0,iv v.X0)]) (cs:=[iv v.X0]) (wn Z) Z (bB Z dH) (by kernel_rfl) fun l5=>?_))))
        obtain⟨k7,j3,H⟩:=bnd H
        exact Tr.append 43 (t:=bP) (l:=K) (l2:=[v.X0]) (wn Z) Z Z Z Z (fun W hW=>⟨[[iv v.X0]],(.cons ⟨(),trivial,Z⟩ .nil),dB hW (vs:=[iv v.X0]) (k:=49) Z 0⟩) kF wP Mf (by decide) Np Z j3 fun j4 j5 h5=>(Tr.k Z (ae (aL (aa (aM (aC bz Z Z (aA Z (ae (aF d5 (J,(c6+1),k7,j4,j5) ⟨Z,dW G,bE G,H,h5⟩ (.cons Z (.cons Z (.cons Z (.cons Z (.cons Z (.cons Z (.cons Z (.cons (congrArg (fun z=>some (Value.int .i64 z)) (dV G a0)) .nil)))))))) (.r Z))))))))))
  ·refine cz (aD (aD (aU (aa (ai (aA Z (Tr.k Z (ae (aa (bu ?_))))))))))
   obtain rfl:=oI H
   exact Tr.out (m:=[sL D F E]) [] (bM Z bL) (fun W hW=>⟨w,(D,E),leB,Z,d4,hW.pick (ks:=[28]) (by decide) (aH Z aY)⟩)
 | cons a1 I=>
  rw[iI.eq_2] at H
  refine ai (aC bv Z Z (ae (aa (av (eO Z (fI a6) (aO (aa (av (Tr.block (ai ?_))))))))))
  obtain⟨k8,h6,f7,h7⟩:=(a4).el (gq a6)
  obtain⟨a2,a3⟩:=k8
  have A:=f7
  replace A:Sl w.R w.W bi a2 a3 a1:=A
  refine aG Z (fun _ _ a c=>au Ls (a.ev Z) a4.form (a.ev Z) (Int.natCast_nonneg _) (bE a6)) (aG Z (fun _ _ a c=>ah tF (a.ev Z) (wo h6 h7 c) Z) (Tr.k Z (ae (aa (ai (aA Z (aQ (bD qM) Z (aA Z (ae (aa (Tr.block (cB (σ:=(List ak)×Nat×(List Int)×(List aK)×(Option Addr)×Nat×(Option Addr)×Nat) (fun m w s=>m=s.1.length+1∧s.1=List.drop s.2.1 a1∧s.2.1≤a1.length∧jf (iI N I (a9+1)) a1 s.1 s.2.1 s.2.2.1 s.2.2.2.1=some r∧bZ s.2.2.2.2.1 s.2.2.1.length s.2.2.2.2.2.1∧bZ s.2.2.2.2.2.2.1 s.2.2.2.1.length s.2.2.2.2.2.2.2) (fun s=>[(3,sL s.2.2.2.2.1 s.2.2.1 s.2.2.2.2.2.1),(4,sL s.2.2.2.2.2.2.1 s.2.2.2.1 s.2.2.2.2.2.2.2),(6,sL a2 a1 a3),(16,sL V p0 a'),(17,iv (p0.length:Int)),(18,iv (a9:Int)),(22,sL a2 a1 a3),(23,iv (a1.length:Int)),(24,iv (s.2.1:Int))]) (fun s=>[(2,ow s.2.2.2.2.1 s.2.2.2.2.2.1 3 bP s.2.2.1),(3,ow s.2.2.2.2.2.2.1 s.2.2.2.2.2.2.2 45 aX s.2.2.2.1)]) (a1.length+1) (a1,0,a5,S,B,C,d,f) ⟨Z,Z,Nat.zero_le _,H,c7,c8⟩ (.r Z) (.r Z) (fun _ _ h=>absurd h.1 (by simp)) ?_))))))))))))
  intro w d3 m s hs
  obtain⟨P,d9,c5,b9,c9,d0,c3,c4⟩:=s
  obtain⟨f1,Q,l6,H,d8,d1⟩:=hs
  replace Q:P=List.drop d9 a1:=Q
  replace H:jf (iI N I (a9+1)) a1 P d9 c5 b9=some r:=H
  replace f1:m+1=P.length+1:=f1
  replace A:=A.oV d3
  replace a4:=a4.oV d3
  replace d2:=d2.trans d3
  replace d8:bZ c9 c5.length d0:=d8
  replace d1:bZ c3 b9.length c4:=d1
  obtain rfl:m=P.length:=by omega
  clear f1
  dsimp only
  cases P with
  |nil=>
   rw[jf.eq_1] at H
   exact ai (aC bv Z Z (ae (aa (av (eX Z (dY Q) (cz (aD (aD (aU (aL (aa (aM (aC bz Z Z (aA Z (ae (aF d2 (I,(a9+1),c5,b9,c9,d0,c3,c4) ⟨Z,dW a6,bE a6,H,d8,d1⟩ (.cons Z (.cons Z (.cons Z (.cons Z (.cons (congrArg (fun z=>some (Value.int .i64 z)) (dV a6 a4.form)) .nil))))) (.r Z)))))))))))))))))
  | cons g P=>
   rw[jf.eq_2] at H
   refine ai (aC bv Z Z (ae (aa (av (eO Z (fI Q) (aO (aa (av (Tr.block (ai (aA Z (aG Z (fun _ _ a c=>au ql (a.ev Z) A.form (a.ev Z) (Int.natCast_nonneg _) (bE Q)) (aG Z (fun _ _ a c=>aN (cs:=[iv g.X,iv g.Y]) kP gQ (a.ev Z) (aI.take (vB jI A (gq Q) c) 2) Z) (Tr.alloc 58 (wn Z) Z tZ fun l7=>(Tr.k Z (bC 58 (cs:=[iv g.X,iv g.Y]) [iv g.X,iv g.Y] (wn Z) Z Z Z Z gQ Z Z Z (ae (aa (ai (aA Z (aA Z (aC bz Z Z (aA Z (aQ (bD qM) Z ?_))))))))))))))))))))))))
   obtain⟨l8,j6,H⟩:=bnd H
   refine aG Z (fun _ _ a c=>Df (a.ev Z) (a.ev Z) j6) ?_
   obtain⟨q,j7,H⟩:=bnd H
   obtain⟨h8,h9,i0⟩:=aW j7
   refine aG Z (fun _ _ a c=>au ql (a.ev Z) A.form (a.ev Z) h8 h9) (aG Z (fun _ _ a c=>aN (cs:=[iv q.X,iv q.Y]) kP gQ (a.ev Z) (aI.take (vB jI A i0 c) 2) Z) (Tr.alloc 59 (wn Z) Z tZ fun l9=>(bC 59 (cs:=[iv q.X,iv q.Y]) [iv q.X,iv q.Y] (wn Z) Z Z Z Z gQ Z Z Z (ae (aa (ai (aA Z (aQ (ag iQ) Z (aG Z (fun _ _ a c=>ah bT (a.ev Z) (dB c (vs:=[iv g.X,iv g.Y]) (k:=58) Z 1) Z) (dS 60 (e:=3) (vs:=[(0,iv g.Y)]) (cs:=[iv g.Y]) (wn Z) Z (bB Z dH) (by kernel_rfl) fun m0=>?_))))))))))
   obtain⟨i1,j8,H⟩:=bnd H
   refine Tr.append 2 (t:=bP) (l:=c5) (l2:=[g.Y]) (wn Z) Z Z Z Z (fun W hW=>⟨[[iv g.Y]],(.cons ⟨(),trivial,Z⟩ .nil),dB hW (vs:=[iv g.Y]) (k:=60) Z 0⟩) kF wP Mf (by decide) Np Z j8 fun f3 f4 e0=>(Tr.k Z (ae (aa (ai (aQ (ag je) Z (aG Z (fun _ _ a c=>ah bT (a.ev Z) (dB c (vs:=[iv g.X,iv g.Y]) (k:=58) Z 0) Z) (aQ (ag je) Z (aG Z (fun _ _ a c=>ah bT (a.ev Z) (dB c (vs:=[iv q.X,iv q.Y]) (k:=59) Z 0) Z) (aC eU Z Z (ae (aa (aP Z H (fun H=>?_) (fun H=>?_)))))))))))))
   ·refine aM (aA Z (aQ (ag je) Z (aG Z (fun _ _ a c=>ah bT (a.ev Z) (dB c (vs:=[iv g.X,iv g.Y]) (k:=58) Z 0) Z) (aQ (ag iQ) Z (aG Z (fun _ _ a c=>ah bT (a.ev Z) (dB c (vs:=[iv g.X,iv g.Y]) (k:=58) Z 1) Z) (aQ (ag iQ) Z (aG Z (fun _ _ a c=>ah bT (a.ev Z) (dB c (vs:=[iv q.X,iv q.Y]) (k:=59) Z 1) Z) (aG Z (fun _ _ a c=>vE (a.ev Z) (a.ev Z) _) (aQ (ag iQ) Z (aG Z (fun _ _ a c=>ah bT (a.ev Z) (dB c (vs:=[iv g.X,iv g.Y]) (k:=58) Z 1) Z) (aQ (ag iQ) Z (aG Z (fun _ _ a c=>ah bT (a.ev Z) (dB c (vs:=[iv q.X,iv q.Y]) (k:=59) Z 1) Z) (aG Z (fun _ _ a c=>wY (a.ev Z) (a.ev Z) _) ?_)))))))))))))
    refine iR (vs:=[(0,iv g.X),(1,iv (min g.Y q.Y)),(3,iv (max g.Y q.Y))]) (cs:=[iv g.X,iv (min g.Y q.Y),iv 0,iv (max g.Y q.Y)]) (wn Z) Z (bB Z (bB Z (bB Z dH))) (by kernel_rfl) (dS 61 (e:=45) (vs:=[(0,.agg #[iv g.X,iv (min g.Y q.Y),iv 0,iv (max g.Y q.Y)])]) (cs:=[iv g.X,iv (min g.Y q.Y),iv 0,iv (max g.Y q.Y)]) (wn Z) Z (bB Z dH) (by kernel_rfl) fun m1=>?_)
    obtain⟨k9,j9,H⟩:=bnd H
    exact Tr.append 3 (t:=aX) (l:=b9) (l2:=[(aK.mk g.X (min g.Y q.Y) 0 (max g.Y q.Y))]) (wn Z) Z Z Z Z (fun W hW=>⟨[[iv g.X,iv (min g.Y q.Y),iv 0,iv (max g.Y q.Y)]],(.cons ⟨(),trivial,Z⟩ .nil),dB hW (vs:=[iv g.X,iv (min g.Y q.Y),iv 0,iv (max g.Y q.Y)]) (k:=61) Z 0⟩) rM kG NQ (by decide) Pw Z j9 fun k0 k1 i2=>(Tr.k Z (ae (aL (aa (aM (aC bz Z Z (aA Z (ae (aF d3 (P,(d9+1),i1,k9,f3,f4,k0,k1) ⟨Z,dW Q,bE Q,H,e0,i2⟩ (.cons Z (.cons Z (.cons Z (.cons Z (.cons Z (.cons Z (.cons Z (.cons Z (.cons (congrArg (fun z=>some (Value.int .i64 z)) (dV Q A.form)) .nil))))))))) (.r Z))))))))))
   ·exact aO (aL (aa (aM (aC bz Z Z (aA Z (ae (aF d3 (P,(d9+1),i1,b9,f3,f4,c3,c4) ⟨Z,dW Q,bE Q,H,e0,d1⟩ (.cons Z (.cons Z (.cons Z (.cons Z (.cons Z (.cons Z (.cons Z (.cons Z (.cons (congrArg (fun z=>some (Value.int .i64 z)) (dV Q A.form)) .nil))))))))) (.r Z))))))))

theorem wU{w:Bs}(p0:ak)(r:Bool)(H:iJ p0=some r)(hE:HF w w.W E0):Calls Tryz.prog 228 [.agg #[iv p0.X,iv p0.Y]].toArray w.W fun e W'=>e= .returned (bV r)∧HF w W' E0:=by
 unfold iJ at H
 have leB:=Bs.Le.refl w
 refine aZ (n:=6) Tryz.func228 Z Z Z hE (ai (fT 1 (cs:=[iv p0.X,iv p0.Y]) (wn Z) Z Z Z fun f=>(Tr.k Z (ae (aa (ai (aG Z (fun _ _ a c=>aN (cs:=[iv p0.X,iv p0.Y]) kP gQ (a.ev Z) (aI.take (dB c (vs:=[iv p0.X,iv p0.Y]) (k:=1) Z 0) 2) Z) ?_)))))))
 obtain⟨b,d,H⟩:=bnd H
 refine bR (r:=(bV b)) (wn Z) Z Tryz.call61 (aj Z aJ) (fun W hW=>wI p0 b d (HF.start _)) (aQ jc Z (Tr.k Z (ae (aa (bu ?_)))))
 obtain rfl:=oI H
 exact fV leB

theorem yw(N:Nat){w:Bs}(p0:fq)(f:Option Addr)(g:Nat)(i:Sl w.R w.W aR f g p0.p.Tools)(j:Option Addr)(o:Nat)(q:Sl w.R w.W az j o p0.p.Steps)(v:Option Addr)(A:Nat)(B:Sl w.R w.W jy v A p0.tools)(b:Option Addr)(d:Nat)(Q:Nat)(p1:(List ak))(a3:Option Addr)(a4:Nat)(a':Sl w.R w.W bi a3 a4 p1)(p2:ak)(r:(Int×(List bf)))(H:kX N p0 p1 p2=some r)(hE:HF w w.W (ig [bx Q #[iv p0.p.Unit,sL f p0.p.Tools g,sL j p0.p.Steps o,sL v p0.tools A,sL b p0.image d,bV p0.clear,iv p0.tool,iv p0.place.X,iv p0.place.Y,bV p0.placed,iv p0.off,iv p0.on] 142,ow b d 133 aT p0.image])):Calls Tryz.prog 206 [pV Q,sL a3 p1 a4,.agg #[iv p2.X,iv p2.Y]].toArray w.W fun e W'=>∃(w':Bs) (u:(Option Addr×Nat)),w.Le w'∧e= .returned (iv r.1)∧(bZ u.1 r.2.length u.2)∧HF w' W' (ig [bx Q #[iv p0.p.Unit,sL f p0.p.Tools g,sL j p0.p.Steps o,sL v p0.tools A,sL u.1 r.2 u.2,bV p0.clear,iv p0.tool,iv p0.place.X,iv p0.place.Y,bV p0.placed,iv p0.off,iv p0.on] 142,ow u.1 u.2 133 aT r.2]):=by
 unfold kX at H
 have b2:=(hE.sl (k:=1) Z).form
 have leB:=Bs.Le.refl w
 refine aZ (n:=36) Tryz.func206 Z Z Z hE (ai (fT 2 (cs:=[iv p2.X,iv p2.Y]) (wn Z) Z Z Z fun a6=>(Tr.k Z (ae (aa (ai (Tr.k Z (bO 3 24 bi ?_))))))))
 show Tr _ _ (uf _ 7 (sL none (([]:List ak)) 0)) _ _
 refine ae (aa (av (ai (aA Z (aQ (bD qM) Z (aA Z (ae (aa (Tr.block (cB (σ:=(List ak)×Nat×(List ak)×(Option Addr)×Nat) (fun m w s=>m=s.1.length+1∧s.1=List.drop s.2.1 p1∧s.2.1≤p1.length∧fP N p0 p2 s.1 s.2.1 s.2.2.1=some r∧bZ s.2.2.2.1 s.2.2.1.length s.2.2.2.2) (fun s=>[(0,pV Q),(5,pV a6),(7,sL s.2.2.2.1 s.2.2.1 s.2.2.2.2),(11,sL a3 p1 a4),(12,iv (p1.length:Int)),(13,iv (s.2.1:Int))]) (fun s=>[(0,bx Q #[iv p0.p.Unit,sL f p0.p.Tools g,sL j p0.p.Steps o,sL v p0.tools A,sL b p0.image d,bV p0.clear,iv p0.tool,iv p0.place.X,iv p0.place.Y,bV p0.placed,iv p0.off,iv p0.on] 142),(1,ow b d 133 aT p0.image),(2,bx a6 #[iv p2.X,iv p2.Y] 24),(3,ow s.2.2.2.1 s.2.2.2.2 24 bi s.2.2.1)]) (p1.length+1) (p1,0,([]:List ak),none,0) ⟨Z,Z,Nat.zero_le _,H,fQ⟩ (.r Z) (.r Z) (fun _ _ h=>absurd h.1 (by simp)) ?_))))))))))
 intro w a2 m s hs
 obtain⟨D,b1,F,K,L⟩:=s
 obtain⟨a9,M,d2,H,d1⟩:=hs
 replace M:D=List.drop b1 p1:=M
 replace H:fP N p0 p2 D b1 F=some r:=H
 replace a9:m+1=D.length+1:=a9
 replace i:=i.oV a2
 replace q:=q.oV a2
 replace B:=B.oV a2
 replace a':=a'.oV a2
 replace leB:=leB.trans a2
 obtain rfl:m=D.length:=by omega
 clear a9
 dsimp only
 cases D with
 | nil=>
  rw[fP.eq_1] at H
  refine ai (aC bv Z Z (ae (aa (av (eX Z (dY M) (cz (aD (aD (aU (aa (ai (aA Z (Tr.freeze 3 Z fun w a5 E=>?_)))))))))))))
  replace i:=i.oV a5
  replace q:=q.oV a5
  replace B:=B.oV a5
  replace leB:=leB.trans a5
  refine dS 8 (e:=51) (vs:=[(0,sL K F L)]) (cs:=[sL K F L]) (wn Z) Z (bB Z dH) (by kernel_rfl) fun c8=>(Tr.own 8 eu [F] (css:=[[sL K F L]]) Z (.cons ⟨(K,L),E,Z⟩ .nil) Z (by decide) (yK Z) ?_)
  obtain⟨P,b8,H⟩:=bnd H
  refine dU [9] [emp] (U:=(Option Addr×Nat)) (fun u=>(sL u.1 P u.2)) (fun O W u=>bZ u.1 P.length u.2) (fun u=>[ow u.1 u.2 133 aT P]) Z (aH Z aY) (fun _=>Z) (wn Z) Z Tryz.call227 (aj Z aJ) (fun W hW hp hE=>CR N [F] (some ⟨c8,0,none⟩) 1 (hW.Ms (k:=8) Z hp Z) P b8 hE) ?_
  intro w u a0 hu
  obtain⟨I,J⟩:=u
  have b3:=hu
  replace i:=i.oV a0
  replace q:=q.oV a0
  replace B:=B.oV a0
  replace E:=E.le a0
  replace leB:=leB.trans a0
  have c9:bZ I P.length J:=b3 --@phi
  dsimp only
  refine Tr.k Z (ae (aa (av (ai (aA Z ?_)))))
  obtain⟨b5,b9,H⟩:=bnd H
  refine bR (r:=(iv b5)) (wn Z) Z Tryz.call73 (aj Z aJ) (fun W hW=>qW P I J (hW.sH (k:=9) Z) b5 b9 (HF.start _)) (aC jd Z Z (ae (aa (aP Z H (fun H=>?_) (fun H=>?_)))))
  ·refine ai (Tr.k Z (ae (aa (bu (bn ?_)))))
   obtain rfl:=oI H
   exact Tr.out (m:=[iv 2]) [] (bM Z bL) (fun W hW=>⟨w,(b,d),leB,Z,b2,hW.pick (ks:=[0,1]) (by decide) (aH Z (aH Z aY))⟩)
  ·refine aO (aa (av (ai (aA Z ?_))))
   obtain⟨b6,c0,H⟩:=bnd H
   refine bR (r:=(bV b6)) (wn Z) Z Tryz.call123 (aj Z (aj Z aJ)) (fun W hW=>pz F K L (E.rl.ext hW.dz) (fun z0=>iJ z0) 228 [] Tryz.call228 (fun w' he z0 y hy=>wU z0 y hy (HF.start _)) b6 c0 (HF.start _)) (ae (aa (aP Z H (fun H=>?_) (fun H=>?_))))
   ·refine av ?_
    cases H
   ·refine aO (aa (ai (aA Z (aA Z (Tr.freeze 9 Z fun w a1 a7=>?_)))))
    replace i:=i.oV a1
    replace q:=q.oV a1
    replace B:=B.oV a1
    replace E:=E.le a1
    replace leB:=leB.trans a1
    obtain⟨G,c3,H⟩:=bnd H
    refine dU [0,1] [bx Q #[iv p0.p.Unit,sL f p0.p.Tools g,sL j p0.p.Steps o,sL v p0.tools A,sL b p0.image d,bV p0.clear,iv p0.tool,iv p0.place.X,iv p0.place.Y,bV p0.placed,iv p0.off,iv p0.on] 142,ow b d 133 aT p0.image] (U:=(Option Addr×Nat)) (fun u=>(iv G.1)) (fun O W u=>bZ u.1 G.2.length u.2) (fun u=>[bx Q #[iv p0.p.Unit,sL f p0.p.Tools g,sL j p0.p.Steps o,sL v p0.tools A,sL u.1 G.2 u.2,bV p0.clear,iv p0.tool,iv p0.place.X,iv p0.place.Y,bV p0.placed,iv p0.off,iv p0.on] 142,ow u.1 u.2 133 aT G.2]) Z (aH Z (aH Z aY)) (fun _=>Z) (wn Z) Z Tryz.call225 (aj Z (aj Z aJ)) (fun W hW hp hE=>yu N p0 f g (i.ext (hW.gL hp)) j o (q.ext (hW.gL hp)) v A (B.ext (hW.gL hp)) b d Q P I J (a7.rF (hW.gL hp)) G c3 hE) ?_
    intro w u a8 hu
    obtain⟨T,V⟩:=u
    have b4:=hu
    replace E:=E.le a8
    replace a7:=a7.le a8
    replace leB:=leB.trans a8
    have b0:bZ T G.2.length V:=b4 --@phi
    dsimp only
    refine Tr.k Z (ae (aa (bu ?_)))
    obtain rfl:=oI H
    exact Tr.out (m:=[iv G.1]) [] (bM Z bL) (fun W hW=>⟨w,(T,V),leB,Z,b0,hW.pick (ks:=[0,1]) (by decide) (aH Z (aH Z aY))⟩)
 |cons S D=>
  rw[fP.eq_2] at H
  refine ai (aC bv Z Z (ae (aa (av (eO Z (fI M) (aO (aa (av (Tr.block (ai (aG Z (fun _ _ a c=>au ql (a.ev Z) a'.form (a.ev Z) (Int.natCast_nonneg _) (bE M)) (aG Z (fun _ _ a c=>aN (cs:=[iv S.X,iv S.Y]) kP gQ (a.ev Z) (aI.take (vB jI a' (gq M) c) 2) Z) (Tr.alloc 10 (wn Z) Z tZ fun d3=>(bC 10 (cs:=[iv S.X,iv S.Y]) [iv S.X,iv S.Y] (wn Z) Z Z Z Z gQ Z Z Z (ae (aa (aM (aA Z (aA Z (aG Z (fun _ _ a c=>aN (cs:=[iv S.X,iv S.Y]) kP gQ (a.ev Z) (aI.take (dB c (vs:=[iv S.X,iv S.Y]) (k:=10) Z 0) 2) Z) (aG Z (fun _ _ a c=>aN (cs:=[iv p2.X,iv p2.Y]) kP gQ (a.ev Z) (aI.take (dB c (vs:=[iv p2.X,iv p2.Y]) (k:=2) Z 0) 2) Z) ?_)))))))))))))))))))))
  obtain⟨C,c4,H⟩:=bnd H
  refine bR (r:=(.agg #[iv C.X,iv C.Y])) (wn Z) Z Tryz.call202 (aj Z (aj Z (aj Z aJ))) (fun W hW=>si p0 f g (i.ext hW.dz) j o (q.ext hW.dz) v A (B.ext hW.dz) b d (hW.sH (k:=1) Z) Q (hW.Ex (k:=0) Z) (hW.GI (k:=0) Z) S p2 C c4 (HF.start _)) (dS 11 (e:=24) (vs:=[(0,.agg #[iv C.X,iv C.Y])]) (cs:=[iv C.X,iv C.Y]) (wn Z) Z (bB Z dH) (by kernel_rfl) fun d4=>?_)
  obtain⟨d0,c5,H⟩:=bnd H
  exact Tr.append 3 (t:=bi) (l:=F) (l2:=[C]) (wn Z) Z Z Z Z (fun W hW=>⟨[[iv C.X,iv C.Y]],(.cons ⟨(),trivial,Z⟩ .nil),dB hW (vs:=[iv C.X,iv C.Y]) (k:=11) Z 0⟩) qM gQ Hw (by decide) IW Z c5 fun c6 c7 b7=>(Tr.k Z (ae (aL (aa (aM (aC bz Z Z (aA Z (ae (aF a2 (D,(b1+1),d0,c6,c7) ⟨Z,dW M,bE M,H,b7⟩ (.cons Z (.cons Z (.cons Z (.cons Z (.cons Z (.cons (congrArg (fun z=>some (Value.int .i64 z)) (dV M a'.form)) .nil)))))) (.r Z))))))))))

theorem yt(rec:fq→(List aB)→ak→Option (Int×Bool×(List bf)))(hrec:∀{w:Bs} (p0:fq) (f:Option Addr) (g:Nat) (E:Sl w.R w.W aR f g p0.p.Tools) (h:Option Addr) (i:Nat) (F:Sl w.R w.W az h i p0.p.Steps) (j:Option Addr) (l:Nat) (G:Sl w.R w.W jy j l p0.tools) (b:Option Addr) (d:Nat) (t:Nat) (p1:(List aB)) (o:Option Addr) (q:Nat) (J:Sl w.R w.W az o q p1) (p2:ak) (r:(Int×Bool×(List bf))) (H:rec p0 p1 p2=some r) (hE:HF w w.W (ig [bx t #[iv p0.p.Unit,sL f p0.p.Tools g,sL h p0.p.Steps i,sL j p0.tools l,sL b p0.image d,bV p0.clear,iv p0.tool,iv p0.place.X,iv p0.place.Y,bV p0.placed,iv p0.off,iv p0.on] 142,ow b d 133 aT p0.image])),Calls Tryz.prog 110 [pV t,sL o p1 q,.agg #[iv p2.X,iv p2.Y]].toArray w.W fun e W'=>∃(w':Bs) (u:(Option Addr×Nat)),w.Le w'∧e= .returned (iv r.1)∧(bZ u.1 r.2.2.length u.2)∧HF w' W' (ig [bx t #[iv p0.p.Unit,sL f p0.p.Tools g,sL h p0.p.Steps i,sL j p0.tools l,sL u.1 r.2.2 u.2,bV r.2.1,iv p0.tool,iv p0.place.X,iv p0.place.Y,bV p0.placed,iv p0.off,iv p0.on] 142,ow u.1 u.2 133 aT r.2.2]))(N:Nat){w:Bs}(p0:fq)(f:Option Addr)(g:Nat)(E:Sl w.R w.W aR f g p0.p.Tools)(h:Option Addr)(i:Nat)(F:Sl w.R w.W az h i p0.p.Steps)(j:Option Addr)(l:Nat)(G:Sl w.R w.W jy j l p0.tools)(b:Option Addr)(d:Nat)(t:Nat)(p1:aB)(o:Option Addr)(q:Nat)(J:Sl w.R w.W bi o q p1.Points)(v:Option Addr)(y:Nat)(a4:Sl w.R w.W az v y p1.Steps)(p2:ak)(r:(Int×Bool×(List bf)))(H:jO rec N p0 p1 p2=some r)(hE:HF w w.W (ig [bx t #[iv p0.p.Unit,sL f p0.p.Tools g,sL h p0.p.Steps i,sL j p0.tools l,sL b p0.image d,bV p0.clear,iv p0.tool,iv p0.place.X,iv p0.place.Y,bV p0.placed,iv p0.off,iv p0.on] 142,ow b d 133 aT p0.image])):Calls Tryz.prog 160 [pV t,.agg #[iv p1.Kind,sv p1.Name,iv p1.At.X,iv p1.At.Y,sL o p1.Points q,iv p1.NX,iv p1.NY,sL v p1.Steps y],.agg #[iv p2.X,iv p2.Y]].toArray w.W fun e W'=>∃(w':Bs) (u:(Option Addr×Nat)),w.Le w'∧e= .returned (iv r.1)∧(bZ u.1 r.2.2.length u.2)∧HF w' W' (ig [bx t #[iv p0.p.Unit,sL f p0.p.Tools g,sL h p0.p.Steps i,sL j p0.tools l,sL u.1 r.2.2 u.2,bV r.2.1,iv p0.tool,iv p0.place.X,iv p0.place.Y,bV p0.placed,iv p0.off,iv p0.on] 142,ow u.1 u.2 133 aT r.2.2]):=by
 unfold jO at H
 have S:=(hE.sl (k:=1) Z).form
 have leB:=Bs.Le.refl w
 refine aZ (n:=116) Tryz.func160 Z Z Z hE (ai (fT 2 (cs:=[iv p1.Kind,sv p1.Name,iv p1.At.X,iv p1.At.Y,sL o p1.Points q,iv p1.NX,iv p1.NY,sL v p1.Steps y]) (wn Z) Z Z Z fun K=>(fT 3 (cs:=[iv p2.X,iv p2.Y]) (wn Z) Z Z Z fun L=>(Tr.k Z (ae (aa (ai (aA Z (aQ (ag JO) Z (aG Z (fun _ _ a c=>aN (cs:=[iv p1.At.X,iv p1.At.Y]) kP gQ (a.ev Z) (aI.take (dB c (vs:=[iv p1.Kind,sv p1.Name,iv p1.At.X,iv p1.At.Y,sL o p1.Points q,iv p1.NX,iv p1.NY,sL v p1.Steps y]) (k:=2) Z 2) 2) Z) (aG Z (fun _ _ a c=>aN (cs:=[iv p2.X,iv p2.Y]) kP gQ (a.ev Z) (aI.take (dB c (vs:=[iv p2.X,iv p2.Y]) (k:=3) Z 0) 2) Z) ?_)))))))))))
 obtain⟨z,a1,H⟩:=bnd H
 refine bR (r:=(.agg #[iv z.X,iv z.Y])) (wn Z) Z Tryz.call202 (aj Z (aj Z (aj Z aJ))) (fun W hW=>si p0 f g (E.ext hW.dz) h i (F.ext hW.dz) j l (G.ext hW.dz) b d (hW.sH (k:=1) Z) t (hW.Ex (k:=0) Z) (hW.GI (k:=0) Z) p1.At p2 z a1 (HF.start _)) (Tr.alloc 4 (wn Z) Z tZ fun M=>(bC 4 (cs:=[iv z.X,iv z.Y]) [iv z.X,iv z.Y] (wn Z) Z Z Z Z gQ Z Z Z (ae (aa ?_))))
 have I:=Bs.Le.refl w
 refine kZ (σ:=Bool) (fun w s=>kW p0 s=some r) (fun s=>[]) (fun s=>[(0,bx t #[iv p0.p.Unit,sL f p0.p.Tools g,sL h p0.p.Steps i,sL j p0.tools l,sL b p0.image d,bV s,iv p0.tool,iv p0.place.X,iv p0.place.Y,bV p0.placed,iv p0.off,iv p0.on] 142),(1,ow b d 133 aT p0.image)]) ?_ ?_
 ·refine ai (aQ (ag vH) Z (aG Z (fun _ _ a c=>ah bT (a.ev Z) (dB c (vs:=[iv p1.Kind,sv p1.Name,iv p1.At.X,iv p1.At.Y,sL o p1.Points q,iv p1.NX,iv p1.NY,sL v p1.Steps y]) (k:=2) Z 0) Z) (ae (aa (Tr.block ?_)))))
  have P:=Bs.Le.refl w
  refine kZ (σ:=Bool) (fun w s=>jJ N p0 p1 p2 s=some r) (fun s=>[(0,pV t),(4,pV K),(5,pV L),(7,pV M),(18,iv p1.Kind),(19,bV s)]) (fun s=>[(0,bx t #[iv p0.p.Unit,sL f p0.p.Tools g,sL h p0.p.Steps i,sL j p0.tools l,sL b p0.image d,bV p0.clear,iv p0.tool,iv p0.place.X,iv p0.place.Y,bV p0.placed,iv p0.off,iv p0.on] 142),(1,ow b d 133 aT p0.image),(2,bx K #[iv p1.Kind,sv p1.Name,iv p1.At.X,iv p1.At.Y,sL o p1.Points q,iv p1.NX,iv p1.NY,sL v p1.Steps y] 59),(3,bx L #[iv p2.X,iv p2.Y] 24),(4,bx M #[iv z.X,iv z.Y] 24)]) ?_ ?_
  ·refine ai (aC eU Z Z (Tr.k Z (ae (aa (aP Z H (fun H=>?_) (fun H=>?_))))))
   ·exact aO (aF P (p1.Kind==1) H (.r Z) (.r Z))
   ·exact aM (aC eU Z Z (Tr.k Z (ae (aF P (p1.Kind==2) H (.r Z) (.r Z)))))
  ·intro w V B hs
   have H:=hs
   replace H:jJ N p0 p1 p2 V=some r:=H
   replace E:=E.oV B
   replace F:=F.oV B
   replace G:=G.oV B
   replace J:=J.oV B
   replace leB:=leB.trans B
   replace I:=I.trans B
   unfold jJ at H
   show Tr _ _ (LF [(0,pV t),(4,pV K),(5,pV L),(7,pV M),(18,iv p1.Kind),(19,bV V)]) (LE [(0,bx t #[iv p0.p.Unit,sL f p0.p.Tools g,sL h p0.p.Steps i,sL j p0.tools l,sL b p0.image d,bV p0.clear,iv p0.tool,iv p0.place.X,iv p0.place.Y,bV p0.placed,iv p0.off,iv p0.on] 142),(1,ow b d 133 aT p0.image),(2,bx K #[iv p1.Kind,sv p1.Name,iv p1.At.X,iv p1.At.Y,sL o p1.Points q,iv p1.NX,iv p1.NY,sL v p1.Steps y] 59),(3,bx L #[iv p2.X,iv p2.Y] 24),(4,bx M #[iv z.X,iv z.Y] 24)]) _
   refine aP Z H (fun H=>?_) (fun H=>?_)
   ·exact aM (aA Z (aQ (ag vH) Z (aG Z (fun _ _ a c=>ah bT (a.ev Z) (dB c (vs:=[iv p1.Kind,sv p1.Name,iv p1.At.X,iv p1.At.Y,sL o p1.Points q,iv p1.NX,iv p1.NY,sL v p1.Steps y]) (k:=2) Z 0) Z) (aC eU Z Z (aQ fw Z (aQ (ag Lh) Z (bC 0 (cs:=[bV (p1.Kind==2)]) [iv p0.p.Unit,sL f p0.p.Tools g,sL h p0.p.Steps i,sL j p0.tools l,sL b p0.image d,bV (p1.Kind==2),iv p0.tool,iv p0.place.X,iv p0.place.Y,bV p0.placed,iv p0.off,iv p0.on] (wn Z) Z Z Z Z QU Z Z Z (ae (aL (aF I (p1.Kind==2) H .nil (.r Z)))))))))))
   ·refine ai (aC eU Z Z (Tr.k Z (ae (aa (aP Z H (fun H=>?_) (fun H=>?_))))))
    ·cases H
    ·refine ai (aC eU Z Z (Tr.k Z (ae (aa (aP Z H (fun H=>?_) (fun H=>?_))))))
     ·refine av ?_
      cases H
     ·refine ai (aC eU Z Z (Tr.k Z (ae (aa (aP Z H (fun H=>?_) (fun H=>?_))))))
      ·refine av ?_
       cases H
      ·refine ai (aC eU Z Z (Tr.k Z (ae (aa (aP Z H (fun H=>?_) (fun H=>?_))))))
       ·refine av ?_
        cases H
       ·refine ai (aC eU Z Z (Tr.k Z (ae (aa (aP Z H (fun H=>?_) (fun H=>?_))))))
        ·refine ai (aA Z (aQ (ag pR) Z (aG Z (fun _ _ a c=>ah tF (a.ev Z) (dB c (vs:=[iv p1.Kind,sv p1.Name,iv p1.At.X,iv p1.At.Y,sL o p1.Points q,iv p1.NX,iv p1.NY,sL v p1.Steps y]) (k:=2) Z 4) Z) (aG Z (fun _ _ a c=>aN (cs:=[iv p2.X,iv p2.Y]) kP gQ (a.ev Z) (aI.take (dB c (vs:=[iv p2.X,iv p2.Y]) (k:=3) Z 0) 2) Z) ?_))))
         obtain⟨A,a2,H⟩:=bnd H
         refine dU [0,1] [bx t #[iv p0.p.Unit,sL f p0.p.Tools g,sL h p0.p.Steps i,sL j p0.tools l,sL b p0.image d,bV p0.clear,iv p0.tool,iv p0.place.X,iv p0.place.Y,bV p0.placed,iv p0.off,iv p0.on] 142,ow b d 133 aT p0.image] (U:=(Option Addr×Nat)) (fun u=>(iv A.1)) (fun O W u=>bZ u.1 A.2.length u.2) (fun u=>[bx t #[iv p0.p.Unit,sL f p0.p.Tools g,sL h p0.p.Steps i,sL j p0.tools l,sL u.1 A.2 u.2,bV p0.clear,iv p0.tool,iv p0.place.X,iv p0.place.Y,bV p0.placed,iv p0.off,iv p0.on] 142,ow u.1 u.2 133 aT A.2]) Z (aH Z (aH Z aY)) (fun _=>Z) (wn Z) Z Tryz.call206 (aj Z (aj Z (aj Z aJ))) (fun W hW hp hE=>yw N p0 f g (E.ext (hW.gL hp)) h i (F.ext (hW.gL hp)) j l (G.ext (hW.gL hp)) b d t p1.Points o q (J.ext (hW.gL hp)) p2 A a2 hE) ?_
         intro w u a3 hu
         obtain⟨C,D⟩:=u
         have T:=hu
         replace leB:=leB.trans a3
         have Q:bZ C A.2.length D:=T --@phi
         dsimp only
         refine Tr.k Z (ae (aa (bu (fD (bn ?_)))))
         obtain rfl:=oI H
         exact Tr.out (m:=[iv A.1]) [] (bM Z bL) (fun W hW=>⟨w,(C,D),leB,Z,Q,hW.pick (ks:=[0,1]) (by decide) (aH Z (aH Z aY))⟩)
        ·refine ai (aC eU Z Z (Tr.k Z (ae (aa (aP Z H (fun H=>?_) (fun H=>?_))))))
         ·refine av ?_
          cases H
         ·exact aO (aL (aF I p0.clear H .nil (.r Z)))
 ·intro w a5 a0 hs
  have H:=hs
  replace H:kW p0 a5=some r:=H
  replace leB:=leB.trans a0
  unfold kW at H
  show Tr _ _ (LF []) (LE [(0,bx t #[iv p0.p.Unit,sL f p0.p.Tools g,sL h p0.p.Steps i,sL j p0.tools l,sL b p0.image d,bV a5,iv p0.tool,iv p0.place.X,iv p0.place.Y,bV p0.placed,iv p0.off,iv p0.on] 142),(1,ow b d 133 aT p0.image)]) _
  refine ai (Tr.k Z (ae (aa (bu ?_))))
  obtain rfl:=oI H
  exact Tr.out (m:=[iv 0]) [] (bM Z bL) (fun W hW=>⟨w,(b,d),leB,Z,S,hW.pick (ks:=[0,1]) (by decide) (aH Z (aH Z aY))⟩)
theorem xL(N:Nat)(rec:fq→(List aB)→ak→Option (Int×Bool×(List bf)))(hrec:∀{w:Bs} (p0:fq) (d:Option Addr) (f:Nat) (V:Sl w.R w.W aR d f p0.p.Tools) (g:Option Addr) (i:Nat) (a':Sl w.R w.W az g i p0.p.Steps) (j:Option Addr) (l:Nat) (a0:Sl w.R w.W jy j l p0.tools) (Q:Option Addr) (S:Nat) (A:Nat) (p1:(List aB)) (F:Option Addr) (G:Nat) (C:Sl w.R w.W az F G p1) (p2:ak) (r:(Int×Bool×(List bf))) (H:rec p0 p1 p2=some r) (hE:HF w w.W (ig [bx A #[iv p0.p.Unit,sL d p0.p.Tools f,sL g p0.p.Steps i,sL j p0.tools l,sL Q p0.image S,bV p0.clear,iv p0.tool,iv p0.place.X,iv p0.place.Y,bV p0.placed,iv p0.off,iv p0.on] 142,ow Q S 133 aT p0.image])),Calls Tryz.prog 110 [pV A,sL F p1 G,.agg #[iv p2.X,iv p2.Y]].toArray w.W fun e W'=>∃(w':Bs) (u:(Option Addr×Nat)),w.Le w'∧e= .returned (iv r.1)∧(bZ u.1 r.2.2.length u.2)∧HF w' W' (ig [bx A #[iv p0.p.Unit,sL d p0.p.Tools f,sL g p0.p.Steps i,sL j p0.tools l,sL u.1 r.2.2 u.2,bV r.2.1,iv p0.tool,iv p0.place.X,iv p0.place.Y,bV p0.placed,iv p0.off,iv p0.on] 142,ow u.1 u.2 133 aT r.2.2])){w:Bs}(p0:fq)(d:Option Addr)(f:Nat)(V:Sl w.R w.W aR d f p0.p.Tools)(g:Option Addr)(i:Nat)(a':Sl w.R w.W az g i p0.p.Steps)(j:Option Addr)(l:Nat)(a0:Sl w.R w.W jy j l p0.tools)(Q:Option Addr)(S:Nat)(A:Nat)(p1:(List aB))(F:Option Addr)(G:Nat)(C:Sl w.R w.W az F G p1)(p2:ak)(r:(Int×Bool×(List bf)))(H:qG N rec p0 p1 p2=some r)(hE:HF w w.W (ig [bx A #[iv p0.p.Unit,sL d p0.p.Tools f,sL g p0.p.Steps i,sL j p0.tools l,sL Q p0.image S,bV p0.clear,iv p0.tool,iv p0.place.X,iv p0.place.Y,bV p0.placed,iv p0.off,iv p0.on] 142,ow Q S 133 aT p0.image])):Calls Tryz.prog 110 [pV A,sL F p1 G,.agg #[iv p2.X,iv p2.Y]].toArray w.W fun e W'=>∃(w':Bs) (u:(Option Addr×Nat)),w.Le w'∧e= .returned (iv r.1)∧(bZ u.1 r.2.2.length u.2)∧HF w' W' (ig [bx A #[iv p0.p.Unit,sL d p0.p.Tools f,sL g p0.p.Steps i,sL j p0.tools l,sL u.1 r.2.2 u.2,bV r.2.1,iv p0.tool,iv p0.place.X,iv p0.place.Y,bV p0.placed,iv p0.off,iv p0.on] 142,ow u.1 u.2 133 aT r.2.2]):=by
 unfold qG at H
 have a9:=(hE.sl (k:=1) Z).form
 have leB:=Bs.Le.refl w
 refine aZ (n:=24) Tryz.func110 Z Z Z hE (ai (fT 2 (cs:=[iv p2.X,iv p2.Y]) (wn Z) Z Z Z fun a4=>(Tr.k Z (ae (aa (av (ai (aA Z (aQ (bD wV) Z (aA Z (ae (aa (Tr.block (cB (σ:=(List aB)×Nat×(List bf)×Bool×(Option Addr)×Nat) (fun m w s=>m=s.1.length+1∧s.1=List.drop s.2.1 p1∧s.2.1≤p1.length∧gB N p0 p2 rec s.1 s.2.1 s.2.2.1 s.2.2.2.1=some r∧bZ s.2.2.2.2.1 s.2.2.1.length s.2.2.2.2.2) (fun s=>[(0,pV A),(5,pV a4),(10,sL F p1 G),(11,iv (p1.length:Int)),(12,iv (s.2.1:Int))]) (fun s=>[(0,bx A #[iv p0.p.Unit,sL d p0.p.Tools f,sL g p0.p.Steps i,sL j p0.tools l,sL s.2.2.2.2.1 s.2.2.1 s.2.2.2.2.2,bV s.2.2.2.1,iv p0.tool,iv p0.place.X,iv p0.place.Y,bV p0.placed,iv p0.off,iv p0.on] 142),(1,ow s.2.2.2.2.1 s.2.2.2.2.2 133 aT s.2.2.1),(2,bx a4 #[iv p2.X,iv p2.Y] 24)]) (p1.length+1) (p1,0,p0.image,p0.clear,Q,S) ⟨Z,Z,Nat.zero_le _,H,a9⟩ (.r Z) (.r Z) (fun _ _ h=>absurd h.1 (by simp)) ?_))))))))))))))
 intro w L m s hs
 obtain⟨B,a8,T,a5,I,J⟩:=s
 obtain⟨a7,K,b5,H,a6⟩:=hs
 replace K:B=List.drop a8 p1:=K
 replace H:gB N p0 p2 rec B a8 T a5=some r:=H
 replace a7:m+1=B.length+1:=a7
 replace V:=V.oV L
 replace a':=a'.oV L
 replace a0:=a0.oV L
 replace C:=C.oV L
 replace leB:=leB.trans L
 replace a6:bZ I T.length J:=a6
 obtain rfl:m=B.length:=by omega
 clear a7
 dsimp only
 cases B with
 |nil=>
  rw[gB.eq_1] at H
  refine ai (aC bv Z Z (ae (aa (av (eX Z (dY K) (cz (aD (aD (aU (aa (ai (Tr.k Z (ae (aa (bu ?_)))))))))))))))
  obtain rfl:=oI H
  exact Tr.out (m:=[iv 0]) [] (bM Z bL) (fun W hW=>⟨w,(I,J),leB,Z,a6,hW.pick (ks:=[0,1]) (by decide) (aH Z (aH Z aY))⟩)
 | cons b B=>
  rw[gB.eq_2] at H
  refine ai (aC bv Z Z (ae (aa (av (eO Z (fI K) (aO (aa (av (Tr.block (ai ?_))))))))))
  obtain⟨b4,a2,b0,b2⟩:=(C).el (gq K)
  obtain⟨⟨q,t⟩,⟨v,y⟩⟩:=b4
  obtain⟨M,P⟩:=lu.1 b0
  replace M:Sl w.R w.W bi q t b.Points:=M
  replace P:Sl w.R w.W az v y b.Steps:=P
  refine aG Z (fun _ _ a c=>au Gx (a.ev Z) C.form (a.ev Z) (Int.natCast_nonneg _) (bE K)) (aG Z (fun _ _ a c=>aN (cs:=[iv b.Kind,sv b.Name,iv b.At.X,iv b.At.Y,sL q b.Points t,iv b.NX,iv b.NY,sL v b.Steps y]) Bj rA (a.ev Z) (aI.take (wo a2 b2 c) 8) Z) (Tr.alloc 5 (wn Z) Z Hy fun b6=>(bC 5 (cs:=[iv b.Kind,sv b.Name,iv b.At.X,iv b.At.Y,sL q b.Points t,iv b.NX,iv b.NY,sL v b.Steps y]) [iv b.Kind,sv b.Name,iv b.At.X,iv b.At.Y,sL q b.Points t,iv b.NX,iv b.NY,sL v b.Steps y] (wn Z) Z Z Z Z rA Z Z Z (ae (aa (ai (aA Z (aG Z (fun _ _ a c=>aN (cs:=[iv b.Kind,sv b.Name,iv b.At.X,iv b.At.Y,sL q b.Points t,iv b.NX,iv b.NY,sL v b.Steps y]) Bj rA (a.ev Z) (aI.take (dB c (vs:=[iv b.Kind,sv b.Name,iv b.At.X,iv b.At.Y,sL q b.Points t,iv b.NX,iv b.NY,sL v b.Steps y]) (k:=5) Z 0) 8) Z) (aG Z (fun _ _ a c=>aN (cs:=[iv p2.X,iv p2.Y]) kP gQ (a.ev Z) (aI.take (dB c (vs:=[iv p2.X,iv p2.Y]) (k:=2) Z 0) 2) Z) ?_)))))))))
  obtain⟨o,b3,H⟩:=bnd H
  refine dU [0,1] [bx A #[iv p0.p.Unit,sL d p0.p.Tools f,sL g p0.p.Steps i,sL j p0.tools l,sL I T J,bV a5,iv p0.tool,iv p0.place.X,iv p0.place.Y,bV p0.placed,iv p0.off,iv p0.on] 142,ow I J 133 aT T] (U:=(Option Addr×Nat)) (fun u=>(iv o.1)) (fun O W u=>bZ u.1 o.2.2.length u.2) (fun u=>[bx A #[iv p0.p.Unit,sL d p0.p.Tools f,sL g p0.p.Steps i,sL j p0.tools l,sL u.1 o.2.2 u.2,bV o.2.1,iv p0.tool,iv p0.place.X,iv p0.place.Y,bV p0.placed,iv p0.off,iv p0.on] 142,ow u.1 u.2 133 aT o.2.2]) Z (aH Z (aH Z aY)) (fun _=>Z) (wn Z) Z Tryz.call160 (aj Z (aj Z (aj Z aJ))) (fun W hW hp hE=>yt rec hrec N (fq.mk p0.p p0.tools T a5 p0.tool p0.place p0.placed p0.off p0.on) d f (V.ext (hW.gL hp)) g i (a'.ext (hW.gL hp)) j l (a0.ext (hW.gL hp)) I J A b q t (M.ext (hW.gL hp)) v y (P.ext (hW.gL hp)) p2 o b3 hE) ?_
  intro w u a1 hu
  obtain⟨D,E⟩:=u
  have b1:=hu
  replace C:=C.oV a1
  replace a2:=a1.r _ a2
  replace leB:=leB.trans a1
  replace L:=L.trans a1
  have a3:bZ D o.2.2.length E:=b1 --@phi
  dsimp only
  refine Tr.k Z (ae (aa (ai (aA Z (aC iP Z Z (ae (aa (aP Z H (fun H=>?_) (fun H=>?_)))))))))
  ·refine ai (aA Z (Tr.k Z (ae (aa (bu (fD (bn (bn (fD (bn ?_))))))))))
   obtain rfl:=oI H
   exact Tr.out (m:=[iv o.1]) [] (bM Z bL) (fun W hW=>⟨w,(D,E),leB,Z,a3,hW.pick (ks:=[0,1]) (by decide) (aH Z (aH Z aY))⟩)
  ·exact aO (aL (aa (aM (aC bz Z Z (aA Z (ae (aF L (B,(a8+1),o.2.2,o.2.1,D,E) ⟨Z,dW K,bE K,H,a3⟩ (.cons Z (.cons Z (.cons Z (.cons Z (.cons (congrArg (fun z=>some (Value.int .i64 z)) (dV K C.form)) .nil))))) (.r Z))))))))
theorem tQ:∀(N:Nat) {w:Bs} (p0:fq) (a:Option Addr) (b:Nat) (o:Sl w.R w.W aR a b p0.p.Tools) (c:Option Addr) (d:Nat) (q:Sl w.R w.W az c d p0.p.Steps) (f:Option Addr) (g:Nat) (s:Sl w.R w.W jy f g p0.tools) (h:Option Addr) (i:Nat) (n:Nat) (p1:(List aB)) (j:Option Addr) (l:Nat) (t:Sl w.R w.W az j l p1) (p2:ak) (r:(Int×Bool×(List bf))) (H:lJ N p0 p1 p2=some r) (hE:HF w w.W (ig [bx n #[iv p0.p.Unit,sL a p0.p.Tools b,sL c p0.p.Steps d,sL f p0.tools g,sL h p0.image i,bV p0.clear,iv p0.tool,iv p0.place.X,iv p0.place.Y,bV p0.placed,iv p0.off,iv p0.on] 142,ow h i 133 aT p0.image])),Calls Tryz.prog 110 [pV n,sL j p1 l,.agg #[iv p2.X,iv p2.Y]].toArray w.W fun e W'=>∃(w':Bs) (u:(Option Addr×Nat)),w.Le w'∧e= .returned (iv r.1)∧(bZ u.1 r.2.2.length u.2)∧HF w' W' (ig [bx n #[iv p0.p.Unit,sL a p0.p.Tools b,sL c p0.p.Steps d,sL f p0.tools g,sL u.1 r.2.2 u.2,bV r.2.1,iv p0.tool,iv p0.place.X,iv p0.place.Y,bV p0.placed,iv p0.off,iv p0.on] 142,ow u.1 u.2 133 aT r.2.2])
 |0=>by intros;rename_i H _;cases H
 |N+1=>xL N (lJ N) (tQ N)

theorem EB(N:Nat){w:Bs}(p0:ed)(y:Option Addr)(z:Nat)(T:Sl w.O w.W aR y z p0.Tools)(t:Option Addr)(v:Nat)(E:Sl w.O w.W az t v p0.Steps)(r:(fq×Int))(H:vQ N p0=some r)(hE:HF w w.W (ig [emp,emp,emp])):Calls Tryz.prog 77 [.agg #[iv p0.Unit,sL y p0.Tools z,sL t p0.Steps v]].toArray w.W fun e W'=>∃(w':Bs) (u:(Option Addr×Nat)×(Option Addr×Nat)×(Option Addr×Nat)×(Option Addr×Nat)×(Option Addr×Nat)),w.Le w'∧e= .returned (.tuple #[.pointer (some ⟨u.2.2.2.2.2,0,none⟩),iv r.2])∧(Sl w'.O w'.W aR u.1.1 u.1.2 r.1.p.Tools∧Sl w'.O w'.W az u.2.1.1 u.2.1.2 r.1.p.Steps∧bZ u.2.2.1.1 r.1.tools.length u.2.2.1.2∧bZ u.2.2.2.1.1 r.1.image.length u.2.2.2.1.2∧True)∧HF w' W' (ig [ow u.2.2.1.1 u.2.2.1.2 88 jy r.1.tools,ow u.2.2.2.1.1 u.2.2.2.1.2 133 aT r.1.image,bx u.2.2.2.2.2 #[iv r.1.p.Unit,sL u.1.1 r.1.p.Tools u.1.2,sL u.2.1.1 r.1.p.Steps u.2.1.2,sL u.2.2.1.1 r.1.tools u.2.2.1.2,sL u.2.2.2.1.1 r.1.image u.2.2.2.1.2,bV r.1.clear,iv r.1.tool,iv r.1.place.X,iv r.1.place.Y,bV r.1.placed,iv r.1.off,iv r.1.on] 142]):=by
 unfold vQ at H
 have leB:=Bs.Le.refl w
 refine aZ (n:=13) Tryz.func77 Z Z Z hE (ai (fT 1 (cs:=[iv p0.Unit,sL y p0.Tools z,sL t p0.Steps v]) (wn Z) Z Z Z fun a3=>(Tr.k Z (Tr.k Z (ae (aa (ai (aG Z (fun _ _ a c=>aN (cs:=[iv p0.Unit,sL y p0.Tools z,sL t p0.Steps v]) pq lK (a.ev Z) (aI.take (dB c (vs:=[iv p0.Unit,sL y p0.Tools z,sL t p0.Steps v]) (k:=1) Z 0) 3) Z) ?_))))))))
 obtain⟨b,V,H⟩:=bnd H
 refine dU [2,3,4] [emp,emp,emp] (U:=(Option Addr×Nat)×(Option Addr×Nat)×(Option Addr×Nat)×(Option Addr×Nat)×(Option Addr×Nat)) (fun u=>(.pointer (some ⟨u.2.2.2.2.2,0,none⟩))) (fun O W u=>Sl O W aR u.1.1 u.1.2 b.p.Tools∧Sl O W az u.2.1.1 u.2.1.2 b.p.Steps∧bZ u.2.2.1.1 b.tools.length u.2.2.1.2∧bZ u.2.2.2.1.1 b.image.length u.2.2.2.1.2∧True) (fun u=>[ow u.2.2.1.1 u.2.2.1.2 88 jy b.tools,ow u.2.2.2.1.1 u.2.2.2.1.2 133 aT b.image,bx u.2.2.2.2.2 #[iv b.p.Unit,sL u.1.1 b.p.Tools u.1.2,sL u.2.1.1 b.p.Steps u.2.1.2,sL u.2.2.1.1 b.tools u.2.2.1.2,sL u.2.2.2.1.1 b.image u.2.2.2.1.2,bV b.clear,iv b.tool,iv b.place.X,iv b.place.Y,bV b.placed,iv b.off,iv b.on] 142]) Z (aH Z (aH Z (aH Z aY))) (fun _=>Z) (wn Z) Z Tryz.call109 (aj Z aJ) (fun W hW hp hE=>Aj p0 y z (T.rF (hW.gL hp)) t v (E.rF (hW.gL hp)) b V hE) ?_
 intro w u J hu
 obtain⟨⟨h,i⟩,⟨j,l⟩,⟨d,f⟩,⟨q,s⟩,⟨a2,g⟩⟩:=u
 obtain⟨K,L,M,P,Q⟩:=hu
 replace E:=E.le J
 replace leB:=leB.trans J
 have A:Sl w.O w.W aR h i b.p.Tools:=K --@phi
 have B:Sl w.O w.W az j l b.p.Steps:=L --@phi
 have G:bZ d b.tools.length f:=M --@phi
 have a0:bZ q b.image.length s:=P --@phi
 have a1:True:=Q --@phi
 dsimp only
 refine Tr.k Z (ae (aa (ai (aA Z (aA Z (aQ (ag qI) Z (aG Z (fun _ _ a c=>ah xw (a.ev Z) (dB c (vs:=[iv p0.Unit,sL y p0.Tools z,sL t p0.Steps v]) (k:=1) Z 2) Z) (iR (vs:=[]) (cs:=[iv 0,iv 0]) (wn Z) Z dH (by kernel_rfl) ?_))))))))
 obtain⟨o,a4,H⟩:=bnd H
 refine dU [4,3] [bx g #[iv b.p.Unit,sL h b.p.Tools i,sL j b.p.Steps l,sL d b.tools f,sL q b.image s,bV b.clear,iv b.tool,iv b.place.X,iv b.place.Y,bV b.placed,iv b.off,iv b.on] 142,ow q s 133 aT b.image] (U:=(Option Addr×Nat)) (fun u=>(iv o.1)) (fun O W u=>bZ u.1 o.2.2.length u.2) (fun u=>[bx g #[iv b.p.Unit,sL h b.p.Tools i,sL j b.p.Steps l,sL d b.tools f,sL u.1 o.2.2 u.2,bV o.2.1,iv b.tool,iv b.place.X,iv b.place.Y,bV b.placed,iv b.off,iv b.on] 142,ow u.1 u.2 133 aT o.2.2]) Z (aH Z (aH Z aY)) (fun _=>Z) (wn Z) Z Tryz.call110 (aj Z (aj Z (aj Z aJ))) (fun W hW hp hE=>tQ N b h i (A.rl.ext (hW.gL hp)) j l (B.rl.ext (hW.gL hp)) d f (hW.Ms (k:=2) Z hp Z) q s g p0.Steps t v (E.rl.ext (hW.gL hp)) (ak.mk 0 0) o a4 hE) ?_
 intro w u F hu
 obtain⟨C,D⟩:=u
 have S:=hu
 replace A:=A.le F
 replace B:=B.le F
 replace leB:=leB.trans F
 have I:bZ C o.2.2.length D:=S --@phi
 dsimp only
 refine Tr.k Z (Tr.k Z (ae (aa (bu ?_))))
 obtain rfl:=oI H
 exact Tr.out (m:=[pV g,iv o.1]) [] (bM Z (bM Z bL)) (fun W hW=>⟨w,((h,i),(j,l),(d,f),(C,D),(none,g)),leB,Z,⟨A,B,G,I,trivial⟩,hW.pick (ks:=[2,3,4]) (by decide) (aH Z (aH Z (aH Z aY)))⟩)

theorem CV(N:Nat){w:Bs}(p0:ed)(d:Option Addr)(f:Nat)(A:Sl w.O w.W aR d f p0.Tools)(g:Option Addr)(h:Nat)(B:Sl w.O w.W az g h p0.Steps)(r:((List bf)×Int))(H:tV N p0=some r)(hE:HF w w.W (ig [emp])):Calls Tryz.prog 40 [.agg #[iv p0.Unit,sL d p0.Tools f,sL g p0.Steps h]].toArray w.W fun e W'=>∃(w':Bs) (u:(Option Addr×Nat)),w.Le w'∧e= .returned (.tuple #[sL u.1 r.1 u.2,iv r.2])∧(bZ u.1 r.1.length u.2)∧HF w' W' (ig [ow u.1 u.2 133 aT r.1]):=by
 unfold tV at H
 have leB:=Bs.Le.refl w
 refine aZ (n:=24) Tryz.func40 Z Z Z hE (ai (fT 1 (cs:=[iv p0.Unit,sL d p0.Tools f,sL g p0.Steps h]) (wn Z) Z Z Z fun V=>(Tr.k Z (bO 2 133 aT ?_))))
 show Tr _ _ (uf _ 2 (sL none (([]:List bf)) 0)) _ _
 refine Tr.k Z (ae (aa (av (ai (aG Z (fun _ _ a c=>aN (cs:=[iv p0.Unit,sL d p0.Tools f,sL g p0.Steps h]) pq lK (a.ev Z) (aI.take (dB c (vs:=[iv p0.Unit,sL d p0.Tools f,sL g p0.Steps h]) (k:=1) Z 0) 3) Z) ?_)))))
 obtain⟨I,J,H⟩:=bnd H
 refine bR (r:=(iv I)) (wn Z) Z Tryz.call18 (aj Z aJ) (fun W hW=>nJ N p0 d f (A.rl.ext hW.dz) g h (B.rl.ext hW.dz) I J (HF.start _)) (Tr.k Z (ae (aa (ai (aA Z (aC iP Z Z (ae (aa (aP Z H (fun H=>?_) (fun H=>?_))))))))))
 ·refine av ?_
  cases H
 ·refine aO (aa (ai (aG Z (fun _ _ a c=>aN (cs:=[iv p0.Unit,sL d p0.Tools f,sL g p0.Steps h]) pq lK (a.ev Z) (aI.take (dB c (vs:=[iv p0.Unit,sL d p0.Tools f,sL g p0.Steps h]) (k:=1) Z 0) 3) Z) ?_)))
  obtain⟨b,K,H⟩:=bnd H
  refine dU [3,4,5] [emp,emp,emp] (U:=(Option Addr×Nat)×(Option Addr×Nat)×(Option Addr×Nat)×(Option Addr×Nat)×(Option Addr×Nat)) (fun u=>(.tuple #[.pointer (some ⟨u.2.2.2.2.2,0,none⟩),iv b.2])) (fun O W u=>Sl O W aR u.1.1 u.1.2 b.1.p.Tools∧Sl O W az u.2.1.1 u.2.1.2 b.1.p.Steps∧bZ u.2.2.1.1 b.1.tools.length u.2.2.1.2∧bZ u.2.2.2.1.1 b.1.image.length u.2.2.2.1.2∧True) (fun u=>[ow u.2.2.1.1 u.2.2.1.2 88 jy b.1.tools,ow u.2.2.2.1.1 u.2.2.2.1.2 133 aT b.1.image,bx u.2.2.2.2.2 #[iv b.1.p.Unit,sL u.1.1 b.1.p.Tools u.1.2,sL u.2.1.1 b.1.p.Steps u.2.1.2,sL u.2.2.1.1 b.1.tools u.2.2.1.2,sL u.2.2.2.1.1 b.1.image u.2.2.2.1.2,bV b.1.clear,iv b.1.tool,iv b.1.place.X,iv b.1.place.Y,bV b.1.placed,iv b.1.off,iv b.1.on] 142]) Z (aH Z (aH Z (aH Z aY))) (fun _=>Z) (wn Z) Z Tryz.call77 (aj Z aJ) (fun W hW hp hE=>EB N p0 d f (A.rF (hW.gL hp)) g h (B.rF (hW.gL hp)) b K hE) ?_
  intro w u L hu
  obtain⟨⟨q,s⟩,⟨t,v⟩,⟨l,o⟩,⟨i,j⟩,⟨T,y⟩⟩:=u
  obtain⟨C,D,E,F,G⟩:=hu
  replace leB:=leB.trans L
  have M:Sl w.O w.W aR q s b.1.p.Tools:=C --@phi
  have P:Sl w.O w.W az t v b.1.p.Steps:=D --@phi
  have Q:bZ l b.1.tools.length o:=E --@phi
  have z:bZ i b.1.image.length j:=F --@phi
  have S:True:=G --@phi
  dsimp only
  refine aA Z (aG Z (fun _ _ a c=>cu (a.ev Z) Z) (aG Z (fun _ _ a c=>cu (a.ev Z) Z) (Tr.k Z (Tr.k Z (ae (aa (av (ai (aA Z (aC iP Z Z (ae (aa (aP Z H (fun H=>?_) (fun H=>?_))))))))))))))
  ·refine ai (aA Z (Tr.k Z (bO 6 133 aT ?_)))
   show Tr _ _ (uf _ 2 (sL none (([]:List bf)) 0)) _ _
   refine Tr.k Z (ae (aa (bu (bn ?_))))
   obtain rfl:=oI H
   exact Tr.out (m:=[sL none (([]:List bf)) 0,iv b.2]) [] (bM Z (bM Z bL)) (fun W hW=>⟨w,(none,0),leB,Z,fQ,hW.pick (ks:=[6]) (by decide) (aH Z aY)⟩)
  ·refine aO (aa (ai (aA Z (aQ fw Z (aQ (ag xX) Z (aG Z (fun _ _ a c=>ah LM (a.ev Z) (dB c (vs:=[iv b.1.p.Unit,sL q b.1.p.Tools s,sL t b.1.p.Steps v,sL l b.1.tools o,sL i b.1.image j,bV b.1.clear,iv b.1.tool,iv b.1.place.X,iv b.1.place.Y,bV b.1.placed,iv b.1.off,iv b.1.on]) (k:=5) Z 4) Z) (Tr.k Z (Tr.k Z (ae (aa (bu ?_)))))))))))
   obtain rfl:=oI H
   exact Tr.out (m:=[sL i b.1.image j,iv 0]) [] (bM Z (bM Z bL)) (fun W hW=>⟨w,(i,j),leB,Z,z,hW.pick (ks:=[4]) (by decide) (aH Z aY)⟩)

theorem EC(N:Nat){w:Bs}(p0:ed)(h:Option Addr)(i:Nat)(y:Sl w.O w.W aR h i p0.Tools)(j:Option Addr)(l:Nat)(z:Sl w.O w.W az j l p0.Steps)(r:((List aK)×Int))(H:rz N p0=some r)(hE:HF w w.W (ig [emp])):Calls Tryz.prog 10 [.agg #[iv p0.Unit,sL h p0.Tools i,sL j p0.Steps l]].toArray w.W fun e W'=>∃u:(Option Addr×Nat),e= .returned (.tuple #[sL u.1 r.1 u.2,iv r.2])∧(bZ u.1 r.1.length u.2)∧HF w W' (ig [ow u.1 u.2 45 aX r.1]):=by
 unfold rz at H
 have leB:=Bs.Le.refl w
 refine aZ (n:=14) Tryz.func10 Z Z Z hE (ai (fT 1 (cs:=[iv p0.Unit,sL h p0.Tools i,sL j p0.Steps l]) (wn Z) Z Z Z fun E=>(Tr.k Z (bO 2 45 aX ?_))))
 show Tr _ _ (uf _ 2 (sL none (([]:List aK)) 0)) _ _
 refine Tr.k Z (ae (aa (ai (aG Z (fun _ _ a c=>aN (cs:=[iv p0.Unit,sL h p0.Tools i,sL j p0.Steps l]) pq lK (a.ev Z) (aI.take (dB c (vs:=[iv p0.Unit,sL h p0.Tools i,sL j p0.Steps l]) (k:=1) Z 0) 3) Z) ?_))))
 obtain⟨b,A,H⟩:=bnd H
 refine dU [3] [emp] (U:=(Option Addr×Nat)) (fun u=>(.tuple #[sL u.1 b.1 u.2,iv b.2])) (fun O W u=>bZ u.1 b.1.length u.2) (fun u=>[ow u.1 u.2 133 aT b.1]) Z (aH Z aY) (fun _=>Z) (wn Z) Z Tryz.call40 (aj Z aJ) (fun W hW hp hE=>CV N p0 h i (y.rF (hW.gL hp)) j l (z.rF (hW.gL hp)) b A hE) ?_
 intro w u B hu
 obtain⟨o,q⟩:=u
 have t:=hu
 replace leB:=leB.trans B
 have D:bZ o b.1.length q:=t --@phi
 dsimp only
 refine aA Z (aG Z (fun _ _ a c=>cu (a.ev Z) Z) (aG Z (fun _ _ a c=>cu (a.ev Z) Z) (Tr.k Z (Tr.k Z (ae (aa (ai (aA Z ?_))))))))
 obtain⟨g,C,H⟩:=bnd H
 refine gD [4] [emp] (U:=(Option Addr×Nat)) (fun u=>(sL u.1 g u.2)) (fun u=>bZ u.1 g.length u.2) (fun u=>[ow u.1 u.2 45 aX g]) Z (aH Z aY) (fun _=>Z) (wn Z) Z Tryz.call41 (aj Z aJ) (fun W hW hp hE=>nY N b.1 o q (hW.Ms (k:=3) Z hp Z) g C hE) ?_
 intro u hu
 obtain⟨d,f⟩:=u
 have v:=hu
 have s:bZ d g.length f:=v --@phi
 dsimp only
 refine aA Z (Tr.k Z (Tr.k Z (ae (aa (bu ?_)))))
 obtain rfl:=oI H
 exact Tr.out (m:=[sL d g f,iv b.2]) [] (bM Z (bM Z bL)) (fun W hW=>⟨(d,f),Z,s,HF.wy leB (hW.pick (ks:=[4]) (by decide) (aH Z aY)) ⟨nQ _ _ _ _ lW,trivial⟩⟩)

theorem qH(N:Nat){w:Bs}(hT:Kg Tryz.prog w)(p0:(List aK))(K:Option Addr)(L:Nat)(M:Sl w.R w.W aX K L p0)(p1:iT)(r:Bool)(H:gK N p0 p1=some r)(hE:HF w w.W E0):Calls Tryz.prog 3 [sL K p0 L,.agg #[bV p1.Flip,iv p1.Quarters,iv p1.At.X,iv p1.At.Y]].toArray w.W fun e W'=>e= .returned (bV r)∧HF w W' E0:=by
 unfold gK at H
 have leB:=Bs.Le.refl w
 refine aZ (n:=96) Tryz.func3 Z Z Z hE (ai (fT 1 (cs:=[bV p1.Flip,iv p1.Quarters,iv p1.At.X,iv p1.At.Y]) (wn Z) Z Z Z fun G=>(Tr.k Z (ae (aa (ai (aA Z ?_)))))))
 obtain⟨b,d6,H⟩:=bnd H
 refine dU [2,3] [emp,emp] (U:=(Option Addr×Nat)×(Option Addr×Nat)) (fun u=>(.tuple #[.agg #[iv b.1.Unit,sL u.1.1 b.1.Tools u.1.2,sL u.2.1 b.1.Steps u.2.2],iv b.2])) (fun O W u=>bZ u.1.1 b.1.Tools.length u.1.2∧bZ u.2.1 b.1.Steps.length u.2.2) (fun u=>[ow u.1.1 u.1.2 73 aR b.1.Tools,ow u.2.1 u.2.2 59 az b.1.Steps]) Z (aH Z (aH Z aY)) (fun _=>Z) (wn Z) Z Tryz.call4 (aj Z aJ) (fun W hW hp hE=>J9 N p0 K L (M.ext (hW.gL hp)) b d6 hE) ?_
 intro w u a4 hu
 obtain⟨⟨d,f⟩,⟨g,h⟩⟩:=u
 obtain⟨b6,b7⟩:=hu
 replace hT:=hT.ext a4.ext
 replace M:=M.oV a4
 replace leB:=leB.trans a4
 have e9:bZ d b.1.Tools.length f:=b6 --@phi
 have f1:bZ g b.1.Steps.length h:=b7 --@phi
 dsimp only
 refine aA Z (aG Z (fun _ _ a c=>cu (a.ev Z) Z) (aG Z (fun _ _ a c=>cu (a.ev Z) Z) (Tr.alloc 4 (wn Z) Z BU fun I=>(bC 4 (cs:=[iv b.1.Unit,sL d b.1.Tools f,sL g b.1.Steps h]) [iv b.1.Unit,sL d b.1.Tools f,sL g b.1.Steps h] (wn Z) Z Z Z Z lK Z Z Z (Tr.k Z (ae (aa (av (ai (aA Z (aC iP Z Z (ae (aa (aP Z H (fun H=>?_) (fun H=>?_)))))))))))))))
 ·refine ai (aQ (ag qI) Z (aG Z (fun _ _ a c=>ah xw (a.ev Z) (dB c (vs:=[iv b.1.Unit,sL d b.1.Tools f,sL g b.1.Steps h]) (k:=4) Z 2) Z) (aQ (bD wV) Z (aC eU Z Z (aA Z ?_)))))
  obtain⟨c6,P,H⟩:=bnd H
  refine eD 2 [(25,bV c6)] [(1,bx G #[bV p1.Flip,iv p1.Quarters,iv p1.At.X,iv p1.At.Y] 26),(2,ow d f 73 aR b.1.Tools),(3,ow g h 59 az b.1.Steps),(4,bx I #[iv b.1.Unit,sL d b.1.Tools f,sL g b.1.Steps h] 30)] ?_ ?_
  ·cases b1:((b.1.Steps.length:Int)==0)
   ·rw[b1] at P
    rw[if_neg (by decide)] at P
    have H:=P
    obtain rfl:=oI H
    exact bq Z (aC bH Z Z (ae (bA (.r Z) (.r Z))))
   ·rw[b1] at P
    rw[if_pos Z] at P
    have H:=P
    obtain⟨c7,d7,H⟩:=bnd H
    refine bR (r:=(bV c7)) (wg Z Z Z) Z Tryz.call5 aJ (fun W hW=>mZ N c7 d7 (HF.start _)) (aC bG Z Z ?_)
    obtain rfl:=oI H
    exact ae (bA (.r Z) (.r Z))
  ·show Tr _ _ (LF [(25,bV c6)]) (LE [(1,bx G #[bV p1.Flip,iv p1.Quarters,iv p1.At.X,iv p1.At.Y] 26),(2,ow d f 73 aR b.1.Tools),(3,ow g h 59 az b.1.Steps),(4,bx I #[iv b.1.Unit,sL d b.1.Tools f,sL g b.1.Steps h] 30)]) _
   refine Tr.k Z (ae (aa (bu (bn ?_))))
   obtain rfl:=oI H
   exact fV leB
 ·refine aO (aa (ai (aG Z (fun _ _ a c=>aN (cs:=[iv b.1.Unit,sL d b.1.Tools f,sL g b.1.Steps h]) pq lK (a.ev Z) (aI.take (dB c (vs:=[iv b.1.Unit,sL d b.1.Tools f,sL g b.1.Steps h]) (k:=4) Z 0) 3) Z) ?_)))
  obtain⟨a3,d8,H⟩:=bnd H
  refine bR (r:=(.tuple #[sv a3.1,iv a3.2])) (wn Z) Z Tryz.call6 (aj Z aJ) (fun W hW=>GZ N (hT.ext hW.dz) b.1 d f (hW.sH (k:=2) Z) g h (hW.sH (k:=3) Z) a3 d8 (HF.start _)) (aA Z (aG Z (fun _ _ a c=>cu (a.ev Z) Z) (aG Z (fun _ _ a c=>cu (a.ev Z) Z) (Tr.k Z (Tr.k Z (ae (aa (av (ai (aA Z (aC iP Z Z (ae (aa (aP Z H (fun H=>?_) (fun H=>?_)))))))))))))))
  ·refine ai (aA Z (aC eU Z Z (aA Z ?_)))
   obtain⟨c8,Q,H⟩:=bnd H
   refine eD 2 [(37,bV c8)] [(1,bx G #[bV p1.Flip,iv p1.Quarters,iv p1.At.X,iv p1.At.Y] 26),(2,ow d f 73 aR b.1.Tools),(3,ow g h 59 az b.1.Steps),(4,bx I #[iv b.1.Unit,sL d b.1.Tools f,sL g b.1.Steps h] 30)] ?_ ?_
   ·cases b2:(a3.2==2)
    ·rw[b2] at Q
     rw[if_neg (by decide)] at Q
     have H:=Q
     obtain rfl:=oI H
     exact bq Z (aC bH Z Z (ae (bA (.r Z) (.r Z))))
    ·rw[b2] at Q
     rw[if_pos Z] at Q
     have H:=Q
     obtain⟨c9,d9,H⟩:=bnd H
     refine bR (r:=(bV c9)) (wg Z Z Z) Z Tryz.call5 aJ (fun W hW=>mZ N c9 d9 (HF.start _)) (aC bG Z Z ?_)
     obtain rfl:=oI H
     exact ae (bA (.r Z) (.r Z))
   ·show Tr _ _ (LF [(37,bV c8)]) (LE [(1,bx G #[bV p1.Flip,iv p1.Quarters,iv p1.At.X,iv p1.At.Y] 26),(2,ow d f 73 aR b.1.Tools),(3,ow g h 59 az b.1.Steps),(4,bx I #[iv b.1.Unit,sL d b.1.Tools f,sL g b.1.Steps h] 30)]) _
    refine Tr.k Z (ae (aa (bu (bn ?_))))
    obtain rfl:=oI H
    exact fV leB
  ·refine aO (aa (ai (aA Z ?_)))
   obtain⟨i,e0,H⟩:=bnd H
   refine dU [5,6] [emp,emp] (U:=(Option Addr×Nat)×(Option Addr×Nat)) (fun u=>(.tuple #[.agg #[iv i.1.Unit,sL u.1.1 i.1.Tools u.1.2,sL u.2.1 i.1.Steps u.2.2],iv i.2.1,iv i.2.2])) (fun O W u=>bZ u.1.1 i.1.Tools.length u.1.2∧bZ u.2.1 i.1.Steps.length u.2.2) (fun u=>[ow u.1.1 u.1.2 73 aR i.1.Tools,ow u.2.1 u.2.2 59 az i.1.Steps]) Z (aH Z (aH Z aY)) (fun _=>Z) (wn Z) Z Tryz.call7 (aj Z aJ) (fun W hW hp hE=>G5 N (hT.ext (hW.gL hp)) a3.1 i e0 hE) ?_
   intro w u a5 hu
   obtain⟨⟨l,o⟩,⟨q,s⟩⟩:=u
   obtain⟨b8,b9⟩:=hu
   replace hT:=hT.ext a5.ext
   replace M:=M.oV a5
   replace leB:=leB.trans a5
   have f2:bZ l i.1.Tools.length o:=b8 --@phi
   have f3:bZ q i.1.Steps.length s:=b9 --@phi
   dsimp only
   refine aA Z (aG Z (fun _ _ a c=>cu (a.ev Z) Z) (aG Z (fun _ _ a c=>cu (a.ev Z) Z) (aG Z (fun _ _ a c=>cu (a.ev Z) Z) (Tr.alloc 7 (wn Z) Z BU fun J=>(bC 7 (cs:=[iv i.1.Unit,sL l i.1.Tools o,sL q i.1.Steps s]) [iv i.1.Unit,sL l i.1.Tools o,sL q i.1.Steps s] (wn Z) Z Z Z Z lK Z Z Z (Tr.k Z (Tr.k Z (ae (aa (av (ai (aA Z (aC iP Z Z (aA Z (eD 3 [(0,sL K p0 L),(3,pV G),(8,pV J),(49,bV ((i.2.2 !=0)||(i.2.1 !=0)))] [(1,bx G #[bV p1.Flip,iv p1.Quarters,iv p1.At.X,iv p1.At.Y] 26),(2,ow d f 73 aR b.1.Tools),(3,ow g h 59 az b.1.Steps),(4,bx I #[iv b.1.Unit,sL d b.1.Tools f,sL g b.1.Steps h] 30),(5,ow l o 73 aR i.1.Tools),(6,ow q s 59 az i.1.Steps),(7,bx J #[iv i.1.Unit,sL l i.1.Tools o,sL q i.1.Steps s] 30)] ?_ ?_)))))))))))))))
   ·cases S:(i.2.2 !=0)
    ·exact dN run_move Z (jM iP Z Z (aC bH Z Z (ae (bA (.r Z) (.r Z)))))
    ·exact bq Z (bq Z (aC bG Z Z (ae (bA (.r Z) (.r Z)))))
   ·show Tr _ _ (LF [(0,sL K p0 L),(3,pV G),(8,pV J),(49,bV ((i.2.2 !=0)||(i.2.1 !=0)))]) (LE [(1,bx G #[bV p1.Flip,iv p1.Quarters,iv p1.At.X,iv p1.At.Y] 26),(2,ow d f 73 aR b.1.Tools),(3,ow g h 59 az b.1.Steps),(4,bx I #[iv b.1.Unit,sL d b.1.Tools f,sL g b.1.Steps h] 30),(5,ow l o 73 aR i.1.Tools),(6,ow q s 59 az i.1.Steps),(7,bx J #[iv i.1.Unit,sL l i.1.Tools o,sL q i.1.Steps s] 30)]) _
    refine ae (aa (aP Z H (fun H=>?_) (fun H=>?_)))
    ·refine av ?_
     cases H
    ·refine aO (aa (ai (aA Z (aG Z (fun _ _ a c=>aN (cs:=[bV p1.Flip,iv p1.Quarters,iv p1.At.X,iv p1.At.Y]) Bl zF (a.ev Z) (aI.take (dB c (vs:=[bV p1.Flip,iv p1.Quarters,iv p1.At.X,iv p1.At.Y]) (k:=1) Z 0) 4) Z) ?_))))
     obtain⟨C,e3,H⟩:=bnd H
     refine gD [8] [emp] (U:=(Option Addr×Nat)) (fun u=>(.tuple #[sL u.1 C.1 u.2,iv C.2])) (fun u=>bZ u.1 C.1.length u.2) (fun u=>[ow u.1 u.2 45 aX C.1]) Z (aH Z aY) (fun _=>Z) (wn Z) Z Tryz.call8 (aj Z (aj Z aJ)) (fun W hW hp hE=>yl N p0 K L (M.ext (hW.gL hp)) p1 C e3 hE) ?_
     intro u hu
     obtain⟨A,B⟩:=u
     have c0:=hu
     have f4:bZ A C.1.length B:=c0 --@phi
     dsimp only
     refine aA Z (aG Z (fun _ _ a c=>cu (a.ev Z) Z) (aG Z (fun _ _ a c=>cu (a.ev Z) Z) (Tr.k Z (Tr.k Z (ae (aa (av (ai (aA Z (aC iP Z Z (ae (aa (aP Z H (fun H=>?_) (fun H=>?_))))))))))))))
     ·refine ai (aA Z (aQ (bD rM) Z (aC eU Z Z (aA Z ?_))))
      obtain⟨d0,T,H⟩:=bnd H
      refine eD 2 [(63,bV d0)] [(1,bx G #[bV p1.Flip,iv p1.Quarters,iv p1.At.X,iv p1.At.Y] 26),(2,ow d f 73 aR b.1.Tools),(3,ow g h 59 az b.1.Steps),(4,bx I #[iv b.1.Unit,sL d b.1.Tools f,sL g b.1.Steps h] 30),(5,ow l o 73 aR i.1.Tools),(6,ow q s 59 az i.1.Steps),(7,bx J #[iv i.1.Unit,sL l i.1.Tools o,sL q i.1.Steps s] 30),(8,ow A B 45 aX C.1)] ?_ ?_
      ·cases b3:((C.1.length:Int)==0)
       ·rw[b3] at T
        rw[if_neg (by decide)] at T
        have H:=T
        obtain rfl:=oI H
        exact bq Z (aC bH Z Z (ae (bA (.r Z) (.r Z))))
       ·rw[b3] at T
        rw[if_pos Z] at T
        have H:=T
        obtain⟨d1,e4,H⟩:=bnd H
        refine bR (r:=(bV d1)) (wg Z Z Z) Z Tryz.call5 aJ (fun W hW=>mZ N d1 e4 (HF.start _)) (aC bG Z Z ?_)
        obtain rfl:=oI H
        exact ae (bA (.r Z) (.r Z))
      ·show Tr _ _ (LF [(63,bV d0)]) (LE [(1,bx G #[bV p1.Flip,iv p1.Quarters,iv p1.At.X,iv p1.At.Y] 26),(2,ow d f 73 aR b.1.Tools),(3,ow g h 59 az b.1.Steps),(4,bx I #[iv b.1.Unit,sL d b.1.Tools f,sL g b.1.Steps h] 30),(5,ow l o 73 aR i.1.Tools),(6,ow q s 59 az i.1.Steps),(7,bx J #[iv i.1.Unit,sL l i.1.Tools o,sL q i.1.Steps s] 30),(8,ow A B 45 aX C.1)]) _
       refine Tr.k Z (ae (aa (bu (bn ?_))))
       obtain rfl:=oI H
       exact fV leB
     ·refine aO (aa (ai (aG Z (fun _ _ a c=>aN (cs:=[iv i.1.Unit,sL l i.1.Tools o,sL q i.1.Steps s]) pq lK (a.ev Z) (aI.take (dB c (vs:=[iv i.1.Unit,sL l i.1.Tools o,sL q i.1.Steps s]) (k:=7) Z 0) 3) Z) (aG Z (fun _ _ a c=>aN (cs:=[bV p1.Flip,iv p1.Quarters,iv p1.At.X,iv p1.At.Y]) Bl zF (a.ev Z) (aI.take (dB c (vs:=[bV p1.Flip,iv p1.Quarters,iv p1.At.X,iv p1.At.Y]) (k:=1) Z 0) 4) Z) (Tr.freeze 5 Z fun w b4 a1=>?_)))))
      replace hT:=hT.ext b4.ext
      replace leB:=leB.trans b4
      refine Tr.freeze 6 Z fun w a6 a7=>?_
      replace hT:=hT.ext a6.ext
      replace a1:=a1.le a6
      replace leB:=leB.trans a6
      obtain⟨j,e5,H⟩:=bnd H
      refine dU [] [] (U:=(Option Addr×Nat)×(Option Addr×Nat)) (fun u=>(.tuple #[.agg #[iv j.1.Unit,sL u.1.1 j.1.Tools u.1.2,sL u.2.1 j.1.Steps u.2.2],iv j.2])) (fun O W u=>Sl O W aR u.1.1 u.1.2 j.1.Tools∧Sl O W az u.2.1 u.2.2 j.1.Steps) (fun u=>[]) Z aY (fun _=>Z) (wn Z) Z Tryz.call9 (aj Z (aj Z aJ)) (fun W hW hp hE=>Ao N i.1 l o (a1.rF (hW.gL hp)) q s (a7.rF (hW.gL hp)) p1 j e5 hE) ?_
      intro w u a2 hu
      obtain⟨⟨t,v⟩,⟨y,z⟩⟩:=u
      obtain⟨c3,c4⟩:=hu
      replace hT:=hT.ext a2.ext
      replace a1:=a1.le a2
      replace a7:=a7.le a2
      replace leB:=leB.trans a2
      have a8:Sl w.O w.W aR t v j.1.Tools:=c3 --@phi
      have a9:Sl w.O w.W az y z j.1.Steps:=c4 --@phi
      dsimp only
      refine aA Z (aG Z (fun _ _ a c=>cu (a.ev Z) Z) (aG Z (fun _ _ a c=>cu (a.ev Z) Z) (bC 7 (cs:=[iv j.1.Unit,sL t j.1.Tools v,sL y j.1.Steps z]) [iv j.1.Unit,sL t j.1.Tools v,sL y j.1.Steps z] (wn Z) Z Z Z Z lK Z Z Z (Tr.k Z (ae (aa (av (ai (aA Z (aC iP Z Z (ae (aa (aP Z H (fun H=>?_) (fun H=>?_))))))))))))))
      ·refine av ?_
       cases H
      ·refine aO (aa (ai (aG Z (fun _ _ a c=>aN (cs:=[iv j.1.Unit,sL t j.1.Tools v,sL y j.1.Steps z]) pq lK (a.ev Z) (aI.take (dB c (vs:=[iv j.1.Unit,sL t j.1.Tools v,sL y j.1.Steps z]) (k:=7) Z 0) 3) Z) ?_)))
       obtain⟨F,e6,H⟩:=bnd H
       refine gD [9] [emp] (U:=(Option Addr×Nat)) (fun u=>(.tuple #[sL u.1 F.1 u.2,iv F.2])) (fun u=>bZ u.1 F.1.length u.2) (fun u=>[ow u.1 u.2 45 aX F.1]) Z (aH Z aY) (fun _=>Z) (wn Z) Z Tryz.call10 (aj Z aJ) (fun W hW hp hE=>EC N j.1 t v (a8.rF (hW.gL hp)) y z (a9.rF (hW.gL hp)) F e6 hE) ?_
       intro u hu
       obtain⟨D,E⟩:=u
       have c5:=hu
       have f5:bZ D F.1.length E:=c5 --@phi
       dsimp only
       refine aA Z (aG Z (fun _ _ a c=>cu (a.ev Z) Z) (aG Z (fun _ _ a c=>cu (a.ev Z) Z) (Tr.k Z (Tr.k Z (ae (aa (ai (aA Z (aC eU Z Z (aA Z ?_))))))))))
       obtain⟨b0,V,H⟩:=bnd H
       refine eD 8 [(92,bV b0)] [(1,bx G #[bV p1.Flip,iv p1.Quarters,iv p1.At.X,iv p1.At.Y] 26),(2,ow d f 73 aR b.1.Tools),(3,ow g h 59 az b.1.Steps),(4,bx I #[iv b.1.Unit,sL d b.1.Tools f,sL g b.1.Steps h] 30),(7,bx J #[iv j.1.Unit,sL t j.1.Tools v,sL y j.1.Steps z] 30),(8,ow A B 45 aX C.1),(9,ow D E 45 aX F.1)] ?_ ?_
       ·cases S:(F.2==2)
        ·rw[S] at V
         rw[if_neg (by decide)] at V
         have H:=V
         refine dN run_move Z (jM eU Z Z (dN run_move Z ?_))
         obtain⟨d2,a',H⟩:=bnd H
         refine eD 4 [(84,bV false),(91,bV d2)] [(1,bx G #[bV p1.Flip,iv p1.Quarters,iv p1.At.X,iv p1.At.Y] 26),(2,ow d f 73 aR b.1.Tools),(3,ow g h 59 az b.1.Steps),(4,bx I #[iv b.1.Unit,sL d b.1.Tools f,sL g b.1.Steps h] 30),(7,bx J #[iv j.1.Unit,sL t j.1.Tools v,sL y j.1.Steps z] 30),(8,ow A B 45 aX C.1),(9,ow D E 45 aX F.1)] ?_ ?_
         ·cases b5:(F.2==0)
          ·rw[b5] at a'
           rw[if_neg (by decide)] at a'
           have H:=a'
           obtain rfl:=oI H
           exact bq Z (bq Z (bq Z (jM bH Z Z (ae (bA (.r Z) (.r Z))))))
          ·rw[b5] at a'
           rw[if_pos Z] at a'
           have H:=a'
           refine dN run_move Z (dN run_move Z ?_)
           obtain⟨d3,e7,H⟩:=bnd H
           refine bR (r:=(bV d3)) (wg Z Z Z) Z Tryz.call11 (aj Z (aj Z aJ)) (fun W hW=>tO F.1 D E (hW.sH (k:=9) Z) C.1 A B (hW.sH (k:=8) Z) d3 e7 (HF.start _)) (jM bG Z Z ?_)
           obtain rfl:=oI H
           exact ae (bA (.r Z) (.r Z))
         ·dsimp only
          refine aC bH Z Z ?_
          obtain rfl:=oI H
          exact ae (bA (.r Z) (.r Z))
        ·rw[S] at V
         rw[if_pos Z] at V
         have H:=V
         obtain rfl:=oI H
         exact bq Z (bq Z (bq Z (rD Z (rD Z (rD Z (bq Z (aC bG Z Z (ae (bA (.r Z) (.r Z))))))))))
       ·show Tr _ _ (LF [(92,bV b0)]) (LE [(1,bx G #[bV p1.Flip,iv p1.Quarters,iv p1.At.X,iv p1.At.Y] 26),(2,ow d f 73 aR b.1.Tools),(3,ow g h 59 az b.1.Steps),(4,bx I #[iv b.1.Unit,sL d b.1.Tools f,sL g b.1.Steps h] 30),(7,bx J #[iv j.1.Unit,sL t j.1.Tools v,sL y j.1.Steps z] 30),(8,ow A B 45 aX C.1),(9,ow D E 45 aX F.1)]) _
        refine aA Z ?_
        obtain⟨d4,a0,H⟩:=bnd H
        refine eD 2 [(95,bV d4)] [(1,bx G #[bV p1.Flip,iv p1.Quarters,iv p1.At.X,iv p1.At.Y] 26),(2,ow d f 73 aR b.1.Tools),(3,ow g h 59 az b.1.Steps),(4,bx I #[iv b.1.Unit,sL d b.1.Tools f,sL g b.1.Steps h] 30),(7,bx J #[iv j.1.Unit,sL t j.1.Tools v,sL y j.1.Steps z] 30),(8,ow A B 45 aX C.1),(9,ow D E 45 aX F.1)] ?_ ?_
        ·cases S:b0
         ·rw[S] at a0
          rw[if_neg (by decide)] at a0
          have H:=a0
          obtain rfl:=oI H
          exact bq Z (aC bH Z Z (ae (bA (.r Z) (.r Z))))
         ·rw[S] at a0
          rw[if_pos Z] at a0
          have H:=a0
          obtain⟨d5,e8,H⟩:=bnd H
          refine bR (r:=(bV d5)) (wg Z Z Z) Z Tryz.call5 aJ (fun W hW=>mZ N d5 e8 (HF.start _)) (aC bG Z Z ?_)
          obtain rfl:=oI H
          exact ae (bA (.r Z) (.r Z))
        ·show Tr _ _ (LF [(95,bV d4)]) (LE [(1,bx G #[bV p1.Flip,iv p1.Quarters,iv p1.At.X,iv p1.At.Y] 26),(2,ow d f 73 aR b.1.Tools),(3,ow g h 59 az b.1.Steps),(4,bx I #[iv b.1.Unit,sL d b.1.Tools f,sL g b.1.Steps h] 30),(7,bx J #[iv j.1.Unit,sL t j.1.Tools v,sL y j.1.Steps z] 30),(8,ow A B 45 aX C.1),(9,ow D E 45 aX F.1)]) _
         refine Tr.k Z (ae (aa (bu ?_)))
         obtain rfl:=oI H
         exact fV leB

end Go.Proofs.YtblmajfbibbiaaaGreatDoor
