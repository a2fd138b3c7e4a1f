/- The walks: each function computes its plain function. -/
import Derived.Test.YtkccbhbhdnobhaaGreatDoorXWe
namespace Go.Proofs.YtkccbhbhdnobhaaGreatDoor
open Go.RowKit
set_option maxRecDepth 100000
set_option maxHeartbeats 1000000
theorem qC(N:Nat){w:Bs}(hT:Dx Tryz.prog w)(p0:nU)(a7:Option Addr)(a8:Nat)(e5:Sl w.O w.W dF a7 a8 p0.Coppers)(a9:Option Addr)(b0:Nat)(e6:Sl w.O w.W aB a9 b0 p0.Outline)(b1:Option Addr)(b2:Nat)(e7:Sl w.O w.W dY b1 b2 p0.Bores)(b3:Option Addr)(b4:Nat)(e8:Sl w.O w.W eH b3 b4 p0.Lands)(p1:Int)(r:((List au)×Int))(H:jU N p0 p1=some r)(hE:HF w w.W (iZ [])):Calls Tryz.prog 8 [.agg #[sL a7 p0.Coppers a8,sL a9 p0.Outline b0,sL b1 p0.Bores b2,sL b3 p0.Lands b4],iv p1].toArray w.W fun e W'=>∃(w':Bs) (u:(Option Addr×Nat)),w.Le w'∧e= .returned (.tuple #[sL u.1 r.1 u.2,iv r.2])∧(Sl w'.O w'.W aB u.1 u.2 r.1)∧HF w' W' (iZ []):=by
 unfold jU at H
 have leB:=Bs.Le.refl w
 refine aV (n:=33) Tryz.func8 O O O hE (ai (fw 1 (cs:=[sL a7 p0.Coppers a8,sL a9 p0.Outline b0,sL b1 p0.Bores b2,sL b3 p0.Lands b4]) (wn O) O O O fun g2=>(Tr.k O (bC 2 111 aB ?_))))
 show Tr _ _ (uf _ 4 (sL none (([]:List au)) 0)) _ _
 refine Tr.k O (ae (aa (ai (aC O (fun _ _ a d=>aM (cs:=[sL a7 p0.Coppers a8,sL a9 p0.Outline b0,sL b1 p0.Bores b2,sL b3 p0.Lands b4]) uZ uP (a.ev O) (aF.take (bR d (vs:=[sL a7 p0.Coppers a8,sL a9 p0.Outline b0,sL b1 p0.Bores b2,sL b3 p0.Lands b4]) (k:=1) O 0) 4) O) ?_))))
 obtain⟨c,e9,H⟩:=bnd H
 refine eZ [3] [emp] (U:=(Option Addr×Nat)×(Option Addr×Nat)×(Option Addr×Nat)×(Option Addr×Nat)×(Option Addr×Nat)×(Option Addr×Nat)×(Option Addr×Nat)×(Option Addr×Nat)×(Option Addr×Nat)×(Option Addr×Nat)×(Option Addr×Nat)×(Option Addr×Nat)×(Option Addr×Nat)) (fun u=>(.tuple #[(Hy u.2.2.2.2.2.2.2.2.2.2.2.2.2 c.1),iv c.2])) (fun a' W u=>di c.1 (fun x0=>Sl a' W dF u.1.1 u.1.2 x0.Art.Coppers)∧di c.1 (fun x0=>Sl a' W aB u.2.1.1 u.2.1.2 x0.Art.Outline)∧di c.1 (fun x0=>Sl a' W dY u.2.2.1.1 u.2.2.1.2 x0.Art.Bores)∧di c.1 (fun x0=>Sl a' W eH u.2.2.2.1.1 u.2.2.2.1.2 x0.Art.Lands)∧di c.1 (fun x0=>Sl a' W bM u.2.2.2.2.1.1 u.2.2.2.2.1.2 x0.Drilled)∧di c.1 (fun x0=>Sl a' W dG u.2.2.2.2.2.1.1 u.2.2.2.2.2.1.2 x0.Pieces)∧di c.1 (fun x0=>Sl a' W fE u.2.2.2.2.2.2.1.1 u.2.2.2.2.2.2.1.2 x0.Touched)∧di c.1 (fun x0=>Sl a' W dw u.2.2.2.2.2.2.2.1.1 u.2.2.2.2.2.2.2.1.2 x0.Groups)∧di c.1 (fun x0=>Sl a' W az u.2.2.2.2.2.2.2.2.1.1 u.2.2.2.2.2.2.2.2.1.2 x0.OfPiece)∧di c.1 (fun x0=>Sl a' W az u.2.2.2.2.2.2.2.2.2.1.1 u.2.2.2.2.2.2.2.2.2.1.2 x0.OfBore)∧di c.1 (fun x0=>Sl a' W az u.2.2.2.2.2.2.2.2.2.2.1.1 u.2.2.2.2.2.2.2.2.2.2.1.2 x0.OfLand)∧di c.1 (fun x0=>Sl a' W dX u.2.2.2.2.2.2.2.2.2.2.2.1.1 u.2.2.2.2.2.2.2.2.2.2.2.1.2 x0.AtLand)∧True) (fun u=>[PX u.2.2.2.2.2.2.2.2.2.2.2.2.2 72 c.1 (fun x0=> #[sL u.1.1 x0.Art.Coppers u.1.2,sL u.2.1.1 x0.Art.Outline u.2.1.2,sL u.2.2.1.1 x0.Art.Bores u.2.2.1.2,sL u.2.2.2.1.1 x0.Art.Lands u.2.2.2.1.2,sL u.2.2.2.2.1.1 x0.Drilled u.2.2.2.2.1.2,sL u.2.2.2.2.2.1.1 x0.Pieces u.2.2.2.2.2.1.2,sL u.2.2.2.2.2.2.1.1 x0.Touched u.2.2.2.2.2.2.1.2,sL u.2.2.2.2.2.2.2.1.1 x0.Groups u.2.2.2.2.2.2.2.1.2,sL u.2.2.2.2.2.2.2.2.1.1 x0.OfPiece u.2.2.2.2.2.2.2.2.1.2,sL u.2.2.2.2.2.2.2.2.2.1.1 x0.OfBore u.2.2.2.2.2.2.2.2.2.1.2,sL u.2.2.2.2.2.2.2.2.2.2.1.1 x0.OfLand u.2.2.2.2.2.2.2.2.2.2.1.2,sL u.2.2.2.2.2.2.2.2.2.2.2.1.1 x0.AtLand u.2.2.2.2.2.2.2.2.2.2.2.1.2])]) O (aN O bg) (fun _=>O) (wn O) O Tryz.call16 (aj O aG) (fun W hW hp hE=>pF N (hT.ext (hW.dU hp)) p0 a7 a8 (e5.kC (hW.dU hp)) a9 b0 (e6.kC (hW.dU hp)) b1 b2 (e7.kC (hW.dU hp)) b3 b4 (e8.kC (hW.dU hp)) c e9 hE) ?_
 intro w u c4 hu
 obtain⟨⟨F,G⟩,⟨I,J⟩,⟨K,L⟩,⟨M,P⟩,⟨Q,S⟩,⟨A,T⟩,⟨V,X⟩,⟨Z,a0⟩,⟨a1,a2⟩,⟨a3,a4⟩,⟨B,C⟩,⟨D,E⟩,⟨f8,a5⟩⟩:=u
 obtain⟨c6,c7,c8,c9,d0,d1,d2,d3,d4,d5,b9,c0,c3⟩:=hu
 replace hT:=hT.ext c4.ext
 replace leB:=leB.trans c4
 have l:di c.1 (fun x0=>Sl w.O w.W dF F G x0.Art.Coppers):=c6 --@phi
 have o:di c.1 (fun x0=>Sl w.O w.W aB I J x0.Art.Outline):=c7 --@phi
 have p:di c.1 (fun x0=>Sl w.O w.W dY K L x0.Art.Bores):=c8 --@phi
 have q:di c.1 (fun x0=>Sl w.O w.W eH M P x0.Art.Lands):=c9 --@phi
 have s:di c.1 (fun x0=>Sl w.O w.W bM Q S x0.Drilled):=d0 --@phi
 have f:di c.1 (fun x0=>Sl w.O w.W dG A T x0.Pieces):=d1 --@phi
 have t:di c.1 (fun x0=>Sl w.O w.W fE V X x0.Touched):=d2 --@phi
 have v:di c.1 (fun x0=>Sl w.O w.W dw Z a0 x0.Groups):=d3 --@phi
 have y:di c.1 (fun x0=>Sl w.O w.W az a1 a2 x0.OfPiece):=d4 --@phi
 have z:di c.1 (fun x0=>Sl w.O w.W az a3 a4 x0.OfBore):=d5 --@phi
 have i:di c.1 (fun x0=>Sl w.O w.W az B C x0.OfLand):=b9 --@phi
 have j:di c.1 (fun x0=>Sl w.O w.W dX D E x0.AtLand):=c0 --@phi
 have f6:True:=c3 --@phi
 dsimp only
 obtain b8|⟨b,b8⟩:=Ll c.1
 ·rw[b8] at H ⊢
  dsimp only[ui] at H
  show Tr _ _ (uf _ 10 (.tuple #[.pointer none,iv c.2])) (up _ 3 (emp)) _
  refine ax O (aC O (fun _ _ a d=>bA (a.ev O) O) (aC O (fun _ _ a d=>bA (a.ev O) O) (Tr.k O (Tr.k O (ae (aa (av (ai (ax O (ay fM O O (ae (aa (aT O H (fun H=>?_) (fun H=>?_))))))))))))))
  ·refine ai (ax O (Tr.k O (bC 4 111 aB ?_)))
   show Tr _ _ (uf _ 4 (sL none (([]:List au)) 0)) _ _
   refine Tr.k O (ae (aa (aO (aD ?_))))
   obtain rfl:=oI H
   refine Tr.freeze 4 O fun w c5 f1=>?_
   replace hT:=hT.ext c5.ext
   replace leB:=leB.trans c5
   exact bL (m:=[sL none (([]:List au)) 0,iv c.2]) [] (aU O (aU O bD)) (fun W hW=>⟨w,(none,0),leB,O,f1,hW.pick (ks:=[]) (by decide) bg⟩)
  ·refine aJ (aa (av (av ?_)))
   cases H
 ·rw[b8] at H l o p q s f t v y z i j ⊢
  dsimp only[ui] at H
  replace l:Sl w.O w.W dF F G b.Art.Coppers:=l
  replace o:Sl w.O w.W aB I J b.Art.Outline:=o
  replace p:Sl w.O w.W dY K L b.Art.Bores:=p
  replace q:Sl w.O w.W eH M P b.Art.Lands:=q
  replace s:Sl w.O w.W bM Q S b.Drilled:=s
  replace f:Sl w.O w.W dG A T b.Pieces:=f
  replace t:Sl w.O w.W fE V X b.Touched:=t
  replace v:Sl w.O w.W dw Z a0 b.Groups:=v
  replace y:Sl w.O w.W az a1 a2 b.OfPiece:=y
  replace z:Sl w.O w.W az a3 a4 b.OfBore:=z
  replace i:Sl w.O w.W az B C b.OfLand:=i
  replace j:Sl w.O w.W dX D E b.AtLand:=j
  show Tr _ _ (uf _ 10 (.tuple #[pV a5,iv c.2])) (up _ 3 (bx a5 #[sL F b.Art.Coppers G,sL I b.Art.Outline J,sL K b.Art.Bores L,sL M b.Art.Lands P,sL Q b.Drilled S,sL A b.Pieces T,sL V b.Touched X,sL Z b.Groups a0,sL a1 b.OfPiece a2,sL a3 b.OfBore a4,sL B b.OfLand C,sL D b.AtLand E] 72)) _
  refine ax O (aC O (fun _ _ a d=>bA (a.ev O) O) (aC O (fun _ _ a d=>bA (a.ev O) O) (Tr.k O (Tr.k O (ae (aa (av (ai (ax O (ay fM O O (ae (aa (aT O H (fun H=>?_) (fun H=>?_))))))))))))))
  ·refine ai (ax O (Tr.k O (bC 5 111 aB ?_)))
   show Tr _ _ (uf _ 4 (sL none (([]:List au)) 0)) _ _
   refine Tr.k O (ae (aa (aO (aD ?_))))
   obtain rfl:=oI H
   refine Tr.freeze 5 O fun w g f2=>?_
   replace hT:=hT.ext g.ext
   replace l:=l.le g
   replace o:=o.le g
   replace p:=p.le g
   replace q:=q.le g
   replace s:=s.le g
   replace f:=f.le g
   replace t:=t.le g
   replace v:=v.le g
   replace y:=y.le g
   replace z:=z.le g
   replace i:=i.le g
   replace j:=j.le g
   replace leB:=leB.trans g
   exact bL (m:=[sL none (([]:List au)) 0,iv c.2]) [] (aU O (aU O bD)) (fun W hW=>⟨w,(none,0),leB,O,f2,hW.pick (ks:=[]) (by decide) bg⟩)
  ·refine aJ (aa (av (ai (ax O (ax O (aH bn O (aH (ag oW) O (aC O (fun _ _ a d=>ah wF (a.ev O) (bR d (vs:=[sL F b.Art.Coppers G,sL I b.Art.Outline J,sL K b.Art.Bores L,sL M b.Art.Lands P,sL Q b.Drilled S,sL A b.Pieces T,sL V b.Touched X,sL Z b.Groups a0,sL a1 b.OfPiece a2,sL a3 b.OfBore a4,sL B b.OfLand C,sL D b.AtLand E]) (k:=3) O 5) O) (aH (bf ze) O (ay iP O O ?_))))))))))
   obtain⟨d7,f3,H⟩:=bnd H
   refine bu (r:=(bV d7)) (wn O) O Tryz.call19 (aj O (aj O (aj O aG))) (fun W hW=>mf p1 0 (bJ ((b.Pieces.length:Int)-1)) d7 f3 (HF.start _)) (aH iQ O (ae (aa (aT O H (fun H=>?_) (fun H=>?_)))))
   ·refine ai (Tr.k O (bC 6 111 aB ?_))
    show Tr _ _ (uf _ 4 (sL none (([]:List au)) 0)) _ _
    refine Tr.k O (ae (aa (aO (aD ?_))))
    obtain rfl:=oI H
    refine Tr.freeze 6 O fun w h f4=>?_
    replace hT:=hT.ext h.ext
    replace l:=l.le h
    replace o:=o.le h
    replace p:=p.le h
    replace q:=q.le h
    replace s:=s.le h
    replace f:=f.le h
    replace t:=t.le h
    replace v:=v.le h
    replace y:=y.le h
    replace z:=z.le h
    replace i:=i.le h
    replace j:=j.le h
    replace leB:=leB.trans h
    exact bL (m:=[sL none (([]:List au)) 0,iv 9]) [] (aU O (aU O bD)) (fun W hW=>⟨w,(none,0),leB,O,f4,hW.pick (ks:=[]) (by decide) bg⟩)
   ·refine aJ (aa (ai (ax O (aH bn O (aH (ag oW) O (aC O (fun _ _ a d=>ah wF (a.ev O) (bR d (vs:=[sL F b.Art.Coppers G,sL I b.Art.Outline J,sL K b.Art.Bores L,sL M b.Art.Lands P,sL Q b.Drilled S,sL A b.Pieces T,sL V b.Touched X,sL Z b.Groups a0,sL a1 b.OfPiece a2,sL a3 b.OfBore a4,sL B b.OfLand C,sL D b.AtLand E]) (k:=3) O 5) O) (ax O ?_)))))))
    obtain⟨d8,f5,H⟩:=bnd H
    obtain⟨d9,e0,e3⟩:=bi f5
    obtain⟨f9,b7,d6,e4⟩:=(f).el e3
    obtain⟨⟨g0,g1⟩,⟨b5,b6⟩⟩:=f9
    obtain⟨f7,a6⟩:=d6
    replace a6:Sl w.O w.W aB b5 b6 d8.Rects:=a6
    replace b7:w.R (mY A):=Or.inl b7
    refine aC O (fun _ _ a d=>ak CL (a.ev O) f.form (a.ev O) d9 e0) (aH (ag xW) O (aC O (fun _ _ a d=>ah tQ (a.ev O) (aF.drop (qY b7 e4 d) 2) O) (Tr.k O (Tr.k O (ae (aa (aO ?_)))))))
    obtain rfl:=oI H
    exact bL (m:=[sL b5 d8.Rects b6,iv 0]) [] (aU O (aU O bD)) (fun W hW=>⟨w,(b5,b6),leB,O,a6,hW.pick (ks:=[]) (by decide) bg⟩)

theorem wm(N:Nat){w:Bs}(p0:(List aQ))(E:Option Addr)(F:Nat)(a0:Sl w.R w.W aY E F p0)(p1:Int)(p2:Int)(p3:Int)(p4:Int)(r:(List aQ))(H:lC N p0 p1 p2 p3 p4=some r)(hE:HF w w.W (iZ [emp])):Calls Tryz.prog 102 [sL E p0 F,iv p1,iv p2,iv p3,iv p4].toArray w.W fun e W'=>∃(w':Bs) (u:(Option Addr×Nat)),w.Le w'∧e= .returned (sL u.1 r u.2)∧(cO u.1 r.length u.2)∧HF w' W' (iZ [ow u.1 u.2 123 aY r]):=by
 unfold lC at H
 have leB:=Bs.Le.refl w
 refine aV (n:=46) Tryz.func102 O O O hE (ai (Tr.k O (bC 1 123 aY ?_)))
 show Tr _ _ (uf _ 10 (sL none (([]:List aQ)) 0)) _ _
 refine ae (aa (ai (ax O ?_)))
 obtain⟨c,a1,H⟩:=bnd H
 refine gG [2] [emp] (U:=(Option Addr×Nat)) (fun u=>(sL u.1 c u.2)) (fun u=>cO u.1 c.length u.2) (fun u=>[ow u.1 u.2 111 aB c]) O (aN O bg) (fun _=>O) (wn O) O Tryz.call48 (aj O aG) (fun W hW hp hE=>jI N p0 E F (a0.ext (hW.dU hp)) c a1 hE) ?_
 intro u hu
 obtain⟨v,y⟩:=u
 have K:=hu
 have G:cO v c.length y:=K --@phi
 dsimp only
 refine Tr.k O (ae (aa (av (ai (ax O (aH (bf lS) O (ax O (ae (aa (Tr.block (bO (σ:=(List au)×Int×(Option Addr)×Nat) (fun m w s=>gH N p1 p2 p3 p4 c m s.1 s.2.1=some r∧cO s.2.2.1 s.1.length s.2.2.2) (fun s=>[(1,iv p1),(2,iv p2),(3,iv p3),(4,iv p4),(11,sL s.2.2.1 s.1 s.2.2.2),(16,sL s.2.2.1 s.1 s.2.2.2),(17,iv (c.length:Int)),(18,iv s.2.1)]) (fun s=>[(2,ow s.2.2.1 s.2.2.2 111 aB s.1)]) N (c,0,v,y) ⟨H,G⟩ (.r O) (.r O) (fun _ _ h=>mW (h.1)) ?_)))))))))))
 intro w M a6 s hs
 obtain⟨z,p,f,g⟩:=s
 obtain⟨H,A⟩:=hs
 replace H:gH N p1 p2 p3 p4 c (a6+1) z p=some r:=H
 replace leB:=leB.trans M
 replace A:cO f z.length g:=A
 rw[gH.eq_2] at H
 dsimp only
 refine ai (ay aR O O (ae (aa (av (aT O H (fun H=>?_) (fun H=>?_))))))
 ·refine aJ (aa (av (Tr.block (ai (ax O ?_)))))
  obtain⟨b,a2,H⟩:=bnd H
  obtain⟨P,Q,S⟩:=bi a2
  refine aC O (fun _ _ a d=>ak mP (a.ev O) A (a.ev O) P Q) (aC O (fun _ _ a d=>aM (cs:=[iv b.X0,iv b.Y0,iv b.X1,iv b.Y1]) gV dh (a.ev O) (aF.take (zY gm (k:=2) d O S) 4) O) (Tr.alloc 5 (wn O) O lK fun C=>(Tr.k O (bF 5 (cs:=[iv b.X0,iv b.Y0,iv b.X1,iv b.Y1]) [iv b.X0,iv b.Y0,iv b.X1,iv b.Y1] (wn O) O O O O dh O O O (ae (aa (Tr.region (ax O (ax O (aH (ag jd) O (aC O (fun _ _ a d=>ah bG (a.ev O) (bR d (vs:=[iv b.X0,iv b.Y0,iv b.X1,iv b.Y1]) (k:=5) O 0) O) (ax O (ay iP O O (aH (ag jK) O (aC O (fun _ _ a d=>ah bG (a.ev O) (bR d (vs:=[iv b.X0,iv b.Y0,iv b.X1,iv b.Y1]) (k:=5) O 1) O) (ax O (ay iP O O (aH (ag jZ) O (aC O (fun _ _ a d=>ah bG (a.ev O) (bR d (vs:=[iv b.X0,iv b.Y0,iv b.X1,iv b.Y1]) (k:=5) O 2) O) ?_)))))))))))))))))))
  refine ax O (ay bB O O (aH (ag nA) O (aC O (fun _ _ a d=>ah bG (a.ev O) (bR d (vs:=[iv b.X0,iv b.Y0,iv b.X1,iv b.Y1]) (k:=5) O 3) O) (ax O (ay bB O O (ko (vs:=[(0,iv (bJ (b.X0-p1))),(1,iv (bJ (b.Y0-p3))),(2,iv (bJ (b.X1+p2))),(3,iv (bJ (b.Y1+p4)))]) (cs:=[iv (bJ (b.X0-p1)),iv (bJ (b.Y0-p3)),iv (bJ (b.X1+p2)),iv (bJ (b.Y1+p4))]) (wn O) O (bz O (bz O (bz O (bz O dE)))) (by kernel_rfl) ?_))))))
  obtain⟨a7,a3,H⟩:=bnd H
  obtain⟨T,V,X⟩:=bi a3
  refine aC O (fun _ _ a d=>ak mP (a.ev O) A (a.ev O) T V) ?_
  obtain⟨D,J,H⟩:=bnd H
  have B:=lv J
  refine kg 2 (t:=aB) (l:=z) (i:=p) (fo:=0) (cs:=[iv (bJ (b.X0-p1)),iv (bJ (b.Y0-p3)),iv (bJ (b.X1+p2)),iv (bJ (b.Y1+p4))]) (au.mk (bJ (b.X0-p1)) (bJ (b.Y0-p3)) (bJ (b.X1+p2)) (bJ (b.Y1+p4))) (wn O) O O O O O X dh O (fun u _=>⟨u,trivial,O⟩) O J ?_
  have Z:cO f D.length g:=by rw[B];exact A
  exact Tr.vC (lf:=[(1,iv p1),(2,iv p2),(3,iv p3),(4,iv p4),(11,sL f D g),(12,iv p),(13,pV C),(16,sL f D g),(17,iv (c.length:Int)),(18,iv p),(19,bV (decide (p<(c.length:Int)))),(20,iv p),(22,.agg #[iv b.X0,iv b.Y0,iv b.X1,iv b.Y1]),(23,sL f D g),(24,iv p),(25,pV C),(26,iv b.X0),(27,iv p1),(28,iv (bJ (b.X0-p1))),(29,.pointer (some ⟨C,1,none⟩)),(30,iv b.Y0),(31,iv p3),(32,iv (bJ (b.Y0-p3))),(33,.pointer (some ⟨C,2,none⟩)),(34,iv b.X1),(35,iv p2),(36,iv (bJ (b.X1+p2))),(37,.pointer (some ⟨C,3,none⟩)),(38,iv b.Y1),(39,iv p4),(40,iv (bJ (b.Y1+p4))),(41,.agg #[iv (bJ (b.X0-p1)),iv (bJ (b.Y0-p3)),iv (bJ (b.X1+p2)),iv (bJ (b.Y1+p4))])]) (le:=[(2,ow f g 111 aB D),(5,bx C #[iv b.X0,iv b.Y0,iv b.X1,iv b.Y1] 111)]) (.cons O (.cons O (.cons O (.cons O (.cons (jc O (by unfold sL;rw[B])) (.cons O (.cons O (.cons (jc O (by unfold sL;rw[B])) (.cons O (.cons O (.cons O (.cons O (.cons O (.cons (jc O (by unfold sL;rw[B])) (.r O))))))))))))))) (.r O) (ae (aK (aa (Tr.region (ay bB O O (ax O (ae (aI M (D,(bJ (p+1)),f,g) ⟨H,Z⟩ (.r O) (.r O)))))))))
 ·refine bK (aA (aA (aP (aa (ai (ax O ?_))))))
  obtain⟨q,a4,H⟩:=bnd H
  refine eZ [6] [emp] (U:=(Option Addr×Nat)) (fun u=>(sL u.1 q u.2)) (fun a8 W u=>cO u.1 q.length u.2) (fun u=>[ow u.1 u.2 123 aY q]) O (aN O bg) (fun _=>O) (wn O) O Tryz.call47 (aj O aG) (fun W hW hp hE=>jm N z f g (hW.Ha (k:=2) O hp O) q a4 hE) ?_
  intro w u a5 hu
  obtain⟨j,o⟩:=u
  have L:=hu
  replace leB:=leB.trans a5
  have I:cO j q.length o:=L --@phi
  dsimp only
  refine Tr.k O (ae (aa (aO ?_)))
  obtain rfl:=oI H
  exact bL (m:=[sL j q o]) [] (aU O bD) (fun W hW=>⟨w,(j,o),leB,O,I,hW.pick (ks:=[6]) (by decide) (aN O bg)⟩)

theorem xI(N:Nat){w:Bs}(p0:(List aQ))(d:Option Addr)(f:Nat)(i:Sl w.R w.W aY d f p0)(p1:Int)(r:(List aQ))(H:oo N p0 p1=some r)(hE:HF w w.W (iZ [emp])):Calls Tryz.prog 49 [sL d p0 f,iv p1].toArray w.W fun e W'=>∃(w':Bs) (u:(Option Addr×Nat)),w.Le w'∧e= .returned (sL u.1 r u.2)∧(cO u.1 r.length u.2)∧HF w' W' (iZ [ow u.1 u.2 123 aY r]):=by
 unfold oo at H
 have leB:=Bs.Le.refl w
 refine aV (n:=11) Tryz.func49 O O O hE (ai (Tr.k O (bC 1 123 aY ?_)))
 show Tr _ _ (uf _ 4 (sL none (([]:List aQ)) 0)) _ _
 refine ae (aa (ai (ax O (ax O (ax O (ax O (ax O ?_)))))))
 obtain⟨c,j,H⟩:=bnd H
 refine eZ [2] [emp] (U:=(Option Addr×Nat)) (fun u=>(sL u.1 c u.2)) (fun a0 W u=>cO u.1 c.length u.2) (fun u=>[ow u.1 u.2 123 aY c]) O (aN O bg) (fun _=>O) (wn O) O Tryz.call102 (aj O (aj O (aj O (aj O (aj O aG))))) (fun W hW hp hE=>wm N p0 d f (i.ext (hW.dU hp)) p1 p1 p1 p1 c j hE) ?_
 intro w u l hu
 obtain⟨a,b⟩:=u
 have h:=hu
 replace leB:=leB.trans l
 have g:cO a c.length b:=h --@phi
 dsimp only
 refine Tr.k O (ae (aa (aO ?_)))
 obtain rfl:=oI H
 exact bL (m:=[sL a c b]) [] (aU O bD) (fun W hW=>⟨w,(a,b),leB,O,g,hW.pick (ks:=[2]) (by decide) (aN O bg)⟩)

theorem AJ(N:Nat){w:Bs}(p0:(List aQ))(d:Option Addr)(f:Nat)(l:Sl w.R w.W aY d f p0)(p1:Int)(r:((List aQ)×Int))(H:nZ N p0 p1=some r)(hE:HF w w.W (iZ [emp])):Calls Tryz.prog 21 [sL d p0 f,iv p1].toArray w.W fun e W'=>∃(w':Bs) (u:(Option Addr×Nat)),w.Le w'∧e= .returned (.tuple #[sL u.1 r.1 u.2,iv r.2])∧(cO u.1 r.1.length u.2)∧HF w' W' (iZ [ow u.1 u.2 123 aY r.1]):=by
 unfold nZ at H
 have leB:=Bs.Le.refl w
 refine aV (n:=16) Tryz.func21 O O O hE (ai (Tr.k O (bC 1 123 aY ?_)))
 show Tr _ _ (uf _ 4 (sL none (([]:List aQ)) 0)) _ _
 refine Tr.k O (ae (aa (ai (ax O (ax O ?_)))))
 obtain⟨c,o,H⟩:=bnd H
 refine eZ [2] [emp] (U:=(Option Addr×Nat)) (fun u=>(sL u.1 c u.2)) (fun a0 W u=>cO u.1 c.length u.2) (fun u=>[ow u.1 u.2 123 aY c]) O (aN O bg) (fun _=>O) (wn O) O Tryz.call49 (aj O (aj O aG)) (fun W hW hp hE=>xI N p0 d f (l.ext (hW.dU hp)) p1 c o hE) ?_
 intro w u p hu
 obtain⟨a,b⟩:=u
 have h:=hu
 replace leB:=leB.trans p
 have g:cO a c.length b:=h --@phi
 dsimp only
 refine Tr.k O (ae (aa (av (ai (ax O ?_)))))
 obtain⟨i,q,H⟩:=bnd H
 refine bu (r:=(bV i)) (wn O) O Tryz.call50 (aj O aG) (fun W hW=>rW c a b (hW.oD (k:=2) O) i q (HF.start _)) (aH iQ O (ae (aa (aT O H (fun H=>?_) (fun H=>?_)))))
 ·refine ai (Tr.k O (bC 3 123 aY ?_))
  show Tr _ _ (uf _ 4 (sL none (([]:List aQ)) 0)) _ _
  refine Tr.k O (ae (aa (aO (aD ?_))))
  obtain rfl:=oI H
  exact bL (m:=[sL none (([]:List aQ)) 0,iv 1]) [] (aU O (aU O bD)) (fun W hW=>⟨w,(none,0),leB,O,gZ,hW.pick (ks:=[3]) (by decide) (aN O bg)⟩)
 ·refine aJ (aa (av (ai (ax O ?_))))
  obtain⟨j,s,H⟩:=bnd H
  refine bu (r:=(iv j)) (wn O) O Tryz.call51 (aj O aG) (fun W hW=>oM c a b (hW.oD (k:=2) O) j s (HF.start _)) (ay iG O O (ae (aa (aT O H (fun H=>?_) (fun H=>?_)))))
  ·refine ai (Tr.k O (bC 4 123 aY ?_))
   show Tr _ _ (uf _ 4 (sL none (([]:List aQ)) 0)) _ _
   refine Tr.k O (ae (aa (aO (aD ?_))))
   obtain rfl:=oI H
   exact bL (m:=[sL none (([]:List aQ)) 0,iv 2]) [] (aU O (aU O bD)) (fun W hW=>⟨w,(none,0),leB,O,gZ,hW.pick (ks:=[4]) (by decide) (aN O bg)⟩)
  ·refine aJ (aa (ai (ax O (Tr.k O (Tr.k O (ae (aa (aO ?_))))))))
   obtain rfl:=oI H
   exact bL (m:=[sL a c b,iv 0]) [] (aU O (aU O bD)) (fun W hW=>⟨w,(a,b),leB,O,g,hW.pick (ks:=[2]) (by decide) (aN O bg)⟩)

theorem EZ(N:Nat)(x:Nat){w:Bs}(p0:(List aQ))(a:Option Addr)(b:Nat)(c:Sl w.R w.W aY a b p0)(p1:Int)(r:((List aQ)×Int))(H:tq N x p0 p1=some r)(hE:HF w w.W (iZ [emp])):Calls Tryz.prog x [sL a p0 b,iv p1].toArray w.W fun e W'=>∃(w':Bs) (u:(Option Addr×Nat)),w.Le w'∧e= .returned (.tuple #[sL u.1 r.1 u.2,iv r.2])∧(cO u.1 r.1.length u.2)∧HF w' W' (iZ [ow u.1 u.2 123 aY r.1]):=by
 unfold tq at H
 by_cases hx:x=21
 ·rw[if_pos hx] at H;subst hx;exact AJ N p0 a b c p1 r H hE
 rw[if_neg hx] at H
 cases H
theorem Dj(N:Nat)(x:Nat)(p0:(List aQ))(p1:Int)(r:((List aQ)×Int))(H:tq N x p0 p1=some r):∀args W,(callFunc x args).run Tryz.prog W= .ok (.enter x args) W:=by
 unfold tq at H
 by_cases hx:x=21
 ·subst hx;exact Tryz.call21
 rw[if_neg hx] at H
 cases H

theorem AC(N:Nat){w:Bs}(p0:(List au))(A:Option Addr)(B:Nat)(Q:Sl w.R w.W aB A B p0)(p1:Int)(p2:(List Nat))(C:Option Addr)(D:Nat)(b:Sl w.R w.W BH C D p2)(r:((List au)×Int))(H:qd N p0 p1 p2=some r)(hE:HF w w.W (iZ [emp])):Calls Tryz.prog 20 [sL A p0 B,iv p1,sL C p2 D].toArray w.W fun e W'=>∃u:(Option Addr×Nat),e= .returned (.tuple #[sL u.1 r.1 u.2,iv r.2])∧(cO u.1 r.1.length u.2)∧HF w W' (iZ [ow u.1 u.2 111 aB r.1]):=by
 unfold qd at H
 have leB:=Bs.Le.refl w
 refine aV (n:=42) Tryz.func20 O O O hE (ai (Tr.k O (bC 1 111 aB ?_)))
 show Tr _ _ (uf _ 6 (sL none (([]:List au)) 0)) _ _
 refine Tr.k O (ae (aa (av (ai (ax O ?_)))))
 obtain⟨J,a2,H⟩:=bnd H
 refine bu (r:=(iv J)) (wn O) O Tryz.call38 (aj O aG) (fun W hW=>jv N p0 A B (Q.ext hW.bU) J a2 (HF.start _)) (Tr.k O (ae (aa (ai (ax O (ay fM O O (ae (aa (aT O H (fun H=>?_) (fun H=>?_))))))))))
 ·refine ai (ax O (Tr.k O (bC 2 111 aB ?_)))
  show Tr _ _ (uf _ 6 (sL none (([]:List au)) 0)) _ _
  refine Tr.k O (ae (aa (aO (aD ?_))))
  obtain rfl:=oI H
  exact bL (m:=[sL none (([]:List au)) 0,iv J]) [] (aU O (aU O bD)) (fun W hW=>⟨(none,0),O,gZ,HF.ry leB (hW.pick (ks:=[2]) (by decide) (aN O bg)) ⟨kM _ _ _ _ jb,trivial⟩⟩)
 ·refine aJ (aa (av (ai (ax O ?_))))
  obtain⟨a1,a3,H⟩:=bnd H
  refine bu (r:=(bV a1)) (wn O) O Tryz.call46 (aj O (aj O (aj O aG))) (fun W hW=>uw p1 0 100000 a1 a3 (HF.start _)) (aH iQ O (ae (aa (aT O H (fun H=>?_) (fun H=>?_)))))
  ·refine ai (Tr.k O (bC 3 111 aB ?_))
   show Tr _ _ (uf _ 6 (sL none (([]:List au)) 0)) _ _
   refine Tr.k O (ae (aa (aO (aD ?_))))
   obtain rfl:=oI H
   exact bL (m:=[sL none (([]:List au)) 0,iv 1]) [] (aU O (aU O bD)) (fun W hW=>⟨(none,0),O,gZ,HF.ry leB (hW.pick (ks:=[3]) (by decide) (aN O bg)) ⟨kM _ _ _ _ jb,trivial⟩⟩)
  ·refine aJ (aa (ai (ax O ?_)))
   obtain⟨l,a4,H⟩:=bnd H
   refine eZ [4] [emp] (U:=(Option Addr×Nat)) (fun u=>(sL u.1 l u.2)) (fun a9 W u=>cO u.1 l.length u.2) (fun u=>[ow u.1 u.2 123 aY l]) O (aN O bg) (fun _=>O) (wn O) O Tryz.call47 (aj O aG) (fun W hW hp hE=>jm N p0 A B (Q.ext (hW.dU hp)) l a4 hE) ?_
   intro w u S hu
   obtain⟨p,q⟩:=u
   have X:=hu
   replace b:=b.kL S
   replace leB:=leB.trans S
   have K:cO p l.length q:=X --@phi
   dsimp only
   refine Tr.k O (ae (aa (av (ai (ax O (aH (bf PH) O (ax O (ae (aa (Tr.block (Da 4 12 O O O (bO (σ:=(List Nat)×Nat×(List aQ)×(Option Addr)×Nat) (fun m w s=>m=s.1.length+1∧s.1=List.drop s.2.1 p2∧s.2.1≤p2.length∧gB N p1 s.1 s.2.1 s.2.2.1=some r∧cO s.2.2.2.1 s.2.2.1.length s.2.2.2.2) (fun s=>[(1,iv p1),(9,sL s.2.2.2.1 s.2.2.1 s.2.2.2.2),(23,sL C p2 D),(24,iv (p2.length:Int)),(25,iv (s.2.1:Int))]) (fun s=>[(12,ow s.2.2.2.1 s.2.2.2.2 123 aY s.2.2.1)]) (p2.length+1) (p2,0,l,p,q) ⟨O,O,Nat.zero_le _,H,K⟩ (.r O) (.r O) (fun _ _ h=>absurd h.1 (by simp)) ?_))))))))))))
   intro w G m s hs
   obtain⟨c,T,y,E,F⟩:=s
   obtain⟨L,j,a8,H,a7⟩:=hs
   replace j:c=List.drop T p2:=j
   replace H:gB N p1 c T y=some r:=H
   replace L:m+1=c.length+1:=L
   replace b:=b.kL G
   replace leB:=leB.trans G
   obtain rfl:m=c.length:=by omega
   clear L
   dsimp only
   cases c with
   |nil=>
    rw[gB.eq_1] at H
    refine ai (ay aR O O (ae (aa (av (bX O (bN j) (bK (aA (aA (aP (aa (ai (ax O ?_))))))))))))
    obtain⟨o,a5,H⟩:=bnd H
    refine gG [13] [emp] (U:=(Option Addr×Nat)) (fun u=>(sL u.1 o u.2)) (fun u=>cO u.1 o.length u.2) (fun u=>[ow u.1 u.2 111 aB o]) O (aN O bg) (fun _=>O) (wn O) O Tryz.call48 (aj O aG) (fun W hW hp hE=>jI N y E F (hW.Ha (k:=12) O hp O) o a5 hE) ?_
    intro u hu
    obtain⟨g,i⟩:=u
    have Z:=hu
    have M:cO g o.length i:=Z --@phi
    dsimp only
    refine Tr.k O (Tr.k O (ae (aa (aO ?_))))
    obtain rfl:=oI H
    exact bL (m:=[sL g o i,iv 0]) [] (aU O (aU O bD)) (fun W hW=>⟨(g,i),O,M,HF.ry leB (hW.pick (ks:=[13]) (by decide) (aN O bg)) ⟨kM _ _ _ _ jb,trivial⟩⟩)
   | cons a6 c=>
    rw[gB.eq_2] at H
    refine ai (ay aR O O (ae (aa (av (bY O (cu j) (aJ (aa (av (Tr.block (ai (aC O (fun _ _ a d=>ak P9 (a.ev O) b.form (a.ev O) (Int.natCast_nonneg _) (aX j)) (aC O (fun _ _ a d=>ah Rt (a.ev O) (rP Oh b (dI j) d) O) (Tr.k O (ae (aa (ai (Tr.k O (ae (aa (ai (ax O (ax O (ax O ?_)))))))))))))))))))))))
    obtain⟨f,V,H⟩:=bnd H
    refine El [14] [emp] (U:=(Option Addr×Nat)) (fun u=>(.tuple #[sL u.1 f.1 u.2,iv f.2])) (fun a9 W u=>cO u.1 f.1.length u.2) (fun u=>[ow u.1 u.2 123 aY f.1]) O (aN O bg) (fun _=>O) (wn O) O O (Dj N a6 y p1 _ V) (aj O (aj O aG)) (fun W hW hp hE=>EZ N a6 y E F (hW.Ha (k:=12) O hp O) p1 f V hE) ?_
    intro w u I hu
    obtain⟨t,v⟩:=u
    have a0:=hu
    replace b:=b.kL I
    replace leB:=leB.trans I
    replace G:=G.trans I
    have P:cO t f.1.length v:=a0 --@phi
    dsimp only
    refine ax O (aC O (fun _ _ a d=>bA (a.ev O) O) (aC O (fun _ _ a d=>bA (a.ev O) O) (Tr.k O (Tr.k O (ae (aa (ai (ax O (ay fM O O (ae (aa (aT O H (fun H=>?_) (fun H=>?_)))))))))))))
    ·refine ai (ax O (Tr.k O (bC 15 111 aB ?_)))
     show Tr _ _ (uf _ 6 (sL none (([]:List au)) 0)) _ _
     refine Tr.k O (ae (aa (aO (bq (aD (aD (bq (aD ?_))))))))
     obtain rfl:=oI H
     exact bL (m:=[sL none (([]:List au)) 0,iv f.2]) [] (aU O (aU O bD)) (fun W hW=>⟨(none,0),O,gZ,HF.ry leB (hW.pick (ks:=[15]) (by decide) (aN O bg)) ⟨kM _ _ _ _ jb,trivial⟩⟩)
    ·exact aJ (aK (aa (Tr.region (ay bB O O (ax O (ae (GH 12 (Da 14 12 O O O (aI G (c,(T+1),f.1,t,v) ⟨O,bT j,aX j,H,P⟩ (.cons O (.cons O (.cons O (.cons O (.cons (congrArg (fun z=>some (Value.int .i64 z)) (bS j b.form)) .nil))))) (.r O))))))))))

theorem Bt(N:Nat){w:Bs}(p0:(List au))(g:Option Addr)(h:Nat)(l:Sl w.R w.W aB g h p0)(p1:Int)(r:((List au)×Int))(H:nR N p0 p1=some r)(hE:HF w w.W (iZ [emp])):Calls Tryz.prog 9 [sL g p0 h,iv p1].toArray w.W fun e W'=>∃u:(Option Addr×Nat),e= .returned (.tuple #[sL u.1 r.1 u.2,iv r.2])∧(cO u.1 r.1.length u.2)∧HF w W' (iZ [ow u.1 u.2 111 aB r.1]):=by
 unfold nR at H
 have leB:=Bs.Le.refl w
 refine aV (n:=12) Tryz.func9 O O O hE (ai (Tr.k O (bC 1 111 aB ?_)))
 show Tr _ _ (uf _ 4 (sL none (([]:List au)) 0)) _ _
 refine Tr.k O (ae (aa (ai (ax O (ax O (eD 2 (e:=81) (vs:=[(0,.func (.func 21) #[] #[])]) (cs:=[.func (.func 21) #[] #[]]) (wn O) O (bz O dE) (by kernel_rfl) fun p=>(Tr.own 2 BH [21] (css:=[[.func (.func 21) #[] #[]]]) O (.cons ⟨(),trivial,O⟩ .nil) O (by decide) (xU O) ?_)))))))
 obtain⟨b,o,H⟩:=bnd H
 refine gG [3] [emp] (U:=(Option Addr×Nat)) (fun u=>(.tuple #[sL u.1 b.1 u.2,iv b.2])) (fun u=>cO u.1 b.1.length u.2) (fun u=>[ow u.1 u.2 111 aB b.1]) O (aN O bg) (fun _=>O) (wn O) O Tryz.call20 (aj O (aj O (aj O aG))) (fun W hW hp hE=>AC N p0 g h (l.ext (hW.dU hp)) p1 [21] (some ⟨p,0,none⟩) 1 (hW.Ha (k:=2) O hp O) b o hE) ?_
 intro u hu
 obtain⟨c,f⟩:=u
 have j:=hu
 have i:cO c b.1.length f:=j --@phi
 dsimp only
 refine aC O (fun _ _ a d=>bA (a.ev O) O) (aC O (fun _ _ a d=>bA (a.ev O) O) (Tr.k O (Tr.k O (ae (aa (aO ?_))))))
 obtain rfl:=oI H
 exact bL (m:=[sL c b.1 f,iv b.2]) [] (aU O (aU O bD)) (fun W hW=>⟨(c,f),O,i,HF.ry leB (hW.pick (ks:=[3]) (by decide) (aN O bg)) ⟨kM _ _ _ _ jb,trivial⟩⟩)

theorem wM{w:Bs}(p0:(List Int))(g:Option Addr)(i:Nat)(f:Sl w.R w.W az g i p0)(p1:Int)(r:Int)(H:nO p0 p1=some r)(hE:HF w w.W E0):Calls Tryz.prog 52 [sL g p0 i,iv p1].toArray w.W fun e W'=>e= .returned (iv r)∧HF w W' E0:=by
 unfold nO at H
 have leB:=Bs.Le.refl w
 refine aV (n:=19) Tryz.func52 O O O hE (ai (Tr.k O (ae (aa (av (ai (ax O (aH (bf jN) O (ax O (ae (aa (Tr.block (bO (σ:=(List Int)×Nat) (fun m w s=>m=s.1.length+1∧s.1=List.drop s.2 p0∧s.2≤p0.length∧gW p1 s.1 s.2=some r) (fun s=>[(0,sL g p0 i),(1,iv p1),(7,iv (p0.length:Int)),(8,iv (s.2:Int))]) (fun s=>[]) (p0.length+1) (p0,0) ⟨O,O,Nat.zero_le _,H⟩ (.r O) .nil (fun _ _ h=>absurd h.1 (by simp)) ?_)))))))))))))
 intro w j m s hs
 obtain⟨b,o⟩:=s
 obtain⟨l,c,p,H⟩:=hs
 replace c:b=List.drop o p0:=c
 replace H:gW p1 b o=some r:=H
 replace l:m+1=b.length+1:=l
 replace f:=f.kL j
 replace leB:=leB.trans j
 obtain rfl:m=b.length:=by omega
 clear l
 dsimp only
 cases b with
 |nil=>
  rw[gW.eq_1] at H
  refine ai (ay aR O O (ae (aa (av (bX O (bN c) (bK (aA (aA (aP (aa (ai (Tr.k O (ae (aa (aO ?_)))))))))))))))
  obtain rfl:=oI H
  exact cB leB
 | cons q b=>
  rw[gW.eq_2] at H
  refine ai (ay aR O O (ae (aa (av (bY O (cu c) (aJ (aa (av (Tr.block (ai (ax O (Tr.k O (ae (aa (ai (ax O (ax O (ax O (aC O (fun _ _ a d=>ak iX (a.ev O) f.form (a.ev O) (Int.natCast_nonneg _) (aX c)) (aC O (fun _ _ a d=>ah bG (a.ev O) (rP iH f (dI c) d) O) (ay iA O O (ae (aa (aT O H (fun H=>?_) (fun H=>?_)))))))))))))))))))))))))
  ·refine ai (ax O (Tr.k O (ae (aa (aO (bq (aD (aD (bq (aD ?_))))))))))
   obtain rfl:=oI H
   exact cB leB
  ·exact aJ (aK (aa (Tr.region (ay bB O O (ax O (ae (aI j (b,(o+1)) ⟨O,bT c,aX c,H⟩ (.cons O (.cons O (.cons O (.cons (congrArg (fun z=>some (Value.int .i64 z)) (bS c f.form)) .nil)))) .nil)))))))

theorem qc{w:Bs}(p0:(List Int))(a:Option Addr)(b:Nat)(d:Sl w.R w.W az a b p0)(p1:Int)(r:Bool)(H:jH p0 p1=some r)(hE:HF w w.W E0):Calls Tryz.prog 22 [sL a p0 b,iv p1].toArray w.W fun e W'=>e= .returned (bV r)∧HF w W' E0:=by
 unfold jH at H
 have leB:=Bs.Le.refl w
 refine aV (n:=9) Tryz.func22 O O O hE (ai (Tr.k O (ae (aa (ai (ax O (ax O ?_)))))))
 obtain⟨c,f,H⟩:=bnd H
 refine bu (r:=(iv c)) (wn O) O Tryz.call52 (aj O (aj O aG)) (fun W hW=>wM p0 a b (d.ext hW.bU) p1 c f (HF.start _)) (ay oh O O (Tr.k O (ae (aa (aO ?_)))))
 obtain rfl:=oI H
 exact cB leB

theorem sD(N:Nat){w:Bs}(p0:(List dz))(g:Option Addr)(i:Nat)(f:Sl w.R w.W dw g i p0)(p1:Int)(p2:Int)(r:Bool)(H:kG N p0 p1 p2=some r)(hE:HF w w.W E0):Calls Tryz.prog 10 [sL g p0 i,iv p1,iv p2].toArray w.W fun e W'=>e= .returned (bV r)∧HF w W' E0:=by
 unfold kG at H
 have leB:=Bs.Le.refl w
 refine aV (n:=28) Tryz.func10 O O O hE (ai (Tr.k O (ae (aa (av (ai (Tr.k O (ae (aa (Tr.block (bO (σ:=Int) (fun m w s=>fB p0 p1 p2 m s=some r) (fun s=>[(0,sL g p0 i),(1,iv p1),(2,iv p2),(7,iv s)]) (fun s=>[]) N 0 H (.r O) .nil (fun _ _ h=>mW (h)) ?_)))))))))))
 intro w q a9 t hs
 have H:=hs
 replace H:fB p0 p1 p2 (a9+1) t=some r:=H
 replace f:=f.kL q
 replace leB:=leB.trans q
 rw[fB.eq_2] at H
 show Tr _ _ (LF [(0,sL g p0 i),(1,iv p1),(2,iv p2),(7,iv t)]) (LE []) _
 refine av (ai (ax O (ax O (aH (bf Ff) O (ay aR O O (ae (aa (aT O H (fun H=>?_) (fun H=>?_)))))))))
 ·refine aJ (aa (av (Tr.block (ai (ax O (ax O ?_))))))
  obtain⟨y,a',H⟩:=bnd H
  obtain⟨z,A,B⟩:=bi a'
  obtain⟨Z,C,u,D⟩:=(f).el B
  obtain⟨⟨j,l⟩,⟨a1,a2⟩,⟨a3,a4⟩⟩:=Z
  obtain⟨b,T,U⟩:=u
  replace b:Sl w.R w.W az j l y.Pieces:=b
  refine aC O (fun _ _ a d=>ak Jo (a.ev O) f.form (a.ev O) z A) (aH (ag zG) O (aC O (fun _ _ a d=>ah gU (a.ev O) (aF.drop (qY C D d) 0) O) (ax O ?_)))
  obtain⟨E,P,H⟩:=bnd H
  refine bu (r:=(bV E)) (wn O) O Tryz.call22 (aj O (aj O aG)) (fun W hW=>qc y.Pieces j l (b.ext hW.bU) p1 E P (HF.start _)) (ae (aa (aT O H (fun H=>?_) (fun H=>?_))))
  ·refine ai (ax O (ax O ?_))
   obtain⟨F,Q,H⟩:=bnd H
   obtain⟨G,I,J⟩:=bi Q
   obtain⟨a0,K,v,L⟩:=(f).el J
   obtain⟨⟨o,p⟩,⟨a5,a6⟩,⟨a7,a8⟩⟩:=a0
   obtain⟨c,V,X⟩:=v
   replace c:Sl w.R w.W az o p F.Pieces:=c
   refine aC O (fun _ _ a d=>ak Jo (a.ev O) f.form (a.ev O) G I) (aH (ag zG) O (aC O (fun _ _ a d=>ah gU (a.ev O) (aF.drop (qY K L d) 0) O) (ax O ?_)))
   obtain⟨M,S,H⟩:=bnd H
   refine bu (r:=(bV M)) (wn O) O Tryz.call22 (aj O (aj O aG)) (fun W hW=>qc F.Pieces o p (c.ext hW.bU) p2 M S (HF.start _)) (Tr.k O (ae (aa (aO (bq (aD (aD (bq (aD ?_)))))))))
   obtain rfl:=oI H
   exact cB leB
  ·exact aJ (aK (aa (Tr.region (ax O (ay bB O O (Tr.k O (ae (aI q (bJ (t+1)) H (.r O) .nil))))))))
 ·refine bK (aA (aA (aP (aa (ai (Tr.k O (ae (aa (aO ?_)))))))))
  obtain rfl:=oI H
  exact cB leB

theorem xJ(N:Nat){w:Bs}(p0:(List aQ))(d:Option Addr)(f:Nat)(h:Sl w.R w.W aY d f p0)(r:((List au)×Int))(H:lg N p0=some r)(hE:HF w w.W (iZ [emp])):Calls Tryz.prog 53 [sL d p0 f].toArray w.W fun e W'=>∃u:(Option Addr×Nat),e= .returned (.tuple #[sL u.1 r.1 u.2,iv r.2])∧(cO u.1 r.1.length u.2)∧HF w W' (iZ [ow u.1 u.2 111 aB r.1]):=by
 unfold lg at H
 have leB:=Bs.Le.refl w
 refine aV (n:=9) Tryz.func53 O O O hE (ai (Tr.k O (bC 1 111 aB ?_)))
 show Tr _ _ (uf _ 2 (sL none (([]:List au)) 0)) _ _
 refine Tr.k O (ae (aa (av (ai (ax O ?_)))))
 obtain⟨j,l,H⟩:=bnd H
 refine bu (r:=(iv j)) (wn O) O Tryz.call51 (aj O aG) (fun W hW=>oM p0 d f (h.ext hW.bU) j l (HF.start _)) (ay iG O O (ae (aa (aT O H (fun H=>?_) (fun H=>?_)))))
 ·refine ai (Tr.k O (bC 2 111 aB ?_))
  show Tr _ _ (uf _ 2 (sL none (([]:List au)) 0)) _ _
  refine Tr.k O (ae (aa (aO (aD ?_))))
  obtain rfl:=oI H
  exact bL (m:=[sL none (([]:List au)) 0,iv 2]) [] (aU O (aU O bD)) (fun W hW=>⟨(none,0),O,gZ,HF.ry leB (hW.pick (ks:=[2]) (by decide) (aN O bg)) ⟨kM _ _ _ _ jb,trivial⟩⟩)
 ·refine aJ (aa (ai (ax O ?_)))
  obtain⟨c,o,H⟩:=bnd H
  refine gG [3] [emp] (U:=(Option Addr×Nat)) (fun u=>(sL u.1 c u.2)) (fun u=>cO u.1 c.length u.2) (fun u=>[ow u.1 u.2 111 aB c]) O (aN O bg) (fun _=>O) (wn O) O Tryz.call48 (aj O aG) (fun W hW hp hE=>jI N p0 d f (h.ext (hW.dU hp)) c o hE) ?_
  intro u hu
  obtain⟨a,b⟩:=u
  have i:=hu
  have g:cO a c.length b:=i --@phi
  dsimp only
  refine Tr.k O (Tr.k O (ae (aa (aO ?_))))
  obtain rfl:=oI H
  exact bL (m:=[sL a c b,iv 0]) [] (aU O (aU O bD)) (fun W hW=>⟨(a,b),O,g,HF.ry leB (hW.pick (ks:=[3]) (by decide) (aN O bg)) ⟨kM _ _ _ _ jb,trivial⟩⟩)

theorem wQ{w:Bs}(p0:Bool)(p1:Bool)(r:Bool)(H:lY p0 p1=some r)(hE:HF w w.W E0):Calls Tryz.prog 55 [bV p0,bV p1].toArray w.W fun e W'=>e= .returned (bV r)∧HF w W' E0:=by
 unfold lY at H
 have leB:=Bs.Le.refl w
 refine aV (n:=9) Tryz.func55 O O O hE (ai (Tr.k O (ae (aa (ai (ax O (ax O (bP 2 [(8,bV (p0&&p1))] [] ?_ ?_))))))))
 ·cases a:p0
  ·exact Tr.ps O (ay aZ O O (ae (aS (.r O) .nil)))
  ·exact bH run_move O (ay aW O O (ae (aS (.r O) .nil)))
 ·show Tr _ _ (LF [(8,bV (p0&&p1))]) (LE []) _
  refine Tr.k O (ae (aa (aO ?_)))
  obtain rfl:=oI H
  exact cB leB

theorem yo(N:Nat){w:Bs}(p0:(List aQ))(d:Option Addr)(f:Nat)(l:Sl w.O w.W aY d f p0)(p1:(List aQ))(g:Option Addr)(h:Nat)(o:Sl w.O w.W aY g h p1)(r:(List aQ))(H:pu N p0 p1=some r)(hE:HF w w.W (iZ [emp])):Calls Tryz.prog 24 [sL d p0 f,sL g p1 h].toArray w.W fun e W'=>∃(w':Bs) (u:(Option Addr×Nat)),w.Le w'∧e= .returned (sL u.1 r u.2)∧(cO u.1 r.length u.2)∧HF w' W' (iZ [ow u.1 u.2 123 aY r]):=by
 unfold pu at H
 have leB:=Bs.Le.refl w
 refine aV (n:=8) Tryz.func24 O O O hE (ai (Tr.k O (bC 1 123 aY ?_)))
 show Tr _ _ (uf _ 4 (sL none (([]:List aQ)) 0)) _ _
 refine ae (aa (ai (ax O (ax O ?_))))
 obtain⟨c,p,H⟩:=bnd H
 refine eZ [2] [emp] (U:=(Option Addr×Nat)) (fun u=>(sL u.1 c u.2)) (fun a0 W u=>cO u.1 c.length u.2) (fun u=>[ow u.1 u.2 123 aY c]) O (aN O bg) (fun _=>O) (wn O) O Tryz.call54 (aj O (aj O (aj O aG))) (fun W hW hp hE=>vw N p0 d f (l.kC (hW.dU hp)) p1 g h (o.kC (hW.dU hp)) (fun z0 z1=>lY z0 z1) 55 [] Tryz.call55 (fun w' he z0 z1 y hy=>wQ z0 z1 y hy (HF.start _)) c p hE) ?_
 intro w u q hu
 obtain⟨a,b⟩:=u
 have j:=hu
 replace leB:=leB.trans q
 have i:cO a c.length b:=j --@phi
 dsimp only
 refine Tr.k O (ae (aa (aO ?_)))
 obtain rfl:=oI H
 exact bL (m:=[sL a c b]) [] (aU O bD) (fun W hW=>⟨w,(a,b),leB,O,i,hW.pick (ks:=[2]) (by decide) (aN O bg)⟩)

theorem yn(N:Nat){w:Bs}(p0:(List au))(v:Option Addr)(y:Nat)(I:Sl w.R w.W aB v y p0)(p1:(List au))(z:Option Addr)(A:Nat)(B:Sl w.R w.W aB z A p1)(r:((List au)×Int))(H:oZ N p0 p1=some r)(hE:HF w w.W (iZ [emp])):Calls Tryz.prog 23 [sL v p0 y,sL z p1 A,.func (.func 24) #[] #[]].toArray w.W fun e W'=>∃u:(Option Addr×Nat),e= .returned (.tuple #[sL u.1 r.1 u.2,iv r.2])∧(cO u.1 r.1.length u.2)∧HF w W' (iZ [ow u.1 u.2 111 aB r.1]):=by
 unfold oZ at H
 have leB:=Bs.Le.refl w
 refine aV (n:=29) Tryz.func23 O O O hE (ai (Tr.k O (bC 1 111 aB ?_)))
 show Tr _ _ (uf _ 6 (sL none (([]:List au)) 0)) _ _
 refine Tr.k O (ae (aa (av (ai (ax O ?_)))))
 obtain⟨E,S,H⟩:=bnd H
 refine bu (r:=(iv E)) (wn O) O Tryz.call38 (aj O aG) (fun W hW=>jv N p0 v y (I.ext hW.bU) E S (HF.start _)) (Tr.k O (ae (aa (ai (ax O (ay fM O O (ae (aa (aT O H (fun H=>?_) (fun H=>?_))))))))))
 ·refine ai (ax O (Tr.k O (bC 2 111 aB ?_)))
  show Tr _ _ (uf _ 6 (sL none (([]:List au)) 0)) _ _
  refine Tr.k O (ae (aa (aO (aD ?_))))
  obtain rfl:=oI H
  exact bL (m:=[sL none (([]:List au)) 0,iv E]) [] (aU O (aU O bD)) (fun W hW=>⟨(none,0),O,gZ,HF.ry leB (hW.pick (ks:=[2]) (by decide) (aN O bg)) ⟨kM _ _ _ _ jb,trivial⟩⟩)
 ·refine aJ (aa (av (ai (ax O ?_))))
  obtain⟨F,T,H⟩:=bnd H
  refine bu (r:=(iv F)) (wn O) O Tryz.call38 (aj O aG) (fun W hW=>jv N p1 z A (B.ext hW.bU) F T (HF.start _)) (Tr.k O (ae (aa (ai (ax O (ay fM O O (ae (aa (aT O H (fun H=>?_) (fun H=>?_))))))))))
  ·refine ai (ax O (Tr.k O (bC 3 111 aB ?_)))
   show Tr _ _ (uf _ 6 (sL none (([]:List au)) 0)) _ _
   refine Tr.k O (ae (aa (aO (aD ?_))))
   obtain rfl:=oI H
   exact bL (m:=[sL none (([]:List au)) 0,iv F]) [] (aU O (aU O bD)) (fun W hW=>⟨(none,0),O,gZ,HF.ry leB (hW.pick (ks:=[3]) (by decide) (aN O bg)) ⟨kM _ _ _ _ jb,trivial⟩⟩)
  ·refine aJ (aa (ai (ax O (ax O ?_))))
   obtain⟨g,V,H⟩:=bnd H
   refine eZ [4] [emp] (U:=(Option Addr×Nat)) (fun u=>(sL u.1 g u.2)) (fun a6 W u=>cO u.1 g.length u.2) (fun u=>[ow u.1 u.2 123 aY g]) O (aN O bg) (fun _=>O) (wn O) O Tryz.call47 (aj O aG) (fun W hW hp hE=>jm N p0 v y (I.ext (hW.dU hp)) g V hE) ?_
   intro w u J hu
   obtain⟨j,l⟩:=u
   have L:=hu
   replace B:=B.kL J
   replace leB:=leB.trans J
   have a3:cO j g.length l:=L --@phi
   dsimp only
   refine ax O ?_
   obtain⟨h,X,H⟩:=bnd H
   refine eZ [5] [emp] (U:=(Option Addr×Nat)) (fun u=>(sL u.1 h u.2)) (fun a6 W u=>cO u.1 h.length u.2) (fun u=>[ow u.1 u.2 123 aY h]) O (aN O bg) (fun _=>O) (wn O) O Tryz.call47 (aj O aG) (fun W hW hp hE=>jm N p1 z A (B.ext (hW.dU hp)) h X hE) ?_
   intro w u Z hu
   obtain⟨o,p⟩:=u
   have M:=hu
   replace leB:=leB.trans Z
   have a4:cO o h.length p:=M --@phi
   dsimp only
   refine Tr.freeze 4 O fun w a0 t=>?_
   replace leB:=leB.trans a0
   refine Tr.freeze 5 O fun w K C=>?_
   replace t:=t.le K
   replace leB:=leB.trans K
   obtain⟨i,a1,H⟩:=bnd H
   refine El [6] [emp] (U:=(Option Addr×Nat)) (fun u=>(sL u.1 i u.2)) (fun a6 W u=>cO u.1 i.length u.2) (fun u=>[ow u.1 u.2 123 aY i]) O (aN O bg) (fun _=>O) (wn O) O O Tryz.call24 (aj O (aj O aG)) (fun W hW hp hE=>yo N g j l (t.kC (hW.dU hp)) h o p (C.kC (hW.dU hp)) i a1 hE) ?_
   intro w u D hu
   obtain⟨q,s⟩:=u
   have P:=hu
   replace t:=t.le D
   replace C:=C.le D
   replace leB:=leB.trans D
   have a5:cO q i.length s:=P --@phi
   dsimp only
   obtain⟨b,a2,H⟩:=bnd H
   refine gG [7] [emp] (U:=(Option Addr×Nat)) (fun u=>(.tuple #[sL u.1 b.1 u.2,iv b.2])) (fun u=>cO u.1 b.1.length u.2) (fun u=>[ow u.1 u.2 111 aB b.1]) O (aN O bg) (fun _=>O) (wn O) O Tryz.call53 (aj O aG) (fun W hW hp hE=>xJ N i q s (hW.Ha (k:=6) O hp O) b a2 hE) ?_
   intro u hu
   obtain⟨c,f⟩:=u
   have Q:=hu
   have G:cO c b.1.length f:=Q --@phi
   dsimp only
   refine aC O (fun _ _ a d=>bA (a.ev O) O) (aC O (fun _ _ a d=>bA (a.ev O) O) (Tr.k O (Tr.k O (ae (aa (aO ?_))))))
   obtain rfl:=oI H
   exact bL (m:=[sL c b.1 f,iv b.2]) [] (aU O (aU O bD)) (fun W hW=>⟨(c,f),O,G,HF.ry leB (hW.pick (ks:=[7]) (by decide) (aN O bg)) ⟨kM _ _ _ _ jb,trivial⟩⟩)

theorem Bu(N:Nat){w:Bs}(p0:(List au))(g:Option Addr)(h:Nat)(p:Sl w.R w.W aB g h p0)(p1:(List au))(i:Option Addr)(j:Nat)(q:Sl w.R w.W aB i j p1)(r:((List au)×Int))(H:pz N p0 p1=some r)(hE:HF w w.W (iZ [emp])):Calls Tryz.prog 11 [sL g p0 h,sL i p1 j].toArray w.W fun e W'=>∃u:(Option Addr×Nat),e= .returned (.tuple #[sL u.1 r.1 u.2,iv r.2])∧(cO u.1 r.1.length u.2)∧HF w W' (iZ [ow u.1 u.2 111 aB r.1]):=by
 unfold pz at H
 have leB:=Bs.Le.refl w
 refine aV (n:=11) Tryz.func11 O O O hE (ai (Tr.k O (bC 1 111 aB ?_)))
 show Tr _ _ (uf _ 4 (sL none (([]:List au)) 0)) _ _
 refine Tr.k O (ae (aa (ai (ax O (ax O ?_)))))
 obtain⟨b,s,H⟩:=bnd H
 refine gG [2] [emp] (U:=(Option Addr×Nat)) (fun u=>(.tuple #[sL u.1 b.1 u.2,iv b.2])) (fun u=>cO u.1 b.1.length u.2) (fun u=>[ow u.1 u.2 111 aB b.1]) O (aN O bg) (fun _=>O) (wn O) O Tryz.call23 (aj O (aj O (aj O aG))) (fun W hW hp hE=>yn N p0 g h (p.ext (hW.dU hp)) p1 i j (q.ext (hW.dU hp)) b s hE) ?_
 intro u hu
 obtain⟨c,f⟩:=u
 have o:=hu
 have l:cO c b.1.length f:=o --@phi
 dsimp only
 refine aC O (fun _ _ a d=>bA (a.ev O) O) (aC O (fun _ _ a d=>bA (a.ev O) O) (Tr.k O (Tr.k O (ae (aa (aO ?_))))))
 obtain rfl:=oI H
 exact bL (m:=[sL c b.1 f,iv b.2]) [] (aU O (aU O bD)) (fun W hW=>⟨(c,f),O,l,HF.ry leB (hW.pick (ks:=[2]) (by decide) (aN O bg)) ⟨kM _ _ _ _ jb,trivial⟩⟩)

theorem qX(N :Nat){w:Bs}(hT:Dx Tryz.prog w)(p0:gp)(P:Option Addr)(Q:Nat)(g9:Sl w.R w.W iW P Q p0.Classes)(S:Option Addr)(T:Nat)(h0:Sl w.R w.W jh S T p0.Areas)(p1:nU)(b:Option Addr)(c:Nat)(I:Sl w.O w.W dF b c p1.Coppers)(f:Option Addr)(g:Nat)(J:Sl w.O w.W aB f g p1.Outline)(i:Option Addr)(j:Nat)(K:Sl w.O w.W dY i j p1.Bores)(l:Option Addr)(o:Nat)(L:Sl w.O w.W eH l o p1.Lands)(p2:(List ByteArray))(c3:Option Addr)(c4:Nat)(e8:Sl w.R w.W mD c3 c4 p2)(r:Bool)(H:iN N p0 p1 p2=some r)(hE:HF w w.W E0):Calls Tryz.prog 3 [.agg #[iv p0.Clearance,iv p0.Width,iv p0.Ring,iv p0.Edge,iv p0.HoleGap,sL P p0.Classes Q,sL S p0.Areas T],.agg #[sL b p1.Coppers c,sL f p1.Outline g,sL i p1.Bores j,sL l p1.Lands o],sL c3 p2 c4].toArray w.W fun e W'=>e= .returned (bV r)∧HF w W' E0:=by
 unfold iN at H
 have leB:=Bs.Le.refl w
 refine aV (n:=135) Tryz.func3 O O O hE (ai (fw 1 (cs:=[iv p0.Clearance,iv p0.Width,iv p0.Ring,iv p0.Edge,iv p0.HoleGap,sL P p0.Classes Q,sL S p0.Areas T]) (wn O) O O O fun a6=>(fw 2 (cs:=[sL b p1.Coppers c,sL f p1.Outline g,sL i p1.Bores j,sL l p1.Lands o]) (wn O) O O O fun z=>(Tr.k O (ae (aa (ai (aH (ag BG) O (aC O (fun _ _ a d=>ah bG (a.ev O) (bR d (vs:=[iv p0.Clearance,iv p0.Width,iv p0.Ring,iv p0.Edge,iv p0.HoleGap,sL P p0.Classes Q,sL S p0.Areas T]) (k:=1) O 0) O) (ko (vs:=[(0,iv p0.Clearance)]) (cs:=[iv p0.Clearance,iv 0,iv 0,iv 0,iv 0,.slice none 0 0,.slice none 0 0]) (wn O) O (bz O dE) (by kernel_rfl) (Tr.alloc 3 (wn O) O QB fun A=>(bF 3 (cs:=[iv p0.Clearance,iv 0,iv 0,iv 0,iv 0,.slice none 0 0,.slice none 0 0]) [iv p0.Clearance,iv 0,iv 0,iv 0,iv 0,.slice none 0 0,.slice none 0 0] (wn O) O O O O yu O O O ?_))))))))))))
 refine ae (aa (ai (aC O (fun _ _ a d=>aM (cs:=[iv p0.Clearance,iv 0,iv 0,iv 0,iv 0,.slice none 0 0,.slice none 0 0]) zQ yu (a.ev O) (aF.take (bR d (vs:=[iv p0.Clearance,iv 0,iv 0,iv 0,iv 0,.slice none 0 0,.slice none 0 0]) (k:=3) O 0) 7) O) (aC O (fun _ _ a d=>aM (cs:=[sL b p1.Coppers c,sL f p1.Outline g,sL i p1.Bores j,sL l p1.Lands o]) uZ uP (a.ev O) (aF.take (bR d (vs:=[sL b p1.Coppers c,sL f p1.Outline g,sL i p1.Bores j,sL l p1.Lands o]) (k:=2) O 0) 4) O) (ax O ?_)))))
 obtain⟨F,e9,H⟩:=bnd H
 refine eZ [] [] (U:=(Option Addr×Nat)) (fun u=>(.tuple #[sL u.1 F.1 u.2,iv F.2])) (fun a' W u=>Sl a' W iE u.1 u.2 F.1) (fun u=>[]) O bg (fun _=>O) (wn O) O Tryz.call4 (aj O (aj O (aj O aG))) (fun W hW hp hE=>AR N (hT.ext (hW.dU hp)) (gp.mk p0.Clearance 0 0 0 0 [] []) none 0 (Sl.nil _ _ _) none 0 (Sl.nil _ _ _) p1 b c (I.kC (hW.dU hp)) f g (J.kC (hW.dU hp)) i j (K.kC (hW.dU hp)) l o (L.kC (hW.dU hp)) p2 c3 c4 (e8.ext (hW.dU hp)) F e9 hE) ?_
 intro w u a8 hu
 obtain⟨a9,b0⟩:=u
 have c8:=hu
 replace hT:=hT.ext a8.ext
 replace I:=I.le a8
 replace J:=J.le a8
 replace K:=K.le a8
 replace L:=L.le a8
 replace leB:=leB.trans a8
 have b9:Sl w.O w.W iE a9 b0 F.1:=c8 --@phi
 dsimp only
 refine ax O (aC O (fun _ _ a d=>bA (a.ev O) O) (aC O (fun _ _ a d=>bA (a.ev O) O) (Tr.k O (Tr.k O (ae (aa (av (ai (ax O (ay fM O O (ax O (bP 4 [(4,pV z),(7,pV A),(8,sL a9 F.1 b0),(9,iv F.2),(38,bV ((F.2 !=0)||(decide (0<(F.1.length:Int)))))] [(1,bx a6 #[iv p0.Clearance,iv p0.Width,iv p0.Ring,iv p0.Edge,iv p0.HoleGap,sL P p0.Classes Q,sL S p0.Areas T] 25),(2,bx z #[sL b p1.Coppers c,sL f p1.Outline g,sL i p1.Bores j,sL l p1.Lands o] 31),(3,bx A #[iv p0.Clearance,iv 0,iv 0,iv 0,iv 0,.slice none 0 0,.slice none 0 0] 25)] ?_ ?_))))))))))))
 ·cases f1:(F.2 !=0)
  ·exact bH run_move O (bH (bf IB) O (Tr.e2 iG O O (ay aZ O O (ae (aS (.r O) (.r O))))))
  ·exact Tr.ps O (Tr.ps O (Tr.ps O (ay aW O O (ae (aS (.r O) (.r O))))))
 ·show Tr _ _ (LF [(4,pV z),(7,pV A),(8,sL a9 F.1 b0),(9,iv F.2),(38,bV ((F.2 !=0)||(decide (0<(F.1.length:Int)))))]) (LE [(1,bx a6 #[iv p0.Clearance,iv p0.Width,iv p0.Ring,iv p0.Edge,iv p0.HoleGap,sL P p0.Classes Q,sL S p0.Areas T] 25),(2,bx z #[sL b p1.Coppers c,sL f p1.Outline g,sL i p1.Bores j,sL l p1.Lands o] 31),(3,bx A #[iv p0.Clearance,iv 0,iv 0,iv 0,iv 0,.slice none 0 0,.slice none 0 0] 25)]) _
  refine ae (aa (aT O H (fun H=>?_) (fun H=>?_)))
  ·refine ai (ax O (ay iA O O (ax O (bP 4 [(45,bV ((F.2==0)||((F.1.length:Int)==0)))] [(1,bx a6 #[iv p0.Clearance,iv p0.Width,iv p0.Ring,iv p0.Edge,iv p0.HoleGap,sL P p0.Classes Q,sL S p0.Areas T] 25),(2,bx z #[sL b p1.Coppers c,sL f p1.Outline g,sL i p1.Bores j,sL l p1.Lands o] 31),(3,bx A #[iv p0.Clearance,iv 0,iv 0,iv 0,iv 0,.slice none 0 0,.slice none 0 0] 25)] ?_ ?_))))
   ·cases c5:(F.2==0)
    ·exact bH run_move O (bH (bf IB) O (Tr.e2 iA O O (ay aZ O O (ae (aS (.r O) (.r O))))))
    ·exact Tr.ps O (Tr.ps O (Tr.ps O (ay aW O O (ae (aS (.r O) (.r O))))))
   ·show Tr _ _ (LF [(45,bV ((F.2==0)||((F.1.length:Int)==0)))]) (LE [(1,bx a6 #[iv p0.Clearance,iv p0.Width,iv p0.Ring,iv p0.Edge,iv p0.HoleGap,sL P p0.Classes Q,sL S p0.Areas T] 25),(2,bx z #[sL b p1.Coppers c,sL f p1.Outline g,sL i p1.Bores j,sL l p1.Lands o] 31),(3,bx A #[iv p0.Clearance,iv 0,iv 0,iv 0,iv 0,.slice none 0 0,.slice none 0 0] 25)]) _
    refine ax O ?_
    obtain⟨d5,b1,H⟩:=bnd H
    refine bP 2 [(48,bV d5)] [(1,bx a6 #[iv p0.Clearance,iv p0.Width,iv p0.Ring,iv p0.Edge,iv p0.HoleGap,sL P p0.Classes Q,sL S p0.Areas T] 25),(2,bx z #[sL b p1.Coppers c,sL f p1.Outline g,sL i p1.Bores j,sL l p1.Lands o] 31),(3,bx A #[iv p0.Clearance,iv 0,iv 0,iv 0,iv 0,.slice none 0 0,.slice none 0 0] 25)] ?_ ?_
    ·cases c5:((F.2==0)||((F.1.length:Int)==0))
     ·rw[c5] at b1
      rw[if_neg (by decide)] at b1
      have H:=b1
      obtain rfl:=oI H
      exact Tr.ps O (ay aZ O O (ae (aS (.r O) (.r O))))
     ·rw[c5] at b1
      rw[if_pos O] at b1
      have H:=b1
      obtain⟨d6,f2,H⟩:=bnd H
      refine bu (r:=(bV d6)) (wg O O O) O Tryz.call5 aG (fun W hW=>qA N (hT.ext hW.bU) d6 f2 (HF.start _)) (ay aW O O ?_)
      obtain rfl:=oI H
      exact ae (aS (.r O) (.r O))
    ·show Tr _ _ (LF [(48,bV d5)]) (LE [(1,bx a6 #[iv p0.Clearance,iv p0.Width,iv p0.Ring,iv p0.Edge,iv p0.HoleGap,sL P p0.Classes Q,sL S p0.Areas T] 25),(2,bx z #[sL b p1.Coppers c,sL f p1.Outline g,sL i p1.Bores j,sL l p1.Lands o] 31),(3,bx A #[iv p0.Clearance,iv 0,iv 0,iv 0,iv 0,.slice none 0 0,.slice none 0 0] 25)]) _
     refine Tr.k O (ae (aa (aO (aD ?_))))
     obtain rfl:=oI H
     exact cB leB
  ·refine aJ (aa (ai (aC O (fun _ _ a d=>aM (cs:=[sL b p1.Coppers c,sL f p1.Outline g,sL i p1.Bores j,sL l p1.Lands o]) uZ uP (a.ev O) (aF.take (bR d (vs:=[sL b p1.Coppers c,sL f p1.Outline g,sL i p1.Bores j,sL l p1.Lands o]) (k:=2) O 0) 4) O) ?_)))
   obtain⟨t,f3,H⟩:=bnd H
   refine gG [4] [emp] (U:=(Option Addr×Nat)) (fun u=>(.tuple #[sL u.1 t.1 u.2,iv t.2])) (fun u=>cO u.1 t.1.length u.2) (fun u=>[ow u.1 u.2 50 eP t.1]) O (aN O bg) (fun _=>O) (wn O) O Tryz.call6 (aj O aG) (fun W hW hp hE=>yY N (hT.ext (hW.dU hp)) p1 b c (I.kC (hW.dU hp)) f g (J.kC (hW.dU hp)) i j (K.kC (hW.dU hp)) l o (L.kC (hW.dU hp)) t f3 hE) ?_
   intro u hu
   obtain⟨p,q⟩:=u
   have c9:=hu
   have c0:cO p t.1.length q:=c9 --@phi
   dsimp only
   refine ax O (aC O (fun _ _ a d=>bA (a.ev O) O) (aC O (fun _ _ a d=>bA (a.ev O) O) (Tr.k O (Tr.k O (ae (aa (ai (aC O (fun _ _ a d=>aM (cs:=[sL b p1.Coppers c,sL f p1.Outline g,sL i p1.Bores j,sL l p1.Lands o]) uZ uP (a.ev O) (aF.take (bR d (vs:=[sL b p1.Coppers c,sL f p1.Outline g,sL i p1.Bores j,sL l p1.Lands o]) (k:=2) O 0) 4) O) ?_))))))))
   obtain⟨B,f4,H⟩:=bnd H
   refine eZ [] [] (U:=(Option Addr×Nat)) (fun u=>(.tuple #[sL u.1 B.1 u.2,iv B.2])) (fun a' W u=>Sl a' W dw u.1 u.2 B.1) (fun u=>[]) O bg (fun _=>O) (wn O) O Tryz.call7 (aj O aG) (fun W hW hp hE=>yZ N (hT.ext (hW.dU hp)) p1 b c (I.kC (hW.dU hp)) f g (J.kC (hW.dU hp)) i j (K.kC (hW.dU hp)) l o (L.kC (hW.dU hp)) B f4 hE) ?_
   intro w u a5 hu
   obtain⟨C,D⟩:=u
   have d0:=hu
   replace hT:=hT.ext a5.ext
   replace I:=I.le a5
   replace J:=J.le a5
   replace K:=K.le a5
   replace L:=L.le a5
   replace b9:=b9.le a5
   replace leB:=leB.trans a5
   have M:Sl w.O w.W dw C D B.1:=d0 --@phi
   dsimp only
   refine ax O (aC O (fun _ _ a d=>bA (a.ev O) O) (aC O (fun _ _ a d=>bA (a.ev O) O) (Tr.k O (Tr.k O (ae (aa (av (ai (ax O (ay fM O O (ax O (bP 3 [(4,pV z),(7,pV A),(10,sL p t.1 q),(11,sL C B.1 D),(64,bV ((t.2 !=0)||(B.2 !=0)))] [(1,bx a6 #[iv p0.Clearance,iv p0.Width,iv p0.Ring,iv p0.Edge,iv p0.HoleGap,sL P p0.Classes Q,sL S p0.Areas T] 25),(2,bx z #[sL b p1.Coppers c,sL f p1.Outline g,sL i p1.Bores j,sL l p1.Lands o] 31),(3,bx A #[iv p0.Clearance,iv 0,iv 0,iv 0,iv 0,.slice none 0 0,.slice none 0 0] 25),(4,ow p q 50 eP t.1)] ?_ ?_))))))))))))
   ·cases f1:(t.2 !=0)
    ·exact bH run_move O (Tr.e2 fM O O (ay aZ O O (ae (aS (.r O) (.r O)))))
    ·exact Tr.ps O (Tr.ps O (ay aW O O (ae (aS (.r O) (.r O)))))
   ·show Tr _ _ (LF [(4,pV z),(7,pV A),(10,sL p t.1 q),(11,sL C B.1 D),(64,bV ((t.2 !=0)||(B.2 !=0)))]) (LE [(1,bx a6 #[iv p0.Clearance,iv p0.Width,iv p0.Ring,iv p0.Edge,iv p0.HoleGap,sL P p0.Classes Q,sL S p0.Areas T] 25),(2,bx z #[sL b p1.Coppers c,sL f p1.Outline g,sL i p1.Bores j,sL l p1.Lands o] 31),(3,bx A #[iv p0.Clearance,iv 0,iv 0,iv 0,iv 0,.slice none 0 0,.slice none 0 0] 25),(4,ow p q 50 eP t.1)]) _
    refine ae (aa (aT O H (fun H=>?_) (fun H=>?_)))
    ·refine ai (Tr.k O (ae (aa (aO (aD ?_)))))
     obtain rfl:=oI H
     exact cB leB
    ·refine aJ (aa (av (ai (Tr.k O (ae (aa (Tr.block (bO (σ:=Int) (fun m w s=>bZ N p0 p1 t B m s=some r) (fun s=>[(4,pV z),(7,pV A),(10,sL p t.1 q),(11,sL C B.1 D),(13,iv s)]) (fun s=>[(2,bx z #[sL b p1.Coppers c,sL f p1.Outline g,sL i p1.Bores j,sL l p1.Lands o] 31),(3,bx A #[iv p0.Clearance,iv 0,iv 0,iv 0,iv 0,.slice none 0 0,.slice none 0 0] 25),(4,ow p q 50 eP t.1)]) N 0 H (.r O) (.r O) (fun _ _ h=>mW (h)) ?_))))))))
     intro w X d7 V hs
     have H:=hs
     replace H:bZ N p0 p1 t B (d7+1) V=some r:=H
     replace hT:=hT.ext X.ext
     replace I:=I.le X
     replace J:=J.le X
     replace K:=K.le X
     replace L:=L.le X
     replace M:=M.le X
     replace leB:=leB.trans X
     rw[bZ.eq_2] at H
     show Tr _ _ (LF [(4,pV z),(7,pV A),(10,sL p t.1 q),(11,sL C B.1 D),(13,iv V)]) (LE [(2,bx z #[sL b p1.Coppers c,sL f p1.Outline g,sL i p1.Bores j,sL l p1.Lands o] 31),(3,bx A #[iv p0.Clearance,iv 0,iv 0,iv 0,iv 0,.slice none 0 0,.slice none 0 0] 25),(4,ow p q 50 eP t.1)]) _
     refine av (ai (ax O (ax O (aH (bf KN) O (ay aR O O (ae (aa (aT O H (fun H=>?_) (fun H=>?_)))))))))
     ·refine aJ (aa (av (Tr.block (ai (aC O (fun _ _ a d=>aM (cs:=[sL b p1.Coppers c,sL f p1.Outline g,sL i p1.Bores j,sL l p1.Lands o]) uZ uP (a.ev O) (aF.take (bR d (vs:=[sL b p1.Coppers c,sL f p1.Outline g,sL i p1.Bores j,sL l p1.Lands o]) (k:=2) O 0) 4) O) (ax O ?_))))))
      obtain⟨a7,f5,H⟩:=bnd H
      refine eZ [] [] (U:=(Option Addr×Nat)) (fun u=>(.tuple #[sL u.1 a7.1 u.2,iv a7.2])) (fun a' W u=>Sl a' W aB u.1 u.2 a7.1) (fun u=>[]) O bg (fun _=>O) (wn O) O Tryz.call8 (aj O (aj O aG)) (fun W hW hp hE=>qC N (hT.ext (hW.dU hp)) p1 b c (I.kC (hW.dU hp)) f g (J.kC (hW.dU hp)) i j (K.kC (hW.dU hp)) l o (L.kC (hW.dU hp)) V a7 f5 hE) ?_
      intro w u a4 hu
      obtain⟨b3,b4⟩:=u
      have d1:=hu
      replace hT:=hT.ext a4.ext
      replace I:=I.le a4
      replace J:=J.le a4
      replace K:=K.le a4
      replace L:=L.le a4
      replace M:=M.le a4
      replace leB:=leB.trans a4
      replace X:=X.trans a4
      have c6:Sl w.O w.W aB b3 b4 a7.1:=d1 --@phi
      dsimp only
      refine ax O (aC O (fun _ _ a d=>bA (a.ev O) O) (aC O (fun _ _ a d=>bA (a.ev O) O) (Tr.k O (Tr.k O (ae (aa (av (ai (ax O (ay fM O O (ae (aa (aT O H (fun H=>?_) (fun H=>?_))))))))))))))
      ·refine ai (Tr.k O (ae (aa (aO (aD (bq (aD (aD (bq (aD ?_))))))))))
       obtain rfl:=oI H
       exact cB leB
      ·refine aJ (aa (ai (ax O (aH (ag BG) O (aC O (fun _ _ a d=>ah bG (a.ev O) (bR d (vs:=[iv p0.Clearance,iv 0,iv 0,iv 0,iv 0,.slice none 0 0,.slice none 0 0]) (k:=3) O 0) O) ?_)))))
       obtain⟨E,f6,H⟩:=bnd H
       refine gG [13] [emp] (U:=(Option Addr×Nat)) (fun u=>(.tuple #[sL u.1 E.1 u.2,iv E.2])) (fun u=>cO u.1 E.1.length u.2) (fun u=>[ow u.1 u.2 111 aB E.1]) O (aN O bg) (fun _=>O) (wn O) O Tryz.call9 (aj O (aj O aG)) (fun W hW hp hE=>Bt N a7.1 b3 b4 (c6.rl.ext (hW.dU hp)) p0.Clearance E f6 hE) ?_
       intro u hu
       obtain⟨v,y⟩:=u
       have d2:=hu
       have g3:cO v E.1.length y:=d2 --@phi
       dsimp only
       refine ax O (aC O (fun _ _ a d=>bA (a.ev O) O) (aC O (fun _ _ a d=>bA (a.ev O) O) (Tr.k O (Tr.k O (ae (aa (av (ai (ax O (ay fM O O (ae (aa (aT O H (fun H=>?_) (fun H=>?_))))))))))))))
       ·exact bK (aA (aP (aa (Tr.region (ax O (ay bB O O (Tr.k O (ae (aI X (bJ (V+1)) H (.r O) (.r O))))))))))
       ·refine aJ (aa (ai (Tr.k O (ae (aa (Tr.block (bO (σ:=Int) (fun m w s=>dL N p1 t B V (bZ N p0 p1 t B d7) E m s=some r) (fun s=>[(4,pV z),(7,pV A),(10,sL p t.1 q),(11,sL C B.1 D),(13,iv V),(16,sL v E.1 y),(17,iv s)]) (fun s=>[(2,bx z #[sL b p1.Coppers c,sL f p1.Outline g,sL i p1.Bores j,sL l p1.Lands o] 31),(3,bx A #[iv p0.Clearance,iv 0,iv 0,iv 0,iv 0,.slice none 0 0,.slice none 0 0] 25),(4,ow p q 50 eP t.1),(13,ow v y 111 aB E.1)]) N 0 H (.r O) (.r O) (fun _ _ h=>mW (h)) ?_)))))))
        intro w a1 g8 a2 hs
        have H:=hs
        replace H:dL N p1 t B V (bZ N p0 p1 t B d7) E (g8+1) a2=some r:=H
        replace hT:=hT.ext a1.ext
        replace I:=I.le a1
        replace J:=J.le a1
        replace K:=K.le a1
        replace L:=L.le a1
        replace M:=M.le a1
        replace leB:=leB.trans a1
        replace X:=X.trans a1
        rw[dL.eq_2] at H
        show Tr _ _ (LF [(4,pV z),(7,pV A),(10,sL p t.1 q),(11,sL C B.1 D),(13,iv V),(16,sL v E.1 y),(17,iv a2)]) (LE [(2,bx z #[sL b p1.Coppers c,sL f p1.Outline g,sL i p1.Bores j,sL l p1.Lands o] 31),(3,bx A #[iv p0.Clearance,iv 0,iv 0,iv 0,iv 0,.slice none 0 0,.slice none 0 0] 25),(4,ow p q 50 eP t.1),(13,ow v y 111 aB E.1)]) _
        refine av (ai (ax O (ax O (aH (bf KN) O (ay aR O O (ae (aa (aT O H (fun H=>?_) (fun H=>?_)))))))))
        ·refine aJ (aa (av (Tr.block (av (av (ji (by kernel_rfl) (by kernel_rfl) (eY O (eY O ?_))))))))
         obtain⟨g4,f7,H⟩:=bnd H
         obtain⟨d8,d9,e0⟩:=bi f7
         refine bv O (fun _ _ a d=>ak O9 (a.ev O) c0 (a.ev O) d8 d9) (dA (ag Jf) O (bv O (fun _ _ a d=>ah bG (a.ev O) (aF.drop (zY zL (k:=4) d O e0) 0) O) (eY O (eY O ?_))))
         obtain⟨g5,f8,H⟩:=bnd H
         obtain⟨e3,e4,e5⟩:=bi f8
         refine bv O (fun _ _ a d=>ak O9 (a.ev O) c0 (a.ev O) e3 e4) (dA (ag Jf) O (bv O (fun _ _ a d=>ah bG (a.ev O) (aF.drop (zY zL (k:=4) d O e5) 0) O) (iU fM O O (eY O ?_))))
         obtain⟨g6,b2,H⟩:=bnd H
         refine qx 5 [(4,pV z),(7,pV A),(10,sL p t.1 q),(11,sL C B.1 D),(13,iv V),(16,sL v E.1 y),(17,iv a2),(110,bV g6)] ?_ ?_
         ·cases b7:(g4.Layer !=g5.Layer)
          ·rw[b7] at b2
           rw[if_neg (by decide)] at b2
           have H:=b2
           refine jA run_move O (jA run_move O (jA run_move O ?_))
           obtain⟨e6,f9,H⟩:=bnd H
           refine jB (r:=(bV e6)) (wg O O O) O Tryz.call10 (aj O (aj O (aj O aG))) (fun W hW=>sD N B.1 C D (M.rl.ext hW.bU) V a2 e6 f9 (HF.start _)) (iU aZ O O ?_)
           obtain rfl:=oI H
           exact bW (.r O)
          ·rw[b7] at b2
           rw[if_pos O] at b2
           have H:=b2
           obtain rfl:=oI H
           exact Tq.ps O (Tq.ps O (Tq.ps O (Tq.ps O (iU aW O O (bW (.r O))))))
         ·refine jD (aa (aT O H (fun H=>?_) (fun H=>?_)))
          ·exact bK (aA (aP (aa (Tr.region (ax O (ay bB O O (Tr.k O (ae (aI a1 (bJ (a2+1)) H (.r O) (.r O))))))))))
          ·refine aJ (aa (ai (aC O (fun _ _ a d=>aM (cs:=[sL b p1.Coppers c,sL f p1.Outline g,sL i p1.Bores j,sL l p1.Lands o]) uZ uP (a.ev O) (aF.take (bR d (vs:=[sL b p1.Coppers c,sL f p1.Outline g,sL i p1.Bores j,sL l p1.Lands o]) (k:=2) O 0) 4) O) (ax O ?_))))
           obtain⟨a3,g0,H⟩:=bnd H
           refine eZ [] [] (U:=(Option Addr×Nat)) (fun u=>(.tuple #[sL u.1 a3.1 u.2,iv a3.2])) (fun a' W u=>Sl a' W aB u.1 u.2 a3.1) (fun u=>[]) O bg (fun _=>O) (wn O) O Tryz.call8 (aj O (aj O aG)) (fun W hW hp hE=>qC N (hT.ext (hW.dU hp)) p1 b c (I.kC (hW.dU hp)) f g (J.kC (hW.dU hp)) i j (K.kC (hW.dU hp)) l o (L.kC (hW.dU hp)) a2 a3 g0 hE) ?_
           intro w u b8 hu
           obtain⟨b5,b6⟩:=u
           have d3:=hu
           replace hT:=hT.ext b8.ext
           replace M:=M.le b8
           replace leB:=leB.trans b8
           replace a1:=a1.trans b8
           have c7:Sl w.O w.W aB b5 b6 a3.1:=d3 --@phi
           dsimp only
           refine ax O (aC O (fun _ _ a d=>bA (a.ev O) O) (aC O (fun _ _ a d=>bA (a.ev O) O) (Tr.k O (Tr.k O (ae (aa (ai (ax O (ax O ?_)))))))))
           obtain⟨G,g1,H⟩:=bnd H
           refine gG [16] [emp] (U:=(Option Addr×Nat)) (fun u=>(.tuple #[sL u.1 G.1 u.2,iv G.2])) (fun u=>cO u.1 G.1.length u.2) (fun u=>[ow u.1 u.2 111 aB G.1]) O (aN O bg) (fun _=>O) (wn O) O Tryz.call11 (aj O (aj O aG)) (fun W hW hp hE=>Bu N E.1 v y (hW.Ha (k:=13) O hp O) a3.1 b5 b6 (c7.rl.ext (hW.dU hp)) G g1 hE) ?_
           intro u hu
           obtain⟨Z,a0⟩:=u
           have d4:=hu
           have g7:cO Z G.1.length a0:=d4 --@phi
           dsimp only
           refine ax O (aC O (fun _ _ a d=>bA (a.ev O) O) (aC O (fun _ _ a d=>bA (a.ev O) O) (Tr.k O (Tr.k O (ae (aa (ai (ax O (ay fM O O (ax O (bP 8 [(4,pV z),(7,pV A),(10,sL p t.1 q),(11,sL C B.1 D),(13,iv V),(16,sL v E.1 y),(17,iv a2),(133,bV ((a3.2 !=0)||((G.2==0)&&(decide (0<(G.1.length:Int))))))] [(2,bx z #[sL b p1.Coppers c,sL f p1.Outline g,sL i p1.Bores j,sL l p1.Lands o] 31),(3,bx A #[iv p0.Clearance,iv 0,iv 0,iv 0,iv 0,.slice none 0 0,.slice none 0 0] 25),(4,ow p q 50 eP t.1),(13,ow v y 111 aB E.1),(16,ow Z a0 111 aB G.1)] ?_ ?_)))))))))))
           ·cases b7:(a3.2 !=0)
            ·refine bH run_move O (Tr.e2 iA O O (bH run_move O (bP 4 [(4,pV z),(7,pV A),(10,sL p t.1 q),(11,sL C B.1 D),(13,iv V),(16,sL v E.1 y),(17,iv a2),(125,bV false),(132,bV ((G.2==0)&&(decide (0<(G.1.length:Int)))))] [(2,bx z #[sL b p1.Coppers c,sL f p1.Outline g,sL i p1.Bores j,sL l p1.Lands o] 31),(3,bx A #[iv p0.Clearance,iv 0,iv 0,iv 0,iv 0,.slice none 0 0,.slice none 0 0] 25),(4,ow p q 50 eP t.1),(13,ow v y 111 aB E.1),(16,ow Z a0 111 aB G.1)] ?_ ?_)))
             ·cases b7:(G.2==0)
              ·exact Tr.ps O (Tr.ps O (Tr.ps O (Tr.e2 aZ O O (ae (aS (.r O) (.r O))))))
              ·exact bH run_move O (bH (bf lS) O (Tr.e2 iG O O (Tr.e2 aW O O (ae (aS (.r O) (.r O))))))
             ·dsimp only
              exact ay aZ O O (ae (aS (.r O) (.r O)))
            ·exact Tr.ps O (Tr.ps O (Tr.ps O (gN O (gN O (gN O (Tr.ps O (ay aW O O (ae (aS (.r O) (.r O))))))))))
           ·show Tr _ _ (LF [(4,pV z),(7,pV A),(10,sL p t.1 q),(11,sL C B.1 D),(13,iv V),(16,sL v E.1 y),(17,iv a2),(133,bV ((a3.2 !=0)||((G.2==0)&&(decide (0<(G.1.length:Int))))))]) (LE [(2,bx z #[sL b p1.Coppers c,sL f p1.Outline g,sL i p1.Bores j,sL l p1.Lands o] 31),(3,bx A #[iv p0.Clearance,iv 0,iv 0,iv 0,iv 0,.slice none 0 0,.slice none 0 0] 25),(4,ow p q 50 eP t.1),(13,ow v y 111 aB E.1),(16,ow Z a0 111 aB G.1)]) _
            refine ae (aa (aT O H (fun H=>?_) (fun H=>?_)))
            ·refine ai (Tr.k O (ae (aa (aO (bq (aD (aD (bq (bq (aD (aD (bq (aD ?_)))))))))))))
             obtain rfl:=oI H
             exact cB leB
            ·exact aJ (aK (aa (Tr.region (ax O (ay bB O O (Tr.k O (ae (aI a1 (bJ (a2+1)) H (.r O) (.r O)))))))))
        ·exact bK (aA (aA (aP (aK (aa (Tr.region (ax O (ay bB O O (Tr.k O (ae (aI X (bJ (V+1)) H (.r O) (.r O))))))))))))
     ·refine bK (aA (aA (aP (aa (ai ?_)))))
      obtain⟨e7,g2,H⟩:=bnd H
      refine bu (r:=(bV e7)) (wn O) O Tryz.call5 aG (fun W hW=>qA N (hT.ext hW.bU) e7 g2 (HF.start _)) (Tr.k O (ae (aa (aO ?_))))
      obtain rfl:=oI H
      exact cB leB

end Go.Proofs.YtkccbhbhdnobhaaGreatDoor
