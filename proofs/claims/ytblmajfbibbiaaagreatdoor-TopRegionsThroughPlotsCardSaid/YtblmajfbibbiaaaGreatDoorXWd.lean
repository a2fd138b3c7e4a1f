/- The walks: each function computes its plain function. -/
import Derived.Test.YtblmajfbibbiaaaGreatDoorXWc
namespace Go.Proofs.YtblmajfbibbiaaaGreatDoor
open Go.RowKit
set_option maxRecDepth 100000
set_option maxHeartbeats 1000000
theorem y8(N:Nat){w:Bs}(hT:Kg Tryz.prog w)(p0:mO)(b:Option Addr)(d:Nat)(a5:Sl w.R w.W aR b d p0.p.Tools)(f:Option Addr)(g:Nat)(h:Option Addr)(i:Nat)(j:List (PE az))(z:SK j p0.open_∧bZ h p0.open_.length i)(o:Nat)(p1:ByteArray)(r:(Bool×Int×Bool×Bool×(List aB)×(List aB)))(H:ko N p0 p1=some r)(hE:HF w w.W (ig [bx o #[iv p0.p.Unit,sL b p0.p.Tools d,sL f p0.p.Steps g,bV p0.unit,sL h p0.open_ i,bV p0.step] 81,ow f g 59 az p0.p.Steps,sk h i 96 59 24 aV j])):Calls Tryz.prog 26 [pV o,sv p1].toArray w.W fun e W'=>∃(w':Bs) (u:(Option Addr×Nat)×(Option Addr×Nat×List (PE az))),w.Le w'∧e= .returned (bV r.1)∧(bZ u.1.1 r.2.2.2.2.1.length u.1.2∧(SK u.2.2.2 r.2.2.2.2.2∧bZ u.2.1 r.2.2.2.2.2.length u.2.2.1))∧HF w' W' (ig [bx o #[iv r.2.1,sL b p0.p.Tools d,sL u.1.1 r.2.2.2.2.1 u.1.2,bV r.2.2.1,sL u.2.1 r.2.2.2.2.2 u.2.2.1,bV r.2.2.2.1] 81,ow u.1.1 u.1.2 59 az r.2.2.2.2.1,sk u.2.1 u.2.2.1 96 59 24 aV u.2.2.2]):=by
 unfold ko at H
 have b0:=(hE.sl (k:=1) Z).form
 have leB:=Bs.Le.refl w
 refine aZ (n:=113) Tryz.func26 Z Z Z hE (ai (Tr.k Z (ae (aa (ai (aA Z ?_))))))
 obtain⟨A,e7,H⟩:=bnd H
 refine gD [3] [emp] (U:=(Option Addr×Nat)) (fun u=>(sL u.1 A u.2)) (fun u=>bZ u.1 A.length u.2) (fun u=>[ow u.1 u.2 9 yR A]) Z (aH Z aY) (fun _=>Z) (wn Z) Z Tryz.call53 (aj Z (aj Z aJ)) (fun W hW hp hE=>BM (hT.ext (hW.gL hp)) p1 (⟨#[32]⟩) A e7 hE) ?_
 intro u hu
 obtain⟨q,l⟩:=u
 have c3:=hu
 have B:bZ q A.length l:=c3 --@phi
 dsimp only
 refine Tr.k Z (ae (aa (av (ai (aA Z ?_)))))
 obtain⟨f8,e8,H⟩:=bnd H
 obtain⟨d2,d3,d4⟩:=aW e8
 refine aG Z (fun _ _ a c=>au zW (a.ev Z) B (a.ev Z) d2 d3) (aG Z (fun _ _ a c=>ah LK (a.ev Z) (yF BG (k:=3) c Z d4) Z) (aC qg Z Z (aA Z ?_)))
 obtain⟨d5,D,H⟩:=bnd H
 refine eD 5 [(0,pV o),(1,sv p1),(5,sL q A l),(21,bV d5)] [(0,bx o #[iv p0.p.Unit,sL b p0.p.Tools d,sL f p0.p.Steps g,bV p0.unit,sL h p0.open_ i,bV p0.step] 81),(1,ow f g 59 az p0.p.Steps),(2,sk h i 96 59 24 aV j),(3,ow q l 9 yR A)] ?_ ?_
 ·cases b4:(sw f8 (⟨#[117,110,105,116]⟩))
  ·rw[b4] at D
   rw[if_neg (by decide)] at D
   have H:=D
   refine dN run_move Z ?_
   obtain⟨g2,e9,H⟩:=bnd H
   obtain⟨d6,d7,d8⟩:=aW e9
   refine Tr.x (fun _ _ a c=>au zW (a.ev Z) B (a.ev Z) d6 d7) (Tr.x (fun _ _ a c=>ah LK (a.ev Z) (yF BG (k:=3) c Z d8) Z) (jM qg Z Z (aC bH Z Z ?_)))
   obtain rfl:=oI H
   exact ae (bA (.r Z) (.r Z))
  ·rw[b4] at D
   rw[if_pos Z] at D
   have H:=D
   obtain rfl:=oI H
   exact bq Z (bq Z (bq Z (bq Z (aC bG Z Z (ae (bA (.r Z) (.r Z)))))))
 ·show Tr _ _ (LF [(0,pV o),(1,sv p1),(5,sL q A l),(21,bV d5)]) (LE [(0,bx o #[iv p0.p.Unit,sL b p0.p.Tools d,sL f p0.p.Steps g,bV p0.unit,sL h p0.open_ i,bV p0.step] 81),(1,ow f g 59 az p0.p.Steps),(2,sk h i 96 59 24 aV j),(3,ow q l 9 yR A)]) _
  refine ae (aa (aP Z H (fun H=>?_) (fun H=>?_)))
  ·refine ai (aA Z (aA Z ?_))
   obtain⟨t,f1,H⟩:=bnd H
   refine dU [0,2] [bx o #[iv p0.p.Unit,sL b p0.p.Tools d,sL f p0.p.Steps g,bV p0.unit,sL h p0.open_ i,bV p0.step] 81,sk h i 96 59 24 aV j] (U:=(Option Addr×Nat×List (PE az))) (fun u=>(bV t.1)) (fun O W u=>(SK u.2.2 t.2.2.2∧bZ u.1 t.2.2.2.length u.2.1)) (fun u=>[bx o #[iv t.2.1,sL b p0.p.Tools d,sL f p0.p.Steps g,bV t.2.2.1,sL u.1 t.2.2.2 u.2.1,bV p0.step] 81,sk u.1 u.2.1 96 59 24 aV u.2.2]) Z (aH Z (aH Z aY)) (fun _=>Z) (wn Z) Z Tryz.call54 (aj Z (aj Z aJ)) (fun W hW hp hE=>y9 p0 b d (a5.ext (hW.gL hp)) f g (hW.Ms (k:=1) Z hp Z) h i j ⟨z.1,z.2⟩ o A q l (hW.Ms (k:=3) Z hp Z) t f1 hE) ?_
   intro w u b5 hu
   obtain⟨E,F,a1⟩:=u
   have c4:=hu
   replace hT:=hT.ext b5.ext
   replace leB:=leB.trans b5
   have a6:(SK a1 t.2.2.2∧bZ E t.2.2.2.length F):=c4 --@phi
   dsimp only
   refine Tr.k Z (ae (aa (bu (bn ?_))))
   obtain rfl:=oI H
   exact Tr.out (m:=[bV t.1]) [] (bM Z bL) (fun W hW=>⟨w,((f,g),(E,F,a1)),leB,Z,⟨b0,⟨a6.1,a6.2⟩⟩,hW.pick (ks:=[0,1,2]) (by decide) (aH Z (aH Z (aH Z aY)))⟩)
  ·refine aO (aa (av (ai (aA Z (aQ fw Z (aQ (ag ER) Z (aG Z (fun _ _ a c=>ah z8 (a.ev Z) (dB c (vs:=[iv p0.p.Unit,sL b p0.p.Tools d,sL f p0.p.Steps g,bV p0.unit,sL h p0.open_ i,bV p0.step]) (k:=0) Z 3) Z) (aQ jc Z (ae (aa (aP Z H (fun H=>?_) (fun H=>?_))))))))))))
   ·refine av ?_
    cases H
   ·refine aO (aa (ai (aA Z (aQ fw Z (aQ (ag UC) Z (bC 0 (cs:=[bV true]) [iv p0.p.Unit,sL b p0.p.Tools d,sL f p0.p.Steps g,bV p0.unit,sL h p0.open_ i,bV true] (wn Z) Z Z Z Z QU Z Z Z (ae (aa (av (Tr.block (ai (aA Z (aC qg Z Z (Tr.k Z (ae (aa (aP Z H (fun H=>?_) (fun H=>?_))))))))))))))))))
    ·refine ai (aA Z (iR (vs:=[(0,iv 1)]) (cs:=[iv 1,sv ⟨#[]⟩,iv 0,iv 0,.slice none 0 0,iv 0,iv 0,.slice none 0 0]) (wn Z) Z (bB Z dH) (by kernel_rfl) ?_))
     obtain⟨v,f2,H⟩:=bnd H
     refine dU [0,1,2] [bx o #[iv p0.p.Unit,sL b p0.p.Tools d,sL f p0.p.Steps g,bV p0.unit,sL h p0.open_ i,bV true] 81,ow f g 59 az p0.p.Steps,sk h i 96 59 24 aV j] (U:=(Option Addr×Nat)×(Option Addr×Nat×List (PE az))) (fun u=>(.tuple #[])) (fun O W u=>bZ u.1.1 v.1.length u.1.2∧(SK u.2.2.2 v.2∧bZ u.2.1 v.2.length u.2.2.1)) (fun u=>[bx o #[iv p0.p.Unit,sL b p0.p.Tools d,sL u.1.1 v.1 u.1.2,bV p0.unit,sL u.2.1 v.2 u.2.2.1,bV true] 81,ow u.1.1 u.1.2 59 az v.1,sk u.2.1 u.2.2.1 96 59 24 aV u.2.2.2]) Z (aH Z (aH Z (aH Z aY))) (fun _=>Z) (wn Z) Z Tryz.call55 (aj Z (aj Z aJ)) (fun W hW hp hE=>qF (mO.mk p0.p p0.unit p0.open_ true) b d (a5.ext (hW.gL hp)) f g h i j ⟨z.1,z.2⟩ o (aB.mk 1 (⟨#[]⟩) (ak.mk 0 0) [] 0 0 []) none 0 (Sl.nil _ _ _) none 0 (Sl.nil _ _ _) v f2 hE) ?_
     intro w u b6 hu
     obtain⟨⟨G,I⟩,⟨J,K,a2⟩⟩:=u
     obtain⟨c5,c6⟩:=hu
     replace hT:=hT.ext b6.ext
     replace leB:=leB.trans b6
     have b1:bZ G v.1.length I:=c5 --@phi
     have a7:(SK a2 v.2∧bZ J v.2.length K):=c6 --@phi
     dsimp only
     refine ae (aa (ai (Tr.k Z (ae (aa (bu (fD (bn ?_))))))))
     obtain rfl:=oI H
     exact Tr.out (m:=[bV true]) [] (bM Z bL) (fun W hW=>⟨w,((G,I),(J,K,a2)),leB,Z,⟨b1,⟨a7.1,a7.2⟩⟩,hW.pick (ks:=[0,1,2]) (by decide) (aH Z (aH Z (aH Z aY)))⟩)
    ·refine ai (aA Z (aC qg Z Z (Tr.k Z (ae (aa (aP Z H (fun H=>?_) (fun H=>?_)))))))
     ·refine ai (aA Z (iR (vs:=[(0,iv 2)]) (cs:=[iv 2,sv ⟨#[]⟩,iv 0,iv 0,.slice none 0 0,iv 0,iv 0,.slice none 0 0]) (wn Z) Z (bB Z dH) (by kernel_rfl) ?_))
      obtain⟨y,f3,H⟩:=bnd H
      refine dU [0,1,2] [bx o #[iv p0.p.Unit,sL b p0.p.Tools d,sL f p0.p.Steps g,bV p0.unit,sL h p0.open_ i,bV true] 81,ow f g 59 az p0.p.Steps,sk h i 96 59 24 aV j] (U:=(Option Addr×Nat)×(Option Addr×Nat×List (PE az))) (fun u=>(.tuple #[])) (fun O W u=>bZ u.1.1 y.1.length u.1.2∧(SK u.2.2.2 y.2∧bZ u.2.1 y.2.length u.2.2.1)) (fun u=>[bx o #[iv p0.p.Unit,sL b p0.p.Tools d,sL u.1.1 y.1 u.1.2,bV p0.unit,sL u.2.1 y.2 u.2.2.1,bV true] 81,ow u.1.1 u.1.2 59 az y.1,sk u.2.1 u.2.2.1 96 59 24 aV u.2.2.2]) Z (aH Z (aH Z (aH Z aY))) (fun _=>Z) (wn Z) Z Tryz.call55 (aj Z (aj Z aJ)) (fun W hW hp hE=>qF (mO.mk p0.p p0.unit p0.open_ true) b d (a5.ext (hW.gL hp)) f g h i j ⟨z.1,z.2⟩ o (aB.mk 2 (⟨#[]⟩) (ak.mk 0 0) [] 0 0 []) none 0 (Sl.nil _ _ _) none 0 (Sl.nil _ _ _) y f3 hE) ?_
      intro w u b7 hu
      obtain⟨⟨L,M⟩,⟨P,Q,a3⟩⟩:=u
      obtain⟨c7,c8⟩:=hu
      replace hT:=hT.ext b7.ext
      replace leB:=leB.trans b7
      have b2:bZ L y.1.length M:=c7 --@phi
      have a8:(SK a3 y.2∧bZ P y.2.length Q):=c8 --@phi
      dsimp only
      refine ae (aa (ai (Tr.k Z (ae (aa (bu (fD (bn ?_))))))))
      obtain rfl:=oI H
      exact Tr.out (m:=[bV true]) [] (bM Z bL) (fun W hW=>⟨w,((L,M),(P,Q,a3)),leB,Z,⟨b2,⟨a8.1,a8.2⟩⟩,hW.pick (ks:=[0,1,2]) (by decide) (aH Z (aH Z (aH Z aY)))⟩)
     ·refine ai (aA Z (aC qg Z Z (Tr.k Z (ae (aa (aP Z H (fun H=>?_) (fun H=>?_)))))))
      ·refine av ?_
       cases H
      ·refine ai (aA Z ?_)
       obtain⟨g3,f4,H⟩:=bnd H
       obtain⟨d9,e0,e3⟩:=aW f4
       refine aG Z (fun _ _ a c=>au zW (a.ev Z) B (a.ev Z) d9 e0) (aG Z (fun _ _ a c=>ah LK (a.ev Z) (yF BG (k:=3) c Z e3) Z) (aC qg Z Z (Tr.k Z (ae (aa (aP Z H (fun H=>?_) (fun H=>?_)))))))
       ·refine av (av ?_)
        cases H
       ·refine aO (aL (aa (ai (aA Z ?_))))
        obtain⟨f9,b8,H⟩:=bnd H
        refine aG Z (fun _ _ a c=>uI zW (a.ev Z) B (a.ev Z) b8) ?_
        obtain⟨C,f5,H⟩:=bnd H
        refine gD [4] [emp] (U:=(Option Addr×Nat)) (fun u=>(.tuple #[sL u.1 C.1 u.2,bV C.2])) (fun u=>bZ u.1 C.1.length u.2) (fun u=>[ow u.1 u.2 3 bP C.1]) Z (aH Z aY) (fun _=>Z) (wn Z) Z Tryz.call57 (aj Z aJ) (fun W hW hp hE=>xB f9 (ve q (1:Int).toNat 1 l) (l-(1:Int).toNat) (Sl.cut (hW.Ms (k:=3) Z hp Z) b8) C f5 hE) ?_
        intro u hu
        obtain⟨S,T⟩:=u
        have c9:=hu
        have g0:bZ S C.1.length T:=c9 --@phi
        dsimp only
        refine aA Z (aG Z (fun _ _ a c=>cu (a.ev Z) Z) (aG Z (fun _ _ a c=>cu (a.ev Z) Z) (Tr.k Z (Tr.k Z (ae (aa (ai (aA Z (aA Z ?_)))))))))
        cases b9:C.2
        ·rw[b9,if_neg (by decide)] at H
         refine bq Z (bq Z (bq Z (bq Z (bq Z (bq Z (aC bH Z Z (Tr.k Z (ae (aa (bu ?_))))))))))
         obtain rfl:=oI H
         exact Tr.out (m:=[bV false]) [] (bM Z bL) (fun W hW=>⟨w,((f,g),(h,i,j)),leB,Z,⟨b0,⟨z.1,z.2⟩⟩,hW.pick (ks:=[0,1,2]) (by decide) (aH Z (aH Z (aH Z aY)))⟩)
        ·rw[b9,if_pos Z] at H
         refine dN run_move Z (dN run_move Z ?_)
         obtain⟨g1,f6,H⟩:=bnd H
         obtain⟨e4,e5,e6⟩:=aW f6
         refine Tr.x (fun _ _ a c=>au zW (a.ev Z) B (a.ev Z) e4 e5) (Tr.x (fun _ _ a c=>ah LK (a.ev Z) (yF BG (k:=3) c Z e6) Z) (dN run_move Z ?_))
         obtain⟨s,f7,H⟩:=bnd H
         refine dU [0,1,2] [bx o #[iv p0.p.Unit,sL b p0.p.Tools d,sL f p0.p.Steps g,bV p0.unit,sL h p0.open_ i,bV true] 81,ow f g 59 az p0.p.Steps,sk h i 96 59 24 aV j] (U:=(Option Addr×Nat)×(Option Addr×Nat×List (PE az))) (fun u=>(bV s.1)) (fun O W u=>bZ u.1.1 s.2.1.length u.1.2∧(SK u.2.2.2 s.2.2∧bZ u.2.1 s.2.2.length u.2.2.1)) (fun u=>[bx o #[iv p0.p.Unit,sL b p0.p.Tools d,sL u.1.1 s.2.1 u.1.2,bV p0.unit,sL u.2.1 s.2.2 u.2.2.1,bV true] 81,ow u.1.1 u.1.2 59 az s.2.1,sk u.2.1 u.2.2.1 96 59 24 aV u.2.2.2]) Z (aH Z (aH Z (aH Z aY))) (fun _=>Z) (wg Z Z Z) Z Tryz.call58 (aj Z (aj Z (aj Z aJ))) (fun W hW hp hE=>wK N (mO.mk p0.p p0.unit p0.open_ true) b d (a5.ext (hW.gL hp)) f g h i j ⟨z.1,z.2⟩ o g1 C.1 S T (hW.Ms (k:=4) Z hp Z) s f7 hE) ?_
         intro w u c0 hu
         obtain⟨⟨V,X⟩,⟨a',a0,a4⟩⟩:=u
         obtain⟨d0,d1⟩:=hu
         replace hT:=hT.ext c0.ext
         replace leB:=leB.trans c0
         have b3:bZ V s.2.1.length X:=d0 --@phi
         have a9:(SK a4 s.2.2∧bZ a' s.2.2.length a0):=d1 --@phi
         dsimp only
         refine aC bG Z Z (Tr.k Z (ae (aa (bu ?_))))
         obtain rfl:=oI H
         exact Tr.out (m:=[bV s.1]) [] (bM Z bL) (fun W hW=>⟨w,((V,X),(a',a0,a4)),leB,Z,⟨b3,⟨a9.1,a9.2⟩⟩,hW.pick (ks:=[0,1,2]) (by decide) (aH Z (aH Z (aH Z aY)))⟩)

theorem G5(N:Nat){w:Bs}(hT:Kg Tryz.prog w)(p0:ByteArray)(r:(ed×Int×Int))(H:uW N p0=some r)(hE:HF w w.W (ig [emp,emp])):Calls Tryz.prog 7 [sv p0].toArray w.W fun e W'=>∃(w':Bs) (u:(Option Addr×Nat)×(Option Addr×Nat)),w.Le w'∧e= .returned (.tuple #[.agg #[iv r.1.Unit,sL u.1.1 r.1.Tools u.1.2,sL u.2.1 r.1.Steps u.2.2],iv r.2.1,iv r.2.2])∧(bZ u.1.1 r.1.Tools.length u.1.2∧bZ u.2.1 r.1.Steps.length u.2.2)∧HF w' W' (ig [ow u.1.1 u.1.2 73 aR r.1.Tools,ow u.2.1 u.2.2 59 az r.1.Steps]):=by
 unfold uW at H
 have leB:=Bs.Le.refl w
 refine aZ (n:=66) Tryz.func7 Z Z Z hE (ai (Tr.alloc 1 (wn Z) Z BU fun z=>(Tr.k Z (Tr.k Z (ae (aa (av (ai (aA Z (aQ (wh G7) Z (aC jd Z Z (ae (aa (aP Z H (fun H=>?_) (fun H=>?_)))))))))))))))
 ·refine av ?_
  cases H
 ·refine aO (aa (ai (iR (vs:=[]) (cs:=[iv 0,.slice none 0 0,.slice none 0 0,bV false,.slice none 0 0,bV false]) (wn Z) Z dH (by kernel_rfl) (fT 2 (cs:=[iv 0,.slice none 0 0,.slice none 0 0,bV false,.slice none 0 0,bV false]) (wn Z) Z Z Z fun t=>(Tr.k Z (ae (aa (ai (Tr.k Z (ae (aa (av (Tr.block (Tg 3 96 59 24 aV (bO 9 59 az (cB (σ:=(List aB)×Int×(List aB)×Bool×Bool×ByteArray×Int×(Option Addr)×Nat×(List (PE az))×(Option Addr)×Nat) (fun m w s=>lH N m s.1 s.2.1 s.2.2.1 s.2.2.2.1 s.2.2.2.2.1 s.2.2.2.2.2.1 s.2.2.2.2.2.2.1=some r∧(SK s.2.2.2.2.2.2.2.2.2.1 s.1∧bZ s.2.2.2.2.2.2.2.1 s.1.length s.2.2.2.2.2.2.2.2.1)∧bZ s.2.2.2.2.2.2.2.2.2.2.1 s.2.2.1.length s.2.2.2.2.2.2.2.2.2.2.2) (fun s=>[(0,sv s.2.2.2.2.2.1),(2,pV z),(5,pV t),(6,iv s.2.2.2.2.2.2.1)]) (fun s=>[(1,bx z #[iv 0,.slice none 0 0,.slice none 0 0] 30),(2,bx t #[iv s.2.1,.slice none 0 0,sL s.2.2.2.2.2.2.2.2.2.2.1 s.2.2.1 s.2.2.2.2.2.2.2.2.2.2.2,bV s.2.2.2.1,sL s.2.2.2.2.2.2.2.1 s.1 s.2.2.2.2.2.2.2.2.1,bV s.2.2.2.2.1] 81),(3,sk s.2.2.2.2.2.2.2.1 s.2.2.2.2.2.2.2.2.1 96 59 24 aV s.2.2.2.2.2.2.2.2.2.1),(9,ow s.2.2.2.2.2.2.2.2.2.2.1 s.2.2.2.2.2.2.2.2.2.2.2 59 az s.2.2.1)]) N (([]:List aB),0,([]:List aB),false,false,p0,1,none,0,[],none,0) ⟨H,⟨SK.nil,fQ⟩,fQ⟩ (.r Z) (.r Z) (fun _ _ h=>jZ (h.1)) ?_))))))))))))))))
  intro w I a2 s hs
  obtain⟨o,l,g,q,v,M,J,i,j,y,b,d⟩:=s
  obtain⟨H,G,L⟩:=hs
  replace H:lH N (a2+1) o l g q v M J=some r:=H
  replace hT:=hT.ext I.ext
  replace leB:=leB.trans I
  replace G:SK y o∧bZ i o.length j:=G
  replace L:bZ b g.length d:=L
  rw[lH.eq_2] at H
  dsimp only
  refine av (ai (aA Z (aC Cc Z Z (ae (aa (aP Z H (fun H=>?_) (fun H=>?_)))))))
  ·refine aO (aa (av (Tr.block (ai (aA Z ?_)))))
   obtain⟨E,a4,H⟩:=bnd H
   refine bR (r:=(.tuple #[sv E.1,sv E.2.1,bV E.2.2])) (wn Z) Z Tryz.call25 (aj Z (aj Z aJ)) (fun W hW=>DZ (hT.ext hW.dz) M (⟨#[10]⟩) E a4 (HF.start _)) (aA Z (aG Z (fun _ _ a c=>cu (a.ev Z) Z) (aG Z (fun _ _ a c=>cu (a.ev Z) Z) (aG Z (fun _ _ a c=>cu (a.ev Z) Z) (Tr.k Z (Tr.k Z (Tr.k Z (ae (aa (av (ai (aA Z (aQ jc Z (aA Z ?_))))))))))))))
   cases Q:(!E.2.2)
   ·rw[Q,if_neg (by decide)] at H
    refine dN run_move Z (dN run_move Z ?_)
    obtain⟨f,a0,H⟩:=bnd H
    refine dU [2,9,3] [bx t #[iv l,.slice none 0 0,sL b g d,bV q,sL i o j,bV v] 81,ow b d 59 az g,sk i j 96 59 24 aV y] (U:=(Option Addr×Nat)×(Option Addr×Nat×List (PE az))) (fun u=>(bV f.1)) (fun O W u=>bZ u.1.1 f.2.2.2.2.1.length u.1.2∧(SK u.2.2.2 f.2.2.2.2.2∧bZ u.2.1 f.2.2.2.2.2.length u.2.2.1)) (fun u=>[bx t #[iv f.2.1,.slice none 0 0,sL u.1.1 f.2.2.2.2.1 u.1.2,bV f.2.2.1,sL u.2.1 f.2.2.2.2.2 u.2.2.1,bV f.2.2.2.1] 81,ow u.1.1 u.1.2 59 az f.2.2.2.2.1,sk u.2.1 u.2.2.1 96 59 24 aV u.2.2.2]) Z (aH Z (aH Z (aH Z aY))) (fun _=>Z) (wg Z Z Z) Z Tryz.call26 (aj Z (aj Z aJ)) (fun W hW hp hE=>y8 N (hT.ext (hW.gL hp)) (mO.mk (ed.mk l [] g) q o v) none 0 (Sl.nil _ _ _) b d i j y ⟨G.1,G.2⟩ t E.1 f a0 hE) ?_
    intro w u S hu
    obtain⟨⟨A,B⟩,⟨C,D,F⟩⟩:=u
    obtain⟨T,V⟩:=hu
    replace hT:=hT.ext S.ext
    replace I:=I.trans S
    have P:bZ A f.2.2.2.2.1.length B:=T --@phi
    have K:(SK F f.2.2.2.2.2∧bZ C f.2.2.2.2.2.length D):=V --@phi
    dsimp only
    refine dN jc Z (aC bH Z Z (ae (aa (aP Z H (fun H=>?_) (fun H=>?_)))))
    ·refine av ?_
     cases H
    ·exact aO (aa (aM (aA Z (Tr.k Z (ae (aL (aa (aM (aA Z (aC bz Z Z (Tr.k Z (ae (aF I (f.2.2.2.2.2,f.2.1,f.2.2.2.2.1,f.2.2.1,f.2.2.2.1,E.2.1,(bF (J+1)),C,D,F,A,B) ⟨H,⟨K.1,K.2⟩,P⟩ (.r Z) (.r Z))))))))))))))
   ·rw[Q,if_pos Z] at H
    refine bq Z (bq Z (bq Z (bq Z (aC bG Z Z (ae (aa (eO Z Z (av ?_))))))))
    cases H
  ·refine cz (aD (aD (aU (aa (av (ai (aA Z (aQ fw Z (aQ (ag ER) Z (aG Z (fun _ _ a c=>ah z8 (a.ev Z) (dB c (vs:=[iv l,.slice none 0 0,sL b g d,bV q,sL i o j,bV v]) (k:=2) Z 3) Z) (aQ jc Z (aA Z (eD 7 [(2,pV z),(5,pV t),(6,iv J),(50,bV ((!q)||(decide (0<(o.length:Int)))))] [(1,bx z #[iv 0,.slice none 0 0,.slice none 0 0] 30),(2,bx t #[iv l,.slice none 0 0,sL b g d,bV q,sL i o j,bV v] 81),(3,sk i j 96 59 24 aV y),(9,ow b d 59 az g)] ?_ ?_)))))))))))))
   ·cases a3:(!q)
    ·exact dN run_move Z (dN fw Z (dN (ag O3) Z (Tr.x (fun _ _ a c=>ah VE (a.ev Z) (dB c (vs:=[iv l,.slice none 0 0,sL b g d,bV q,sL i o j,bV v]) (k:=2) Z 4) Z) (dN (bD Vk) Z (jM jd Z Z (aC bH Z Z (ae (bA (.r Z) (.r Z)))))))))
    ·exact bq Z (bq Z (bq Z (bq Z (bq Z (bq Z (aC bG Z Z (ae (bA (.r Z) (.r Z)))))))))
   ·show Tr _ _ (LF [(2,pV z),(5,pV t),(6,iv J),(50,bV ((!q)||(decide (0<(o.length:Int)))))]) (LE [(1,bx z #[iv 0,.slice none 0 0,.slice none 0 0] 30),(2,bx t #[iv l,.slice none 0 0,sL b g d,bV q,sL i o j,bV v] 81),(3,sk i j 96 59 24 aV y),(9,ow b d 59 az g)]) _
    refine ae (aa (aP Z H (fun H=>?_) (fun H=>?_)))
    ·refine av ?_
     cases H
    ·refine aO (aa (av (ai (aA Z (aQ fw Z (aQ (ag Cz) Z (aG Z (fun _ _ a c=>aN (cs:=[iv l,.slice none 0 0,sL b g d]) pq lK (a.ev Z) (aI.take (dB c (vs:=[iv l,.slice none 0 0,sL b g d,bV q,sL i o j,bV v]) (k:=2) Z 0) 3) Z) ?_)))))))
     obtain⟨X,a1,H⟩:=bnd H
     refine bR (r:=(iv X)) (wn Z) Z Tryz.call18 (aj Z aJ) (fun W hW=>nJ N (ed.mk l [] g) none 0 (Sl.nil _ _ _) b d (hW.sH (k:=9) Z) X a1 (HF.start _)) (Tr.k Z (ae (aa (ai (aA Z (aC iP Z Z (ae (aa (aP Z H (fun H=>?_) (fun H=>?_))))))))))
     ·refine av ?_
      cases H
     ·refine aO (aa (ai (aA Z (aQ fw Z (aQ (ag Cz) Z (aG Z (fun _ _ a c=>aN (cs:=[iv l,.slice none 0 0,sL b g d]) pq lK (a.ev Z) (aI.take (dB c (vs:=[iv l,.slice none 0 0,sL b g d,bV q,sL i o j,bV v]) (k:=2) Z 0) 3) Z) (bC 1 (cs:=[iv l,.slice none 0 0,sL b g d]) [iv l,.slice none 0 0,sL b g d] (wn Z) Z Z Z Z lK Z Z Z (Tr.k Z (Tr.k Z (ae (aa (bu ?_))))))))))))
      obtain rfl:=oI H
      exact bO 10 73 aR (Tr.out (m:=[.agg #[iv l,.slice none 0 0,sL b g d],iv 0,iv 0]) [1] (nA Z Z pq lK (bM Z (bM Z bL))) (fun W hW=>⟨w,((none,0),(b,d)),leB,Z,⟨fQ,L⟩,hW.pick (ks:=[10,9]) (by decide) (aH Z (aH Z aY))⟩))

theorem wI{w:Bs}(p0:ak)(r:Bool)(H:lL p0=some r)(hE:HF w w.W E0):Calls Tryz.prog 61 [.agg #[iv p0.X,iv p0.Y]].toArray w.W fun e W'=>e= .returned (bV r)∧HF w W' E0:=by
 unfold lL at H
 have leB:=Bs.Le.refl w
 refine aZ (n:=11) Tryz.func61 Z Z Z hE (ai (fT 1 (cs:=[iv p0.X,iv p0.Y]) (wn Z) Z Z Z fun g=>(Tr.k Z (ae (aa (ai (aQ (ag je) Z (aG Z (fun _ _ a c=>ah bT (a.ev Z) (dB c (vs:=[iv p0.X,iv p0.Y]) (k:=1) Z 0) Z) ?_))))))))
 obtain⟨d,j,H⟩:=bnd H
 refine bR (r:=(bV d)) (wn Z) Z Tryz.call101 (aj Z aJ) (fun W hW=>om p0.X d j (HF.start _)) (aA Z ?_)
 obtain⟨h,b,H⟩:=bnd H
 refine eD 4 [(10,bV h)] [(1,bx g #[iv p0.X,iv p0.Y] 24)] ?_ ?_
 ·cases f:d
  ·rw[f] at b
   rw[if_neg (by decide)] at b
   have H:=b
   obtain rfl:=oI H
   exact bq Z (bq Z (bq Z (aC bH Z Z (ae (bA (.r Z) (.r Z))))))
  ·rw[f] at b
   rw[if_pos Z] at b
   have H:=b
   refine dN (ag iQ) Z (Tr.x (fun _ _ a c=>ah bT (a.ev Z) (dB c (vs:=[iv p0.X,iv p0.Y]) (k:=1) Z 1) Z) ?_)
   obtain⟨i,l,H⟩:=bnd H
   refine bR (r:=(bV i)) (wg Z Z Z) Z Tryz.call101 (aj Z aJ) (fun W hW=>om p0.Y i l (HF.start _)) (aC bG Z Z ?_)
   obtain rfl:=oI H
   exact ae (bA (.r Z) (.r Z))
 ·show Tr _ _ (LF [(10,bV h)]) (LE [(1,bx g #[iv p0.X,iv p0.Y] 24)]) _
  refine Tr.k Z (ae (aa (bu ?_)))
  obtain rfl:=oI H
  exact fV leB

theorem uS{w:Bs}(p0:iT)(r:Int)(H:mX p0=some r)(hE:HF w w.W E0):Calls Tryz.prog 28 [.agg #[bV p0.Flip,iv p0.Quarters,iv p0.At.X,iv p0.At.Y]].toArray w.W fun e W'=>e= .returned (iv r)∧HF w W' E0:=by
 unfold mX at H
 have leB:=Bs.Le.refl w
 refine aZ (n:=13) Tryz.func28 Z Z Z hE (ai (fT 1 (cs:=[bV p0.Flip,iv p0.Quarters,iv p0.At.X,iv p0.At.Y]) (wn Z) Z Z Z fun g=>(Tr.k Z (ae (aa (av (ai (aQ (ag JP) Z (aG Z (fun _ _ a c=>ah bT (a.ev Z) (dB c (vs:=[bV p0.Flip,iv p0.Quarters,iv p0.At.X,iv p0.At.Y]) (k:=1) Z 1) Z) ?_)))))))))
 obtain⟨d,j,H⟩:=bnd H
 refine bR (r:=(bV d)) (wn Z) Z Tryz.call60 (aj Z (aj Z (aj Z aJ))) (fun W hW=>xx p0.Quarters 0 3 d j (HF.start _)) (aQ jc Z (aA Z ?_))
 obtain⟨h,b,H⟩:=bnd H
 refine eD 5 [(12,bV h)] [(1,bx g #[bV p0.Flip,iv p0.Quarters,iv p0.At.X,iv p0.At.Y] 26)] ?_ ?_
 ·cases f:(!d)
  ·rw[f] at b
   rw[if_neg (by decide)] at b
   have H:=b
   refine dN (ag xk) Z (Tr.x (fun _ _ a c=>aN (cs:=[iv p0.At.X,iv p0.At.Y]) kP gQ (a.ev Z) (aI.take (dB c (vs:=[bV p0.Flip,iv p0.Quarters,iv p0.At.X,iv p0.At.Y]) (k:=1) Z 2) 2) Z) ?_)
   obtain⟨i,l,H⟩:=bnd H
   refine bR (r:=(bV i)) (wg Z Z Z) Z Tryz.call61 (aj Z aJ) (fun W hW=>wI p0.At i l (HF.start _)) (dN jc Z (aC bH Z Z ?_))
   obtain rfl:=oI H
   exact ae (bA (.r Z) (.r Z))
  ·rw[f] at b
   rw[if_pos Z] at b
   have H:=b
   obtain rfl:=oI H
   exact bq Z (bq Z (bq Z (bq Z (aC bG Z Z (ae (bA (.r Z) (.r Z)))))))
 ·show Tr _ _ (LF [(12,bV h)]) (LE [(1,bx g #[bV p0.Flip,iv p0.Quarters,iv p0.At.X,iv p0.At.Y] 26)]) _
  refine ae (aa (aP Z H (fun H=>?_) (fun H=>?_)))
  ·refine ai (Tr.k Z (ae (aa (bu (bn ?_)))))
   obtain rfl:=oI H
   exact fV leB
  ·refine aO (aa (ai (Tr.k Z (ae (aa (bu ?_))))))
   obtain rfl:=oI H
   exact fV leB

theorem qU(N:Nat){w:Bs}(p0:ak)(p1:iT)(r:ak)(H:kw N p0 p1=some r)(hE:HF w w.W E0):Calls Tryz.prog 38 [.agg #[iv p0.X,iv p0.Y],.agg #[bV p1.Flip,iv p1.Quarters,iv p1.At.X,iv p1.At.Y]].toArray w.W fun e W'=>e= .returned (.agg #[iv r.X,iv r.Y])∧HF w W' E0:=by
 unfold kw at H
 have leB:=Bs.Le.refl w
 refine aZ (n:=36) Tryz.func38 Z Z Z hE (ai (fT 1 (cs:=[iv p0.X,iv p0.Y]) (wn Z) Z Z Z fun f=>(fT 2 (cs:=[bV p1.Flip,iv p1.Quarters,iv p1.At.X,iv p1.At.Y]) (wn Z) Z Z Z fun g=>(Tr.alloc 3 (wn Z) Z tZ fun i=>(ae (aa ?_))))))
 have j:=Bs.Le.refl w
 refine kZ (σ:=Int) (fun w s=>kS N p0 p1 s=some r) (fun s=>[(2,pV f),(3,pV g),(4,pV i)]) (fun s=>[(1,bx f #[iv s,iv p0.Y] 24),(2,bx g #[bV p1.Flip,iv p1.Quarters,iv p1.At.X,iv p1.At.Y] 26),(3,bx i #[iv 0,iv 0] 24)]) ?_ ?_
 ·refine ai (aQ (ag O5) Z (aG Z (fun _ _ a c=>ah z8 (a.ev Z) (dB c (vs:=[bV p1.Flip,iv p1.Quarters,iv p1.At.X,iv p1.At.Y]) (k:=2) Z 0) Z) (ae (aa (aP Z H (fun H=>?_) (fun H=>?_))))))
  ·exact aM (aQ (ag je) Z (aG Z (fun _ _ a c=>ah bT (a.ev Z) (dB c (vs:=[iv p0.X,iv p0.Y]) (k:=1) Z 0) Z) (aQ EK Z (aQ (ag je) Z (bC 1 (cs:=[iv (bF (0-p0.X))]) [iv (bF (0-p0.X)),iv p0.Y] (wn Z) Z Z Z Z wP Z Z Z (ae (aF j (bF (0-p0.X)) H (.r Z) (.r Z))))))))
  ·exact aO (aF j p0.X H (.r Z) (.r Z))
 ·intro w l q hs
  have H:=hs
  replace H:kS N p0 p1 l=some r:=H
  replace leB:=leB.trans q
  unfold kS at H
  show Tr _ _ (LF [(2,pV f),(3,pV g),(4,pV i)]) (LE [(1,bx f #[iv l,iv p0.Y] 24),(2,bx g #[bV p1.Flip,iv p1.Quarters,iv p1.At.X,iv p1.At.Y] 26),(3,bx i #[iv 0,iv 0] 24)]) _
  refine av (ai (aQ (ag JP) Z (aG Z (fun _ _ a c=>ah bT (a.ev Z) (dB c (vs:=[bV p1.Flip,iv p1.Quarters,iv p1.At.X,iv p1.At.Y]) (k:=2) Z 1) Z) (aA Z (ae (aa (Tr.block (cB (σ:=Int×Int×Int) (fun m w s=>kR p1 m s.1 s.2.1 s.2.2=some r) (fun s=>[(2,pV f),(3,pV g),(4,pV i),(12,iv p1.Quarters),(13,iv s.2.2)]) (fun s=>[(1,bx f #[iv s.1,iv s.2.1] 24),(2,bx g #[bV p1.Flip,iv p1.Quarters,iv p1.At.X,iv p1.At.Y] 26),(3,bx i #[iv 0,iv 0] 24)]) N (l,p0.Y,0) H (.r Z) (.r Z) (fun _ _ h=>jZ (h)) ?_))))))))
  intro w t u s hs
  obtain⟨d,b,o⟩:=s
  have H:=hs
  replace H:kR p1 (u+1) d b o=some r:=H
  replace leB:=leB.trans t
  rw[kR.eq_2] at H
  dsimp only
  refine ai (aC bv Z Z (ae (aa (av (aP Z H (fun H=>?_) (fun H=>?_))))))
  ·exact aO (aa (av (Tr.block (aM (aQ (ag iQ) Z (aG Z (fun _ _ a c=>ah bT (a.ev Z) (dB c (vs:=[iv d,iv b]) (k:=1) Z 1) Z) (aQ EK Z (aQ (ag je) Z (aG Z (fun _ _ a c=>ah bT (a.ev Z) (dB c (vs:=[iv d,iv b]) (k:=1) Z 0) Z) (aQ (ag je) Z (bC 1 (cs:=[iv (bF (0-b))]) [iv (bF (0-b)),iv b] (wn Z) Z Z Z Z wP Z Z Z (aQ (ag iQ) Z (bC 1 (cs:=[iv d]) [iv (bF (0-b)),iv d] (wn Z) Z Z Z Z wP Z Z Z (ae (aL (aa (aM (aC bz Z Z (aA Z (ae (aF t ((bF (0-b)),d,(bF (o+1))) H (.r Z) (.r Z))))))))))))))))))))))
  ·refine cz (aD (aD (aU (aa (ai (aQ (ag je) Z (aG Z (fun _ _ a c=>ah bT (a.ev Z) (dB c (vs:=[iv d,iv b]) (k:=1) Z 0) Z) (aQ (ag xk) Z (aQ (ag je) Z (aG Z (fun _ _ a c=>ah bT (a.ev Z) (dB c (vs:=[bV p1.Flip,iv p1.Quarters,iv p1.At.X,iv p1.At.Y]) (k:=2) Z 2) Z) (aC bz Z Z (aQ (ag iQ) Z (aG Z (fun _ _ a c=>ah bT (a.ev Z) (dB c (vs:=[iv d,iv b]) (k:=1) Z 1) Z) (aQ (ag xk) Z (aQ (ag iQ) Z (aG Z (fun _ _ a c=>ah bT (a.ev Z) (dB c (vs:=[bV p1.Flip,iv p1.Quarters,iv p1.At.X,iv p1.At.Y]) (k:=2) Z 3) Z) (aC bz Z Z (iR (vs:=[(0,iv (bF (d+p1.At.X))),(1,iv (bF (b+p1.At.Y)))]) (cs:=[iv (bF (d+p1.At.X)),iv (bF (b+p1.At.Y))]) (wn Z) Z (bB Z (bB Z dH)) (by kernel_rfl) (bC 3 (cs:=[iv (bF (d+p1.At.X)),iv (bF (b+p1.At.Y))]) [iv (bF (d+p1.At.X)),iv (bF (b+p1.At.Y))] (wn Z) Z Z Z Z gQ Z Z Z (ae (aa (bu ?_))))))))))))))))))))))
   obtain rfl:=oI H
   exact Tr.out (m:=[.agg #[iv (bF (d+p1.At.X)),iv (bF (b+p1.At.Y))]]) [3] (nA Z Z kP gQ bL) (fun W hW=>⟨Z,hW.low leB⟩)

theorem vC(N:Nat){w:Bs}(p0:aK)(p1:iT)(r:aK)(H:nM N p0 p1=some r)(hE:HF w w.W E0):Calls Tryz.prog 36 [.agg #[iv p0.X0,iv p0.Y0,iv p0.X1,iv p0.Y1],.agg #[bV p1.Flip,iv p1.Quarters,iv p1.At.X,iv p1.At.Y]].toArray w.W fun e W'=>e= .returned (.agg #[iv r.X0,iv r.Y0,iv r.X1,iv r.Y1])∧HF w W' E0:=by
 unfold nM at H
 have leB:=Bs.Le.refl w
 refine aZ (n:=42) Tryz.func36 Z Z Z hE (ai (fT 1 (cs:=[iv p0.X0,iv p0.Y0,iv p0.X1,iv p0.Y1]) (wn Z) Z Z Z fun g=>(fT 2 (cs:=[bV p1.Flip,iv p1.Quarters,iv p1.At.X,iv p1.At.Y]) (wn Z) Z Z Z fun j=>(Tr.alloc 3 (wn Z) Z vz fun i=>(ae (aa (av ?_)))))))
 obtain⟨d,l,H⟩:=bnd H
 obtain⟨f,o,H⟩:=bnd H
 refine CK 16 [(14,.makeFunc (.func 0) #[] #[]),(15,.makeFunc (.func 0) #[] #[])] [(14,⟨5,4,.func (.func 0) #[] #[],fun b=>pV b,fun b=>bx b #[iv 0,iv 0] 24⟩),(15,⟨6,5,.func (.func 0) #[] #[],fun b=>pV b,fun b=>bx b #[iv 0,iv 0] 24⟩)] [(0,.agg #[iv p0.X0,iv p0.Y0,iv p0.X1,iv p0.Y1]),(1,.agg #[bV p1.Flip,iv p1.Quarters,iv p1.At.X,iv p1.At.Y]),(2,pV g),(3,pV j),(4,pV i),(5,.func (.func 0) #[] #[]),(6,.func (.func 0) #[] #[]),(7,pV g),(8,iv p0.X0),(9,.pointer (some ⟨g,1,none⟩)),(10,iv p0.Y0),(11,.agg #[iv p0.X0,iv p0.Y0]),(12,.agg #[bV p1.Flip,iv p1.Quarters,iv p1.At.X,iv p1.At.Y]),(13,.agg #[iv d.X,iv d.Y]),(14,.pointer (some ⟨g,2,none⟩)),(15,iv p0.X1),(16,.pointer (some ⟨g,3,none⟩)),(17,iv p0.Y1),(18,.agg #[iv p0.X1,iv p0.Y1]),(19,.agg #[bV p1.Flip,iv p1.Quarters,iv p1.At.X,iv p1.At.Y]),(20,.agg #[iv f.X,iv f.Y])] (by kernel_rfl) (by kernel_rfl) (by kernel_rfl) (by kernel_rfl) (by kernel_rfl) (by kernel_rfl) (by kernel_rfl) (lQ (Gl Z Z tZ) (lQ (Gl Z Z tZ) qj)) (lQ Z (lQ Z qj)) (lQ Z (lQ Z qj)) ?_ ?_
 ·refine dZ (ag oW) Z (bg Z (fun _ _ a c=>ah bT (a.ev Z) (dB c (vs:=[iv p0.X0,iv p0.Y0,iv p0.X1,iv p0.Y1]) (k:=1) Z 0) Z) (dZ (ag rq) Z (bg Z (fun _ _ a c=>ah bT (a.ev Z) (dB c (vs:=[iv p0.X0,iv p0.Y0,iv p0.X1,iv p0.Y1]) (k:=1) Z 1) Z) (uP (vs:=[(0,iv p0.X0),(1,iv p0.Y0)]) (cs:=[iv p0.X0,iv p0.Y0]) (wn Z) Z (bB Z (bB Z dH)) (by kernel_rfl) (bg Z (fun _ _ a c=>aN (cs:=[bV p1.Flip,iv p1.Quarters,iv p1.At.X,iv p1.At.Y]) Bl zF (a.ev Z) (aI.take (dB c (vs:=[bV p1.Flip,iv p1.Quarters,iv p1.At.X,iv p1.At.Y]) (k:=2) Z 0) 4) Z) (nT (r:=(.agg #[iv d.X,iv d.Y])) (wn Z) Z Tryz.call38 (aj Z (aj Z aJ)) (fun W hW=>qU N (ak.mk p0.X0 p0.Y0) p1 d l (HF.start _)) (dZ (ag xh) Z (bg Z (fun _ _ a c=>ah bT (a.ev Z) (dB c (vs:=[iv p0.X0,iv p0.Y0,iv p0.X1,iv p0.Y1]) (k:=1) Z 2) Z) (dZ (ag yP) Z (bg Z (fun _ _ a c=>ah bT (a.ev Z) (dB c (vs:=[iv p0.X0,iv p0.Y0,iv p0.X1,iv p0.Y1]) (k:=1) Z 3) Z) ?_))))))))))
  exact uP (vs:=[(0,iv p0.X1),(1,iv p0.Y1)]) (cs:=[iv p0.X1,iv p0.Y1]) (wn Z) Z (bB Z (bB Z dH)) (by kernel_rfl) (bg Z (fun _ _ a c=>aN (cs:=[bV p1.Flip,iv p1.Quarters,iv p1.At.X,iv p1.At.Y]) Bl zF (a.ev Z) (aI.take (dB c (vs:=[bV p1.Flip,iv p1.Quarters,iv p1.At.X,iv p1.At.Y]) (k:=2) Z 0) 4) Z) (nT (r:=(.agg #[iv f.X,iv f.Y])) (wn Z) Z Tryz.call38 (aj Z (aj Z aJ)) (fun W hW=>qU N (ak.mk p0.X1 p0.Y1) p1 f o (HF.start _)) (yc (vs:=[]) (wn Z) Z aJ (yc (vs:=[]) (wn Z) Z aJ (Tq.fin (.r Z))))))
 ·intro h
  refine Tr.vD (lf:=[(4,pV i),(5,.pointer (some ⟨(h 14),0,none⟩)),(6,.pointer (some ⟨(h 15),0,none⟩)),(13,.agg #[iv d.X,iv d.Y]),(20,.agg #[iv f.X,iv f.Y])]) (le:=[(1,bx g #[iv p0.X0,iv p0.Y0,iv p0.X1,iv p0.Y1] 45),(2,bx j #[bV p1.Flip,iv p1.Quarters,iv p1.At.X,iv p1.At.Y] 26),(3,bx i #[iv 0,iv 0,iv 0,iv 0] 45),(4,bx (h 14) #[iv 0,iv 0] 24),(5,bx (h 15) #[iv 0,iv 0] 24)]) (.r Z) (.r Z) (bC 4 (cs:=[iv d.X,iv d.Y]) [iv d.X,iv d.Y] (wn Z) Z Z Z Z gQ Z Z Z (bC 5 (cs:=[iv f.X,iv f.Y]) [iv f.X,iv f.Y] (wn Z) Z Z Z Z gQ Z Z Z (ae (aa (ai (aQ (ag je) Z (aG Z (fun _ _ a c=>ah bT (a.ev Z) (dB c (vs:=[iv d.X,iv d.Y]) (k:=4) Z 0) Z) (aQ (ag je) Z (aG Z (fun _ _ a c=>ah bT (a.ev Z) (dB c (vs:=[iv f.X,iv f.Y]) (k:=5) Z 0) Z) (aG Z (fun _ _ a c=>vE (a.ev Z) (a.ev Z) _) (aQ (ag iQ) Z (aG Z (fun _ _ a c=>ah bT (a.ev Z) (dB c (vs:=[iv d.X,iv d.Y]) (k:=4) Z 1) Z) ?_))))))))))))
  refine aQ (ag iQ) Z (aG Z (fun _ _ a c=>ah bT (a.ev Z) (dB c (vs:=[iv f.X,iv f.Y]) (k:=5) Z 1) Z) (aG Z (fun _ _ a c=>vE (a.ev Z) (a.ev Z) _) (aQ (ag je) Z (aG Z (fun _ _ a c=>ah bT (a.ev Z) (dB c (vs:=[iv d.X,iv d.Y]) (k:=4) Z 0) Z) (aQ (ag je) Z (aG Z (fun _ _ a c=>ah bT (a.ev Z) (dB c (vs:=[iv f.X,iv f.Y]) (k:=5) Z 0) Z) (aG Z (fun _ _ a c=>wY (a.ev Z) (a.ev Z) _) (aQ (ag iQ) Z (aG Z (fun _ _ a c=>ah bT (a.ev Z) (dB c (vs:=[iv d.X,iv d.Y]) (k:=4) Z 1) Z) (aQ (ag iQ) Z (aG Z (fun _ _ a c=>ah bT (a.ev Z) (dB c (vs:=[iv f.X,iv f.Y]) (k:=5) Z 1) Z) ?_)))))))))))
  refine aG Z (fun _ _ a c=>wY (a.ev Z) (a.ev Z) _) (iR (vs:=[(0,iv (min d.X f.X)),(1,iv (min d.Y f.Y)),(2,iv (max d.X f.X)),(3,iv (max d.Y f.Y))]) (cs:=[iv (min d.X f.X),iv (min d.Y f.Y),iv (max d.X f.X),iv (max d.Y f.Y)]) (wn Z) Z (bB Z (bB Z (bB Z (bB Z dH)))) (by kernel_rfl) (bC 3 (cs:=[iv (min d.X f.X),iv (min d.Y f.Y),iv (max d.X f.X),iv (max d.Y f.Y)]) [iv (min d.X f.X),iv (min d.Y f.Y),iv (max d.X f.X),iv (max d.Y f.Y)] (wn Z) Z Z Z Z kG Z Z Z (ae (aa (bu ?_)))))
  obtain rfl:=oI H
  exact Tr.out (m:=[.agg #[iv (min d.X f.X),iv (min d.Y f.Y),iv (max d.X f.X),iv (max d.Y f.Y)]]) [3] (nA Z Z qJ kG bL) (fun W hW=>⟨Z,hW.low leB⟩)

theorem ym(N:Nat){w:Bs}(p0:(List bf))(G:Option Addr)(I:Nat)(a3:Sl w.R w.W aT G I p0)(p1:iT)(r:(List bf))(H:mr N p0 p1=some r)(hE:HF w w.W (ig [emp])):Calls Tryz.prog 30 [sL G p0 I,.agg #[bV p1.Flip,iv p1.Quarters,iv p1.At.X,iv p1.At.Y]].toArray w.W fun e W'=>∃(w':Bs) (u:(Option Addr×Nat)),w.Le w'∧e= .returned (sL u.1 r u.2)∧(bZ u.1 r.length u.2)∧HF w' W' (ig [ow u.1 u.2 133 aT r]):=by
 unfold mr at H
 have leB:=Bs.Le.refl w
 refine aZ (n:=26) Tryz.func30 Z Z Z hE (ai (fT 1 (cs:=[bV p1.Flip,iv p1.Quarters,iv p1.At.X,iv p1.At.Y]) (wn Z) Z Z Z fun D=>(Tr.k Z (bO 2 133 aT ?_))))
 show Tr _ _ (uf _ 4 (sL none (([]:List bf)) 0)) _ _
 refine ae (aa (ai (aA Z ?_)))
 obtain⟨b,a4,H⟩:=bnd H
 refine gD [3] [emp] (U:=(Option Addr×Nat)) (fun u=>(sL u.1 b u.2)) (fun u=>bZ u.1 b.length u.2) (fun u=>[ow u.1 u.2 45 aX b]) Z (aH Z aY) (fun _=>Z) (wn Z) Z Tryz.call41 (aj Z aJ) (fun W hW hp hE=>nY N p0 G I (a3.ext (hW.gL hp)) b a4 hE) ?_
 intro u hu
 obtain⟨z,A⟩:=u
 have M:=hu
 have J:bZ z b.length A:=M --@phi
 dsimp only
 refine Tr.k Z (ae (aa (av (ai (aA Z (aQ (bD rM) Z (aA Z (ae (aa (Tr.block (cB (σ:=(List aK)×Int×(Option Addr)×Nat) (fun m w s=>iy N p1 b m s.1 s.2.1=some r∧bZ s.2.2.1 s.1.length s.2.2.2) (fun s=>[(3,pV D),(5,sL s.2.2.1 s.1 s.2.2.2),(10,iv (b.length:Int)),(11,iv s.2.1)]) (fun s=>[(1,bx D #[bV p1.Flip,iv p1.Quarters,iv p1.At.X,iv p1.At.Y] 26),(3,ow s.2.2.1 s.2.2.2 45 aX s.1)]) N (b,0,z,A) ⟨H,J⟩ (.r Z) (.r Z) (fun _ _ h=>jZ (h.1)) ?_)))))))))))
 intro w Q b0 s hs
 obtain⟨E,j,f,g⟩:=s
 obtain⟨H,B⟩:=hs
 replace H:iy N p1 b (b0+1) E j=some r:=H
 replace leB:=leB.trans Q
 replace B:bZ f E.length g:=B
 rw[iy.eq_2] at H
 dsimp only
 refine ai (aC bv Z Z (ae (aa (av (aP Z H (fun H=>?_) (fun H=>?_))))))
 ·refine aO (aa (av (Tr.block (ai (aA Z (Tr.k Z (ae (aa (jN 8 (by kernel_rfl) (by kernel_rfl) (dG Z (dG Z (dG Z (dG Z ?_)))))))))))))
  obtain⟨v,a5,H⟩:=bnd H
  obtain⟨S,T,V⟩:=aW a5
  refine bg Z (fun _ _ a c=>au uh (a.ev Z) B (a.ev Z) S T) (bg Z (fun _ _ a c=>aN (cs:=[iv v.X0,iv v.Y0,iv v.X1,iv v.Y1]) qJ kG (a.ev Z) (aI.take (yF lY (k:=3) c Z V) 4) Z) (bg Z (fun _ _ a c=>aN (cs:=[bV p1.Flip,iv p1.Quarters,iv p1.At.X,iv p1.At.Y]) Bl zF (a.ev Z) (aI.take (dB c (vs:=[bV p1.Flip,iv p1.Quarters,iv p1.At.X,iv p1.At.Y]) (k:=1) Z 0) 4) Z) ?_))
  obtain⟨d,a6,H⟩:=bnd H
  refine nT (r:=(.agg #[iv d.X0,iv d.Y0,iv d.X1,iv d.Y1])) (wn Z) Z Tryz.call36 (aj Z (aj Z aJ)) (fun W hW=>vC N v p1 d a6 (HF.start _)) (iC ?_)
  obtain⟨b1,a7,H⟩:=bnd H
  obtain⟨a',a0,a1⟩:=aW a7
  refine aG Z (fun _ _ a c=>au uh (a.ev Z) B (a.ev Z) a' a0) ?_
  obtain⟨F,L,H⟩:=bnd H
  have C:=lN L
  refine ng 3 (t:=aX) (l:=E) (i:=j) (fo:=0) (cs:=[iv d.X0,iv d.Y0,iv d.X1,iv d.Y1]) d (wn Z) Z Z Z Z Z a1 kG Z (fun u _=>⟨u,trivial,Z⟩) Z L ?_
  have a2:bZ f F.length g:=by rw[C];exact B
  exact Tr.vD (lf:=[(3,pV D),(5,sL f F g),(6,iv j),(10,iv (b.length:Int)),(11,iv j),(12,bV (decide (j<(b.length:Int)))),(13,iv j),(14,sL f F g),(15,iv j),(16,sL f F g),(17,iv j),(19,.agg #[iv v.X0,iv v.Y0,iv v.X1,iv v.Y1]),(20,.agg #[bV p1.Flip,iv p1.Quarters,iv p1.At.X,iv p1.At.Y]),(21,.agg #[iv d.X0,iv d.Y0,iv d.X1,iv d.Y1])]) (le:=[(1,bx D #[bV p1.Flip,iv p1.Quarters,iv p1.At.X,iv p1.At.Y] 26),(3,ow f g 45 aX F)]) (.cons Z (.cons (dM Z (by unfold sL;rw[C])) (.cons Z (.cons Z (.cons Z (.cons Z (.cons Z (.cons (dM Z (by unfold sL;rw[C])) (.cons Z (.cons (dM Z (by unfold sL;rw[C])) (.r Z))))))))))) (.r Z) (ae (aL (aa (aM (aC bz Z Z (aA Z (ae (aF Q (F,(bF (j+1)),f,g) ⟨H,a2⟩ (.r Z) (.r Z)))))))))
 ·refine cz (aD (aD (aU (aa (ai (aA Z ?_))))))
  obtain⟨y,a8,H⟩:=bnd H
  refine dU [4] [emp] (U:=(Option Addr×Nat)) (fun u=>(sL u.1 y u.2)) (fun O W u=>bZ u.1 y.length u.2) (fun u=>[ow u.1 u.2 133 aT y]) Z (aH Z aY) (fun _=>Z) (wn Z) Z Tryz.call29 (aj Z aJ) (fun W hW hp hE=>ru N E f g (hW.Ms (k:=3) Z hp Z) y a8 hE) ?_
  intro w u a9 hu
  obtain⟨o,q⟩:=u
  have P:=hu
  replace leB:=leB.trans a9
  have K:bZ o y.length q:=P --@phi
  dsimp only
  refine Tr.k Z (ae (aa (bu ?_)))
  obtain rfl:=oI H
  exact Tr.out (m:=[sL o y q]) [] (bM Z bL) (fun W hW=>⟨w,(o,q),leB,Z,K,hW.pick (ks:=[4]) (by decide) (aH Z aY)⟩)

theorem y5{w:Bs}(p0:(List bf))(d:Option Addr)(v:Nat)(o:Sl w.R w.W aT d v p0)(r:aK)(H:nH p0=some r)(hE:HF w w.W E0):Calls Tryz.prog 72 [sL d p0 v].toArray w.W fun e W'=>e= .returned (.agg #[iv r.X0,iv r.Y0,iv r.X1,iv r.Y1])∧HF w W' E0:=by
 unfold nH at H
 have leB:=Bs.Le.refl w
 refine aZ (n:=58) Tryz.func72 Z Z Z hE (ai (Tr.alloc 1 (wn Z) Z vz fun J=>(ae (aa (av ?_)))))
 obtain⟨a1,d9,H⟩:=bnd H
 obtain⟨a2,a3,a4⟩:=aW d9
 obtain⟨f2,a5,U,a6⟩:=(o).el a4
 obtain⟨G,L⟩:=f2
 have B:=U
 replace B:Sl w.R w.W bP G L a1.Xs:=B
 obtain⟨E,e0,H⟩:=bnd H
 obtain⟨a7,a8,a9⟩:=aW e0
 obtain⟨j,e3,H⟩:=bnd H
 obtain⟨b0,b1,b2⟩:=aW e3
 obtain⟨f3,b3,V,b4⟩:=(o).el b2
 obtain⟨f8,f9⟩:=f3
 have e9:=V
 obtain⟨b5,e4,H⟩:=bnd H
 obtain⟨b6,b7,b8⟩:=aW e4
 obtain⟨f4,b9,X,c0⟩:=(o).el b8
 obtain⟨I,M⟩:=f4
 have C:=X
 replace C:Sl w.R w.W bP I M b5.Xs:=C
 obtain⟨F,e5,H⟩:=bnd H
 obtain⟨c3,c4,c5⟩:=aW e5
 obtain⟨l,e6,H⟩:=bnd H
 obtain⟨c6,c7,c8⟩:=aW e6
 obtain⟨f5,c9,a',d0⟩:=(o).el c8
 obtain⟨g0,g1⟩:=f5
 have f1:=a'
 refine CK 25 [(24,.makeFunc (.func 0) #[] #[])] [(24,⟨3,2,.func (.func 0) #[] #[],fun b=>pV b,fun b=>bx b #[iv 0,iv 0,iv 0,iv 0] 45⟩)] [(0,sL d p0 v),(2,pV J),(3,.func (.func 0) #[] #[]),(6,sL d p0 v),(7,.pointer (some ⟨pu d,rT d+((0:Int)).toNat*3,none⟩)),(8,.pointer (some ⟨pu d,rT d+((0:Int)).toNat*3+2,none⟩)),(9,sL G a1.Xs L),(10,.pointer (some ⟨pu G,rT G+((0:Int)).toNat*1,none⟩)),(11,iv E),(12,sL d p0 v),(13,.pointer (some ⟨pu d,rT d+((0:Int)).toNat*3,none⟩)),(14,.pointer (some ⟨pu d,rT d+((0:Int)).toNat*3+0,none⟩)),(15,iv j.Y0),(16,sL d p0 v),(17,.pointer (some ⟨pu d,rT d+((0:Int)).toNat*3,none⟩)),(18,.pointer (some ⟨pu d,rT d+((0:Int)).toNat*3+2,none⟩)),(19,sL I b5.Xs M),(20,.pointer (some ⟨pu I,rT I+((1:Int)).toNat*1,none⟩)),(21,iv F),(22,sL d p0 v),(23,sL d p0 v),(24,iv (p0.length:Int)),(25,iv (bF ((p0.length:Int)-1))),(26,.pointer (some ⟨pu d,rT d+((bF ((p0.length:Int)-1))).toNat*3,none⟩)),(27,.pointer (some ⟨pu d,rT d+((bF ((p0.length:Int)-1))).toNat*3+1,none⟩)),(28,iv l.Y1),(29,.agg #[iv E,iv j.Y0,iv F,iv l.Y1])] (by kernel_rfl) (by kernel_rfl) (by kernel_rfl) (by kernel_rfl) (by kernel_rfl) (by kernel_rfl) (by kernel_rfl) (lQ (Gl Z Z vz) qj) (lQ Z qj) (lQ Z qj) ?_ ?_
 ·refine dG Z (bg Z (fun _ _ a c=>au pM (a.ev Z) o.form (a.ev Z) a2 a3) (dZ (ag jU) Z (bg Z (fun _ _ a c=>ah lc (a.ev Z) (aI.drop (wo a5 a6 c) 2) Z) (bg Z (fun _ _ a c=>au iX (a.ev Z) B.form (a.ev Z) a7 a8) (bg Z (fun _ _ a c=>ah bT (a.ev Z) (vB jm B a9 c) Z) (dG Z (bg Z (fun _ _ a c=>au pM (a.ev Z) o.form (a.ev Z) b0 b1) (dZ (ag oz) Z (bg Z (fun _ _ a c=>ah bT (a.ev Z) (aI.drop (wo b3 b4 c) 0) Z) (dG Z (bg Z (fun _ _ a c=>au pM (a.ev Z) o.form (a.ev Z) b6 b7) ?_)))))))))))
  refine dZ (ag jU) Z (bg Z (fun _ _ a c=>ah lc (a.ev Z) (aI.drop (wo b9 c0 c) 2) Z) (bg Z (fun _ _ a c=>au iX (a.ev Z) C.form (a.ev Z) c3 c4) (bg Z (fun _ _ a c=>ah bT (a.ev Z) (vB jm C c5 c) Z) (dG Z (dG Z (dZ (bD ug) Z (fZ gu Z Z (bg Z (fun _ _ a c=>au pM (a.ev Z) o.form (a.ev Z) c6 c7) (dZ (ag nC) Z (bg Z (fun _ _ a c=>ah bT (a.ev Z) (aI.drop (wo c9 d0 c) 1) Z) (uP (vs:=[(0,iv E),(1,iv j.Y0),(2,iv F),(3,iv l.Y1)]) (cs:=[iv E,iv j.Y0,iv F,iv l.Y1]) (wn Z) Z (bB Z (bB Z (bB Z (bB Z dH)))) (by kernel_rfl) (yc (vs:=[]) (wn Z) Z aJ ?_))))))))))))
  exact Tq.fin (.r Z)
 ·intro q
  refine Tr.vD (lf:=[(0,sL d p0 v),(2,pV J),(3,.pointer (some ⟨(q 24),0,none⟩)),(29,.agg #[iv E,iv j.Y0,iv F,iv l.Y1])]) (le:=[(1,bx J #[iv 0,iv 0,iv 0,iv 0] 45),(2,bx (q 24) #[iv 0,iv 0,iv 0,iv 0] 45)]) (.r Z) (.r Z) (bC 2 (cs:=[iv E,iv j.Y0,iv F,iv l.Y1]) [iv E,iv j.Y0,iv F,iv l.Y1] (wn Z) Z Z Z Z kG Z Z Z (ae (aa (av (ai (aA Z (aQ (bD ug) Z (aA Z (ae (aa (Tr.block (cB (σ:=(List bf)×Nat×Int×Int) (fun m w s=>m=s.1.length+1∧s.1=List.drop s.2.1 p0∧s.2.1≤p0.length∧iF j l s.1 s.2.1 s.2.2.1 s.2.2.2=some r) (fun s=>[(2,pV J),(3,.pointer (some ⟨(q 24),0,none⟩)),(30,sL d p0 v),(31,iv (p0.length:Int)),(32,iv (s.2.1:Int))]) (fun s=>[(1,bx J #[iv 0,iv 0,iv 0,iv 0] 45),(2,bx (q 24) #[iv s.2.2.1,iv j.Y0,iv s.2.2.2,iv l.Y1] 45)]) (p0.length+1) (p0,0,E,F) ⟨Z,Z,Nat.zero_le _,H⟩ (.r Z) (.r Z) (fun _ _ h=>absurd h.1 (by simp)) ?_))))))))))))
  intro w P m s hs
  obtain⟨A,T,t,y⟩:=s
  obtain⟨Q,D,g3,H⟩:=hs
  replace D:A=List.drop T p0:=D
  replace H:iF j l A T t y=some r:=H
  replace Q:m+1=A.length+1:=Q
  replace o:=o.oV P
  replace leB:=leB.trans P
  obtain rfl:m=A.length:=by omega
  clear Q
  dsimp only
  cases A with
  |nil=>
   rw[iF.eq_1] at H
   refine ai (aC bv Z Z (ae (aa (av (eX Z (dY D) (cz (aD (aD (aU (aa (ai (aG Z (fun _ _ a c=>aN (cs:=[iv t,iv j.Y0,iv y,iv l.Y1]) qJ kG (a.ev Z) (aI.take (dB c (vs:=[iv t,iv j.Y0,iv y,iv l.Y1]) (k:=2) Z 0) 4) Z) (bC 1 (cs:=[iv t,iv j.Y0,iv y,iv l.Y1]) [iv t,iv j.Y0,iv y,iv l.Y1] (wn Z) Z Z Z Z kG Z Z Z (ae (aa (bu ?_))))))))))))))))
   obtain rfl:=oI H
   exact Tr.out (m:=[.agg #[iv t,iv j.Y0,iv y,iv l.Y1]]) [1] (nA Z Z qJ kG bL) (fun W hW=>⟨Z,hW.low leB⟩)
  |cons i A=>
   rw[iF.eq_2] at H
   refine ai (aC bv Z Z (ae (aa (av (eO Z (fI D) (aO (aa (av (Tr.block (ai ?_))))))))))
   obtain⟨f6,d1,a0,d2⟩:=(o).el (gq D)
   obtain⟨f,g⟩:=f6
   have u:=a0
   replace u:Sl w.R w.W bP f g i.Xs:=u
   refine aG Z (fun _ _ a c=>au pM (a.ev Z) o.form (a.ev Z) (Int.natCast_nonneg _) (bE D)) (aG Z (fun _ _ a c=>aN (cs:=[iv i.Y0,iv i.Y1,sL f i.Xs g]) GQ xC (a.ev Z) (aI.take (wo d1 d2 c) 3) Z) (Tr.alloc 5 (wn Z) Z I8 fun S=>(bC 5 (cs:=[iv i.Y0,iv i.Y1,sL f i.Xs g]) [iv i.Y0,iv i.Y1,sL f i.Xs g] (wn Z) Z Z Z Z xC Z Z Z (ae (aa (rU 20 [(19,fun x=>x=(q 24))] [] (by kernel_rfl) (by kernel_rfl) fun N f7 g2=>(bY 0 [(36,.pointer (some ⟨(q 24),0,none⟩))] (by kernel_rfl) Z Z (by kernel_rfl) ?_ Z Z ?_)))))))
   ·exact dZ (ag oW) Z (Tq.fin (.r Z))
   refine bY 1 [(37,iv t)] (by kernel_rfl) Z Z (by kernel_rfl) ?_ Z Z ?_
   ·exact bg Z (fun _ _ a c=>ah bT (a.ev Z) (dB c (vs:=[iv t,iv j.Y0,iv y,iv l.Y1]) (k:=2) Z 0) Z) (Tq.fin (.r Z))
   refine bY 2 [(38,.pointer (some ⟨S,2,none⟩))] (by kernel_rfl) Z Z (by kernel_rfl) ?_ Z Z ?_
   ·exact dZ (ag jU) Z (Tq.fin (.r Z))
   refine bY 3 [(39,sL f i.Xs g)] (by kernel_rfl) Z Z (by kernel_rfl) ?_ Z Z ?_
   ·exact bg Z (fun _ _ a c=>ah lc (a.ev Z) (dB c (vs:=[iv i.Y0,iv i.Y1,sL f i.Xs g]) (k:=5) Z 2) Z) (Tq.fin (.r Z))
   obtain⟨K,e7,H⟩:=bnd H
   obtain⟨d3,d4,d5⟩:=aW e7
   refine bY 4 [(40,.pointer (some ⟨pu f,rT f+((0:Int)).toNat*1,none⟩))] (by kernel_rfl) Z Z (by kernel_rfl) ?_ Z Z ?_
   ·exact bg Z (fun _ _ a c=>au iX (a.ev Z) u.form (a.ev Z) d3 d4) (Tq.fin (.r Z))
   refine bY 5 [(41,iv K)] (by kernel_rfl) Z Z (by kernel_rfl) ?_ Z Z ?_
   ·exact bg Z (fun _ _ a c=>ah bT (a.ev Z) (vB jm u d5 c) Z) (Tq.fin (.r Z))
   refine bY 6 [(42,iv (min t K))] (by kernel_rfl) Z Z (by kernel_rfl) ?_ Z Z ?_
   ·exact bg Z (fun _ _ a c=>vE (a.ev Z) (a.ev Z) _) (Tq.fin (.r Z))
   refine bY 7 [(43,.pointer (some ⟨(q 24),2,none⟩))] (by kernel_rfl) Z Z (by kernel_rfl) ?_ Z Z ?_
   ·exact dZ (ag xh) Z (Tq.fin (.r Z))
   refine bY 8 [(44,iv y)] (by kernel_rfl) Z Z (by kernel_rfl) ?_ Z Z ?_
   ·exact bg Z (fun _ _ a c=>ah bT (a.ev Z) (dB c (vs:=[iv t,iv j.Y0,iv y,iv l.Y1]) (k:=2) Z 2) Z) (Tq.fin (.r Z))
   refine dI 9 (by kernel_rfl) Z (wn Z) Z (by kernel_rfl) (fun _ _ a=>ag jU (a.ev Z)) Z (pG 10 [(46,sL f i.Xs g)] [19] false (by kernel_rfl) Z Z (by kernel_rfl) (fun W W' c hsW hk=>HF.Bg (le:=[(5,bx S #[iv i.Y0,iv i.Y1,sL f i.Xs g] 133)]) (ks:=[(2,fun x=>x=(q 24))]) (s0:=N) false c hk (fun h=>absurd h (by decide)) (.r Z) (fun b hb=>hb.elim (fun⟨p,hp,hf,hb⟩=>by simp only[List.mem_cons,List.not_mem_nil,or_false] at hp;rcases hp with rfl;exact .inl ⟨_,List.mem_cons_self,hb⟩) (fun hb=>absurd hb.1 (by decide))) (List.forall_mem_cons.2 ⟨fun b hb=>hb,(fun _ h=>nomatch h)⟩) rfl) ?_ rfl rfl ?_)
   ·exact bg Z (fun _ _ a c=>ah lc (a.ev Z) (dB c (vs:=[iv i.Y0,iv i.Y1,sL f i.Xs g]) (k:=5) Z 2) Z) (Tq.fin (.r Z))
   refine dI 11 (by kernel_rfl) Z (wn Z) Z (by kernel_rfl) (fun _ _ a=>ag jU (a.ev Z)) Z (pG 12 [(48,sL f i.Xs g)] [19] false (by kernel_rfl) Z Z (by kernel_rfl) (fun W W' c hsW hk=>HF.Bg (le:=[(5,bx S #[iv i.Y0,iv i.Y1,sL f i.Xs g] 133)]) (ks:=[(2,fun x=>x=(q 24))]) (s0:=N) false c hk (fun h=>absurd h (by decide)) (.r Z) (fun b hb=>hb.elim (fun⟨p,hp,hf,hb⟩=>by simp only[List.mem_cons,List.not_mem_nil,or_false] at hp;rcases hp with rfl;exact .inl ⟨_,List.mem_cons_self,hb⟩) (fun hb=>absurd hb.1 (by decide))) (List.forall_mem_cons.2 ⟨fun b hb=>hb,(fun _ h=>nomatch h)⟩) rfl) ?_ rfl rfl ?_)
   ·exact bg Z (fun _ _ a c=>ah lc (a.ev Z) (dB c (vs:=[iv i.Y0,iv i.Y1,sL f i.Xs g]) (k:=5) Z 2) Z) (Tq.fin (.r Z))
   refine dI 13 (by kernel_rfl) Z (wn Z) Z (by kernel_rfl) (fun _ _ a=>bD kF (a.ev Z)) Z (dI 14 (by kernel_rfl) Z (wn Z) Z (by kernel_rfl) (fun _ _ a=>gu (a.ev Z) (a.ev Z)) Z ?_)
   obtain⟨O,e8,H⟩:=bnd H
   obtain⟨d6,d7,d8⟩:=aW e8
   refine dI 15 (by kernel_rfl) Z (wn Z) Z (by kernel_rfl) (fun _ _ a=>au iX (a.ev Z) u.form (a.ev Z) d6 d7) Z (pG 16 [(52,iv O)] [19] false (by kernel_rfl) Z Z (by kernel_rfl) (fun W W' c hsW hk=>HF.Bg (le:=[]) (ks:=[(2,fun x=>x=(q 24))]) (s0:=N) false c hk (fun h=>absurd h (by decide)) .nil (fun b hb=>hb.elim (fun⟨p,hp,hf,hb⟩=>by simp only[List.mem_cons,List.not_mem_nil,or_false] at hp;rcases hp with rfl;exact .inl ⟨_,List.mem_cons_self,hb⟩) (fun hb=>absurd hb.1 (by decide))) (List.forall_mem_cons.2 ⟨fun b hb=>hb,(fun _ h=>nomatch h)⟩) rfl) ?_ rfl rfl ?_)
   ·exact bg Z (fun _ _ a c=>ah bT (a.ev Z) (vB jm u d8 c) Z) (Tq.fin (.r Z))
   refine dI 17 (by kernel_rfl) Z (wn Z) Z (by kernel_rfl) (fun _ _ a=>wY (a.ev Z) (a.ev Z) _) Z (bY 18 [(54,.pointer (some ⟨(q 24),0,none⟩))] (by kernel_rfl) Z Z (by kernel_rfl) ?_ Z Z ?_)
   ·exact dZ (ag oW) Z (Tq.fin (.r Z))
   exact Dr.one 19 (by kernel_rfl) (CL 19 2 (cs:=[iv (min t K)]) [iv (min t K),iv j.Y0,iv y,iv l.Y1] Z (wn Z) (.inl ⟨_,List.mem_cons_self,Z,Z⟩) Z Z Z Z wP Z Z Z (tX (by kernel_rfl) (aQ (ag xh) Z (bC 2 (cs:=[iv (max y O)]) [iv (min t K),iv j.Y0,iv (max y O),iv l.Y1] (wn Z) Z Z Z Z wP Z Z Z (ae (aL (aa (aM (aC bz Z Z (aA Z (ae (aF P (A,(T+1),(min t K),(max y O)) ⟨Z,dW D,bE D,H⟩ (.cons Z (.cons Z (.cons Z (.cons Z (.cons (congrArg (fun z=>some (Value.int .i64 z)) (dV D o.form)) .nil))))) (.r Z)))))))))))))

theorem uR{w:Bs}(p0:(List bf))(c:Option Addr)(d:Nat)(i:Sl w.R w.W aT c d p0)(r:Bool)(H:mW p0=some r)(hE:HF w w.W E0):Calls Tryz.prog 31 [sL c p0 d].toArray w.W fun e W'=>e= .returned (bV r)∧HF w W' E0:=by
 unfold mW at H
 have leB:=Bs.Le.refl w
 refine aZ (n:=11) Tryz.func31 Z Z Z hE (ai (Tr.k Z (ae (aa (ai (aA Z (aQ (bD ug) Z (aC eU Z Z (aA Z ?_)))))))))
 obtain⟨g,a,H⟩:=bnd H
 refine eD 4 [(10,bV g)] [] ?_ ?_
 ·cases f:((p0.length:Int)==0)
  ·rw[f] at a
   rw[if_neg (by decide)] at a
   have H:=a
   refine dN run_move Z ?_
   obtain⟨b,j,H⟩:=bnd H
   refine bR (r:=(.agg #[iv b.X0,iv b.Y0,iv b.X1,iv b.Y1])) (wg Z Z Z) Z Tryz.call72 (aj Z aJ) (fun W hW=>y5 p0 c d (i.ext hW.dz) b j (HF.start _)) ?_
   obtain⟨h,l,H⟩:=bnd H
   refine bR (r:=(bV h)) (wg Z Z Z) Z Tryz.call71 (aj Z aJ) (fun W hW=>xy b h l (HF.start _)) (aC bH Z Z ?_)
   obtain rfl:=oI H
   exact ae (bA (.r Z) .nil)
  ·rw[f] at a
   rw[if_pos Z] at a
   have H:=a
   obtain rfl:=oI H
   exact bq Z (bq Z (bq Z (aC bG Z Z (ae (bA (.r Z) .nil)))))
 ·show Tr _ _ (LF [(10,bV g)]) (LE []) _
  refine Tr.k Z (ae (aa (bu ?_)))
  obtain rfl:=oI H
  exact fV leB

theorem qW{w:Bs}(p0:(List bf))(l:Option Addr)(o:Nat)(j:Sl w.R w.W aT l o p0)(r:Int)(H:mU p0=some r)(hE:HF w w.W E0):Calls Tryz.prog 73 [sL l p0 o].toArray w.W fun e W'=>e= .returned (iv r)∧HF w W' E0:=by
 unfold mU at H
 have leB:=Bs.Le.refl w
 refine aZ (n:=20) Tryz.func73 Z Z Z hE (ai (Tr.k Z (ae (aa (ai (Tr.k Z (ae (aa (av (ai (aA Z (aQ (bD ug) Z (aA Z (ae (aa (Tr.block (cB (σ:=(List bf)×Nat×Int) (fun m w s=>m=s.1.length+1∧s.1=List.drop s.2.1 p0∧s.2.1≤p0.length∧iE s.1 s.2.1 s.2.2=some r) (fun s=>[(3,iv s.2.2),(6,sL l p0 o),(7,iv (p0.length:Int)),(8,iv (s.2.1:Int))]) (fun s=>[]) (p0.length+1) (p0,0,0) ⟨Z,Z,Nat.zero_le _,H⟩ (.r Z) .nil (fun _ _ h=>absurd h.1 (by simp)) ?_)))))))))))))))))
 intro w q m s hs
 obtain⟨b,v,t⟩:=s
 obtain⟨u,f,E,H⟩:=hs
 replace f:b=List.drop v p0:=f
 replace H:iE b v t=some r:=H
 replace u:m+1=b.length+1:=u
 replace j:=j.oV q
 replace leB:=leB.trans q
 obtain rfl:m=b.length:=by omega
 clear u
 dsimp only
 cases b with
 |nil=>
  rw[iE.eq_1] at H
  refine ai (aC bv Z Z (ae (aa (av (eX Z (dY f) (cz (aD (aD (aU (aa (ai (aA Z (Tr.k Z (ae (aa (bu ?_))))))))))))))))
  obtain rfl:=oI H
  exact fV leB
 |cons d b=>
  rw[iE.eq_2] at H
  refine ai (aC bv Z Z (ae (aa (av (eO Z (fI f) (aO (aa (av (Tr.block (ai ?_))))))))))
  obtain⟨D,A,y,B⟩:=(j).el (gq f)
  obtain⟨g,i⟩:=D
  have C:=y
  exact aG Z (fun _ _ a c=>au pM (a.ev Z) j.form (a.ev Z) (Int.natCast_nonneg _) (bE f)) (aG Z (fun _ _ a c=>aN (cs:=[iv d.Y0,iv d.Y1,sL g d.Xs i]) GQ xC (a.ev Z) (aI.take (wo A B c) 3) Z) (Tr.alloc 3 (wn Z) Z I8 fun F=>(bC 3 (cs:=[iv d.Y0,iv d.Y1,sL g d.Xs i]) [iv d.Y0,iv d.Y1,sL g d.Xs i] (wn Z) Z Z Z Z xC Z Z Z (ae (aa (aM (aA Z (aQ (ag jU) Z (aG Z (fun _ _ a c=>ah lc (a.ev Z) (dB c (vs:=[iv d.Y0,iv d.Y1,sL g d.Xs i]) (k:=3) Z 2) Z) (aQ (bD kF) Z (aG Z (fun _ _ a c=>Oe (a.ev Z) (a.ev Z) (by decide)) (aC bz Z Z (Tr.k Z (ae (aL (aa (aM (aC bz Z Z (aA Z (ae (aF q (b,(v+1),(bF (t+(bF (Int.tdiv (d.Xs.length:Int) 2))))) ⟨Z,dW f,bE f,H⟩ (.cons Z (.cons Z (.cons Z (.cons (congrArg (fun z=>some (Value.int .i64 z)) (dV f j.form)) .nil)))) .nil)))))))))))))))))))))

theorem Ag(N:Nat){w:Bs}(p0:(List bf))(d:Option Addr)(f:Nat)(h:Sl w.R w.W aT d f p0)(r:((List aK)×Int))(H:oC N p0=some r)(hE:HF w w.W (ig [emp])):Calls Tryz.prog 32 [sL d p0 f].toArray w.W fun e W'=>∃u:(Option Addr×Nat),e= .returned (.tuple #[sL u.1 r.1 u.2,iv r.2])∧(bZ u.1 r.1.length u.2)∧HF w W' (ig [ow u.1 u.2 45 aX r.1]):=by
 unfold oC at H
 have leB:=Bs.Le.refl w
 refine aZ (n:=9) Tryz.func32 Z Z Z hE (ai (Tr.k Z (bO 1 45 aX ?_)))
 show Tr _ _ (uf _ 2 (sL none (([]:List aK)) 0)) _ _
 refine Tr.k Z (ae (aa (av (ai (aA Z ?_)))))
 obtain⟨j,l,H⟩:=bnd H
 refine bR (r:=(iv j)) (wn Z) Z Tryz.call73 (aj Z aJ) (fun W hW=>qW p0 d f (h.ext hW.dz) j l (HF.start _)) (aC jd Z Z (ae (aa (aP Z H (fun H=>?_) (fun H=>?_)))))
 ·refine ai (Tr.k Z (bO 2 45 aX ?_))
  show Tr _ _ (uf _ 2 (sL none (([]:List aK)) 0)) _ _
  refine Tr.k Z (ae (aa (bu (bn ?_))))
  obtain rfl:=oI H
  exact Tr.out (m:=[sL none (([]:List aK)) 0,iv 2]) [] (bM Z (bM Z bL)) (fun W hW=>⟨(none,0),Z,fQ,HF.wy leB (hW.pick (ks:=[2]) (by decide) (aH Z aY)) ⟨nQ _ _ _ _ lW,trivial⟩⟩)
 ·refine aO (aa (ai (aA Z ?_)))
  obtain⟨c,o,H⟩:=bnd H
  refine gD [3] [emp] (U:=(Option Addr×Nat)) (fun u=>(sL u.1 c u.2)) (fun u=>bZ u.1 c.length u.2) (fun u=>[ow u.1 u.2 45 aX c]) Z (aH Z aY) (fun _=>Z) (wn Z) Z Tryz.call41 (aj Z aJ) (fun W hW hp hE=>nY N p0 d f (h.ext (hW.gL hp)) c o hE) ?_
  intro u hu
  obtain⟨a,b⟩:=u
  have i:=hu
  have g:bZ a c.length b:=i --@phi
  dsimp only
  refine Tr.k Z (Tr.k Z (ae (aa (bu ?_))))
  obtain rfl:=oI H
  exact Tr.out (m:=[sL a c b,iv 0]) [] (bM Z (bM Z bL)) (fun W hW=>⟨(a,b),Z,g,HF.wy leB (hW.pick (ks:=[3]) (by decide) (aH Z aY)) ⟨nQ _ _ _ _ lW,trivial⟩⟩)

theorem yl(N:Nat){w:Bs}(p0:(List aK))(q:Option Addr)(s:Nat)(z:Sl w.R w.W aX q s p0)(p1:iT)(r:((List aK)×Int))(H:mi N p0 p1=some r)(hE:HF w w.W (ig [emp])):Calls Tryz.prog 8 [sL q p0 s,.agg #[bV p1.Flip,iv p1.Quarters,iv p1.At.X,iv p1.At.Y]].toArray w.W fun e W'=>∃u:(Option Addr×Nat),e= .returned (.tuple #[sL u.1 r.1 u.2,iv r.2])∧(bZ u.1 r.1.length u.2)∧HF w W' (ig [ow u.1 u.2 45 aX r.1]):=by
 unfold mi at H
 have leB:=Bs.Le.refl w
 refine aZ (n:=30) Tryz.func8 Z Z Z hE (ai (fT 1 (cs:=[bV p1.Flip,iv p1.Quarters,iv p1.At.X,iv p1.At.Y]) (wn Z) Z Z Z fun a0=>(Tr.k Z (bO 2 45 aX ?_))))
 show Tr _ _ (uf _ 4 (sL none (([]:List aK)) 0)) _ _
 refine Tr.k Z (ae (aa (av (ai (aA Z ?_)))))
 obtain⟨t,E,H⟩:=bnd H
 refine bR (r:=(iv t)) (wn Z) Z Tryz.call27 (aj Z aJ) (fun W hW=>qc N p0 q s (z.ext hW.dz) t E (HF.start _)) (Tr.k Z (ae (aa (ai (aA Z (aC iP Z Z (ae (aa (aP Z H (fun H=>?_) (fun H=>?_))))))))))
 ·refine ai (aA Z (Tr.k Z (bO 3 45 aX ?_)))
  show Tr _ _ (uf _ 4 (sL none (([]:List aK)) 0)) _ _
  refine Tr.k Z (ae (aa (bu (bn ?_))))
  obtain rfl:=oI H
  exact Tr.out (m:=[sL none (([]:List aK)) 0,iv t]) [] (bM Z (bM Z bL)) (fun W hW=>⟨(none,0),Z,fQ,HF.wy leB (hW.pick (ks:=[3]) (by decide) (aH Z aY)) ⟨nQ _ _ _ _ lW,trivial⟩⟩)
 ·refine aO (aa (av (ai (aG Z (fun _ _ a c=>aN (cs:=[bV p1.Flip,iv p1.Quarters,iv p1.At.X,iv p1.At.Y]) Bl zF (a.ev Z) (aI.take (dB c (vs:=[bV p1.Flip,iv p1.Quarters,iv p1.At.X,iv p1.At.Y]) (k:=1) Z 0) 4) Z) ?_))))
  obtain⟨v,F,H⟩:=bnd H
  refine bR (r:=(iv v)) (wn Z) Z Tryz.call28 (aj Z aJ) (fun W hW=>uS p1 v F (HF.start _)) (Tr.k Z (ae (aa (ai (aA Z (aC iP Z Z (ae (aa (aP Z H (fun H=>?_) (fun H=>?_))))))))))
  ·refine ai (aA Z (Tr.k Z (bO 4 45 aX ?_)))
   show Tr _ _ (uf _ 4 (sL none (([]:List aK)) 0)) _ _
   refine Tr.k Z (ae (aa (bu (bn ?_))))
   obtain rfl:=oI H
   exact Tr.out (m:=[sL none (([]:List aK)) 0,iv v]) [] (bM Z (bM Z bL)) (fun W hW=>⟨(none,0),Z,fQ,HF.wy leB (hW.pick (ks:=[4]) (by decide) (aH Z aY)) ⟨nQ _ _ _ _ lW,trivial⟩⟩)
  ·refine aO (aa (av (rU 3 [] [] (by kernel_rfl) (by kernel_rfl) fun a1 P T=>(bY 0 [(19,sL q p0 s)] (by kernel_rfl) Z Z (by kernel_rfl) ?_ Z Z ?_))))
   ·exact dG Z (Tq.fin (.r Z))
   refine bY 2 [(21,.agg #[bV p1.Flip,iv p1.Quarters,iv p1.At.X,iv p1.At.Y])] (by kernel_rfl) Z Z (by kernel_rfl) ?_ Z Z ?_
   ·exact bg Z (fun _ _ a c=>aN (cs:=[bV p1.Flip,iv p1.Quarters,iv p1.At.X,iv p1.At.Y]) Bl zF (a.ev Z) (aI.take (dB c (vs:=[bV p1.Flip,iv p1.Quarters,iv p1.At.X,iv p1.At.Y]) (k:=1) Z 0) 4) Z) (Tq.fin (.r Z))
   obtain⟨j,G,H⟩:=bnd H
   refine Dr.one 1 (by kernel_rfl) (GV 1 [5] [emp] (U:=(Option Addr×Nat)) (fun u=>(sL u.1 j u.2)) (fun O W u=>bZ u.1 j.length u.2) (fun u=>[ow u.1 u.2 133 aT j]) Z (aH Z aY) (fun _=>Z) (JI Z) Z (wn Z) Z Tryz.call29 (aj Z aJ) (fun W hW hp hE=>ru N p0 q s (z.ext (hW.gL hp)) j G hE) ?_)
   intro w u I hu V
   obtain⟨l,o⟩:=u
   have A:=hu
   replace leB:=leB.trans I
   have Q:bZ l j.length o:=A
   dsimp only
   refine tX (by kernel_rfl) ?_
   obtain⟨i,J,H⟩:=bnd H
   refine dU [6] [emp] (U:=(Option Addr×Nat)) (fun u=>(sL u.1 i u.2)) (fun O W u=>bZ u.1 i.length u.2) (fun u=>[ow u.1 u.2 133 aT i]) Z (aH Z aY) (fun _=>Z) (wn Z) Z Tryz.call30 (aj Z (aj Z aJ)) (fun W hW hp hE=>ym N j l o (hW.Ms (k:=5) Z hp Z) p1 i J hE) ?_
   intro w u K hu
   obtain⟨d,f⟩:=u
   have B:=hu
   replace leB:=leB.trans K
   have S:bZ d i.length f:=B --@phi
   dsimp only
   refine Tr.k Z (ae (aa (av (ai (aA Z ?_)))))
   obtain⟨D,L,H⟩:=bnd H
   refine bR (r:=(bV D)) (wn Z) Z Tryz.call31 (aj Z aJ) (fun W hW=>uR i d f (hW.sH (k:=6) Z) D L (HF.start _)) (aQ jc Z (ae (aa (aP Z H (fun H=>?_) (fun H=>?_)))))
   ·refine ai (Tr.k Z (bO 7 45 aX ?_))
    show Tr _ _ (uf _ 4 (sL none (([]:List aK)) 0)) _ _
    refine Tr.k Z (ae (aa (bu (bn ?_))))
    obtain rfl:=oI H
    exact Tr.out (m:=[sL none (([]:List aK)) 0,iv 1]) [] (bM Z (bM Z bL)) (fun W hW=>⟨(none,0),Z,fQ,HF.wy leB (hW.pick (ks:=[7]) (by decide) (aH Z aY)) ⟨nQ _ _ _ _ lW,trivial⟩⟩)
   ·refine aO (aa (ai (aA Z ?_)))
    obtain⟨b,M,H⟩:=bnd H
    refine gD [8] [emp] (U:=(Option Addr×Nat)) (fun u=>(.tuple #[sL u.1 b.1 u.2,iv b.2])) (fun u=>bZ u.1 b.1.length u.2) (fun u=>[ow u.1 u.2 45 aX b.1]) Z (aH Z aY) (fun _=>Z) (wn Z) Z Tryz.call32 (aj Z aJ) (fun W hW hp hE=>Ag N i d f (hW.Ms (k:=6) Z hp Z) b M hE) ?_
    intro u hu
    obtain⟨g,h⟩:=u
    have C:=hu
    have y:bZ g b.1.length h:=C --@phi
    dsimp only
    refine aG Z (fun _ _ a c=>cu (a.ev Z) Z) (aG Z (fun _ _ a c=>cu (a.ev Z) Z) (Tr.k Z (Tr.k Z (ae (aa (bu ?_))))))
    obtain rfl:=oI H
    exact Tr.out (m:=[sL g b.1 h,iv b.2]) [] (bM Z (bM Z bL)) (fun W hW=>⟨(g,h),Z,y,HF.wy leB (hW.pick (ks:=[8]) (by decide) (aH Z aY)) ⟨nQ _ _ _ _ lW,trivial⟩⟩)

theorem wG{w:Bs}(p0:(List gU))(a:Option Addr)(b:Nat)(c:Sl w.O w.W aR a b p0)(r:(List gU))(H:pE p0=some r)(hE:HF w w.W (ig [emp])):Calls Tryz.prog 76 [sL a p0 b].toArray w.W fun e W'=>∃(w':Bs) (u:(Option Addr×Nat)),w.Le w'∧e= .returned (sL u.1 r u.2)∧(bZ u.1 r.length u.2)∧HF w' W' (ig [ow u.1 u.2 73 aR r]):=by
 unfold pE at H
 have leB:=Bs.Le.refl w
 refine aZ (n:=8) Tryz.func76 Z Z Z hE (ai (Tr.k Z (bO 1 73 aR ?_)))
 show Tr _ _ (uf _ 2 (sL none (([]:List gU)) 0)) _ _
 refine ae (aa (av (ai (aA Z (aC (Bt Ff) Z Z (ae (aa ?_)))))))
 cases a with
 |none=>
  have hl0:=FH c.form
  replace H:(some ([]:List gU))=some r:=by simpa[wO,hl0] using H
  refine eO Z Z (ai (Tr.k Z (bO 2 73 aR ?_)))
  show Tr _ _ (uf _ 2 (sL none (([]:List gU)) 0)) _ _
  refine ae (aa (bu (bn ?_)))
  obtain rfl:=oI H
  exact Tr.out (m:=[sL none (([]:List gU)) 0]) [] (bM Z bL) (fun W hW=>⟨w,(none,0),leB,Z,fQ,hW.pick (ks:=[2]) (by decide) (aH Z aY)⟩)
 |some j=>
  refine eX Z Z (aO (aa (ai (dS 3 (e:=73) (vs:=[]) (cs:=[]) (wn Z) Z dH (by kernel_rfl) fun o=>(aA Z (Tr.own 3 aR ([]:List gU) (css:=[]) Z .nil Z (by decide) (yK Z) ?_))))))
  obtain⟨i,h,H⟩:=bnd H
  refine yT 3 (t:=aR) (l:=([]:List gU)) (l2:=p0) (wn Z) Z Z Z Z (ZF c) Ff XK Xv (by decide) Yf Z h fun d f g=>(Tr.k Z (ae (aa (bu ?_))))
  obtain rfl:=oI H
  exact Tr.out (m:=[sL d i f]) [] (bM Z bL) (fun W hW=>⟨w,(d,f),leB,Z,g,hW.pick (ks:=[3]) (by decide) (aH Z aY)⟩)

theorem wL(N:Nat){w:Bs}(p0:(List gU))(d:Option Addr)(f:Nat)(q:Sl w.O w.W aR d f p0)(p1:aK→Option aK)(fid1:Nat)(g:List Value)(hg1:∀args W,(callFunc fid1 args).run Tryz.prog W= .ok (.enter fid1 args) W)(hf1:∀(w':Bs),w.Ext w'→∀(z0:aK),∀y,p1 z0=some y→Calls Tryz.prog fid1 (([.agg #[iv z0.X0,iv z0.Y0,iv z0.X1,iv z0.Y1]]:List Value)++g).toArray w'.W fun e W''=>e= .returned (.agg #[iv y.X0,iv y.Y0,iv y.X1,iv y.Y1])∧HF w' W'' E0)(r:(List gU))(H:oo N p0 p1=some r)(hE:HF w w.W (ig [emp])):Calls Tryz.prog 34 [sL d p0 f,.func (.func fid1) #[] g.toArray].toArray w.W fun e W'=>∃(w':Bs) (u:(Option Addr×Nat)),w.Le w'∧e= .returned (sL u.1 r u.2)∧(bZ u.1 r.length u.2)∧HF w' W' (ig [ow u.1 u.2 73 aR r]):=by
 unfold oo at H
 have leB:=Bs.Le.refl w
 refine aZ (n:=50) Tryz.func34 Z Z Z hE (ai (Tr.k Z (bO 1 73 aR ?_)))
 show Tr _ _ (uf _ 4 (sL none (([]:List gU)) 0)) _ _
 refine ae (aa (ai (aA Z ?_)))
 obtain⟨c,s,H⟩:=bnd H
 refine dU [2] [emp] (U:=(Option Addr×Nat)) (fun u=>(sL u.1 c u.2)) (fun O W u=>bZ u.1 c.length u.2) (fun u=>[ow u.1 u.2 73 aR c]) Z (aH Z aY) (fun _=>Z) (wn Z) Z Tryz.call76 (aj Z aJ) (fun W hW hp hE=>wG p0 d f (q.rF (hW.gL hp)) c s hE) ?_
 intro w u j hu
 obtain⟨a,b⟩:=u
 have l:=hu
 replace hf1:=fun w' he=>hf1 w' (j.ext.trans he)
 replace leB:=leB.trans j
 have i:bZ a c.length b:=l --@phi
 dsimp only
 refine Tr.k Z (ae (aa (av (ai (aA Z (aQ (bD Ff) Z (aA Z (ae (aa (Tr.block (cB (σ:=Unit) (fun m w _=>qd c m=some r) (fun _=>[(1,.func (.func fid1) #[] g.toArray),(5,sL a c b),(12,iv (c.length:Int)),(13,iv 0)]) (fun _=>[(2,ow a b 73 aR c)]) N () H (.r Z) (.r Z) (fun _ _ h=>jZ (h)) ?_)))))))))))
 intro w o t _ hs
 have H:=hs
 replace H:qd c (t+1)=some r:=H
 replace hf1:=fun w' he=>hf1 w' (o.ext.trans he)
 replace leB:=leB.trans o
 rw[qd.eq_2] at H
 show Tr _ _ (LF [(1,.func (.func fid1) #[] g.toArray),(5,sL a c b),(12,iv (c.length:Int)),(13,iv 0)]) (LE [(2,ow a b 73 aR c)]) _
 refine ai (aC bv Z Z (ae (aa (av (aP Z H (fun H=>?_) (fun H=>?_))))))
 ·refine aO (aa (av (Tr.block (av ?_))))
  cases H
 ·refine cz (aD (aD (aU (aa (ai (aA Z (Tr.k Z (ae (aa (bu ?_))))))))))
  obtain rfl:=oI H
  exact Tr.out (m:=[sL a c b]) [] (bM Z bL) (fun W hW=>⟨w,(a,b),leB,Z,i,hW.pick (ks:=[2]) (by decide) (aH Z aY)⟩)

theorem D9{w:Bs}(p0:aK)(r:aK)(H:sj p0=some r)(hE:HF w w.W E0):Calls Tryz.prog 74 [.agg #[iv p0.X0,iv p0.Y0,iv p0.X1,iv p0.Y1]].toArray w.W fun e W'=>e= .returned (.agg #[iv r.X0,iv r.Y0,iv r.X1,iv r.Y1])∧HF w W' E0:=by
 unfold sj at H
 have leB:=Bs.Le.refl w
 refine aZ (n:=4) Tryz.func74 Z Z Z hE (ai (fT 1 (cs:=[iv p0.X0,iv p0.Y0,iv p0.X1,iv p0.Y1]) (wn Z) Z Z Z fun b=>(Tr.alloc 2 (wn Z) Z vz fun d=>(ae (aa (ai (aG Z (fun _ _ a c=>aN (cs:=[iv p0.X0,iv p0.Y0,iv p0.X1,iv p0.Y1]) qJ kG (a.ev Z) (aI.take (dB c (vs:=[iv p0.X0,iv p0.Y0,iv p0.X1,iv p0.Y1]) (k:=1) Z 0) 4) Z) (bC 2 (cs:=[iv p0.X0,iv p0.Y0,iv p0.X1,iv p0.Y1]) [iv p0.X0,iv p0.Y0,iv p0.X1,iv p0.Y1] (wn Z) Z Z Z Z kG Z Z Z (ae (aa (bu ?_)))))))))))
 obtain rfl:=oI H
 exact Tr.out (m:=[.agg #[iv p0.X0,iv p0.Y0,iv p0.X1,iv p0.Y1]]) [2] (nA Z Z qJ kG bL) (fun W hW=>⟨Z,hW.low leB⟩)

theorem yj{w:Bs}(p0:(List ak))(a:Option Addr)(b:Nat)(c:Sl w.R w.W bi a b p0)(r:(List ak))(H:mf p0=some r)(hE:HF w w.W (ig [emp])):Calls Tryz.prog 108 [sL a p0 b].toArray w.W fun e W'=>∃u:(Option Addr×Nat),e= .returned (sL u.1 r u.2)∧(bZ u.1 r.length u.2)∧HF w W' (ig [ow u.1 u.2 24 bi r]):=by
 unfold mf at H
 have leB:=Bs.Le.refl w
 refine aZ (n:=8) Tryz.func108 Z Z Z hE (ai (Tr.k Z (bO 1 24 bi ?_)))
 show Tr _ _ (uf _ 2 (sL none (([]:List ak)) 0)) _ _
 refine ae (aa (av (ai (aA Z (aC (Bt qM) Z Z (ae (aa ?_)))))))
 cases a with
 |none=>
  have hl0:=FH c.form
  replace H:(some ([]:List ak))=some r:=by simpa[wO,hl0] using H
  refine eO Z Z (ai (Tr.k Z (bO 2 24 bi ?_)))
  show Tr _ _ (uf _ 2 (sL none (([]:List ak)) 0)) _ _
  refine ae (aa (bu (bn ?_)))
  obtain rfl:=oI H
  exact Tr.out (m:=[sL none (([]:List ak)) 0]) [] (bM Z bL) (fun W hW=>⟨(none,0),Z,fQ,HF.wy leB (hW.pick (ks:=[2]) (by decide) (aH Z aY)) ⟨nQ _ _ _ _ vS,trivial⟩⟩)
 |some j=>
  refine eX Z Z (aO (aa (ai (dS 3 (e:=24) (vs:=[]) (cs:=[]) (wn Z) Z dH (by kernel_rfl) fun o=>(aA Z (Tr.own 3 bi ([]:List ak) (css:=[]) Z .nil Z (by decide) (yK Z) ?_))))))
  obtain⟨i,h,H⟩:=bnd H
  refine yT 3 (t:=bi) (l:=([]:List ak)) (l2:=p0) (wn Z) Z Z Z Z (Zd vS (fun W hW=>(Sl.En c hW))) qM gQ Hw (by decide) IW Z h fun d f g=>(Tr.k Z (ae (aa (bu ?_))))
  obtain rfl:=oI H
  exact Tr.out (m:=[sL d i f]) [] (bM Z bL) (fun W hW=>⟨(d,f),Z,g,HF.wy leB (hW.pick (ks:=[3]) (by decide) (aH Z aY)) ⟨nQ _ _ _ _ vS,trivial⟩⟩)

theorem D8(N:Nat)(rec:(List aB)→ak→Option (List aB))(hrec:∀{w:Bs} (p0:(List aB)) (D:Option Addr) (G:Nat) (Q:Sl w.O w.W az D G p0) (p1:ak) (r:(List aB)) (H:rec p0 p1=some r) (hE:HF w w.W (ig [emp])),Calls Tryz.prog 75 [sL D p0 G,.agg #[iv p1.X,iv p1.Y]].toArray w.W fun e W'=>∃(w':Bs) (u:(Option Addr×Nat×List (DE az))),w.Le w'∧e= .returned (sL u.1 r u.2.1)∧((DC u.2.2 r∧bZ u.1 r.length u.2.1))∧HF w' W' (ig [dq u.1 r.length u.2.1 59 24 aV u.2.2])){w:Bs}(p0:(List aB))(D:Option Addr)(G:Nat)(Q:Sl w.O w.W az D G p0)(p1:ak)(r:(List aB))(H:xM N rec p0 p1=some r)(hE:HF w w.W (ig [emp])):Calls Tryz.prog 75 [sL D p0 G,.agg #[iv p1.X,iv p1.Y]].toArray w.W fun e W'=>∃(w':Bs) (u:(Option Addr×Nat×List (DE az))),w.Le w'∧e= .returned (sL u.1 r u.2.1)∧((DC u.2.2 r∧bZ u.1 r.length u.2.1))∧HF w' W' (ig [dq u.1 r.length u.2.1 59 24 aV u.2.2]):=by
 unfold xM at H
 have leB:=Bs.Le.refl w
 refine aZ (n:=113) Tryz.func75 Z Z Z hE (ai (fT 1 (cs:=[iv p1.X,iv p1.Y]) (wn Z) Z Z Z fun y=>(Tr.k Z (bO 2 59 az ?_))))
 show Tr _ _ (uf _ 4 (sL none (([]:List aB)) 0)) _ _
 refine ae (aa (ai (Tr.k Z (Tp 3 59 24 aV ?_))))
 show Tr _ _ (uf _ 5 (sL none (([]:List aB)) 0)) (up _ 3 (dq none ([]:List aB).length 0 59 24 aV [])) _
 refine ae (aa (av (ai (aA Z (aQ (bD wV) Z (aA Z (ae (aa (Tr.block (cB (σ:=(List aB)×Nat×(List aB)×(Option Addr)×Nat×(List (DE az))) (fun m w s=>m=s.1.length+1∧s.1=List.drop s.2.1 p0∧s.2.1≤p0.length∧iK N p1 s.1 s.2.1 s.2.2.1=some r∧(DC s.2.2.2.2.2 s.2.2.1∧bZ s.2.2.2.1 s.2.2.1.length s.2.2.2.2.1)) (fun s=>[(3,pV y),(5,sL s.2.2.2.1 s.2.2.1 s.2.2.2.2.1),(11,sL D p0 G),(12,iv (p0.length:Int)),(13,iv (s.2.1:Int))]) (fun s=>[(1,bx y #[iv p1.X,iv p1.Y] 24),(3,dq s.2.2.2.1 s.2.2.1.length s.2.2.2.2.1 59 24 aV s.2.2.2.2.2)]) (p0.length+1) (p0,0,([]:List aB),none,0,([]:List (DE az))) ⟨Z,Z,Nat.zero_le _,H,⟨DC.nil,fQ⟩⟩ (.r Z) (.r Z) (fun _ _ h=>absurd h.1 (by simp)) ?_))))))))))
 intro w a1 m s hs
 obtain⟨E,V,o,q,v,K⟩:=s
 obtain⟨b4,a',f7,H,a2⟩:=hs
 replace a':E=List.drop V p0:=a'
 replace H:iK N p1 E V o=some r:=H
 replace b4:m+1=E.length+1:=b4
 replace Q:=Q.le a1
 replace leB:=leB.trans a1
 replace a2:DC K o∧bZ q o.length v:=a2
 obtain rfl:m=E.length:=by omega
 clear b4
 dsimp only
 cases E with
 |nil=>
  rw[iK.eq_1] at H
  refine ai (aC bv Z Z (ae (aa (av (eX Z (dY a') (cz (aD (aD (aU (aa (ai (aA Z (Tr.k Z (ae (aa (bu ?_))))))))))))))))
  obtain rfl:=oI H
  exact Tr.out (m:=[sL q o v]) [] (bM Z bL) (fun W hW=>⟨w,(q,v,K),leB,Z,⟨a2.1,a2.2⟩,hW.pick (ks:=[3]) (by decide) (aH Z aY)⟩)
 | cons b E=>
  rw[iK.eq_2] at H
  refine ai (aC bv Z Z (ae (aa (av (eO Z (fI a') (aO (aa (av (Tr.block (ai ?_))))))))))
  obtain⟨f2,a8,b8,c3⟩:=(Q).el (gq a')
  obtain⟨⟨B,C⟩,⟨d,f⟩⟩:=f2
  obtain⟨S,F⟩:=lu.1 b8
  replace S:Sl w.O w.W bi B C b.Points:=S
  replace F:Sl w.O w.W az d f b.Steps:=F
  replace a8:w.R (pu D):=Or.inl a8
  refine aG Z (fun _ _ a c=>au Gx (a.ev Z) Q.form (a.ev Z) (Int.natCast_nonneg _) (bE a')) (aG Z (fun _ _ a c=>aN (cs:=[iv b.Kind,sv b.Name,iv b.At.X,iv b.At.Y,sL B b.Points C,iv b.NX,iv b.NY,sL d b.Steps f]) Bj rA (a.ev Z) (aI.take (wo a8 c3 c) 8) Z) (Tr.alloc 12 (wn Z) Z Hy fun J=>(bC 12 (cs:=[iv b.Kind,sv b.Name,iv b.At.X,iv b.At.Y,sL B b.Points C,iv b.NX,iv b.NY,sL d b.Steps f]) [iv b.Kind,sv b.Name,iv b.At.X,iv b.At.Y,sL B b.Points C,iv b.NX,iv b.NY,sL d b.Steps f] (wn Z) Z Z Z Z rA Z Z Z (ae (aa ?_)))))
  have c4:=Bs.Le.refl w
  refine kZ (σ:=Unit) (fun w _=>qY N p1 o (iK N p1 E (V+1)) b=some r) (fun _=>[(3,pV y),(5,sL q o v),(7,pV J),(11,sL D p0 G),(12,iv (p0.length:Int)),(13,iv (V:Int))]) (fun _=>[(1,bx y #[iv p1.X,iv p1.Y] 24),(3,dq q o.length v 59 24 aV K),(12,bx J #[iv b.Kind,sv b.Name,iv b.At.X,iv b.At.Y,sL B b.Points C,iv b.NX,iv b.NY,sL d b.Steps f] 59)]) ?_ ?_
  ·refine Tr.block (ai (aQ (ag vH) Z (aG Z (fun _ _ a c=>ah bT (a.ev Z) (dB c (vs:=[iv b.Kind,sv b.Name,iv b.At.X,iv b.At.Y,sL B b.Points C,iv b.NX,iv b.NY,sL d b.Steps f]) (k:=12) Z 0) Z) (aC eU Z Z (Tr.k Z (ae (aa (aP Z H (fun H=>?_) (fun H=>?_)))))))))
   ·refine av (av ?_)
    cases H
   ·refine ai (aQ (ag vH) Z (aG Z (fun _ _ a c=>ah bT (a.ev Z) (dB c (vs:=[iv b.Kind,sv b.Name,iv b.At.X,iv b.At.Y,sL B b.Points C,iv b.NX,iv b.NY,sL d b.Steps f]) (k:=12) Z 0) Z) ?_))
    obtain⟨a9,d9,H⟩:=bnd H
    refine bR (r:=(.agg #[bV a9.name,bV a9.at_,bV a9.points,bV a9.repeat_])) (wn Z) Z Tryz.call37 (aj Z aJ) (fun W hW=>sO b.Kind a9 d9 (HF.start _)) (aG Z (fun _ _ a c=>FO Pb z8 (a.ev Z) Z) (Tr.k Z (ae (aa (aP Z H (fun H=>?_) (fun H=>?_))))))
    ·cases H
    ·exact aO (aL (aF c4 () H (.r Z) (.r Z)))
  ·intro w _ a3 hs
   have H:=hs
   replace H:qY N p1 o (iK N p1 E (V+1)) b=some r:=H
   replace S:=S.le a3
   replace F:=F.le a3
   replace Q:=Q.le a3
   replace a1:=a1.trans a3
   unfold qY at H
   show Tr _ _ (LF [(3,pV y),(5,sL q o v),(7,pV J),(11,sL D p0 G),(12,iv (p0.length:Int)),(13,iv (V:Int))]) (LE [(1,bx y #[iv p1.X,iv p1.Y] 24),(3,dq q o.length v 59 24 aV K),(12,bx J #[iv b.Kind,sv b.Name,iv b.At.X,iv b.At.Y,sL B b.Points C,iv b.NX,iv b.NY,sL d b.Steps f] 59)]) _
   refine ai (aQ (ag pR) Z (aG Z (fun _ _ a c=>ah tF (a.ev Z) (dB c (vs:=[iv b.Kind,sv b.Name,iv b.At.X,iv b.At.Y,sL B b.Points C,iv b.NX,iv b.NY,sL d b.Steps f]) (k:=12) Z 4) Z) ?_))
   obtain⟨A,e0,H⟩:=bnd H
   refine gD [13] [emp] (U:=(Option Addr×Nat)) (fun u=>(sL u.1 A u.2)) (fun u=>bZ u.1 A.length u.2) (fun u=>[ow u.1 u.2 24 bi A]) Z (aH Z aY) (fun _=>Z) (wn Z) Z Tryz.call108 (aj Z aJ) (fun W hW hp hE=>yj b.Points B C (S.rl.ext (hW.gL hp)) A e0 hE) ?_
   intro u hu
   obtain⟨M,P⟩:=u
   have b9:=hu
   have b5:bZ M A.length P:=b9 --@phi
   dsimp only
   refine aQ (ag pR) Z (bC 12 (cs:=[sL M A P]) [iv b.Kind,sv b.Name,iv b.At.X,iv b.At.Y,sL M A P,iv b.NX,iv b.NY,sL d b.Steps f] (wn Z) Z Z Z Z QR Z Z Z (ae (aa (av (ai (aQ (ag pR) Z (aG Z (fun _ _ a c=>ah tF (a.ev Z) (dB c (vs:=[iv b.Kind,sv b.Name,iv b.At.X,iv b.At.Y,sL M A P,iv b.NX,iv b.NY,sL d b.Steps f]) (k:=12) Z 4) Z) (aQ (bD qM) Z (aA Z (ae (aa (Tr.block (cB (σ:=(List ak)×Int×(Option Addr)×Nat) (fun m w s=>mH p1 o (iK N p1 E (V+1)) b A m s.1 s.2.1=some r∧bZ s.2.2.1 s.1.length s.2.2.2) (fun s=>[(3,pV y),(5,sL q o v),(7,pV J),(11,sL D p0 G),(12,iv (p0.length:Int)),(13,iv (V:Int)),(80,iv (A.length:Int)),(81,iv s.2.1)]) (fun s=>[(1,bx y #[iv p1.X,iv p1.Y] 24),(3,dq q o.length v 59 24 aV K),(12,bx J #[iv b.Kind,sv b.Name,iv b.At.X,iv b.At.Y,sL s.2.2.1 s.1 s.2.2.2,iv b.NX,iv b.NY,sL d b.Steps f] 59),(13,ow s.2.2.1 s.2.2.2 24 bi s.1)]) N (A,0,M,P) ⟨H,b5⟩ (.r Z) (.r Z) (fun _ _ h=>jZ (h.1)) ?_)))))))))))))
   intro w b2 f6 s hs
   obtain⟨T,I,g,j⟩:=s
   obtain⟨H,a0⟩:=hs
   replace H:mH p1 o (iK N p1 E (V+1)) b A (f6+1) T I=some r:=H
   replace F:=F.le b2
   replace Q:=Q.le b2
   replace a1:=a1.trans b2
   replace a0:bZ g T.length j:=a0
   rw[mH.eq_2] at H
   dsimp only
   refine ai (aC bv Z Z (ae (aa (av (aP Z H (fun H=>?_) (fun H=>?_))))))
   ·refine aO (aa (av (Tr.block (ai (aA Z (Tr.k Z (ae (aa (av (jN 8 (by kernel_rfl) (by kernel_rfl) (dZ (ag pR) Z (bg Z (fun _ _ a c=>ah tF (a.ev Z) (dB c (vs:=[iv b.Kind,sv b.Name,iv b.At.X,iv b.At.Y,sL g T j,iv b.NX,iv b.NY,sL d b.Steps f]) (k:=12) Z 4) Z) (dG Z ?_)))))))))))))
    obtain⟨a5,e3,H⟩:=bnd H
    obtain⟨c5,c6,c7⟩:=aW e3
    refine bg Z (fun _ _ a c=>au ql (a.ev Z) a0 (a.ev Z) c5 c6) (dZ (ag je) Z (bg Z (fun _ _ a c=>ah bT (a.ev Z) (aI.drop (yF jI (k:=13) c Z c7) 0) Z) (dZ (ag je) Z (bg Z (fun _ _ a c=>ah bT (a.ev Z) (dB c (vs:=[iv p1.X,iv p1.Y]) (k:=1) Z 0) Z) (iC (aC bz Z Z ?_))))))
    obtain⟨f3,e4,H⟩:=bnd H
    obtain⟨c8,c9,d0⟩:=aW e4
    refine aG Z (fun _ _ a c=>au ql (a.ev Z) a0 (a.ev Z) c8 c9) (aQ (ag je) Z ?_)
    obtain⟨a6,b6,H⟩:=bnd H
    have b0:=lN b6
    refine ng 13 (t:=bi) (l:=T) (i:=I) (fo:=0) (cs:=[iv (bF (a5.X+p1.X))]) (ak.mk (bF (a5.X+p1.X)) f3.Y) (wn Z) Z Z Z Z Z d0 wP Z (fun u _=>⟨u,trivial,Z⟩) Z b6 ?_
    have b1:bZ g a6.length j:=by rw[b0];exact a0
    refine Tr.vD (lf:=[(3,pV y),(5,sL q o v),(7,pV J),(10,iv I),(11,sL D p0 G),(12,iv (p0.length:Int)),(13,iv (V:Int)),(80,iv (A.length:Int)),(81,iv I),(82,bV (decide (I<(A.length:Int)))),(83,iv I),(84,.pointer (some ⟨J,4,none⟩)),(85,sL g a6 j),(86,iv I),(89,iv a5.X),(90,pV y),(91,iv p1.X),(92,iv (bF (a5.X+p1.X)))]) (le:=[(1,bx y #[iv p1.X,iv p1.Y] 24),(3,dq q o.length v 59 24 aV K),(12,bx J #[iv b.Kind,sv b.Name,iv b.At.X,iv b.At.Y,sL g a6 j,iv b.NX,iv b.NY,sL d b.Steps f] 59),(13,ow g j 24 bi a6)]) (.cons Z (.cons Z (.cons Z (.cons Z (.cons Z (.cons Z (.cons Z (.cons Z (.cons Z (.cons Z (.cons Z (.cons Z (.cons (dM Z (by unfold sL;rw[b0])) (.r Z)))))))))))))) (.cons Z (.cons Z (.cons (Xr Z (by unfold sL;rw[b0])) (.r Z)))) (ae (aa (jN 8 (by kernel_rfl) (by kernel_rfl) (dZ (ag pR) Z (bg Z (fun _ _ a c=>ah tF (a.ev Z) (dB c (vs:=[iv b.Kind,sv b.Name,iv b.At.X,iv b.At.Y,sL g a6 j,iv b.NX,iv b.NY,sL d b.Steps f]) (k:=12) Z 4) Z) (dG Z ?_))))))
    obtain⟨b3,e5,H⟩:=bnd H
    obtain⟨d1,d2,d3⟩:=aW e5
    refine bg Z (fun _ _ a c=>au ql (a.ev Z) b1 (a.ev Z) d1 d2) (dZ (ag iQ) Z (bg Z (fun _ _ a c=>ah bT (a.ev Z) (aI.drop (yF jI (k:=13) c Z d3) 1) Z) (dZ (ag iQ) Z (bg Z (fun _ _ a c=>ah bT (a.ev Z) (dB c (vs:=[iv p1.X,iv p1.Y]) (k:=1) Z 1) Z) (iC (aC bz Z Z ?_))))))
    obtain⟨f4,e6,H⟩:=bnd H
    obtain⟨d4,d5,d6⟩:=aW e6
    refine aG Z (fun _ _ a c=>au ql (a.ev Z) b1 (a.ev Z) d4 d5) (aQ (ag iQ) Z ?_)
    obtain⟨a7,b7,H⟩:=bnd H
    have a4:=lN b7
    refine ng 13 (t:=bi) (l:=a6) (i:=I) (fo:=1) (cs:=[iv (bF (b3.Y+p1.Y))]) (ak.mk f4.X (bF (b3.Y+p1.Y))) (wn Z) Z Z Z Z Z d6 wP Z (fun u _=>⟨u,trivial,Z⟩) Z b7 ?_
    have d7:bZ g a7.length j:=by rw[a4];exact b1
    exact Tr.vD (lf:=[(3,pV y),(5,sL q o v),(7,pV J),(10,iv I),(11,sL D p0 G),(12,iv (p0.length:Int)),(13,iv (V:Int)),(80,iv (A.length:Int)),(81,iv I),(82,bV (decide (I<(A.length:Int)))),(83,iv I),(84,.pointer (some ⟨J,4,none⟩)),(85,sL g a7 j),(86,iv I),(89,iv a5.X),(90,pV y),(91,iv p1.X),(92,iv (bF (a5.X+p1.X))),(95,.pointer (some ⟨J,4,none⟩)),(96,sL g a7 j),(97,iv I),(100,iv b3.Y),(101,.pointer (some ⟨y,1,none⟩)),(102,iv p1.Y),(103,iv (bF (b3.Y+p1.Y)))]) (le:=[(1,bx y #[iv p1.X,iv p1.Y] 24),(3,dq q o.length v 59 24 aV K),(12,bx J #[iv b.Kind,sv b.Name,iv b.At.X,iv b.At.Y,sL g a7 j,iv b.NX,iv b.NY,sL d b.Steps f] 59),(13,ow g j 24 bi a7)]) (.cons Z (.cons Z (.cons Z (.cons Z (.cons Z (.cons Z (.cons Z (.cons Z (.cons Z (.cons Z (.cons Z (.cons Z (.cons (dM Z (by unfold sL;rw[a4])) (.cons Z (.cons Z (.cons Z (.cons Z (.cons Z (.cons Z (.cons (dM Z (by unfold sL;rw[a4])) (.r Z))))))))))))))))))))) (.cons Z (.cons Z (.cons (Xr Z (by unfold sL;rw[a4])) (.r Z)))) (ae (aL (aa (aM (aC bz Z Z (aA Z (ae (aF b2 (a7,(bF (I+1)),g,j) ⟨H,d7⟩ (.r Z) (.r Z)))))))))
   ·refine cz (aD (aD (aU (aa (aM (aA Z (aG Z (fun _ _ a c=>aN (cs:=[iv b.Kind,sv b.Name,iv b.At.X,iv b.At.Y,sL g T j,iv b.NX,iv b.NY,sL d b.Steps f]) Bj rA (a.ev Z) (aI.take (dB c (vs:=[iv b.Kind,sv b.Name,iv b.At.X,iv b.At.Y,sL g T j,iv b.NX,iv b.NY,sL d b.Steps f]) (k:=12) Z 0) 8) Z) (dS 14 (e:=59) (vs:=[(0,.agg #[iv b.Kind,sv b.Name,iv b.At.X,iv b.At.Y,sL g T j,iv b.NX,iv b.NY,sL d b.Steps f])]) (cs:=[iv b.Kind,sv b.Name,iv b.At.X,iv b.At.Y,sL g T j,iv b.NX,iv b.NY,sL d b.Steps f]) (wn Z) Z (bB Z dH) (by kernel_rfl) fun f8=>?_))))))))
    obtain⟨f5,e7,H⟩:=bnd H
    exact Qw (L:=aV) 3 13 15 14 (u:=((g,j),(d,f))) (x:=(aB.mk b.Kind b.Name b.At T b.NX b.NY b.Steps)) (cs:=[iv b.Kind,sv b.Name,iv b.At.X,iv b.At.Y,sL g T j,iv b.NX,iv b.NY,sL d b.Steps f]) Z Z Z Z Z Z (wn Z) Z Z Z a2.1 Z Z Z F Z Z Z a0 wV rA NP (by decide) Pv Z e7 fun e8 e9 f1 c0 d8=>(Tr.k Z (ae (aL (aa (aM (aC bz Z Z (aA Z (ae (aF a1 (E,(V+1),f5,e8,e9,f1) ⟨Z,dW a',bE a',H,⟨c0,d8⟩⟩ (.cons Z (.cons Z (.cons Z (.cons Z (.cons (congrArg (fun z=>some (Value.int .i64 z)) (dV a' Q.form)) .nil))))) (.r Z))))))))))
theorem Am:∀(N:Nat) {w:Bs} (p0:(List aB)) (a:Option Addr) (b:Nat) (c:Sl w.O w.W az a b p0) (p1:ak) (r:(List aB)) (H:uU N p0 p1=some r) (hE:HF w w.W (ig [emp])),Calls Tryz.prog 75 [sL a p0 b,.agg #[iv p1.X,iv p1.Y]].toArray w.W fun e W'=>∃(w':Bs) (u:(Option Addr×Nat×List (DE az))),w.Le w'∧e= .returned (sL u.1 r u.2.1)∧((DC u.2.2 r∧bZ u.1 r.length u.2.1))∧HF w' W' (ig [dq u.1 r.length u.2.1 59 24 aV u.2.2])
 |0=>by intros;rename_i H _;cases H
 |N+1=>D8 N (uU N) (Am N)

theorem BR(N:Nat){w:Bs}(p0:ed)(j:Option Addr)(l:Nat)(E:Sl w.O w.W aR j l p0.Tools)(o:Option Addr)(q:Nat)(v:Sl w.O w.W az o q p0.Steps)(r:ed)(H:qy N p0=some r)(hE:HF w w.W (ig [emp,emp])):Calls Tryz.prog 33 [.agg #[iv p0.Unit,sL j p0.Tools l,sL o p0.Steps q]].toArray w.W fun e W'=>∃(w':Bs) (u:(Option Addr×Nat)×(Option Addr×Nat×List (DE az))),w.Le w'∧e= .returned (.agg #[iv r.Unit,sL u.1.1 r.Tools u.1.2,sL u.2.1 r.Steps u.2.2.1])∧(bZ u.1.1 r.Tools.length u.1.2∧(DC u.2.2.2 r.Steps∧bZ u.2.1 r.Steps.length u.2.2.1))∧HF w' W' (ig [ow u.1.1 u.1.2 73 aR r.Tools,dq u.2.1 r.Steps.length u.2.2.1 59 24 aV u.2.2.2]):=by
 unfold qy at H
 have leB:=Bs.Le.refl w
 refine aZ (n:=13) Tryz.func33 Z Z Z hE (ai (fT 1 (cs:=[iv p0.Unit,sL j p0.Tools l,sL o p0.Steps q]) (wn Z) Z Z Z fun z=>(Tr.alloc 2 (wn Z) Z BU fun Q=>(ae (aa (av (rU 9 [] [] (by kernel_rfl) (by kernel_rfl) fun P J K=>(bY 0 [(3,pV z)] (by kernel_rfl) Z Z (by kernel_rfl) ?_ Z Z ?_))))))))
 ·exact dZ (ag sD) Z (Tq.fin (.r Z))
 refine bY 1 [(4,iv p0.Unit)] (by kernel_rfl) Z Z (by kernel_rfl) ?_ Z Z ?_
 ·exact bg Z (fun _ _ a c=>ah bT (a.ev Z) (dB c (vs:=[iv p0.Unit,sL j p0.Tools l,sL o p0.Steps q]) (k:=1) Z 0) Z) (Tq.fin (.r Z))
 refine bY 2 [(5,.pointer (some ⟨z,1,none⟩))] (by kernel_rfl) Z Z (by kernel_rfl) ?_ Z Z ?_
 ·exact dZ (ag yQ) Z (Tq.fin (.r Z))
 refine bY 3 [(6,sL j p0.Tools l)] (by kernel_rfl) Z Z (by kernel_rfl) ?_ Z Z ?_
 ·exact bg Z (fun _ _ a c=>ah I1 (a.ev Z) (dB c (vs:=[iv p0.Unit,sL j p0.Tools l,sL o p0.Steps q]) (k:=1) Z 1) Z) (Tq.fin (.r Z))
 refine bY 5 [(8,.pointer (some ⟨z,2,none⟩))] (by kernel_rfl) Z Z (by kernel_rfl) ?_ Z Z ?_
 ·exact dZ (ag qI) Z (Tq.fin (.r Z))
 refine bY 6 [(9,sL o p0.Steps q)] (by kernel_rfl) Z Z (by kernel_rfl) ?_ Z Z ?_
 ·exact bg Z (fun _ _ a c=>ah xw (a.ev Z) (dB c (vs:=[iv p0.Unit,sL j p0.Tools l,sL o p0.Steps q]) (k:=1) Z 2) Z) (Tq.fin (.r Z))
 refine bY 7 [(10,.agg #[iv 0,iv 0])] (by kernel_rfl) Z Z (by kernel_rfl) ?_ Z Z ?_
 ·exact uP (vs:=[]) (cs:=[iv 0,iv 0]) (wn Z) Z dH (by kernel_rfl) (Tq.fin (.r Z))
 obtain⟨i,F,H⟩:=bnd H
 refine Dr.one 4 (by kernel_rfl) (GV 4 [3] [emp] (U:=(Option Addr×Nat)) (fun u=>(sL u.1 i u.2)) (fun O W u=>bZ u.1 i.length u.2) (fun u=>[ow u.1 u.2 73 aR i]) Z (aH Z aY) (fun _=>Z) (JI Z) Z (wn Z) Z Tryz.call34 (aj Z (aj Z aJ)) (fun W hW hp hE=>wL N p0.Tools j l (E.rF (hW.gL hp)) (fun z0=>sj z0) 74 [] Tryz.call74 (fun w' he z0 y hy=>D9 z0 y hy (HF.start _)) i F hE) ?_)
 intro w u B hu L
 obtain⟨b,d⟩:=u
 have C:=hu
 replace v:=v.le B
 replace leB:=leB.trans B
 have A:bZ b i.length d:=C
 dsimp only
 obtain⟨h,G,H⟩:=bnd H
 refine Dr.one 8 (by kernel_rfl) (GV 8 [4] [emp] (U:=(Option Addr×Nat×List (DE az))) (fun u=>(sL u.1 h u.2.1)) (fun O W u=>(DC u.2.2 h∧bZ u.1 h.length u.2.1)) (fun u=>[dq u.1 h.length u.2.1 59 24 aV u.2.2]) Z (aH Z aY) (fun _=>Z) (JI Z) Z (wn Z) Z Tryz.call75 (aj Z (aj Z aJ)) (fun W hW hp hE=>Am N p0.Steps o q (v.rF (hW.gL hp)) (ak.mk 0 0) h G hE) ?_)
 intro w u I hu M
 obtain⟨f,g,s⟩:=u
 have D:=hu
 replace leB:=leB.trans I
 have t:(DC s h∧bZ f h.length g):=D
 dsimp only
 refine tX (by kernel_rfl) (iR (vs:=[(0,iv p0.Unit),(1,sL b i d),(2,sL f h g)]) (cs:=[iv p0.Unit,sL b i d,sL f h g]) (wn Z) Z (bB Z (bB Z (bB Z dH))) (by kernel_rfl) (bC 2 (cs:=[iv p0.Unit,sL b i d,sL f h g]) [iv p0.Unit,sL b i d,sL f h g] (wn Z) Z Z Z Z lK Z Z Z (ae (aa (bu ?_)))))
 obtain rfl:=oI H
 exact Tr.out (m:=[.agg #[iv p0.Unit,sL b i d,sL f h g]]) [2] (nA Z Z pq lK bL) (fun W hW=>⟨w,((b,d),(f,g,s)),leB,Z,⟨A,⟨t.1,t.2⟩⟩,hW.pick (ks:=[3,4]) (by decide) (aH Z (aH Z aY))⟩)

theorem zb(N:Nat){w:Bs}(p0:aK)(q0:iT)(kL:Nat)(hb0:w.R kL)(hc0:aI w.W kL 0 [bV q0.Flip,iv q0.Quarters,iv q0.At.X,iv q0.At.Y])(r:aK)(H:nI N p0 q0=some r)(hE:HF w w.W E0):Calls Tryz.prog 35 [.agg #[iv p0.X0,iv p0.Y0,iv p0.X1,iv p0.Y1],pV kL].toArray w.W fun e W'=>e= .returned (.agg #[iv r.X0,iv r.Y0,iv r.X1,iv r.Y1])∧HF w W' E0:=by
 unfold nI at H
 have leB:=Bs.Le.refl w
 refine aZ (n:=7) Tryz.func35 Z Z Z hE (ai (fT 1 (cs:=[iv p0.X0,iv p0.Y0,iv p0.X1,iv p0.Y1]) (wn Z) Z Z Z fun f=>(Tr.alloc 2 (wn Z) Z vz fun g=>(ae (aa (ai (aG Z (fun _ _ a c=>aN (cs:=[iv p0.X0,iv p0.Y0,iv p0.X1,iv p0.Y1]) qJ kG (a.ev Z) (aI.take (dB c (vs:=[iv p0.X0,iv p0.Y0,iv p0.X1,iv p0.Y1]) (k:=1) Z 0) 4) Z) (aG Z (fun _ _ a c=>aN (cs:=[bV q0.Flip,iv q0.Quarters,iv q0.At.X,iv q0.At.Y]) Bl zF (a.ev Z) (aI.take (wo hb0 hc0 c) 4) Z) ?_))))))))
 obtain⟨b,d,H⟩:=bnd H
 refine bR (r:=(.agg #[iv b.X0,iv b.Y0,iv b.X1,iv b.Y1])) (wn Z) Z Tryz.call36 (aj Z (aj Z aJ)) (fun W hW=>vC N p0 q0 b d (HF.start _)) (bC 2 (cs:=[iv b.X0,iv b.Y0,iv b.X1,iv b.Y1]) [iv b.X0,iv b.Y0,iv b.X1,iv b.Y1] (wn Z) Z Z Z Z kG Z Z Z (ae (aa (bu ?_))))
 obtain rfl:=oI H
 exact Tr.out (m:=[.agg #[iv b.X0,iv b.Y0,iv b.X1,iv b.Y1]]) [2] (nA Z Z qJ kG bL) (fun W hW=>⟨Z,hW.low leB⟩)

theorem GY(N:Nat){w:Bs}(p0:ed)(b:Option Addr)(d:Nat)(h:Sl w.O w.W aR b d p0.Tools)(f:Option Addr)(g:Nat)(i:Sl w.O w.W az f g p0.Steps)(r:(ed×Int))(H:xz N p0=some r)(hE:HF w w.W (ig [])):Calls Tryz.prog 39 [.agg #[iv p0.Unit,sL b p0.Tools d,sL f p0.Steps g]].toArray w.W fun e W'=>∃(w':Bs) (u:(Option Addr×Nat)×(Option Addr×Nat)),w.Le w'∧e= .returned (.tuple #[.agg #[iv r.1.Unit,sL u.1.1 r.1.Tools u.1.2,sL u.2.1 r.1.Steps u.2.2],iv r.2])∧(Sl w'.O w'.W aR u.1.1 u.1.2 r.1.Tools∧Sl w'.O w'.W az u.2.1 u.2.2 r.1.Steps)∧HF w' W' (ig []):=by
 unfold xz at H
 have leB:=Bs.Le.refl w
 refine aZ (n:=12) Tryz.func39 Z Z Z hE (ai (fT 1 (cs:=[iv p0.Unit,sL b p0.Tools d,sL f p0.Steps g]) (wn Z) Z Z Z fun o=>(Tr.alloc 2 (wn Z) Z BU fun q=>(Tr.k Z (ae (aa (av (ai (aG Z (fun _ _ a c=>aN (cs:=[iv p0.Unit,sL b p0.Tools d,sL f p0.Steps g]) pq lK (a.ev Z) (aI.take (dB c (vs:=[iv p0.Unit,sL b p0.Tools d,sL f p0.Steps g]) (k:=1) Z 0) 3) Z) ?_)))))))))
 obtain⟨j,l,H⟩:=bnd H
 refine bR (r:=(iv j)) (wn Z) Z Tryz.call18 (aj Z aJ) (fun W hW=>nJ N p0 b d (h.rl.ext hW.dz) f g (i.rl.ext hW.dz) j l (HF.start _)) (Tr.k Z (ae (aa (ai (aA Z (aC iP Z Z (ae (aa (aP Z H (fun H=>?_) (fun H=>?_))))))))))
 ·refine av ?_
  cases H
 ·refine aO (aa (ai (aG Z (fun _ _ a c=>aN (cs:=[iv p0.Unit,sL b p0.Tools d,sL f p0.Steps g]) pq lK (a.ev Z) (aI.take (dB c (vs:=[iv p0.Unit,sL b p0.Tools d,sL f p0.Steps g]) (k:=1) Z 0) 3) Z) (bC 2 (cs:=[iv p0.Unit,sL b p0.Tools d,sL f p0.Steps g]) [iv p0.Unit,sL b p0.Tools d,sL f p0.Steps g] (wn Z) Z Z Z Z lK Z Z Z (Tr.k Z (ae (aa (bu ?_))))))))
  obtain rfl:=oI H
  exact Tr.out (m:=[.agg #[iv p0.Unit,sL b p0.Tools d,sL f p0.Steps g],iv 0]) [2] (nA Z Z pq lK (bM Z bL)) (fun W hW=>⟨w,((b,d),(f,g)),leB,Z,⟨h,i⟩,hW.pick (ks:=[]) (by decide) aY⟩)

theorem Ao(N:Nat){w:Bs}(p0:ed)(P:Option Addr)(Q:Nat)(e5:Sl w.O w.W aR P Q p0.Tools)(S:Option Addr)(T:Nat)(e6:Sl w.O w.W az S T p0.Steps)(p1:iT)(r:(ed×Int))(H:oH N p0 p1=some r)(hE:HF w w.W (ig [])):Calls Tryz.prog 9 [.agg #[iv p0.Unit,sL P p0.Tools Q,sL S p0.Steps T],.agg #[bV p1.Flip,iv p1.Quarters,iv p1.At.X,iv p1.At.Y]].toArray w.W fun e W'=>∃(w':Bs) (u:(Option Addr×Nat)×(Option Addr×Nat)),w.Le w'∧e= .returned (.tuple #[.agg #[iv r.1.Unit,sL u.1.1 r.1.Tools u.1.2,sL u.2.1 r.1.Steps u.2.2],iv r.2])∧(Sl w'.O w'.W aR u.1.1 u.1.2 r.1.Tools∧Sl w'.O w'.W az u.2.1 u.2.2 r.1.Steps)∧HF w' W' (ig []):=by
 unfold oH at H
 have leB:=Bs.Le.refl w
 refine aZ (n:=119) Tryz.func9 Z Z Z hE (ai (fT 1 (cs:=[iv p0.Unit,sL P p0.Tools Q,sL S p0.Steps T]) (wn Z) Z Z Z fun d2=>(fT 2 (cs:=[bV p1.Flip,iv p1.Quarters,iv p1.At.X,iv p1.At.Y]) (wn Z) Z Z Z fun K=>(Tr.alloc 3 (wn Z) Z BU fun M=>(Tr.k Z (ae (aa (av (ai (aG Z (fun _ _ a c=>aN (cs:=[iv p0.Unit,sL P p0.Tools Q,sL S p0.Steps T]) pq lK (a.ev Z) (aI.take (dB c (vs:=[iv p0.Unit,sL P p0.Tools Q,sL S p0.Steps T]) (k:=1) Z 0) 3) Z) ?_))))))))))
 obtain⟨g1,h6,H⟩:=bnd H
 refine bR (r:=(iv g1)) (wn Z) Z Tryz.call18 (aj Z aJ) (fun W hW=>nJ N p0 P Q (e5.rl.ext hW.dz) S T (e6.rl.ext hW.dz) g1 h6 (HF.start _)) (Tr.k Z (ae (aa (ai (aA Z (aC iP Z Z (ae (aa (aP Z H (fun H=>?_) (fun H=>?_))))))))))
 ·refine av ?_
  cases H
 ·refine aO (aa (av (ai (aG Z (fun _ _ a c=>aN (cs:=[bV p1.Flip,iv p1.Quarters,iv p1.At.X,iv p1.At.Y]) Bl zF (a.ev Z) (aI.take (dB c (vs:=[bV p1.Flip,iv p1.Quarters,iv p1.At.X,iv p1.At.Y]) (k:=2) Z 0) 4) Z) ?_))))
  obtain⟨g2,h7,H⟩:=bnd H
  refine bR (r:=(iv g2)) (wn Z) Z Tryz.call28 (aj Z aJ) (fun W hW=>uS p1 g2 h7 (HF.start _)) (Tr.k Z (ae (aa (ai (aA Z (aC iP Z Z (ae (aa (aP Z H (fun H=>?_) (fun H=>?_))))))))))
  ·refine av ?_
   cases H
  ·refine aO (aa (av (ai (aQ (ag xk) Z (aQ (ag je) Z (aG Z (fun _ _ a c=>ah bT (a.ev Z) (dB c (vs:=[bV p1.Flip,iv p1.Quarters,iv p1.At.X,iv p1.At.Y]) (k:=2) Z 2) Z) (aQ (ag sD) Z (aG Z (fun _ _ a c=>ah bT (a.ev Z) (dB c (vs:=[iv p0.Unit,sL P p0.Tools Q,sL S p0.Steps T]) (k:=1) Z 0) Z) ?_))))))))
   obtain⟨j3,h8,H⟩:=bnd H
   refine aG Z (fun _ _ a c=>Df (a.ev Z) (a.ev Z) h8) (aC iP Z Z (aA Z ?_))
   obtain⟨g3,b6,H⟩:=bnd H
   refine eD 8 [(2,pV d2),(3,pV K),(4,pV M),(41,bV g3)] [(1,bx d2 #[iv p0.Unit,sL P p0.Tools Q,sL S p0.Steps T] 30),(2,bx K #[bV p1.Flip,iv p1.Quarters,iv p1.At.X,iv p1.At.Y] 26),(3,bx M #[iv 0,.slice none 0 0,.slice none 0 0] 30)] ?_ ?_
   ·cases e7:(j3 !=0)
    ·rw[e7] at b6
     rw[if_neg (by decide)] at b6
     have H:=b6
     refine dN (ag xk) Z (dN (ag iQ) Z (Tr.x (fun _ _ a c=>ah bT (a.ev Z) (dB c (vs:=[bV p1.Flip,iv p1.Quarters,iv p1.At.X,iv p1.At.Y]) (k:=2) Z 3) Z) (dN (ag sD) Z (Tr.x (fun _ _ a c=>ah bT (a.ev Z) (dB c (vs:=[iv p0.Unit,sL P p0.Tools Q,sL S p0.Steps T]) (k:=1) Z 0) Z) ?_))))
     obtain⟨j8,h9,H⟩:=bnd H
     refine Tr.x (fun _ _ a c=>Df (a.ev Z) (a.ev Z) h9) (jM iP Z Z (aC bH Z Z ?_))
     obtain rfl:=oI H
     exact ae (bA (.r Z) (.r Z))
    ·rw[e7] at b6
     rw[if_pos Z] at b6
     have H:=b6
     obtain rfl:=oI H
     exact bq Z (bq Z (bq Z (bq Z (bq Z (bq Z (bq Z (aC bG Z Z (ae (bA (.r Z) (.r Z))))))))))
   ·show Tr _ _ (LF [(2,pV d2),(3,pV K),(4,pV M),(41,bV g3)]) (LE [(1,bx d2 #[iv p0.Unit,sL P p0.Tools Q,sL S p0.Steps T] 30),(2,bx K #[bV p1.Flip,iv p1.Quarters,iv p1.At.X,iv p1.At.Y] 26),(3,bx M #[iv 0,.slice none 0 0,.slice none 0 0] 30)]) _
    refine ae (aa (aP Z H (fun H=>?_) (fun H=>?_)))
    ·refine av ?_
     cases H
    ·refine aO (aa (ai (aG Z (fun _ _ a c=>aN (cs:=[iv p0.Unit,sL P p0.Tools Q,sL S p0.Steps T]) pq lK (a.ev Z) (aI.take (dB c (vs:=[iv p0.Unit,sL P p0.Tools Q,sL S p0.Steps T]) (k:=1) Z 0) 3) Z) ?_)))
     obtain⟨d,i0,H⟩:=bnd H
     refine dU [4,5] [emp,emp] (U:=(Option Addr×Nat)×(Option Addr×Nat×List (DE az))) (fun u=>(.agg #[iv d.Unit,sL u.1.1 d.Tools u.1.2,sL u.2.1 d.Steps u.2.2.1])) (fun O W u=>bZ u.1.1 d.Tools.length u.1.2∧(DC u.2.2.2 d.Steps∧bZ u.2.1 d.Steps.length u.2.2.1)) (fun u=>[ow u.1.1 u.1.2 73 aR d.Tools,dq u.2.1 d.Steps.length u.2.2.1 59 24 aV u.2.2.2]) Z (aH Z (aH Z aY)) (fun _=>Z) (wn Z) Z Tryz.call33 (aj Z aJ) (fun W hW hp hE=>BR N p0 P Q (e5.rF (hW.gL hp)) S T (e6.rF (hW.gL hp)) d i0 hE) ?_
     intro w u i1 hu
     obtain⟨⟨a4,a5⟩,⟨a0,a1,c6⟩⟩:=u
     obtain⟨f3,f4⟩:=hu
     replace leB:=leB.trans i1
     have j4:bZ a4 d.Tools.length a5:=f3 --@phi
     have b8:(DC c6 d.Steps∧bZ a0 d.Steps.length a1):=f4 --@phi
     dsimp only
     refine Tr.alloc 6 (wn Z) Z BU fun a2=>(bC 6 (cs:=[iv d.Unit,sL a4 d.Tools a5,sL a0 d.Steps a1]) [iv d.Unit,sL a4 d.Tools a5,sL a0 d.Steps a1] (wn Z) Z Z Z Z lK Z Z Z (ae (aa (ai (aQ (ag O5) Z (aG Z (fun _ _ a c=>ah z8 (a.ev Z) (dB c (vs:=[bV p1.Flip,iv p1.Quarters,iv p1.At.X,iv p1.At.Y]) (k:=2) Z 0) Z) (aQ (ag JP) Z (aG Z (fun _ _ a c=>ah bT (a.ev Z) (dB c (vs:=[bV p1.Flip,iv p1.Quarters,iv p1.At.X,iv p1.At.Y]) (k:=2) Z 1) Z) (iR (vs:=[(0,bV p1.Flip),(1,iv p1.Quarters)]) (cs:=[bV p1.Flip,iv p1.Quarters,iv 0,iv 0]) (wn Z) Z (bB Z (bB Z dH)) (by kernel_rfl) (Tr.alloc 7 (wn Z) Z XA fun d7=>(bC 7 (cs:=[bV p1.Flip,iv p1.Quarters,iv 0,iv 0]) [bV p1.Flip,iv p1.Quarters,iv 0,iv 0] (wn Z) Z Z Z Z zF Z Z Z ?_)))))))))))
     refine ae (aa (ai (aQ (ag yQ) Z (aG Z (fun _ _ a c=>ah I1 (a.ev Z) (dB c (vs:=[iv d.Unit,sL a4 d.Tools a5,sL a0 d.Steps a1]) (k:=6) Z 1) Z) (sS (vs:=[pV d7]) (wn Z) Z (aj Z aJ) (Tr.freeze 4 Z fun w i2 d3=>?_))))))
     replace leB:=leB.trans i2
     obtain⟨v,i3,H⟩:=bnd H
     refine dU [8] [emp] (U:=(Option Addr×Nat)) (fun u=>(sL u.1 v u.2)) (fun O W u=>bZ u.1 v.length u.2) (fun u=>[ow u.1 u.2 73 aR v]) Z (aH Z aY) (fun _=>Z) (wn Z) Z Tryz.call34 (aj Z (aj Z aJ)) (fun W hW hp hE=>wL N d.Tools a4 a5 (d3.rF (hW.gL hp)) (fun z0=>nI N z0 (iT.mk p1.Flip p1.Quarters (ak.mk 0 0))) 35 [pV d7] Tryz.call35 (fun w' he z0 y hy=>zb N z0 (iT.mk p1.Flip p1.Quarters (ak.mk 0 0)) d7 (he.r _ (hW.Hm (k:=7) Z hp Z)) (he.cells (hW.Hm (k:=7) Z hp Z) (hW.Nq (k:=7) Z)) y hy (HF.start _)) v i3 hE) ?_
     intro w u e8 hu
     obtain⟨o,q⟩:=u
     have f5:=hu
     replace d3:=d3.le e8
     replace leB:=leB.trans e8
     have j5:bZ o v.length q:=f5 --@phi
     dsimp only
     refine aQ (ag yQ) Z (bC 6 (cs:=[sL o v q]) [iv d.Unit,sL o v q,sL a0 d.Steps a1] (wn Z) Z Z Z Z XM Z Z Z (ae (aa (av (jN 12 (by kernel_rfl) (by kernel_rfl) (dZ (ag xk) Z (dZ (ag je) Z (bg Z (fun _ _ a c=>ah bT (a.ev Z) (dB c (vs:=[bV p1.Flip,iv p1.Quarters,iv p1.At.X,iv p1.At.Y]) (k:=2) Z 2) Z) (dZ (ag sD) Z (bg Z (fun _ _ a c=>ah bT (a.ev Z) (dB c (vs:=[iv p0.Unit,sL P p0.Tools Q,sL S p0.Steps T]) (k:=1) Z 0) Z) ?_))))))))))
     obtain⟨E,i4,H⟩:=bnd H
     refine bg Z (fun _ _ a c=>Jo (a.ev Z) (a.ev Z) i4) (dZ (ag xk) Z (dZ (ag iQ) Z (bg Z (fun _ _ a c=>ah bT (a.ev Z) (dB c (vs:=[bV p1.Flip,iv p1.Quarters,iv p1.At.X,iv p1.At.Y]) (k:=2) Z 3) Z) (dZ (ag sD) Z (bg Z (fun _ _ a c=>ah bT (a.ev Z) (dB c (vs:=[iv p0.Unit,sL P p0.Tools Q,sL S p0.Steps T]) (k:=1) Z 0) Z) ?_)))))
     obtain⟨F,i5,H⟩:=bnd H
     refine bg Z (fun _ _ a c=>Jo (a.ev Z) (a.ev Z) i5) (iC (iR (vs:=[(0,iv E),(1,iv F)]) (cs:=[iv E,iv F]) (wn Z) Z (bB Z (bB Z dH)) (by kernel_rfl) (aQ (ag xk) Z (bC 2 (cs:=[iv E,iv F]) [bV p1.Flip,iv p1.Quarters,iv E,iv F] (wn Z) Z Z Z Z gQ Z Z Z (ae (aa (av (ai (aQ (ag qI) Z (aG Z (fun _ _ a c=>ah xw (a.ev Z) (dB c (vs:=[iv d.Unit,sL o v q,sL a0 d.Steps a1]) (k:=6) Z 2) Z) (aQ (bD wV) Z (aA Z (ae (aa (Tr.block (cB (σ:=(List aB)×Nat×(List aB)×(Option Addr)×Nat×(List (DE az))) (fun m w s=>m=s.1.length+1∧s.1=List.drop s.2.1 d.Steps∧s.2.1≤d.Steps.length∧dX N p1 d v E F s.1 s.2.1 s.2.2.1=some r∧(DC s.2.2.2.2.2 s.2.2.1∧bZ s.2.2.2.1 s.2.2.1.length s.2.2.2.2.1)) (fun s=>[(3,pV K),(4,pV M),(8,pV a2),(71,iv (d.Steps.length:Int)),(72,iv (s.2.1:Int))]) (fun s=>[(2,bx K #[bV p1.Flip,iv p1.Quarters,iv E,iv F] 26),(3,bx M #[iv 0,.slice none 0 0,.slice none 0 0] 30),(5,dq s.2.2.2.1 s.2.2.1.length s.2.2.2.2.1 59 24 aV s.2.2.2.2.2),(6,bx a2 #[iv d.Unit,sL o v q,sL s.2.2.2.1 s.2.2.1 s.2.2.2.2.1] 30),(8,ow o q 73 aR v)]) (d.Steps.length+1) (d.Steps,0,d.Steps,a0,a1,c6) ⟨Z,Z,Nat.zero_le _,H,⟨b8.1,b8.2⟩⟩ (.r Z) (.r Z) (fun _ _ h=>absurd h.1 (by simp)) ?_))))))))))))))))
     intro w c7 m s hs
     obtain⟨V,A,G,j,D,I⟩:=s
     obtain⟨d8,b9,j9,H,b7⟩:=hs
     replace b9:V=List.drop A d.Steps:=b9
     replace H:dX N p1 d v E F V A G=some r:=H
     replace d8:m+1=V.length+1:=d8
     replace leB:=leB.trans c7
     replace b7:DC I G∧bZ j G.length D:=b7
     obtain rfl:m=V.length:=by omega
     clear d8
     dsimp only
     cases V with
     |nil=>
      rw[dX.eq_1] at H
      refine ai (aC bv Z Z (ae (aa (av (eX Z (dY b9) (cz (aD (aD (aU (aa (ai (aG Z (fun _ _ a c=>aN (cs:=[iv d.Unit,sL o v q,sL j G D]) pq lK (a.ev Z) (aI.take (dB c (vs:=[iv d.Unit,sL o v q,sL j G D]) (k:=6) Z 0) 3) Z) (Tr.freeze 8 Z fun w i6 c3=>?_)))))))))))))
      replace leB:=leB.trans i6
      refine LX 5 Z b7.1 fun w e9 d4=>?_
      replace c3:=c3.le e9
      replace leB:=leB.trans e9
      obtain⟨J,i7,H⟩:=bnd H
      refine dU [] [] (U:=(Option Addr×Nat)×(Option Addr×Nat)) (fun u=>(.tuple #[.agg #[iv J.1.Unit,sL u.1.1 J.1.Tools u.1.2,sL u.2.1 J.1.Steps u.2.2],iv J.2])) (fun O W u=>Sl O W aR u.1.1 u.1.2 J.1.Tools∧Sl O W az u.2.1 u.2.2 J.1.Steps) (fun u=>[]) Z aY (fun _=>Z) (wn Z) Z Tryz.call39 (aj Z aJ) (fun W hW hp hE=>GY N (ed.mk d.Unit v G) o q (c3.rF (hW.gL hp)) j D (d4.rF (hW.gL hp)) J i7 hE) ?_
      intro w u d5 hu
      obtain⟨⟨a7,a8⟩,⟨a9,b0⟩⟩:=u
      obtain⟨f6,f7⟩:=hu
      replace c3:=c3.le d5
      replace d4:=d4.le d5
      replace leB:=leB.trans d5
      have d9:Sl w.O w.W aR a7 a8 J.1.Tools:=f6 --@phi
      have e0:Sl w.O w.W az a9 b0 J.1.Steps:=f7 --@phi
      dsimp only
      refine aG Z (fun _ _ a c=>cu (a.ev Z) Z) (aG Z (fun _ _ a c=>cu (a.ev Z) Z) (bC 3 (cs:=[iv J.1.Unit,sL a7 J.1.Tools a8,sL a9 J.1.Steps b0]) [iv J.1.Unit,sL a7 J.1.Tools a8,sL a9 J.1.Steps b0] (wn Z) Z Z Z Z lK Z Z Z (Tr.k Z (ae (aa (bu ?_))))))
      obtain rfl:=oI H
      exact Tr.out (m:=[.agg #[iv J.1.Unit,sL a7 J.1.Tools a8,sL a9 J.1.Steps b0],iv J.2]) [3] (nA Z Z pq lK (bM Z bL)) (fun W hW=>⟨w,((a7,a8),(a9,b0)),leB,Z,⟨d9,e0⟩,hW.pick (ks:=[]) (by decide) aY⟩)
     | cons k2 V=>
      rw[dX.eq_2] at H
      refine ai (aC bv Z Z (ae (aa (av (eO Z (fI b9) (aO (aa (av (Tr.block (ai (aA Z (Tr.k Z (ae (aa (ai (aQ (ag qI) Z (aG Z (fun _ _ a c=>ah xw (a.ev Z) (dB c (vs:=[iv d.Unit,sL o v q,sL j G D]) (k:=6) Z 2) Z) (aA Z ?_))))))))))))))))))
      obtain⟨b,i8,H⟩:=bnd H
      obtain⟨g4,g5,g6⟩:=aW i8
      refine Qv 5 19 20 (i:=((A:Int)).toNat) Z Z Z g6 Z b7.1 fun j6 f8 c4 b2=>?_
      obtain⟨⟨f,g⟩,⟨B,C⟩⟩:=j6
      have a6:Sl w.O w.W az B C b.Steps:=f8
      replace c4:bZ f b.Points.length g:=c4
      replace b2:DT I G ((A:Int)).toNat ((f,g),(B,C)) b:=b2
      show Tr _ _ _ (up (up (up _ 5 (ow j D 59 (OE (ET aV)) (uZ I ((A:Int)).toNat (raw (ET aV) [iv b.Kind,sv b.Name,iv b.At.X,iv b.At.Y,sL f b.Points g,iv b.NX,iv b.NY,sL B b.Steps C] Z Z)))) 19 (ins 24 bi ((List.set I ((A:Int)).toNat ⟨((f,g),(B,C)),b,false⟩).map (ne aV)))) 20 (ow f g 24 bi b.Points)) _
      refine aG Z (fun _ _ a c=>au Gx (a.ev Z) b7.2 (a.ev Z) g4 g5) (Tr.k Z (ae (aa ?_)))
      have g7:=Bs.Le.refl w
      refine kZ (σ:=Unit) (fun w _=>mI N p1 E F G (dX N p1 d v E F V (A+1)) A b=some r) (fun _=>[(3,pV K),(4,pV M),(8,pV a2),(11,.pointer (some ⟨pu j,rT j+((A:Int)).toNat*8,none⟩)),(71,iv (d.Steps.length:Int)),(72,iv (A:Int))]) (fun _=>[(2,bx K #[bV p1.Flip,iv p1.Quarters,iv E,iv F] 26),(3,bx M #[iv 0,.slice none 0 0,.slice none 0 0] 30),(5,ow j D 59 (OE (ET aV)) (uZ I ((A:Int)).toNat (raw (ET aV) [iv b.Kind,sv b.Name,iv b.At.X,iv b.At.Y,sL f b.Points g,iv b.NX,iv b.NY,sL B b.Steps C] Z Z))),(6,bx a2 #[iv d.Unit,sL o v q,sL j G D] 30),(8,ow o q 73 aR v),(19,ins 24 bi ((List.set I ((A:Int)).toNat ⟨((f,g),(B,C)),b,false⟩).map (ne aV))),(20,ow f g 24 bi b.Points)]) ?_ ?_
      ·refine ai (aA Z (aQ fw Z (aQ (ag vH) Z (aG Z (fun _ _ a c=>ah bT (a.ev Z) (YT (cs:=raw (ET aV) [iv b.Kind,sv b.Name,iv b.At.X,iv b.At.Y,sL f b.Points g,iv b.NX,iv b.NY,sL B b.Steps C] Z Z) c (κ:=5) Z (b2.hi)) Z) ?_))))
       obtain⟨d0,i9,H⟩:=bnd H
       refine bR (r:=(.agg #[bV d0.name,bV d0.at_,bV d0.points,bV d0.repeat_])) (wn Z) Z Tryz.call37 (aj Z aJ) (fun W hW=>sO b.Kind d0 i9 (HF.start _)) (aG Z (fun _ _ a c=>FO Pb z8 (a.ev Z) Z) (ae (aa (aP Z H (fun H=>?_) (fun H=>?_)))))
       ·cases H
       ·exact aO (aF g7 () H (.r Z) (.r Z))
      ·intro w _ d6 hs
       have H:=hs
       replace H:mI N p1 E F G (dX N p1 d v E F V (A+1)) A b=some r:=H
       replace a6:=a6.le d6
       replace c7:=c7.trans d6
       unfold mI at H
       show Tr _ _ (LF [(3,pV K),(4,pV M),(8,pV a2),(11,.pointer (some ⟨pu j,rT j+((A:Int)).toNat*8,none⟩)),(71,iv (d.Steps.length:Int)),(72,iv (A:Int))]) (LE [(2,bx K #[bV p1.Flip,iv p1.Quarters,iv E,iv F] 26),(3,bx M #[iv 0,.slice none 0 0,.slice none 0 0] 30),(5,ow j D 59 (OE (ET aV)) (uZ I ((A:Int)).toNat (raw (ET aV) [iv b.Kind,sv b.Name,iv b.At.X,iv b.At.Y,sL f b.Points g,iv b.NX,iv b.NY,sL B b.Steps C] Z Z))),(6,bx a2 #[iv d.Unit,sL o v q,sL j G D] 30),(8,ow o q 73 aR v),(19,ins 24 bi ((List.set I ((A:Int)).toNat ⟨((f,g),(B,C)),b,false⟩).map (ne aV))),(20,ow f g 24 bi b.Points)]) _
       refine ai (aA Z (aQ fw Z (aQ (ag pR) Z (aG Z (fun _ _ a c=>ah tF (a.ev Z) (aI.drop (YT (cs:=raw (ET aV) [iv b.Kind,sv b.Name,iv b.At.X,iv b.At.Y,sL f b.Points g,iv b.NX,iv b.NY,sL B b.Steps C] Z Z) c (κ:=5) Z (b2.hi)) 4) Z) (aQ (bD qM) Z (aA Z (ae (aa (Tr.block (cB (σ:=(List ak)×Nat×(List ak)) (fun m w s=>m=s.1.length+1∧s.1=List.drop s.2.1 b.Points∧s.2.1≤b.Points.length∧iL N p1 E F G (dX N p1 d v E F V (A+1)) A b s.1 s.2.1 s.2.2=some r∧s.2.2.length=b.Points.length) (fun s=>[(3,pV K),(4,pV M),(8,pV a2),(11,.pointer (some ⟨pu j,rT j+((A:Int)).toNat*8,none⟩)),(71,iv (d.Steps.length:Int)),(72,iv (A:Int)),(97,sL f s.2.2 g),(98,iv (b.Points.length:Int)),(99,iv (s.2.1:Int))]) (fun s=>[(2,bx K #[bV p1.Flip,iv p1.Quarters,iv E,iv F] 26),(3,bx M #[iv 0,.slice none 0 0,.slice none 0 0] 30),(5,ow j D 59 (OE (ET aV)) (uZ I ((A:Int)).toNat (raw (ET aV) [iv b.Kind,sv b.Name,iv b.At.X,iv b.At.Y,sL f s.2.2 g,iv b.NX,iv b.NY,sL B b.Steps C] Z Z))),(6,bx a2 #[iv d.Unit,sL o v q,sL j G D] 30),(8,ow o q 73 aR v),(19,ins 24 bi ((List.set I ((A:Int)).toNat ⟨((f,g),(B,C)),b,false⟩).map (ne aV))),(20,ow f g 24 bi s.2.2)]) (b.Points.length+1) (b.Points,0,b.Points) ⟨Z,Z,Nat.zero_le _,H,Z⟩ (.r Z) (.r Z) (fun _ _ h=>absurd h.1 (by simp)) ?_))))))))))
       intro w e3 m s hs
       obtain⟨b1,b3,a3⟩:=s
       obtain⟨e4,c0,k0,H,c9⟩:=hs
       replace c0:b1=List.drop b3 b.Points:=c0
       replace H:iL N p1 E F G (dX N p1 d v E F V (A+1)) A b b1 b3 a3=some r:=H
       replace e4:m+1=b1.length+1:=e4
       replace a6:=a6.le e3
       replace c7:=c7.trans e3
       replace c9:a3.length=b.Points.length:=c9
       have c5:bZ f a3.length g:=(by rw[c9];exact c4)
       obtain rfl:m=b1.length:=by omega
       clear e4
       dsimp only
       cases b1 with
       |nil=>
        rw[iL.eq_1] at H
        refine ai (aC bv Z Z (ae (aa (av (eX Z (dY c0) (cz (aD (aD (aU (aL (aa (aM (aC bz Z Z (aA Z (ae (Tm (L:=aV) 5 19 20 (u:=((f,g),(B,C))) (x':=(aB.mk b.Kind b.Name b.At a3 b.NX b.NY b.Steps)) Z Z Z Z Z Z b2 a6 Z Z Z c5 fun f1 f9=>?_))))))))))))))))
        have d1:(List.set G ((A:Int)).toNat (aB.mk b.Kind b.Name b.At a3 b.NX b.NY b.Steps)).length=G.length:=List.length_set
        have g0:bZ j (List.set G ((A:Int)).toNat (aB.mk b.Kind b.Name b.At a3 b.NX b.NY b.Steps)).length D:=by rw[d1];exact b7.2
        exact Tr.vD (lf:=[(3,pV K),(4,pV M),(8,pV a2),(71,iv (d.Steps.length:Int)),(72,iv (bF ((A:Int)+1))),(98,iv (b.Points.length:Int)),(99,iv (b3:Int)),(100,bV (decide ((b3:Int)<(b.Points.length:Int)))),(114,iv (bF ((A:Int)+1)))]) (le:=[(2,bx K #[bV p1.Flip,iv p1.Quarters,iv E,iv F] 26),(3,bx M #[iv 0,.slice none 0 0,.slice none 0 0] 30),(5,dq j ((List.set G ((A:Int)).toNat (aB.mk b.Kind b.Name b.At a3 b.NX b.NY b.Steps))).length D 59 24 aV f1),(6,bx a2 #[iv d.Unit,sL o v q,sL j ((List.set G ((A:Int)).toNat (aB.mk b.Kind b.Name b.At a3 b.NX b.NY b.Steps))) D] 30),(8,ow o q 73 aR v)]) (.r Z) (.cons Z (.cons Z (.cons Z (.cons (Xr Z (by unfold sL;rw[d1])) (.r Z))))) (aF c7 (V,(A+1),(List.set G ((A:Int)).toNat (aB.mk b.Kind b.Name b.At a3 b.NX b.NY b.Steps)),j,D,f1) ⟨Z,dW b9,bE b9,H,⟨f9,g0⟩⟩ (.cons Z (.cons Z (.cons Z (.cons Z (.cons (congrArg (fun z=>some (Value.int .i64 z)) (dV b9 b8.2)) .nil))))) (.r Z))
       |cons k3 b1=>
        rw[iL.eq_2] at H
        refine ai (aC bv Z Z (ae (aa (av (eO Z (fI c0) (aO (aa (av (Tr.block (ai (aA Z ?_)))))))))))
        obtain⟨a',j0,H⟩:=bnd H
        obtain⟨g8,g9,h0⟩:=aW j0
        refine aG Z (fun _ _ a c=>au ql (a.ev Z) c5 (a.ev Z) g8 g9) (aG Z (fun _ _ a c=>aN (cs:=[iv a'.X,iv a'.Y]) kP gQ (a.ev Z) (aI.take (yF jI (k:=20) c Z h0) 2) Z) (Tr.alloc 23 (wn Z) Z tZ fun h1=>(Tr.k Z (bC 23 (cs:=[iv a'.X,iv a'.Y]) [iv a'.X,iv a'.Y] (wn Z) Z Z Z Z gQ Z Z Z (ae (aa (jN 8 (by kernel_rfl) (by kernel_rfl) (dG Z (dZ fw Z (dZ (ag pR) Z (bg Z (fun _ _ a c=>ah tF (a.ev Z) (aI.drop (YT (cs:=raw (ET aV) [iv b.Kind,sv b.Name,iv b.At.X,iv b.At.Y,sL f a3 g,iv b.NX,iv b.NY,sL B b.Steps C] Z Z) c (κ:=5) Z (b2.hi)) 4) Z) (dG Z (bg Z (fun _ _ a c=>aN (cs:=[iv a'.X,iv a'.Y]) kP gQ (a.ev Z) (aI.take (dB c (vs:=[iv a'.X,iv a'.Y]) (k:=23) Z 0) 2) Z) ?_)))))))))))))
        refine bg Z (fun _ _ a c=>aN (cs:=[bV p1.Flip,iv p1.Quarters,iv E,iv F]) Bl zF (a.ev Z) (aI.take (dB c (vs:=[bV p1.Flip,iv p1.Quarters,iv E,iv F]) (k:=2) Z 0) 4) Z) ?_
        obtain⟨b4,j1,H⟩:=bnd H
        refine nT (r:=(.agg #[iv b4.X,iv b4.Y])) (wn Z) Z Tryz.call38 (aj Z (aj Z aJ)) (fun W hW=>qU N a' (iT.mk p1.Flip p1.Quarters (ak.mk E F)) b4 j1 (HF.start _)) (iC ?_)
        obtain⟨k1,j2,H⟩:=bnd H
        obtain⟨h2,h3,h4⟩:=aW j2
        refine aG Z (fun _ _ a c=>au ql (a.ev Z) c5 (a.ev Z) h2 h3) ?_
        obtain⟨c8,f2,H⟩:=bnd H
        have b5:=lN f2
        refine ng 20 (t:=bi) (l:=a3) (i:=(b3:Int)) (fo:=0) (cs:=[iv b4.X,iv b4.Y]) b4 (wn Z) Z Z Z Z Z h4 gQ Z (fun u _=>⟨u,trivial,Z⟩) Z f2 ?_
        have j7:bZ f c8.length g:=by rw[b5];exact c5
        have h5:=b5.trans c9
        exact Tr.vD (lf:=[(3,pV K),(4,pV M),(8,pV a2),(11,.pointer (some ⟨pu j,rT j+((A:Int)).toNat*8,none⟩)),(12,iv (b3:Int)),(13,pV h1),(71,iv (d.Steps.length:Int)),(72,iv (A:Int)),(97,sL f c8 g),(98,iv (b.Points.length:Int)),(99,iv (b3:Int)),(100,bV (decide ((b3:Int)<(b.Points.length:Int)))),(101,iv (b3:Int)),(103,.agg #[iv a'.X,iv a'.Y]),(104,.pointer (some ⟨pu j,rT j+((A:Int)).toNat*8,none⟩)),(105,.pointer (some ⟨pu j,rT j+((A:Int)).toNat*8,none⟩)),(106,.pointer (some ⟨pu j,rT j+((A:Int)).toNat*8+4,none⟩)),(107,sL f c8 g),(108,iv (b3:Int)),(109,.agg #[iv a'.X,iv a'.Y]),(110,.agg #[bV p1.Flip,iv p1.Quarters,iv E,iv F]),(111,.agg #[iv b4.X,iv b4.Y])]) (le:=[(2,bx K #[bV p1.Flip,iv p1.Quarters,iv E,iv F] 26),(3,bx M #[iv 0,.slice none 0 0,.slice none 0 0] 30),(5,ow j D 59 (OE (ET aV)) (uZ I ((A:Int)).toNat (raw (ET aV) [iv b.Kind,sv b.Name,iv b.At.X,iv b.At.Y,sL f c8 g,iv b.NX,iv b.NY,sL B b.Steps C] Z Z))),(6,bx a2 #[iv d.Unit,sL o v q,sL j G D] 30),(8,ow o q 73 aR v),(19,ins 24 bi ((List.set I ((A:Int)).toNat ⟨((f,g),(B,C)),b,false⟩).map (ne aV))),(20,ow f g 24 bi c8),(23,bx h1 #[iv a'.X,iv a'.Y] 24)]) (.cons Z (.cons Z (.cons Z (.cons Z (.cons Z (.cons Z (.cons Z (.cons Z (.cons (dM Z (by unfold sL;rw[b5])) (.cons Z (.cons Z (.cons Z (.cons Z (.cons Z (.cons Z (.cons Z (.cons Z (.cons (dM Z (by unfold sL;rw[b5])) (.r Z))))))))))))))))))) (.cons Z (.cons Z (.cons (Y7 Z (by unfold sL;rw[b5])) (.r Z)))) (ae (aL (aa (aM (aC bz Z Z (aA Z (ae (aF e3 (b1,(b3+1),c8) ⟨Z,dW c0,bE c0,H,h5⟩ (.cons Z (.cons Z (.cons Z (.cons Z (.cons Z (.cons Z (.cons Z (.cons Z (.cons (congrArg (fun z=>some (Value.int .i64 z)) (dV c0 c4)) .nil))))))))) (.r Z)))))))))

theorem Aj{w:Bs}(p0:ed)(b:Option Addr)(d:Nat)(l:Sl w.O w.W aR b d p0.Tools)(f:Option Addr)(g:Nat)(o:Sl w.O w.W az f g p0.Steps)(r:fq)(H:qK p0=some r)(hE:HF w w.W (ig [emp,emp,emp])):Calls Tryz.prog 109 [.agg #[iv p0.Unit,sL b p0.Tools d,sL f p0.Steps g]].toArray w.W fun e W'=>∃(w':Bs) (u:(Option Addr×Nat)×(Option Addr×Nat)×(Option Addr×Nat)×(Option Addr×Nat)×(Option Addr×Nat)),w.Le w'∧e= .returned (.pointer (some ⟨u.2.2.2.2.2,0,none⟩))∧(Sl w'.O w'.W aR u.1.1 u.1.2 r.p.Tools∧Sl w'.O w'.W az u.2.1.1 u.2.1.2 r.p.Steps∧bZ u.2.2.1.1 r.tools.length u.2.2.1.2∧bZ u.2.2.2.1.1 r.image.length u.2.2.2.1.2∧True)∧HF w' W' (ig [ow u.2.2.1.1 u.2.2.1.2 88 jy r.tools,ow u.2.2.2.1.1 u.2.2.2.1.2 133 aT r.image,bx u.2.2.2.2.2 #[iv r.p.Unit,sL u.1.1 r.p.Tools u.1.2,sL u.2.1.1 r.p.Steps u.2.1.2,sL u.2.2.1.1 r.tools u.2.2.1.2,sL u.2.2.2.1.1 r.image u.2.2.2.1.2,bV r.clear,iv r.tool,iv r.place.X,iv r.place.Y,bV r.placed,iv r.off,iv r.on] 142]):=by
 unfold qK at H
 have leB:=Bs.Le.refl w
 refine aZ (n:=64) Tryz.func109 Z Z Z hE (ai (fT 1 (cs:=[iv p0.Unit,sL b p0.Tools d,sL f p0.Steps g]) (wn Z) Z Z Z fun q=>(Tr.k Z (ae (aa (ai (aG Z (fun _ _ a c=>aN (cs:=[iv p0.Unit,sL b p0.Tools d,sL f p0.Steps g]) pq lK (a.ev Z) (aI.take (dB c (vs:=[iv p0.Unit,sL b p0.Tools d,sL f p0.Steps g]) (k:=1) Z 0) 3) Z) (iR (vs:=[(0,.agg #[iv p0.Unit,sL b p0.Tools d,sL f p0.Steps g]),(4,iv (-1))]) (cs:=[iv p0.Unit,sL b p0.Tools d,sL f p0.Steps g,.slice none 0 0,.slice none 0 0,bV false,iv (-1),iv 0,iv 0,bV false,iv 0,iv 0]) (wn Z) Z (bB Z (bB Z dH)) (by kernel_rfl) (fT 2 (cs:=[iv p0.Unit,sL b p0.Tools d,sL f p0.Steps g,.slice none 0 0,.slice none 0 0,bV false,iv (-1),iv 0,iv 0,bV false,iv 0,iv 0]) (wn Z) Z Z Z fun j=>(Tr.k Z (ae (aa (av (ai (aQ (ag yQ) Z (aG Z (fun _ _ a c=>ah I1 (a.ev Z) (dB c (vs:=[iv p0.Unit,sL b p0.Tools d,sL f p0.Steps g]) (k:=1) Z 1) Z) (aQ (bD Ff) Z (aA Z (ae (aa (Tr.block (cB (σ:=(List gU)×Nat) (fun m w s=>m=s.1.length+1∧s.1=List.drop s.2 p0.Tools∧s.2≤p0.Tools.length∧mE p0 s.1 s.2=some r) (fun s=>[(1,pV q),(3,pV j),(13,sL b p0.Tools d),(14,iv (p0.Tools.length:Int)),(15,iv (s.2:Int))]) (fun s=>[(1,bx q #[iv p0.Unit,sL b p0.Tools d,sL f p0.Steps g] 30),(2,bx j #[iv p0.Unit,sL b p0.Tools d,sL f p0.Steps g,.slice none 0 0,.slice none 0 0,bV false,iv (-1),iv 0,iv 0,bV false,iv 0,iv 0] 142)]) (p0.Tools.length+1) (p0.Tools,0) ⟨Z,Z,Nat.zero_le _,H⟩ (.r Z) (.r Z) (fun _ _ h=>absurd h.1 (by simp)) ?_))))))))))))))))))))))
 intro w v m s hs
 obtain⟨i,z⟩:=s
 obtain⟨y,t,A,H⟩:=hs
 replace t:i=List.drop z p0.Tools:=t
 replace H:mE p0 i z=some r:=H
 replace y:m+1=i.length+1:=y
 replace l:=l.le v
 replace o:=o.le v
 replace leB:=leB.trans v
 obtain rfl:m=i.length:=by omega
 clear y
 dsimp only
 cases i with
 |nil=>
  rw[mE.eq_1] at H
  refine ai (aC bv Z Z (ae (aa (av (eX Z (dY t) (cz (aD (aD (aU (aa (ai (aA Z (Tr.k Z (ae (aa (bu ?_))))))))))))))))
  obtain rfl:=oI H
  exact bO 3 88 jy (bO 4 133 aT (Tr.out (m:=[pV j]) [] (bM Z bL) (fun W hW=>⟨w,((b,d),(f,g),(none,0),(none,0),(none,j)),leB,Z,⟨l,o,fQ,fQ,trivial⟩,hW.pick (ks:=[3,4,2]) (by decide) (aH Z (aH Z (aH Z aY)))⟩)))
 |cons B i=>
  rw[mE.eq_2] at H
  refine ai (aC bv Z Z (ae (aa (av (eO Z (fI t) (aO (aa (av (Tr.block (av ?_))))))))))
  cases H

theorem si{w:Bs}(p0:fq)(b:Option Addr)(d:Nat)(t:Sl w.R w.W aR b d p0.p.Tools)(f:Option Addr)(g:Nat)(u:Sl w.R w.W az f g p0.p.Steps)(h:Option Addr)(i:Nat)(v:Sl w.R w.W jy h i p0.tools)(j:Option Addr)(l:Nat)(y:Sl w.R w.W aT j l p0.image)(o:Nat)(q:w.R o)(s:aI w.W o 0 [iv p0.p.Unit,sL b p0.p.Tools d,sL f p0.p.Steps g,sL h p0.tools i,sL j p0.image l,bV p0.clear,iv p0.tool,iv p0.place.X,iv p0.place.Y,bV p0.placed,iv p0.off,iv p0.on])(p1:ak)(p2:ak)(r:ak)(H:kE p0 p1 p2=some r)(hE:HF w w.W E0):Calls Tryz.prog 202 [pV o,.agg #[iv p1.X,iv p1.Y],.agg #[iv p2.X,iv p2.Y]].toArray w.W fun e W'=>e= .returned (.agg #[iv r.X,iv r.Y])∧HF w W' E0:=by
 unfold kE at H
 have leB:=Bs.Le.refl w
 refine aZ (n:=30) Tryz.func202 Z Z Z hE (ai (fT 1 (cs:=[iv p1.X,iv p1.Y]) (wn Z) Z Z Z fun z=>(fT 2 (cs:=[iv p2.X,iv p2.Y]) (wn Z) Z Z Z fun A=>(Tr.alloc 3 (wn Z) Z tZ fun B=>(ae (aa (av (jN 22 (by kernel_rfl) (by kernel_rfl) (dZ (ag je) Z (bg Z (fun _ _ a c=>ah bT (a.ev Z) (dB c (vs:=[iv p1.X,iv p1.Y]) (k:=1) Z 0) Z) (dG Z (dZ fw Z (dZ (ag Li) Z (dZ (ag sD) Z (bg Z (fun _ _ a c=>ah bT (a.ev Z) (aI.drop (aI.drop (wo q s c) 0) 0) Z) ?_)))))))))))))))
 refine fZ wX Z Z (dZ (ag je) Z (bg Z (fun _ _ a c=>ah bT (a.ev Z) (dB c (vs:=[iv p2.X,iv p2.Y]) (k:=2) Z 0) Z) (fZ bz Z Z (dZ (ag iQ) Z (bg Z (fun _ _ a c=>ah bT (a.ev Z) (dB c (vs:=[iv p1.X,iv p1.Y]) (k:=1) Z 1) Z) (dG Z (dZ fw Z (dZ (ag Li) Z (dZ (ag sD) Z (bg Z (fun _ _ a c=>ah bT (a.ev Z) (aI.drop (aI.drop (wo q s c) 0) 0) Z) (fZ wX Z Z (dZ (ag iQ) Z (bg Z (fun _ _ a c=>ah bT (a.ev Z) (dB c (vs:=[iv p2.X,iv p2.Y]) (k:=2) Z 1) Z) (fZ bz Z Z (iC (iR (vs:=[(0,iv (bF ((bF (p1.X*p0.p.Unit))+p2.X))),(1,iv (bF ((bF (p1.Y*p0.p.Unit))+p2.Y)))]) (cs:=[iv (bF ((bF (p1.X*p0.p.Unit))+p2.X)),iv (bF ((bF (p1.Y*p0.p.Unit))+p2.Y))]) (wn Z) Z (bB Z (bB Z dH)) (by kernel_rfl) (bC 3 (cs:=[iv (bF ((bF (p1.X*p0.p.Unit))+p2.X)),iv (bF ((bF (p1.Y*p0.p.Unit))+p2.Y))]) [iv (bF ((bF (p1.X*p0.p.Unit))+p2.X)),iv (bF ((bF (p1.Y*p0.p.Unit))+p2.Y))] (wn Z) Z Z Z Z gQ Z Z Z (ae (aa (bu ?_))))))))))))))))))))
 obtain rfl:=oI H
 exact Tr.out (m:=[.agg #[iv (bF ((bF (p1.X*p0.p.Unit))+p2.X)),iv (bF ((bF (p1.Y*p0.p.Unit))+p2.Y))]]) [3] (nA Z Z kP gQ bL) (fun W hW=>⟨Z,hW.low leB⟩)

theorem wH{w:Bs}(p0:(List bf))(f:Option Addr)(q:Nat)(b:Sl w.O w.W aT f q p0)(p1:Int)(p2:Int)(r:((List Int)×Int))(H:oh p0 p1 p2=some r)(hE:HF w w.W (ig [])):Calls Tryz.prog 246 [sL f p0 q,iv p1,iv p2].toArray w.W fun e W'=>∃(w':Bs) (u:(Option Addr×Nat)),w.Le w'∧e= .returned (.tuple #[sL u.1 r.1 u.2,iv r.2])∧(Sl w'.O w'.W bP u.1 u.2 r.1)∧HF w' W' (ig []):=by
 unfold oh at H
 have leB:=Bs.Le.refl w
 refine aZ (n:=36) Tryz.func246 Z Z Z hE (ai (Tr.k Z (bO 1 3 bP ?_)))
 show Tr _ _ (uf _ 6 (sL none (([]:List Int)) 0)) _ _
 refine Tr.k Z (ae (aa (av (Tr.block (ai (aA Z (aQ (bD ug) Z (aC eU Z Z (Tr.k Z (ae (aa (aP Z H (fun H=>?_) (fun H=>?_)))))))))))))
 ·refine ai (aA Z (Tr.k Z (bO 2 3 bP ?_)))
  show Tr _ _ (uf _ 6 (sL none (([]:List Int)) 0)) _ _
  refine Tr.k Z (ae (aa (bu (fD (bn ?_)))))
  obtain rfl:=oI H
  refine Tr.freeze 2 Z fun w T U=>?_
  replace leB:=leB.trans T
  exact Tr.out (m:=[sL none (([]:List Int)) 0,iv p2]) [] (bM Z (bM Z bL)) (fun W hW=>⟨w,(none,0),leB,Z,U,hW.pick (ks:=[]) (by decide) aY⟩)
 ·refine ai (aA Z (aA Z ?_))
  obtain⟨b6,V,H⟩:=bnd H
  obtain⟨z,A,B⟩:=aW V
  obtain⟨a4,i,s,C⟩:=(b).el B
  obtain⟨b0,b1⟩:=a4
  have a1:=s
  replace i:w.R (pu f):=Or.inl i
  refine aG Z (fun _ _ a c=>au pM (a.ev Z) b.form (a.ev Z) z A) (aQ (ag oz) Z (aG Z (fun _ _ a c=>ah bT (a.ev Z) (aI.drop (wo i C c) 0) Z) (aC bv Z Z (Tr.k Z (ae (aa (aP Z H (fun H=>?_) (fun H=>?_))))))))
  ·refine av (jF (by kernel_rfl) (by kernel_rfl) (dG Z (dG Z ?_)))
   obtain⟨a5,X,H⟩:=bnd H
   obtain⟨D,E,F⟩:=aW X
   obtain⟨a6,j,t,G⟩:=(b).el F
   obtain⟨b2,b3⟩:=a6
   have a2:=t
   replace j:w.R (pu f):=Or.inl j
   refine bg Z (fun _ _ a c=>au pM (a.ev Z) b.form (a.ev Z) D E) (dZ (ag oz) Z (bg Z (fun _ _ a c=>ah bT (a.ev Z) (aI.drop (wo j G c) 0) Z) (bg Z (fun _ _ a c=>vE (a.ev Z) (a.ev Z) _) (sM Z Z (sM Z Z (iC (aa (bu (fD (bn ?_))))))))))
   obtain rfl:=oI H
   exact Tr.out (m:=[.slice none 0 0,iv (min p2 a5.Y0)]) [] (bM Z (bM Z bL)) (fun W hW=>⟨w,(none,0),leB,Z,(Sl.nil _ _ _),hW.pick (ks:=[]) (by decide) aY⟩)
  ·refine aO (aL (aa (av (jF (by kernel_rfl) (by kernel_rfl) (dG Z ?_)))))
   obtain⟨I,a',H⟩:=bnd H
   obtain⟨J,K,L⟩:=aW a'
   obtain⟨a7,l,v,M⟩:=(b).el L
   obtain⟨g,h⟩:=a7
   have d:=v
   replace d:Sl w.O w.W bP g h I.Xs:=d
   replace l:w.R (pu f):=Or.inl l
   refine bg Z (fun _ _ a c=>au pM (a.ev Z) b.form (a.ev Z) J K) (dZ (ag jU) Z (bg Z (fun _ _ a c=>ah lc (a.ev Z) (aI.drop (wo l M c) 2) Z) (dG Z (dG Z ?_))))
   obtain⟨a8,a0,H⟩:=bnd H
   obtain⟨N,P,Q⟩:=aW a0
   obtain⟨a9,o,y,S⟩:=(b).el Q
   obtain⟨b4,b5⟩:=a9
   have a3:=y
   replace o:w.R (pu f):=Or.inl o
   refine bg Z (fun _ _ a c=>au pM (a.ev Z) b.form (a.ev Z) N P) (dZ (ag nC) Z (bg Z (fun _ _ a c=>ah bT (a.ev Z) (aI.drop (wo o S c) 1) Z) (bg Z (fun _ _ a c=>vE (a.ev Z) (a.ev Z) _) (sM Z Z (sM Z Z (iC (aa (bu ?_))))))))
   obtain rfl:=oI H
   exact Tr.out (m:=[sL g I.Xs h,iv (min p2 a8.Y1)]) [] (bM Z (bM Z bL)) (fun W hW=>⟨w,(g,h),leB,Z,d,hW.pick (ks:=[]) (by decide) aY⟩)

end Go.Proofs.YtblmajfbibbiaaaGreatDoor
