/- The walks: each function computes its plain function. -/
import Derived.Test.YtkccbhbhdnobhaaGreatDoorXWb
namespace Go.Proofs.YtkccbhbhdnobhaaGreatDoor
open Go.RowKit
set_option maxRecDepth 100000
set_option maxHeartbeats 1000000
theorem za{w:Bs}(p0:au)(p1:au)(r:Bool)(H:sF p0 p1=some r)(hE:HF w w.W E0):Calls Tryz.prog 87 [.agg #[iv p0.X0,iv p0.Y0,iv p0.X1,iv p0.Y1],.agg #[iv p1.X0,iv p1.Y0,iv p1.X1,iv p1.Y1]].toArray w.W fun e W'=>e= .returned (bV r)∧HF w W' E0:=by
 unfold sF at H
 have leB:=Bs.Le.refl w
 refine aV (n:=63) Tryz.func87 O O O hE (ai (fw 1 (cs:=[iv p0.X0,iv p0.Y0,iv p0.X1,iv p0.Y1]) (wn O) O O O fun b=>(fw 2 (cs:=[iv p1.X0,iv p1.Y0,iv p1.X1,iv p1.Y1]) (wn O) O O O fun c=>(Tr.k O (ae (aa (ai (aH (ag jd) O (aC O (fun _ _ a d=>ah bG (a.ev O) (bR d (vs:=[iv p0.X0,iv p0.Y0,iv p0.X1,iv p0.Y1]) (k:=1) O 0) O) (aH (ag jZ) O (aC O (fun _ _ a d=>ah bG (a.ev O) (bR d (vs:=[iv p1.X0,iv p1.Y0,iv p1.X1,iv p1.Y1]) (k:=2) O 2) O) (ay aR O O (ax O (bP 6 [(2,pV b),(3,pV c),(18,bV ((decide (p0.X0<p1.X1))&&(decide (p1.X0<p0.X1))))] [(1,bx b #[iv p0.X0,iv p0.Y0,iv p0.X1,iv p0.Y1] 111),(2,bx c #[iv p1.X0,iv p1.Y0,iv p1.X1,iv p1.Y1] 111)] ?_ ?_))))))))))))))
 ·cases f:(decide (p0.X0<p1.X1))
  ·exact Tr.ps O (Tr.ps O (Tr.ps O (Tr.ps O (Tr.ps O (ay aZ O O (ae (aS (.r O) (.r O))))))))
  ·exact bH (ag jd) O (Tr.x (fun _ _ a d=>ah bG (a.ev O) (bR d (vs:=[iv p1.X0,iv p1.Y0,iv p1.X1,iv p1.Y1]) (k:=2) O 0) O) (bH (ag jZ) O (Tr.x (fun _ _ a d=>ah bG (a.ev O) (bR d (vs:=[iv p0.X0,iv p0.Y0,iv p0.X1,iv p0.Y1]) (k:=1) O 2) O) (Tr.e2 aR O O (ay aW O O (ae (aS (.r O) (.r O))))))))
 ·show Tr _ _ (LF [(2,pV b),(3,pV c),(18,bV ((decide (p0.X0<p1.X1))&&(decide (p1.X0<p0.X1))))]) (LE [(1,bx b #[iv p0.X0,iv p0.Y0,iv p0.X1,iv p0.Y1] 111),(2,bx c #[iv p1.X0,iv p1.Y0,iv p1.X1,iv p1.Y1] 111)]) _
  refine Tr.k O (ae (aa (ai (aH (ag jK) O (aC O (fun _ _ a d=>ah bG (a.ev O) (bR d (vs:=[iv p0.X0,iv p0.Y0,iv p0.X1,iv p0.Y1]) (k:=1) O 1) O) (aH (ag nA) O (aC O (fun _ _ a d=>ah bG (a.ev O) (bR d (vs:=[iv p1.X0,iv p1.Y0,iv p1.X1,iv p1.Y1]) (k:=2) O 3) O) (ay aR O O (ax O (bP 6 [(2,pV b),(3,pV c),(5,bV ((decide (p0.X0<p1.X1))&&(decide (p1.X0<p0.X1)))),(30,bV ((decide (p0.Y0<p1.Y1))&&(decide (p1.Y0<p0.Y1))))] [(1,bx b #[iv p0.X0,iv p0.Y0,iv p0.X1,iv p0.Y1] 111),(2,bx c #[iv p1.X0,iv p1.Y0,iv p1.X1,iv p1.Y1] 111)] ?_ ?_))))))))))
  ·cases f:(decide (p0.Y0<p1.Y1))
   ·exact Tr.ps O (Tr.ps O (Tr.ps O (Tr.ps O (Tr.ps O (ay aZ O O (ae (aS (.r O) (.r O))))))))
   ·exact bH (ag jK) O (Tr.x (fun _ _ a d=>ah bG (a.ev O) (bR d (vs:=[iv p1.X0,iv p1.Y0,iv p1.X1,iv p1.Y1]) (k:=2) O 1) O) (bH (ag nA) O (Tr.x (fun _ _ a d=>ah bG (a.ev O) (bR d (vs:=[iv p0.X0,iv p0.Y0,iv p0.X1,iv p0.Y1]) (k:=1) O 3) O) (Tr.e2 aR O O (ay aW O O (ae (aS (.r O) (.r O))))))))
  ·show Tr _ _ (LF [(2,pV b),(3,pV c),(5,bV ((decide (p0.X0<p1.X1))&&(decide (p1.X0<p0.X1)))),(30,bV ((decide (p0.Y0<p1.Y1))&&(decide (p1.Y0<p0.Y1))))]) (LE [(1,bx b #[iv p0.X0,iv p0.Y0,iv p0.X1,iv p0.Y1] 111),(2,bx c #[iv p1.X0,iv p1.Y0,iv p1.X1,iv p1.Y1] 111)]) _
   refine Tr.k O (ae (aa (ai (ax O (ax O (bP 13 [(2,pV b),(3,pV c),(6,bV ((decide (p0.Y0<p1.Y1))&&(decide (p1.Y0<p0.Y1)))),(45,bV (((decide (p0.X0<p1.X1))&&(decide (p1.X0<p0.X1)))&&((p0.Y1==p1.Y0)||(p1.Y1==p0.Y0))))] [(1,bx b #[iv p0.X0,iv p0.Y0,iv p0.X1,iv p0.Y1] 111),(2,bx c #[iv p1.X0,iv p1.Y0,iv p1.X1,iv p1.Y1] 111)] ?_ ?_))))))
   ·cases f:((decide (p0.X0<p1.X1))&&(decide (p1.X0<p0.X1)))
    ·exact Tr.ps O (Tr.ps O (Tr.ps O (Tr.ps O (Tr.ps O (Tr.ps O (gN O (gN O (gN O (gN O (gN O (Tr.ps O (ay aZ O O (ae (aS (.r O) (.r O)))))))))))))))
    ·refine bH (ag nA) O (Tr.x (fun _ _ a d=>ah bG (a.ev O) (bR d (vs:=[iv p0.X0,iv p0.Y0,iv p0.X1,iv p0.Y1]) (k:=1) O 3) O) (bH (ag jK) O (Tr.x (fun _ _ a d=>ah bG (a.ev O) (bR d (vs:=[iv p1.X0,iv p1.Y0,iv p1.X1,iv p1.Y1]) (k:=2) O 1) O) (Tr.e2 iA O O (bH run_move O (bP 6 [(2,pV b),(3,pV c),(6,bV ((decide (p0.Y0<p1.Y1))&&(decide (p1.Y0<p0.Y1)))),(32,bV true),(44,bV ((p0.Y1==p1.Y0)||(p1.Y1==p0.Y0)))] [(1,bx b #[iv p0.X0,iv p0.Y0,iv p0.X1,iv p0.Y1] 111),(2,bx c #[iv p1.X0,iv p1.Y0,iv p1.X1,iv p1.Y1] 111)] ?_ ?_))))))
     ·cases f:(p0.Y1==p1.Y0)
      ·exact bH (ag nA) O (Tr.x (fun _ _ a d=>ah bG (a.ev O) (bR d (vs:=[iv p1.X0,iv p1.Y0,iv p1.X1,iv p1.Y1]) (k:=2) O 3) O) (bH (ag jK) O (Tr.x (fun _ _ a d=>ah bG (a.ev O) (bR d (vs:=[iv p0.X0,iv p0.Y0,iv p0.X1,iv p0.Y1]) (k:=1) O 1) O) (Tr.e2 iA O O (Tr.e2 aZ O O (ae (aS (.r O) (.r O))))))))
      ·exact Tr.ps O (Tr.ps O (Tr.ps O (Tr.ps O (Tr.ps O (Tr.e2 aW O O (ae (aS (.r O) (.r O))))))))
     ·dsimp only
      exact ay aW O O (ae (aS (.r O) (.r O)))
   ·show Tr _ _ (LF [(2,pV b),(3,pV c),(6,bV ((decide (p0.Y0<p1.Y1))&&(decide (p1.Y0<p0.Y1)))),(45,bV (((decide (p0.X0<p1.X1))&&(decide (p1.X0<p0.X1)))&&((p0.Y1==p1.Y0)||(p1.Y1==p0.Y0))))]) (LE [(1,bx b #[iv p0.X0,iv p0.Y0,iv p0.X1,iv p0.Y1] 111),(2,bx c #[iv p1.X0,iv p1.Y0,iv p1.X1,iv p1.Y1] 111)]) _
    refine ax O (bP 16 [(62,bV ((((decide (p0.X0<p1.X1))&&(decide (p1.X0<p0.X1)))&&((p0.Y1==p1.Y0)||(p1.Y1==p0.Y0)))||(((decide (p0.Y0<p1.Y1))&&(decide (p1.Y0<p0.Y1)))&&((p0.X1==p1.X0)||(p1.X1==p0.X0)))))] [(1,bx b #[iv p0.X0,iv p0.Y0,iv p0.X1,iv p0.Y1] 111),(2,bx c #[iv p1.X0,iv p1.Y0,iv p1.X1,iv p1.Y1] 111)] ?_ ?_)
    ·cases f:(((decide (p0.X0<p1.X1))&&(decide (p1.X0<p0.X1)))&&((p0.Y1==p1.Y0)||(p1.Y1==p0.Y0)))
     ·refine bH run_move O (bH run_move O (bP 13 [(46,bV false),(61,bV (((decide (p0.Y0<p1.Y1))&&(decide (p1.Y0<p0.Y1)))&&((p0.X1==p1.X0)||(p1.X1==p0.X0))))] [(1,bx b #[iv p0.X0,iv p0.Y0,iv p0.X1,iv p0.Y1] 111),(2,bx c #[iv p1.X0,iv p1.Y0,iv p1.X1,iv p1.Y1] 111)] ?_ ?_))
      ·cases f:((decide (p0.Y0<p1.Y1))&&(decide (p1.Y0<p0.Y1)))
       ·exact Tr.ps O (Tr.ps O (Tr.ps O (Tr.ps O (Tr.ps O (Tr.ps O (gN O (gN O (gN O (gN O (gN O (Tr.ps O (Tr.e2 aZ O O (ae (aS (.r O) (.r O)))))))))))))))
       ·refine bH (ag jZ) O (Tr.x (fun _ _ a d=>ah bG (a.ev O) (bR d (vs:=[iv p0.X0,iv p0.Y0,iv p0.X1,iv p0.Y1]) (k:=1) O 2) O) (bH (ag jd) O (Tr.x (fun _ _ a d=>ah bG (a.ev O) (bR d (vs:=[iv p1.X0,iv p1.Y0,iv p1.X1,iv p1.Y1]) (k:=2) O 0) O) (Tr.e2 iA O O (bH run_move O (bP 6 [(46,bV false),(48,bV true),(60,bV ((p0.X1==p1.X0)||(p1.X1==p0.X0)))] [(1,bx b #[iv p0.X0,iv p0.Y0,iv p0.X1,iv p0.Y1] 111),(2,bx c #[iv p1.X0,iv p1.Y0,iv p1.X1,iv p1.Y1] 111)] ?_ ?_))))))
        ·cases f:(p0.X1==p1.X0)
         ·exact bH (ag jZ) O (Tr.x (fun _ _ a d=>ah bG (a.ev O) (bR d (vs:=[iv p1.X0,iv p1.Y0,iv p1.X1,iv p1.Y1]) (k:=2) O 2) O) (bH (ag jd) O (Tr.x (fun _ _ a d=>ah bG (a.ev O) (bR d (vs:=[iv p0.X0,iv p0.Y0,iv p0.X1,iv p0.Y1]) (k:=1) O 0) O) (Tr.e2 iA O O (Tr.e2 aZ O O (ae (aS (.r O) (.r O))))))))
         ·exact Tr.ps O (Tr.ps O (Tr.ps O (Tr.ps O (Tr.ps O (Tr.e2 aW O O (ae (aS (.r O) (.r O))))))))
        ·dsimp only
         exact Tr.e2 aW O O (ae (aS (.r O) (.r O)))
      ·dsimp only
       exact ay aZ O O (ae (aS (.r O) (.r O)))
     ·exact Tr.ps O (Tr.ps O (gN O (gN O (gN O (gN O (gN O (gN O (gN O (gN O (gN O (gN O (gN O (gN O (Tr.ps O (ay aW O O (ae (aS (.r O) (.r O))))))))))))))))))
    ·show Tr _ _ (LF [(62,bV ((((decide (p0.X0<p1.X1))&&(decide (p1.X0<p0.X1)))&&((p0.Y1==p1.Y0)||(p1.Y1==p0.Y0)))||(((decide (p0.Y0<p1.Y1))&&(decide (p1.Y0<p0.Y1)))&&((p0.X1==p1.X0)||(p1.X1==p0.X0)))))]) (LE [(1,bx b #[iv p0.X0,iv p0.Y0,iv p0.X1,iv p0.Y1] 111),(2,bx c #[iv p1.X0,iv p1.Y0,iv p1.X1,iv p1.Y1] 111)]) _
     refine Tr.k O (ae (aa (aO ?_)))
     obtain rfl:=oI H
     exact cB leB

theorem ug{w:Bs}(p0:au)(q0:gP)(CU:Nat)(hb0:w.R CU)(hc0:aF w.W CU 0 [iv q0.At.X,iv q0.At.Y,iv q0.Size,iv q0.From,iv q0.To,bV q0.Plated])(r:Bool)(H:ja p0 q0=some r)(hE:HF w w.W E0):Calls Tryz.prog 86 [.agg #[iv p0.X0,iv p0.Y0,iv p0.X1,iv p0.Y1],pV CU].toArray w.W fun e W'=>e= .returned (bV r)∧HF w W' E0:=by
 unfold ja at H
 have leB:=Bs.Le.refl w
 refine aV (n:=8) Tryz.func86 O O O hE (ai (fw 1 (cs:=[iv p0.X0,iv p0.Y0,iv p0.X1,iv p0.Y1]) (wn O) O O O fun h=>(Tr.k O (ae (aa (av (ji (by kernel_rfl) (by kernel_rfl) (bv O (fun _ _ a d=>aM (cs:=[iv p0.X0,iv p0.Y0,iv p0.X1,iv p0.Y1]) gV dh (a.ev O) (aF.take (bR d (vs:=[iv p0.X0,iv p0.Y0,iv p0.X1,iv p0.Y1]) (k:=1) O 0) 4) O) (bv O (fun _ _ a d=>aM (cs:=[iv q0.At.X,iv q0.At.Y,iv q0.Size,iv q0.From,iv q0.To,bV q0.Plated]) oH lT (a.ev O) (aF.take (qY hb0 hc0 d) 6) O) ?_)))))))))
 obtain⟨b,f,H⟩:=bnd H
 refine jB (r:=(.agg #[iv b.X0,iv b.Y0,iv b.X1,iv b.Y1])) (wn O) O Tryz.call42 (aj O aG) (fun W hW=>jT q0 b f (HF.start _)) ?_
 obtain⟨c,g,H⟩:=bnd H
 refine jB (r:=(bV c)) (wn O) O Tryz.call87 (aj O (aj O aG)) (fun W hW=>za p0 b c g (HF.start _)) (nD O O (jD (aa (aO ?_))))
 obtain rfl:=oI H
 exact cB leB

theorem nM{w:Bs}(p0:(List au))(a:Option Addr)(b:Nat)(f:Sl w.R w.W aB a b p0)(p1:au→Option Bool)(fid1:Nat)(c:List Value)(hg1:∀args W,(callFunc fid1 args).run Tryz.prog W= .ok (.enter fid1 args) W)(hf1:∀(w':Bs),w.Ext w'→∀(z0:au),∀y,p1 z0=some y→Calls Tryz.prog fid1 (([.agg #[iv z0.X0,iv z0.Y0,iv z0.X1,iv z0.Y1]]:List Value)++c).toArray w'.W fun e W''=>e= .returned (bV y)∧HF w' W'' E0)(r:Bool)(H:fO p0 p1=some r)(hE:HF w w.W E0):Calls Tryz.prog 85 [sL a p0 b,.func (.func fid1) #[] c.toArray].toArray w.W fun e W'=>e= .returned (bV r)∧HF w W' E0:=by
 unfold fO at H
 have leB:=Bs.Le.refl w
 refine aV (n:=9) Tryz.func85 O O O hE (ai (Tr.k O (ae (aa (ai (ax O (ax O ?_)))))))
 obtain⟨d,g,H⟩:=bnd H
 refine bu (r:=(iv d)) (wn O) O Tryz.call123 (aj O (aj O aG)) (fun W hW=>oL p0 a b (f.ext hW.bU) p1 fid1 c hg1 (fun w' he=>hf1 w' (hW.bU.trans he)) d g (HF.start _)) (ay oh O O (Tr.k O (ae (aa (aO ?_)))))
 obtain rfl:=oI H
 exact cB leB

theorem uK{w:Bs}(p0:dD)(I:Option Addr)(J:Nat)(f7:Sl w.R w.W dF I J p0.Art.Coppers)(K:Option Addr)(L:Nat)(f8:Sl w.R w.W aB K L p0.Art.Outline)(c:Option Addr)(f:Nat)(a9:Sl w.R w.W dY c f p0.Art.Bores)(M:Option Addr)(N:Nat)(f9:Sl w.R w.W eH M N p0.Art.Lands)(a':Option Addr)(P:Nat)(g0:Sl w.R w.W bM a' P p0.Drilled)(g:Option Addr)(i:Nat)(b0:Sl w.R w.W dG g i p0.Pieces)(b9:Option Addr)(c0:Nat)(Q:Option Addr)(S:Nat)(g1:Sl w.R w.W dw Q S p0.Groups)(T:Option Addr)(U:Nat)(g2:Sl w.R w.W az T U p0.OfPiece)(V:Option Addr)(Z:Nat)(g3:Sl w.R w.W az V Z p0.OfBore)(j:Option Addr)(o:Nat)(f5:Sl w.R w.W az j o p0.OfLand)(p:Option Addr)(q:Nat)(f6:Sl w.R w.W dX p q p0.AtLand)(a4:Nat)(r:(List (List Int)))(H:kJ p0=some r)(hE:HF w w.W (iZ [bx a4 #[sL I p0.Art.Coppers J,sL K p0.Art.Outline L,sL c p0.Art.Bores f,sL M p0.Art.Lands N,sL a' p0.Drilled P,sL g p0.Pieces i,sL b9 p0.Touched c0,sL Q p0.Groups S,sL T p0.OfPiece U,sL V p0.OfBore Z,sL j p0.OfLand o,sL p p0.AtLand q] 72,ow b9 c0 69 fE p0.Touched])):Calls Tryz.prog 44 [pV a4].toArray w.W fun e W'=>∃(w':Bs) (u:(Option Addr×Nat)),w.Le w'∧e= .returned (.tuple #[])∧(cO u.1 r.length u.2)∧HF w' W' (iZ [bx a4 #[sL I p0.Art.Coppers J,sL K p0.Art.Outline L,sL c p0.Art.Bores f,sL M p0.Art.Lands N,sL a' p0.Drilled P,sL g p0.Pieces i,sL u.1 r u.2,sL Q p0.Groups S,sL T p0.OfPiece U,sL V p0.OfBore Z,sL j p0.OfLand o,sL p p0.AtLand q] 72,ow u.1 u.2 69 fE r]):=by
 unfold kJ at H
 have d3:=(hE.sl (k:=1) O).form
 have leB:=Bs.Le.refl w
 refine aV (n:=57) Tryz.func44 O O O hE (ai (ax O (aH bn O (aH (ag ut) O (aH (ag rE) O (aC O (fun _ _ a d=>ah yG (a.ev O) (bR d (vs:=[sL I p0.Art.Coppers J,sL K p0.Art.Outline L,sL c p0.Art.Bores f,sL M p0.Art.Lands N,sL a' p0.Drilled P,sL g p0.Pieces i,sL b9 p0.Touched c0,sL Q p0.Groups S,sL T p0.OfPiece U,sL V p0.OfBore Z,sL j p0.OfLand o,sL p p0.AtLand q]) (k:=0) O 2) O) (aH (bf zf) O (ax O (ae (aa (Tr.block (bO (σ:=(List gP)×Nat×(List (List Int))×(Option Addr)×Nat) (fun m w s=>m=s.1.length+1∧s.1=List.drop s.2.1 p0.Art.Bores∧s.2.1≤p0.Art.Bores.length∧dW p0 s.1 s.2.1 s.2.2.1=some r∧cO s.2.2.2.1 s.2.2.1.length s.2.2.2.2) (fun s=>[(0,pV a4),(11,sL c p0.Art.Bores f),(12,iv (p0.Art.Bores.length:Int)),(13,iv (s.2.1:Int))]) (fun s=>[(0,bx a4 #[sL I p0.Art.Coppers J,sL K p0.Art.Outline L,sL c p0.Art.Bores f,sL M p0.Art.Lands N,sL a' p0.Drilled P,sL g p0.Pieces i,sL s.2.2.2.1 s.2.2.1 s.2.2.2.2,sL Q p0.Groups S,sL T p0.OfPiece U,sL V p0.OfBore Z,sL j p0.OfLand o,sL p p0.AtLand q] 72),(1,ow s.2.2.2.1 s.2.2.2.2 69 fE s.2.2.1)]) (p0.Art.Bores.length+1) (p0.Art.Bores,0,p0.Touched,b9,c0) ⟨O,O,Nat.zero_le _,H,d3⟩ (.r O) (.r O) (fun _ _ h=>absurd h.1 (by simp)) ?_))))))))))))
 intro w b3 m s hs
 obtain⟨a5,b2,E,v,A⟩:=s
 obtain⟨c8,b1,g4,H,c4⟩:=hs
 replace b1:a5=List.drop b2 p0.Art.Bores:=b1
 replace H:dW p0 a5 b2 E=some r:=H
 replace c8:m+1=a5.length+1:=c8
 replace a9:=a9.kL b3
 replace b0:=b0.kL b3
 replace leB:=leB.trans b3
 replace c4:cO v E.length A:=c4
 obtain rfl:m=a5.length:=by omega
 clear c8
 dsimp only
 cases a5 with
 |nil=>
  rw[dW.eq_1] at H
  refine ai (ay aR O O (ae (aa (av (bX O (bN b1) (bK (aA (aA (aP (yf ?_))))))))))
  obtain rfl:=oI H
  exact bL (m:=[]) [] bD (fun W hW=>⟨w,(v,A),leB,O,c4,hW.pick (ks:=[0,1]) (by decide) (aN O (aN O bg))⟩)
 | cons b a5=>
  rw[dW.eq_2] at H
  refine ai (ay aR O O (ae (aa (av (bY O (cu b1) (aJ (aa (av (Tr.block (ai (aC O (fun _ _ a d=>ak Bg (a.ev O) a9.form (a.ev O) (Int.natCast_nonneg _) (aX b1)) (aC O (fun _ _ a d=>aM (cs:=[iv b.At.X,iv b.At.Y,iv b.Size,iv b.From,iv b.To,bV b.Plated]) oH lT (a.ev O) (aF.take (rP rT a9 (dI b1) d) 6) O) (Tr.alloc 20 (wn O) O Aa fun a3=>(bF 20 (cs:=[iv b.At.X,iv b.At.Y,iv b.Size,iv b.From,iv b.To,bV b.Plated]) [iv b.At.X,iv b.At.Y,iv b.Size,iv b.From,iv b.To,bV b.Plated] (wn O) O O O O lT O O O (ae (aa (ai (Tr.k O (bC 21 3 az ?_)))))))))))))))))))
  show Tr _ _ (uf _ 4 (sL none (([]:List Int)) 0)) _ _
  refine ae (aa (av (ai (ax O (aH bn O (aH (ag oW) O (aC O (fun _ _ a d=>ah wF (a.ev O) (bR d (vs:=[sL I p0.Art.Coppers J,sL K p0.Art.Outline L,sL c p0.Art.Bores f,sL M p0.Art.Lands N,sL a' p0.Drilled P,sL g p0.Pieces i,sL v E A,sL Q p0.Groups S,sL T p0.OfPiece U,sL V p0.OfBore Z,sL j p0.OfLand o,sL p p0.AtLand q]) (k:=0) O 5) O) (aH (bf ze) O (ax O (ae (aa (Tr.block (bO (σ:=(List eQ)×Nat×(List Int)×(Option Addr)×Nat) (fun m w s=>m=s.1.length+1∧s.1=List.drop s.2.1 p0.Pieces∧s.2.1≤p0.Pieces.length∧dV E (dW p0 a5 (b2+1)) b s.1 s.2.1 s.2.2.1=some r∧cO s.2.2.2.1 s.2.2.1.length s.2.2.2.2) (fun s=>[(0,pV a4),(3,pV a3),(4,sL s.2.2.2.1 s.2.2.1 s.2.2.2.2),(11,sL c p0.Art.Bores f),(12,iv (p0.Art.Bores.length:Int)),(13,iv (b2:Int)),(20,sL g p0.Pieces i),(21,iv (p0.Pieces.length:Int)),(22,iv (s.2.1:Int))]) (fun s=>[(0,bx a4 #[sL I p0.Art.Coppers J,sL K p0.Art.Outline L,sL c p0.Art.Bores f,sL M p0.Art.Lands N,sL a' p0.Drilled P,sL g p0.Pieces i,sL v E A,sL Q p0.Groups S,sL T p0.OfPiece U,sL V p0.OfBore Z,sL j p0.OfLand o,sL p p0.AtLand q] 72),(1,ow v A 69 fE E),(20,bx a3 #[iv b.At.X,iv b.At.Y,iv b.Size,iv b.From,iv b.To,bV b.Plated] 119),(21,ow s.2.2.2.1 s.2.2.2.2 3 az s.2.2.1)]) (p0.Pieces.length+1) (p0.Pieces,0,([]:List Int),none,0) ⟨O,O,Nat.zero_le _,H,gZ⟩ (.r O) (.r O) (fun _ _ h=>absurd h.1 (by simp)) ?_)))))))))))))
  intro w c3 m s hs
  obtain⟨a7,a6,a0,C,D⟩:=s
  obtain⟨c9,a8,g5,H,c5⟩:=hs
  replace a8:a7=List.drop a6 p0.Pieces:=a8
  replace H:dV E (dW p0 a5 (b2+1)) b a7 a6 a0=some r:=H
  replace c9:m+1=a7.length+1:=c9
  replace a9:=a9.kL c3
  replace b0:=b0.kL c3
  replace b3:=b3.trans c3
  replace c5:cO C a0.length D:=c5
  obtain rfl:m=a7.length:=by omega
  clear c9
  dsimp only
  cases a7 with
  |nil=>
   rw[dV.eq_1] at H
   refine ai (ay aR O O (ae (aa (av (bX O (bN a8) (bK (aA (aA (aP (aa (Tr.region (ax O (ax O (aH bn O (aH (ag EM) O (aC O (fun _ _ a d=>ah Ph (a.ev O) (bR d (vs:=[sL I p0.Art.Coppers J,sL K p0.Art.Outline L,sL c p0.Art.Bores f,sL M p0.Art.Lands N,sL a' p0.Drilled P,sL g p0.Pieces i,sL v E A,sL Q p0.Groups S,sL T p0.OfPiece U,sL V p0.OfBore Z,sL j p0.OfLand o,sL p p0.AtLand q]) (k:=0) O 6) O) (ax O (Tr.freeze 21 O fun w d2 e4=>?_))))))))))))))))))
   replace a9:=a9.kL d2
   replace b3:=b3.trans d2
   refine eD 26 (e:=69) (vs:=[(0,sL C a0 D)]) (cs:=[sL C a0 D]) (wn O) O (bz O dE) (by kernel_rfl) fun g6=>?_
   obtain⟨d0,e5,H⟩:=bnd H
   exact Tr.append 1 (t:=fE) (l:=E) (l2:=[a0]) (wn O) O O O O (fun W hW=>⟨[[sL C a0 D]],(.cons ⟨(C,D),e4,O⟩ .nil),bR hW (vs:=[sL C a0 D]) (k:=26) O 0⟩) Fe uN OT (by decide) Pf O e5 fun c6 c7 d5=>(aH bn O (aH (ag EM) O (bF 0 (cs:=[sL c6 d0 c7]) [sL I p0.Art.Coppers J,sL K p0.Art.Outline L,sL c p0.Art.Bores f,sL M p0.Art.Lands N,sL a' p0.Drilled P,sL g p0.Pieces i,sL c6 d0 c7,sL Q p0.Groups S,sL T p0.OfPiece U,sL V p0.OfBore Z,sL j p0.OfLand o,sL p p0.AtLand q] (wn O) O O O O QL O O O (ae (aK (aa (Tr.region (ay bB O O (ax O (ae (aI b3 (a5,(b2+1),d0,c6,c7) ⟨O,bT b1,aX b1,H,d5⟩ (.cons O (.cons O (.cons O (.cons (congrArg (fun z=>some (Value.int .i64 z)) (bS b1 a9.form)) .nil)))) (.r O))))))))))))
  | cons B a7=>
   rw[dV.eq_2] at H
   refine ai (ay aR O O (ae (aa (av (bY O (cu a8) (aJ (aa (av (Tr.block (ai (ax O ?_)))))))))))
   obtain⟨f3,d6,d4,d7⟩:=(b0).el (dI a8)
   obtain⟨⟨a1,a2⟩,⟨F,G⟩⟩:=f3
   obtain⟨f2,b4⟩:=d4
   replace b4:Sl w.R w.W aB F G B.Rects:=b4
   refine aC O (fun _ _ a d=>ak CL (a.ev O) b0.form (a.ev O) (Int.natCast_nonneg _) (aX a8)) (aC O (fun _ _ a d=>aM (cs:=[iv B.Layer,sL a1 B.Set a2,sL F B.Rects G]) Ju zi (a.ev O) (aF.take (qY d6 d7 d) 3) O) (Tr.alloc 27 (wn O) O Iy fun b8=>(Tr.k O (bF 27 (cs:=[iv B.Layer,sL a1 B.Set a2,sL F B.Rects G]) [iv B.Layer,sL a1 B.Set a2,sL F B.Rects G] (wn O) O O O O zi O O O (ae (aa (ai (aH (ag zI) O (aC O (fun _ _ a d=>ah MN (a.ev O) (bR d (vs:=[iv b.At.X,iv b.At.Y,iv b.Size,iv b.From,iv b.To,bV b.Plated]) (k:=20) O 5) O) (ax O ?_))))))))))
   obtain⟨d1,b5,H⟩:=bnd H
   refine bP 5 [(0,pV a4),(3,pV a3),(4,sL C a0 D),(5,iv (a6:Int)),(6,pV b8),(11,sL c p0.Art.Bores f),(12,iv (p0.Art.Bores.length:Int)),(13,iv (b2:Int)),(20,sL g p0.Pieces i),(21,iv (p0.Pieces.length:Int)),(22,iv (a6:Int)),(34,bV d1)] [(0,bx a4 #[sL I p0.Art.Coppers J,sL K p0.Art.Outline L,sL c p0.Art.Bores f,sL M p0.Art.Lands N,sL a' p0.Drilled P,sL g p0.Pieces i,sL v E A,sL Q p0.Groups S,sL T p0.OfPiece U,sL V p0.OfBore Z,sL j p0.OfLand o,sL p p0.AtLand q] 72),(1,ow v A 69 fE E),(20,bx a3 #[iv b.At.X,iv b.At.Y,iv b.Size,iv b.From,iv b.To,bV b.Plated] 119),(21,ow C D 3 az a0),(27,bx b8 #[iv B.Layer,sL a1 B.Set a2,sL F B.Rects G] 76)] ?_ ?_
   ·cases b7:b.Plated
    ·rw[b7] at b5
     rw[if_neg (by decide)] at b5
     have H:=b5
     obtain rfl:=oI H
     exact Tr.ps O (Tr.ps O (Tr.ps O (Tr.ps O (ay aZ O O (ae (aS (.r O) (.r O)))))))
    ·rw[b7] at b5
     rw[if_pos O] at b5
     have H:=b5
     refine Tr.x (fun _ _ a d=>aM (cs:=[iv b.At.X,iv b.At.Y,iv b.Size,iv b.From,iv b.To,bV true]) oH lT (a.ev O) (aF.take (bR d (vs:=[iv b.At.X,iv b.At.Y,iv b.Size,iv b.From,iv b.To,bV true]) (k:=20) O 0) 6) O) (bH (ag xX) O (Tr.x (fun _ _ a d=>ah bG (a.ev O) (bR d (vs:=[iv B.Layer,sL a1 B.Set a2,sL F B.Rects G]) (k:=27) O 0) O) ?_))
     obtain⟨d8,e6,H⟩:=bnd H
     refine bu (r:=(bV d8)) (wg O O O) O Tryz.call82 (aj O (aj O aG)) (fun W hW=>nz (gP.mk b.At b.Size b.From b.To true) B.Layer d8 e6 (HF.start _)) (ay aW O O ?_)
     obtain rfl:=oI H
     exact ae (aS (.r O) (.r O))
   ·show Tr _ _ (LF [(0,pV a4),(3,pV a3),(4,sL C a0 D),(5,iv (a6:Int)),(6,pV b8),(11,sL c p0.Art.Bores f),(12,iv (p0.Art.Bores.length:Int)),(13,iv (b2:Int)),(20,sL g p0.Pieces i),(21,iv (p0.Pieces.length:Int)),(22,iv (a6:Int)),(34,bV d1)]) (LE [(0,bx a4 #[sL I p0.Art.Coppers J,sL K p0.Art.Outline L,sL c p0.Art.Bores f,sL M p0.Art.Lands N,sL a' p0.Drilled P,sL g p0.Pieces i,sL v E A,sL Q p0.Groups S,sL T p0.OfPiece U,sL V p0.OfBore Z,sL j p0.OfLand o,sL p p0.AtLand q] 72),(1,ow v A 69 fE E),(20,bx a3 #[iv b.At.X,iv b.At.Y,iv b.Size,iv b.From,iv b.To,bV b.Plated] 119),(21,ow C D 3 az a0),(27,bx b8 #[iv B.Layer,sL a1 B.Set a2,sL F B.Rects G] 76)]) _
    refine ax O ?_
    obtain⟨d9,b6,H⟩:=bnd H
    refine bP 5 [(0,pV a4),(3,pV a3),(4,sL C a0 D),(5,iv (a6:Int)),(11,sL c p0.Art.Bores f),(12,iv (p0.Art.Bores.length:Int)),(13,iv (b2:Int)),(20,sL g p0.Pieces i),(21,iv (p0.Pieces.length:Int)),(22,iv (a6:Int)),(40,bV d9)] [(0,bx a4 #[sL I p0.Art.Coppers J,sL K p0.Art.Outline L,sL c p0.Art.Bores f,sL M p0.Art.Lands N,sL a' p0.Drilled P,sL g p0.Pieces i,sL v E A,sL Q p0.Groups S,sL T p0.OfPiece U,sL V p0.OfBore Z,sL j p0.OfLand o,sL p p0.AtLand q] 72),(1,ow v A 69 fE E),(20,bx a3 #[iv b.At.X,iv b.At.Y,iv b.Size,iv b.From,iv b.To,bV b.Plated] 119),(21,ow C D 3 az a0),(27,bx b8 #[iv B.Layer,sL a1 B.Set a2,sL F B.Rects G] 76)] ?_ ?_
    ·cases b7:d1
     ·rw[b7] at b6
      rw[if_neg (by decide)] at b6
      have H:=b6
      obtain rfl:=oI H
      exact Tr.ps O (Tr.ps O (Tr.ps O (Tr.ps O (ay aZ O O (ae (aS (.r O) (.r O)))))))
     ·rw[b7] at b6
      rw[if_pos O] at b6
      have H:=b6
      refine bH (ag xW) O (Tr.x (fun _ _ a d=>ah tQ (a.ev O) (bR d (vs:=[iv B.Layer,sL a1 B.Set a2,sL F B.Rects G]) (k:=27) O 2) O) (yg (vs:=[pV a3]) (wg O O O) O (aj O aG) ?_))
      obtain⟨e0,e7,H⟩:=bnd H
      refine bu (r:=(bV e0)) (wg O O O) O Tryz.call85 (aj O (aj O aG)) (fun W hW=>nM B.Rects F G (b4.ext hW.bU) (fun z0=>ja z0 b) 86 [pV a3] Tryz.call86 (fun w' he z0 y hy=>ug z0 b a3 (he.r _ (hW.Kb (k:=20) O)) (he.cells (hW.Kb (k:=20) O) (hW.Ot (k:=20) O)) y hy (HF.start _)) e0 e7 (HF.start _)) (ay aW O O ?_)
      obtain rfl:=oI H
      exact ae (aS (.r O) (.r O))
    ·show Tr _ _ (LF [(0,pV a4),(3,pV a3),(4,sL C a0 D),(5,iv (a6:Int)),(11,sL c p0.Art.Bores f),(12,iv (p0.Art.Bores.length:Int)),(13,iv (b2:Int)),(20,sL g p0.Pieces i),(21,iv (p0.Pieces.length:Int)),(22,iv (a6:Int)),(40,bV d9)]) (LE [(0,bx a4 #[sL I p0.Art.Coppers J,sL K p0.Art.Outline L,sL c p0.Art.Bores f,sL M p0.Art.Lands N,sL a' p0.Drilled P,sL g p0.Pieces i,sL v E A,sL Q p0.Groups S,sL T p0.OfPiece U,sL V p0.OfBore Z,sL j p0.OfLand o,sL p p0.AtLand q] 72),(1,ow v A 69 fE E),(20,bx a3 #[iv b.At.X,iv b.At.Y,iv b.Size,iv b.From,iv b.To,bV b.Plated] 119),(21,ow C D 3 az a0),(27,bx b8 #[iv B.Layer,sL a1 B.Set a2,sL F B.Rects G] 76)]) _
     refine ae (aa (aT O H (fun H=>?_) (fun H=>?_)))
     ·refine Tr.region (ax O (ax O (eD 28 (e:=3) (vs:=[(0,iv (a6:Int))]) (cs:=[iv (a6:Int)]) (wn O) O (bz O dE) (by kernel_rfl) fun g7=>?_)))
      obtain⟨f4,e8,H⟩:=bnd H
      exact Tr.append 21 (t:=az) (l:=a0) (l2:=[(a6:Int)]) (wn O) O O O O (fun W hW=>⟨[[iv (a6:Int)]],(.cons ⟨(),trivial,O⟩ .nil),bR hW (vs:=[iv (a6:Int)]) (k:=28) O 0⟩) jN pI Dl (by decide) xx O e8 fun e9 f1 e3=>(Tr.k O (ae (aK (aa (Tr.region (ay bB O O (ax O (ae (aI c3 (a7,(a6+1),f4,e9,f1) ⟨O,bT a8,aX a8,H,e3⟩ (.cons O (.cons O (.cons O (.cons O (.cons O (.cons O (.cons O (.cons O (.cons (congrArg (fun z=>some (Value.int .i64 z)) (bS a8 b0.form)) .nil))))))))) (.r O))))))))))
     ·exact aJ (aK (aa (Tr.region (ay bB O O (ax O (ae (aI c3 (a7,(a6+1),a0,C,D) ⟨O,bT a8,aX a8,H,c5⟩ (.cons O (.cons O (.cons O (.cons O (.cons O (.cons O (.cons O (.cons O (.cons (congrArg (fun z=>some (Value.int .i64 z)) (bS a8 b0.form)) .nil))))))))) (.r O))))))))

theorem wT{w:Bs}(p0:Int)(r:og)(H:ma p0=some r)(hE:HF w w.W (iZ [emp,emp])):Calls Tryz.prog 88 [iv p0].toArray w.W fun e W'=>∃u:(Option Addr×Nat)×(Option Addr×Nat),e= .returned (.pointer (some ⟨u.2.2,0,none⟩))∧(cO u.1.1 r.up.length u.1.2∧True)∧HF w W' (iZ [ow u.1.1 u.1.2 3 az r.up,bx u.2.2 #[sL u.1.1 r.up u.1.2] 207]):=by
 unfold ma at H
 have leB:=Bs.Le.refl w
 refine aV (n:=26) Tryz.func88 O O O hE (ai (Tr.k O (ae (aa (ai (ax O ?_))))))
 obtain⟨b,L,H⟩:=bnd H
 refine zS 1 az 0 (wn O) O O O jN pI O Et xx O ⟨(),fun _ _=>ql _ _ _ _,O⟩ L fun y C=>(ko (vs:=[(0,sL (some ⟨y,0,none⟩) b b.length)]) (cs:=[sL (some ⟨y,0,none⟩) b b.length]) (wn O) O (bz O dE) (by kernel_rfl) (fw 2 (cs:=[sL (some ⟨y,0,none⟩) b b.length]) (wn O) O O O fun g=>(Tr.k O (ae (aa (av (ai (ax O (aH bn O (aH (ag qG) O (aC O (fun _ _ a d=>ah gU (a.ev O) (bR d (vs:=[sL (some ⟨y,0,none⟩) b b.length]) (k:=2) O 0) O) (aH (bf jN) O (ax O (ae (aa (Tr.block (bO (σ:=(List Int)×Nat×(List Int)×(Option Addr)×Nat) (fun m w s=>m=s.1.length+1∧s.1=List.drop s.2.1 b∧s.2.1≤b.length∧gY s.1 s.2.1 s.2.2.1=some r∧cO s.2.2.2.1 s.2.2.1.length s.2.2.2.2) (fun s=>[(3,pV g),(13,iv (b.length:Int)),(14,iv (s.2.1:Int))]) (fun s=>[(1,ow s.2.2.2.1 s.2.2.2.2 3 az s.2.2.1),(2,bx g #[sL s.2.2.2.1 s.2.2.1 s.2.2.2.2] 207)]) (b.length+1) (b,0,b,(some ⟨y,0,none⟩),b.length) ⟨O,O,Nat.zero_le _,H,C⟩ (.r O) (.r O) (fun _ _ h=>absurd h.1 (by simp)) ?_)))))))))))))))))
 intro w F m s hs
 obtain⟨j,o,v,c,f⟩:=s
 obtain⟨D,p,N,H,q⟩:=hs
 replace p:j=List.drop o b:=p
 replace H:gY j o v=some r:=H
 replace D:m+1=j.length+1:=D
 replace leB:=leB.trans F
 replace q:cO c v.length f:=q
 obtain rfl:m=j.length:=by omega
 clear D
 dsimp only
 cases j with
 |nil=>
  rw[gY.eq_1] at H
  refine ai (ay aR O O (ae (aa (av (bX O (bN p) (bK (aA (aA (aP (aa (ai (ax O (Tr.k O (ae (aa (aO ?_))))))))))))))))
  obtain rfl:=oI H
  exact bL (m:=[pV g]) [] (aU O bD) (fun W hW=>⟨((c,f),(none,g)),O,⟨q,trivial⟩,HF.ry leB (hW.pick (ks:=[1,2]) (by decide) (aN O (aN O bg))) ⟨kM _ _ _ _ ql,EU _ _ _,trivial⟩⟩)
 |cons P j=>
  rw[gY.eq_2] at H
  refine ai (ay aR O O (ae (aa (av (bY O (cu p) (aJ (aa (av (Tr.block (ai (ax O (Tr.k O (ae (aa (Tr.region (ax O (aH bn O (aH (ag qG) O (aC O (fun _ _ a d=>ah gU (a.ev O) (bR d (vs:=[sL c v f]) (k:=2) O 0) O) (ax O (ax O ?_)))))))))))))))))))))
  obtain⟨a0,M,H⟩:=bnd H
  obtain⟨G,I,J⟩:=bi M
  refine aC O (fun _ _ a d=>ak iX (a.ev O) q (a.ev O) G I) ?_
  obtain⟨A,E,H⟩:=bnd H
  have B:=lv E
  refine kg 1 (t:=az) (l:=v) (i:=(o:Int)) (fo:=0) (cs:=[iv (o:Int)]) (o:Int) (wn O) O O O O O J pI O (fun u _=>⟨u,trivial,O⟩) O E ?_
  have K:cO c A.length f:=by rw[B];exact q
  exact Tr.vC (lf:=[(3,pV g),(4,iv (o:Int)),(13,iv (b.length:Int)),(14,iv (o:Int)),(15,bV (decide ((o:Int)<(b.length:Int)))),(16,iv (o:Int)),(17,pV g),(18,pV g),(19,pV g),(20,sL c A f),(21,iv (o:Int)),(22,iv (o:Int))]) (le:=[(1,ow c f 3 az A),(2,bx g #[sL c A f] 207)]) (.cons O (.cons O (.cons O (.cons O (.cons O (.cons O (.cons O (.cons O (.cons O (.cons (jc O (by unfold sL;rw[B])) (.r O))))))))))) (.cons O (.cons (J4 O (by unfold sL;rw[B])) .nil)) (ae (aK (aa (Tr.region (ay bB O O (ax O (ae (aI F (j,(o+1),A,c,f) ⟨O,bT p,aX p,H,K⟩ (.cons O (.cons O (.cons (congrArg (fun z=>some (Value.int .i64 z)) (bS p C)) .nil))) (.r O)))))))))

theorem nI(N:Nat){w:Bs}(p0:og)(b:Option Addr)(c:Nat)(f:Nat)(p1:Int)(r:(Int×(List Int)))(H:jR N p0 p1=some r)(hE:HF w w.W (iZ [bx f #[sL b p0.up c] 207,ow b c 3 az p0.up])):Calls Tryz.prog 124 [pV f,iv p1].toArray w.W fun e W'=>∃u:(Option Addr×Nat),e= .returned (iv r.1)∧(cO u.1 r.2.length u.2)∧HF w W' (iZ [bx f #[sL u.1 r.2 u.2] 207,ow u.1 u.2 3 az r.2]):=by
 unfold jR at H
 have A:=(hE.sl (k:=1) O).form
 have leB:=Bs.Le.refl w
 refine aV (n:=41) Tryz.func124 O O O hE (ai (Tr.k O (ae (aa (av (Tr.block (bO (σ:=(List Int)×Int) (fun m w s=>fU m s.1 s.2=some r∧s.1.length=p0.up.length) (fun s=>[(0,pV f),(1,iv s.2)]) (fun s=>[(0,bx f #[sL b s.1 c] 207),(1,ow b c 3 az s.1)]) N (p0.up,p1) ⟨H,O⟩ (.r O) (.r O) (fun _ _ h=>mW (h.1)) ?_)))))))
 intro w B a6 s hs
 obtain⟨j,o⟩:=s
 obtain⟨H,v⟩:=hs
 replace H:fU (a6+1) j o=some r:=H
 replace leB:=leB.trans B
 replace v:j.length=p0.up.length:=v
 have p:cO b j.length c:=(by rw[v];exact A)
 rw[fU.eq_2] at H
 dsimp only
 refine av (ai (ax O (aH bn O (aH (ag qG) O (aC O (fun _ _ a d=>ah gU (a.ev O) (bR d (vs:=[sL b j c]) (k:=0) O 0) O) (ax O ?_))))))
 obtain⟨C,Z,H⟩:=bnd H
 obtain⟨D,E,F⟩:=bi Z
 refine aC O (fun _ _ a d=>ak iX (a.ev O) p (a.ev O) D E) (aC O (fun _ _ a d=>ah bG (a.ev O) (zY iH (k:=1) d O F) O) (ax O (ay fM O O (ae (aa (aT O H (fun H=>?_) (fun H=>?_)))))))
 ·refine aJ (aa (Tr.block (av (qz 18 (by kernel_rfl) (by kernel_rfl) (eY O (dA bn O (dA (ag qG) O (bv O (fun _ _ a d=>ah gU (a.ev O) (bR d (vs:=[sL b j c]) (k:=0) O 0) O) (eY O (eY O (dA bn O (dA (ag qG) O (bv O (fun _ _ a d=>ah gU (a.ev O) (bR d (vs:=[sL b j c]) (k:=0) O 0) O) (eY O (dA bn O (dA (ag qG) O (bv O (fun _ _ a d=>ah gU (a.ev O) (bR d (vs:=[sL b j c]) (k:=0) O 0) O) (eY O ?_))))))))))))))))))
  obtain⟨a4,a0,H⟩:=bnd H
  obtain⟨G,I,J⟩:=bi a0
  refine bv O (fun _ _ a d=>ak iX (a.ev O) p (a.ev O) G I) (bv O (fun _ _ a d=>ah bG (a.ev O) (zY iH (k:=1) d O J) O) ?_)
  obtain⟨y,a1,H⟩:=bnd H
  obtain⟨K,L,M⟩:=bi a1
  refine bv O (fun _ _ a d=>ak iX (a.ev O) p (a.ev O) K L) (bv O (fun _ _ a d=>ah bG (a.ev O) (zY iH (k:=1) d O M) O) (jD ?_))
  obtain⟨a7,a2,H⟩:=bnd H
  obtain⟨a8,P,Q⟩:=bi a2
  refine aC O (fun _ _ a d=>ak iX (a.ev O) p (a.ev O) a8 P) ?_
  obtain⟨q,z,H⟩:=bnd H
  have g:=lv z
  refine kg 1 (t:=az) (l:=j) (i:=o) (fo:=0) (cs:=[iv y]) y (wn O) O O O O O Q pI O (fun u _=>⟨u,trivial,O⟩) O z ?_
  have S:cO b q.length c:=by rw[g];exact p
  have T:=g.trans v
  refine Tr.vC (lf:=[(0,pV f),(1,iv o),(5,pV f),(6,pV f),(7,pV f),(8,sL b q c),(9,iv o),(11,iv C),(12,iv o),(13,bV (C !=o)),(14,pV f),(15,pV f),(16,pV f),(17,sL b q c),(18,iv o),(19,pV f),(20,pV f),(21,pV f),(22,sL b q c),(23,pV f),(24,pV f),(25,pV f),(26,sL b q c),(27,iv o),(29,iv a4),(31,iv y)]) (le:=[(0,bx f #[sL b q c] 207),(1,ow b c 3 az q)]) (.cons O (.cons O (.cons O (.cons O (.cons O (.cons (jc O (by unfold sL;rw[g])) (.cons O (.cons O (.cons O (.cons O (.cons O (.cons O (.cons O (.cons (jc O (by unfold sL;rw[g])) (.cons O (.cons O (.cons O (.cons O (.cons (jc O (by unfold sL;rw[g])) (.cons O (.cons O (.cons O (.cons (jc O (by unfold sL;rw[g])) (.r O)))))))))))))))))))))))) (.cons (J4 O (by unfold sL;rw[g])) (.r O)) (ae (aa (Tr.region (ax O (aH bn O (aH (ag qG) O (aC O (fun _ _ a d=>ah gU (a.ev O) (bR d (vs:=[sL b q c]) (k:=0) O 0) O) (ax O ?_))))))))
  obtain⟨a5,a3,H⟩:=bnd H
  obtain⟨U,V,X⟩:=bi a3
  exact aC O (fun _ _ a d=>ak iX (a.ev O) S (a.ev O) U V) (aC O (fun _ _ a d=>ah bG (a.ev O) (zY iH (k:=1) d O X) O) (Tr.k O (ae (aK (aI B (q,a5) ⟨H,T⟩ (.r O) (.r O))))))
 ·refine bK (aA (aA (aP (aa (ai (ax O (Tr.k O (ae (aa (aO ?_))))))))))
  obtain rfl:=oI H
  exact bL (m:=[iv o]) [] (aU O bD) (fun W hW=>⟨(b,c),O,p,HF.ry leB (hW.pick (ks:=[0,1]) (by decide) (aN O (aN O bg))) ⟨EU _ _ _,kM _ _ _ _ ql,trivial⟩⟩)

theorem uI(N:Nat){w:Bs}(p0:og)(p:Option Addr)(q:Nat)(h:Nat)(p1:Int)(p2:Int)(r:(List Int))(H:kH N p0 p1 p2=some r)(hE:HF w w.W (iZ [bx h #[sL p p0.up q] 207,ow p q 3 az p0.up])):Calls Tryz.prog 89 [pV h,iv p1,iv p2].toArray w.W fun e W'=>∃u:(Option Addr×Nat),e= .returned (.tuple #[])∧(cO u.1 r.length u.2)∧HF w W' (iZ [bx h #[sL u.1 r u.2] 207,ow u.1 u.2 3 az r]):=by
 unfold kH at H
 have L:=(hE.sl (k:=1) O).form
 have leB:=Bs.Le.refl w
 refine aV (n:=25) Tryz.func89 O O O hE (ai (ax O (ax O ?_)))
 obtain⟨b,G,H⟩:=bnd H
 refine gG [0,1] [bx h #[sL p p0.up q] 207,ow p q 3 az p0.up] (U:=(Option Addr×Nat)) (fun u=>(iv b.1)) (fun u=>cO u.1 b.2.length u.2) (fun u=>[bx h #[sL u.1 b.2 u.2] 207,ow u.1 u.2 3 az b.2]) O (aN O (aN O bg)) (fun _=>O) (wn O) O Tryz.call124 (aj O (aj O aG)) (fun W hW hp hE=>nI N p0 p q h p1 b G hE) ?_
 intro u hu
 obtain⟨j,o⟩:=u
 have A:=hu
 have K:cO j b.2.length o:=A --@phi
 dsimp only
 refine ax O (ax O ?_)
 obtain⟨c,I,H⟩:=bnd H
 refine gG [0,1] [bx h #[sL j b.2 o] 207,ow j o 3 az b.2] (U:=(Option Addr×Nat)) (fun u=>(iv c.1)) (fun u=>cO u.1 c.2.length u.2) (fun u=>[bx h #[sL u.1 c.2 u.2] 207,ow u.1 u.2 3 az c.2]) O (aN O (aN O bg)) (fun _=>O) (wn O) O Tryz.call124 (aj O (aj O aG)) (fun W hW hp hE=>nI N (og.mk b.2) j o h p2 c I hE) ?_
 intro u hu
 obtain⟨f,g⟩:=u
 have B:=hu
 have s:cO f c.2.length g:=B --@phi
 dsimp only
 refine Tr.k O (Tr.k O (ae (aa (Tr.region (ax O (aH bn O (aH (ag qG) O (aC O (fun _ _ a d=>ah gU (a.ev O) (bR d (vs:=[sL f c.2 g]) (k:=0) O 0) O) (ax O (ax O (aC O (fun _ _ a d=>rA (a.ev O) (a.ev O) _) (ax O (ax O (aC O (fun _ _ a d=>vH (a.ev O) (a.ev O) _) ?_))))))))))))))
 obtain⟨M,J,H⟩:=bnd H
 obtain⟨C,D,E⟩:=bi J
 refine aC O (fun _ _ a d=>ak iX (a.ev O) s (a.ev O) C D) ?_
 obtain⟨y,z,H⟩:=bnd H
 have v:=lv z
 refine kg 1 (t:=az) (l:=c.2) (i:=(max b.1 c.1)) (fo:=0) (cs:=[iv (min b.1 c.1)]) (min b.1 c.1) (wn O) O O O O O E pI O (fun u _=>⟨u,trivial,O⟩) O z ?_
 have F:cO f y.length g:=by rw[v];exact s
 refine Tr.vC (lf:=[(0,pV h),(1,iv p1),(2,iv p2),(6,iv b.1),(7,iv c.1),(8,pV h),(9,iv p1),(10,iv b.1),(11,pV h),(12,iv p2),(13,iv c.1),(14,pV h),(15,pV h),(16,pV h),(17,sL f y g),(18,iv b.1),(19,iv c.1),(20,iv (max b.1 c.1)),(21,iv b.1),(22,iv c.1),(23,iv (min b.1 c.1))]) (le:=[(0,bx h #[sL f y g] 207),(1,ow f g 3 az y)]) (.cons O (.cons O (.cons O (.cons O (.cons O (.cons O (.cons O (.cons O (.cons O (.cons O (.cons O (.cons O (.cons O (.cons O (.cons (jc O (by unfold sL;rw[v])) (.r O)))))))))))))))) (.cons (J4 O (by unfold sL;rw[v])) (.r O)) (ae (yf ?_))
 obtain rfl:=oI H
 exact bL (m:=[]) [] bD (fun W hW=>⟨(f,g),O,F,HF.ry leB (hW.pick (ks:=[0,1]) (by decide) (aN O (aN O bg))) ⟨EU _ _ _,kM _ _ _ _ ql,trivial⟩⟩)

theorem uH(N:Nat){w:Bs}(p0:og)(V:Option Addr)(X:Nat)(v:Nat)(r:((List (List Int))×(List Int)))(H:mq N p0=some r)(hE:HF w w.W (iZ [bx v #[sL V p0.up X] 207,ow V X 3 az p0.up])):Calls Tryz.prog 90 [pV v].toArray w.W fun e W'=>∃(w':Bs) (u:(Option Addr×Nat)×(Option Addr×Nat)),w.Le w'∧e= .returned (sL u.1.1 r.1 u.1.2)∧(Sl w'.O w'.W fE u.1.1 u.1.2 r.1∧cO u.2.1 r.2.length u.2.2)∧HF w' W' (iZ [bx v #[sL u.2.1 r.2 u.2.2] 207,ow u.2.1 u.2.2 3 az r.2]):=by
 unfold mq at H
 have a4:=(hE.sl (k:=1) O).form
 have leB:=Bs.Le.refl w
 refine aV (n:=45) Tryz.func90 O O O hE (ai (Tr.k O (bC 2 69 fE ?_)))
 show Tr _ _ (uf _ 2 (sL none (([]:List (List Int))) 0)) _ _
 refine ae (aa (ai (Tr.k O (Dc 3 69 3 az ?_))))
 show Tr _ _ (uf _ 3 (sL none (([]:List (List Int))) 0)) (up _ 3 (no none ([]:List (List Int)).length 0 69 3 az [])) _
 refine ae (aa (ai (Bj 4 (wn O) O fun q=>(Tr.k O (ae (aa (av (ai (ax O (aH bn O (aH (ag qG) O (aC O (fun _ _ a d=>ah gU (a.ev O) (bR d (vs:=[sL V p0.up X]) (k:=0) O 0) O) (aH (bf jN) O (ax O (ae (aa (Tr.block (bO (σ:=(List Int)×Nat×(List (List Int))×(List (Int×Int))×(List Int)×(Option Addr)×Nat×(List (NE Int))×(Option Addr)×Nat) (fun m w s=>m=s.1.length+1∧s.1=List.drop s.2.1 p0.up∧s.2.1≤p0.up.length∧dJ N s.1 s.2.1 s.2.2.1 s.2.2.2.1 s.2.2.2.2.1=some r∧(NC s.2.2.2.2.2.2.2.1 s.2.2.1∧cO s.2.2.2.2.2.1 s.2.2.1.length s.2.2.2.2.2.2.1)∧cO s.2.2.2.2.2.2.2.2.1 s.2.2.2.2.1.length s.2.2.2.2.2.2.2.2.2) (fun s=>[(0,pV v),(3,sL s.2.2.2.2.2.1 s.2.2.1 s.2.2.2.2.2.2.1),(4,(.map (some q))),(12,iv (p0.up.length:Int)),(13,iv (s.2.1:Int))]) (fun s=>[(0,bx v #[sL s.2.2.2.2.2.2.2.2.1 s.2.2.2.2.1 s.2.2.2.2.2.2.2.2.2] 207),(1,ow s.2.2.2.2.2.2.2.2.1 s.2.2.2.2.2.2.2.2.2 3 az s.2.2.2.2.1),(3,no s.2.2.2.2.2.1 s.2.2.1.length s.2.2.2.2.2.2.1 69 3 az s.2.2.2.2.2.2.2.1),(4,mi q s.2.2.2.1)]) (p0.up.length+1) (p0.up,0,([]:List (List Int)),([]:List (Int×Int)),p0.up,none,0,([]:List (NE Int)),V,X) ⟨O,O,Nat.zero_le _,H,⟨NC.nil,gZ⟩,a4⟩ (.r O) (.r O) (fun _ _ h=>absurd h.1 (by simp)) ?_))))))))))))))))))
 intro w a5 m s hs
 obtain⟨t,o,J,b2,K,E,F,a1,C,D⟩:=s
 obtain⟨b3,L,f1,H,G,a6⟩:=hs
 replace L:t=List.drop o p0.up:=L
 replace H:dJ N t o J b2 K=some r:=H
 replace b3:m+1=t.length+1:=b3
 replace leB:=leB.trans a5
 replace G:NC a1 J∧cO E J.length F:=G
 replace a6:cO C K.length D:=a6
 obtain rfl:m=t.length:=by omega
 clear b3
 dsimp only
 cases t with
 |nil=>
  rw[dJ.eq_1] at H
  refine ai (ay aR O O (ae (aa (av (bX O (bN L) (bK (aA (aA (aP (aa (av (yH 3 fE O G.1 O (fun A c l=>⟨(A,c),O,fun _ _ h=>h⟩) fun w c9 d0=>?_))))))))))))
  replace leB:=leB.trans c9
  refine Tr.region (ax O (Tr.k O (ae (aa (aO ?_)))))
  obtain rfl:=oI H
  exact bL (m:=[sL E J F]) [] (aU O bD) (fun W hW=>⟨w,((E,F),(C,D)),leB,O,⟨d0,a6⟩,hW.pick (ks:=[0,1]) (by decide) (aN O (aN O bg))⟩)
 | cons f5 t=>
  rw[dJ.eq_2] at H
  refine ai (ay aR O O (ae (aa (av (bY O (cu L) (aJ (aa (av (Tr.block (ai (ax O (Tr.k O (ae (aa (ai (ax O (ax O ?_)))))))))))))))))
  obtain⟨f,d1,H⟩:=bnd H
  refine gG [0,1] [bx v #[sL C K D] 207,ow C D 3 az K] (U:=(Option Addr×Nat)) (fun u=>(iv f.1)) (fun u=>cO u.1 f.2.length u.2) (fun u=>[bx v #[sL u.1 f.2 u.2] 207,ow u.1 u.2 3 az f.2]) O (aN O (aN O bg)) (fun _=>O) (wn O) O Tryz.call124 (aj O (aj O aG)) (fun W hW hp hE=>nI N (og.mk K) C D v (o:Int) f d1 hE) ?_
  intro u hu
  obtain⟨g,j⟩:=u
  have c0:=hu
  have b4:cO g f.2.length j:=c0 --@phi
  dsimp only
  refine Tr.k O (ae (aa ?_))
  have a7:=Bs.Le.refl w
  refine sM (σ:=(List (List Int))×(List (Int×Int))×(Option Addr)×Nat×(List (NE Int))) (fun w s=>gT (dJ N t (o+1)) o f s.1 s.2.1=some r∧(NC s.2.2.2.2 s.1∧cO s.2.2.1 s.1.length s.2.2.2.1)) (fun s=>[(0,pV v),(3,sL s.2.2.1 s.1 s.2.2.2.1),(4,(.map (some q))),(5,iv (o:Int)),(6,iv f.1),(12,iv (p0.up.length:Int)),(13,iv (o:Int))]) (fun s=>[(0,bx v #[sL g f.2 j] 207),(1,ow g j 3 az f.2),(3,no s.2.2.1 s.1.length s.2.2.2.1 69 3 az s.2.2.2.2),(4,mi q s.2.1)]) ?_ ?_
  ·refine ai (ax O (ax O (ay iA O O (ae (aa (aT O H (fun H=>?_) (fun H=>?_)))))))
   ·refine ai (ax O (ax O (ax O (aH (bf Fe) O ?_))))
    obtain⟨d8,d2,H⟩:=bnd H
    refine De 4 (wn O) BM GZ O O O O d2 (ae (aa (Tr.region (ax O (eD 24 (e:=69) (vs:=[(0,.slice none 0 0)]) (cs:=[.slice none 0 0]) (wn O) O (bz O dE) (by kernel_rfl) fun f2=>?_)))))
    obtain⟨d9,d3,H⟩:=bnd H
    exact Bi 3 25 24 O O O O (wn O) O O O G.1 O O Fe uN OT Pf O d3 fun d4 d5 d6 c3 c5=>(Tr.k O (ae (aI a7 (d9,d8,d4,d5,d6) ⟨H,⟨c3,c5⟩⟩ (.r O) (.r O))))
   ·exact aJ (aI a7 (J,b2,E,F,a1) ⟨H,⟨G.1,G.2⟩⟩ (.r O) (.r O))
  ·intro w s c6 hs
   obtain⟨a2,P,y,B,a8⟩:=s
   obtain⟨H,I⟩:=hs
   replace H:gT (dJ N t (o+1)) o f a2 P=some r:=H
   replace a5:=a5.trans c6
   replace I:NC a8 a2∧cO y a2.length B:=I
   unfold gT at H
   dsimp only
   obtain⟨Q,b5,H⟩:=bnd H
   obtain⟨a3,b6,H⟩:=bnd H
   obtain⟨a9,b0,e4⟩:=bi b6
   refine Bh 3 21 (i:=Q) O O I.1 b6 fun e6 Z a0 b1 e5=>(qa 13 [(12,(ow Z a0 3 az a3).S)] [] (by kernel_rfl) (by kernel_rfl) fun b7 e0 e3=>(bE 0 (by kernel_rfl) O (wn O) O (by kernel_rfl) (fun _ _ a=>run_move (a.ev O)) O (bE 1 (by kernel_rfl) O (wn O) O (by kernel_rfl) (fun _ _ a=>run_move (a.ev O)) O (bE 2 (by kernel_rfl) O (wn O) O (by kernel_rfl) (fun _ _ a=>run_move (a.ev O)) O (iF 3 [(32,iv Q)] [12] false (by kernel_rfl) O O (by kernel_rfl) (fun W W' d hsW hk=>HF.pW (le:=[(4,mi q P)]) (ks:=[(21,(ow Z a0 3 az a3).S)]) (s0:=b7) false d hk (fun h=>absurd h (by decide)) (.r O) (fun b hb=>hb.elim (fun⟨p,hp,hf,hb⟩=>by simp only[List.mem_cons,List.not_mem_nil,or_false] at hp;rcases hp with rfl;exact .inl ⟨_,List.mem_cons_self,hb⟩) (fun hb=>absurd hb.1 (by decide))) (List.forall_mem_cons.2 ⟨fun b hb=>hb,(fun _ h=>nomatch h)⟩) rfl) ?_ rfl rfl ?_)))))
   ·exact bv O (fun _ _ a d=>zm BM GZ Pz (a.ev O) (a.ev O) d (κ:=4) O b5) (bW (.r O))
   refine bE 4 (by kernel_rfl) O (wn O) O (by kernel_rfl) (fun _ _ a=>run_move (a.ev O)) O (bE 5 (by kernel_rfl) O (wn O) O (by kernel_rfl) (fun _ _ a=>run_move (a.ev O)) O (bE 6 (by kernel_rfl) O (wn O) O (by kernel_rfl) (fun _ _ a=>run_move (a.ev O)) O (iF 7 [(36,iv Q)] [12] false (by kernel_rfl) O O (by kernel_rfl) (fun W W' d hsW hk=>HF.pW (le:=[(4,mi q P)]) (ks:=[(21,(ow Z a0 3 az a3).S)]) (s0:=b7) false d hk (fun h=>absurd h (by decide)) (.r O) (fun b hb=>hb.elim (fun⟨p,hp,hf,hb⟩=>by simp only[List.mem_cons,List.not_mem_nil,or_false] at hp;rcases hp with rfl;exact .inl ⟨_,List.mem_cons_self,hb⟩) (fun hb=>absurd hb.1 (by decide))) (List.forall_mem_cons.2 ⟨fun b hb=>hb,(fun _ h=>nomatch h)⟩) rfl) ?_ rfl rfl ?_)))
   ·exact bv O (fun _ _ a d=>zm BM GZ Pz (a.ev O) (a.ev O) d (κ:=4) O b5) (bW (.r O))
   refine bE 8 (by kernel_rfl) O (wn O) O (by kernel_rfl) (fun _ _ a=>ak Jn (a.ev O) I.2 (a.ev O) a9 b0) O (gM 9 [(38,sL Z a3 a0)] (by kernel_rfl) O O (by kernel_rfl) ?_ O O ?_)
   ·exact bv O (fun _ _ a d=>zn gU (a.ev O) O d (κ:=3) O b1) (bW (.r O))
   refine bE 10 (by kernel_rfl) O (wn O) O (by kernel_rfl) (fun _ _ a=>run_move (a.ev O)) O (Dr.one 11 (by kernel_rfl) (jX 11 22 (e:=3) (vs:=[(0,iv (o:Int))]) (cs:=[iv (o:Int)]) O (wn O) O (bz O dE) (by kernel_rfl) fun f3 e7=>?_))
   obtain⟨f4,d7,H⟩:=bnd H
   refine Dr.one 12 (by kernel_rfl) (St.append 12 21 (t':=az) (ll:=a3) (l2:=[(o:Int)]) (fun b hb=>.inl ⟨_,List.mem_cons_self,O,hb⟩) O (wn O) O O O O (fun W hW=>⟨[[iv (o:Int)]],(.cons ⟨(),trivial,O⟩ .nil),bR hW (vs:=[iv (o:Int)]) (k:=22) O 0⟩) jN pI Dl (by decide) xx O d7 fun e8 e9 c7=>(rH (by kernel_rfl) (aC O (fun _ _ a d=>ak Jn (a.ev O) I.2 (a.ev O) a9 b0) ?_)))
   obtain⟨T,b8,H⟩:=bnd H
   have M:=lv b8
   refine Db 3 21 23 (i:=Q) O O O O (wn O) O O O O O b1 c7 uN b8 fun b9 c4=>?_
   have c8:cO y T.length B:=by rw[M];exact I.2
   exact Tr.vC (lf:=[(0,pV v),(3,sL y T B),(4,(.map (some q))),(5,iv (o:Int)),(6,iv f.1),(12,iv (p0.up.length:Int)),(13,iv (o:Int)),(29,sL y T B),(30,(.map (some q))),(31,iv f.1),(32,iv Q),(33,sL y T B),(34,(.map (some q))),(35,iv f.1),(36,iv Q),(39,iv (o:Int))]) (le:=[(0,bx v #[sL g f.2 j] 207),(1,ow g j 3 az f.2),(3,no y T.length B 69 3 az b9),(4,mi q P)]) (.cons O (.cons (jc O (by unfold sL;rw[M])) (.cons O (.cons O (.cons O (.cons O (.cons O (.cons (jc O (by unfold sL;rw[M])) (.cons O (.cons O (.cons O (.cons (jc O (by unfold sL;rw[M])) (.r O))))))))))))) (.r O) (ae (aK (aa (Tr.region (ay bB O O (ax O (ae (aI a5 (t,(o+1),T,P,f.2,y,B,b9,g,j) ⟨O,bT L,aX L,H,⟨c4,c8⟩,b4⟩ (.cons O (.cons O (.cons O (.cons O (.cons (congrArg (fun z=>some (Value.int .i64 z)) (bS L a4)) .nil))))) (.r O)))))))))

theorem ww{w:Bs}(p0:au)(q0:fC)(CU:Nat)(hb0:w.R CU)(hc0:aF w.W CU 0 [iv q0.X,iv q0.Y])(r:Bool)(H:lG p0 q0=some r)(hE:HF w w.W E0):Calls Tryz.prog 110 [.agg #[iv p0.X0,iv p0.Y0,iv p0.X1,iv p0.Y1],pV CU].toArray w.W fun e W'=>e= .returned (bV r)∧HF w W' E0:=by
 unfold lG at H
 have leB:=Bs.Le.refl w
 refine aV (n:=30) Tryz.func110 O O O hE (ai (fw 1 (cs:=[iv p0.X0,iv p0.Y0,iv p0.X1,iv p0.Y1]) (wn O) O O O fun b=>(Tr.k O (ae (aa (ai (aH (ag uu) O (aC O (fun _ _ a d=>ah bG (a.ev O) (aF.drop (qY hb0 hc0 d) 0) O) (aH (ag jd) O (aC O (fun _ _ a d=>ah bG (a.ev O) (bR d (vs:=[iv p0.X0,iv p0.Y0,iv p0.X1,iv p0.Y1]) (k:=1) O 0) O) (ay oh O O (ax O (bP 6 [(1,pV CU),(2,pV b),(15,bV ((decide (p0.X0≤q0.X))&&(decide (q0.X<p0.X1))))] [(1,bx b #[iv p0.X0,iv p0.Y0,iv p0.X1,iv p0.Y1] 111)] ?_ ?_)))))))))))))
 ·cases c:(decide (p0.X0≤q0.X))
  ·exact Tr.ps O (Tr.ps O (Tr.ps O (Tr.ps O (Tr.ps O (ay aZ O O (ae (aS (.r O) (.r O))))))))
  ·exact bH (ag uu) O (Tr.x (fun _ _ a d=>ah bG (a.ev O) (aF.drop (qY hb0 hc0 d) 0) O) (bH (ag jZ) O (Tr.x (fun _ _ a d=>ah bG (a.ev O) (bR d (vs:=[iv p0.X0,iv p0.Y0,iv p0.X1,iv p0.Y1]) (k:=1) O 2) O) (Tr.e2 aR O O (ay aW O O (ae (aS (.r O) (.r O))))))))
 ·show Tr _ _ (LF [(1,pV CU),(2,pV b),(15,bV ((decide (p0.X0≤q0.X))&&(decide (q0.X<p0.X1))))]) (LE [(1,bx b #[iv p0.X0,iv p0.Y0,iv p0.X1,iv p0.Y1] 111)]) _
  refine ax O (bP 6 [(1,pV CU),(2,pV b),(22,bV (((decide (p0.X0≤q0.X))&&(decide (q0.X<p0.X1)))&&(decide (p0.Y0≤q0.Y))))] [(1,bx b #[iv p0.X0,iv p0.Y0,iv p0.X1,iv p0.Y1] 111)] ?_ ?_)
  ·cases c:((decide (p0.X0≤q0.X))&&(decide (q0.X<p0.X1)))
   ·exact Tr.ps O (Tr.ps O (Tr.ps O (Tr.ps O (Tr.ps O (ay aZ O O (ae (aS (.r O) (.r O))))))))
   ·exact bH (ag rD) O (Tr.x (fun _ _ a d=>ah bG (a.ev O) (aF.drop (qY hb0 hc0 d) 1) O) (bH (ag jK) O (Tr.x (fun _ _ a d=>ah bG (a.ev O) (bR d (vs:=[iv p0.X0,iv p0.Y0,iv p0.X1,iv p0.Y1]) (k:=1) O 1) O) (Tr.e2 oh O O (ay aW O O (ae (aS (.r O) (.r O))))))))
  ·show Tr _ _ (LF [(1,pV CU),(2,pV b),(22,bV (((decide (p0.X0≤q0.X))&&(decide (q0.X<p0.X1)))&&(decide (p0.Y0≤q0.Y))))]) (LE [(1,bx b #[iv p0.X0,iv p0.Y0,iv p0.X1,iv p0.Y1] 111)]) _
   refine ax O (bP 6 [(29,bV ((((decide (p0.X0≤q0.X))&&(decide (q0.X<p0.X1)))&&(decide (p0.Y0≤q0.Y)))&&(decide (q0.Y<p0.Y1))))] [(1,bx b #[iv p0.X0,iv p0.Y0,iv p0.X1,iv p0.Y1] 111)] ?_ ?_)
   ·cases c:(((decide (p0.X0≤q0.X))&&(decide (q0.X<p0.X1)))&&(decide (p0.Y0≤q0.Y)))
    ·exact Tr.ps O (Tr.ps O (Tr.ps O (Tr.ps O (Tr.ps O (ay aZ O O (ae (aS (.r O) (.r O))))))))
    ·exact bH (ag rD) O (Tr.x (fun _ _ a d=>ah bG (a.ev O) (aF.drop (qY hb0 hc0 d) 1) O) (bH (ag nA) O (Tr.x (fun _ _ a d=>ah bG (a.ev O) (bR d (vs:=[iv p0.X0,iv p0.Y0,iv p0.X1,iv p0.Y1]) (k:=1) O 3) O) (Tr.e2 aR O O (ay aW O O (ae (aS (.r O) (.r O))))))))
   ·show Tr _ _ (LF [(29,bV ((((decide (p0.X0≤q0.X))&&(decide (q0.X<p0.X1)))&&(decide (p0.Y0≤q0.Y)))&&(decide (q0.Y<p0.Y1))))]) (LE [(1,bx b #[iv p0.X0,iv p0.Y0,iv p0.X1,iv p0.Y1] 111)]) _
    refine Tr.k O (ae (aa (aO ?_)))
    obtain rfl:=oI H
    exact cB leB

theorem oN{w:Bs}(p0:(List au))(a:Option Addr)(b:Nat)(f:Sl w.R w.W aB a b p0)(p1:fC)(r:Bool)(H:kr p0 p1=some r)(hE:HF w w.W E0):Calls Tryz.prog 66 [sL a p0 b,.agg #[iv p1.X,iv p1.Y]].toArray w.W fun e W'=>e= .returned (bV r)∧HF w W' E0:=by
 unfold kr at H
 have leB:=Bs.Le.refl w
 refine aV (n:=8) Tryz.func66 O O O hE (ai (fw 1 (cs:=[iv p1.X,iv p1.Y]) (wn O) O O O fun c=>(Tr.k O (ae (aa (ai (ax O (yg (vs:=[pV c]) (wn O) O (aj O aG) ?_))))))))
 obtain⟨d,g,H⟩:=bnd H
 refine bu (r:=(bV d)) (wn O) O Tryz.call85 (aj O (aj O aG)) (fun W hW=>nM p0 a b (f.ext hW.bU) (fun z0=>lG z0 p1) 110 [pV c] Tryz.call110 (fun w' he z0 y hy=>ww z0 p1 c (he.r _ (hW.Kb (k:=1) O)) (he.cells (hW.Kb (k:=1) O) (hW.Ot (k:=1) O)) y hy (HF.start _)) d g (HF.start _)) (Tr.k O (ae (aa (aO ?_))))
 obtain rfl:=oI H
 exact cB leB

theorem uL{w:Bs}(p0:dD)(a3:Option Addr)(a4:Nat)(e5:Sl w.R w.W dF a3 a4 p0.Art.Coppers)(a5:Option Addr)(a6:Nat)(e6:Sl w.R w.W aB a5 a6 p0.Art.Outline)(B:Option Addr)(C:Nat)(I:Sl w.R w.W dY B C p0.Art.Bores)(a7:Option Addr)(a8:Nat)(e7:Sl w.R w.W eH a7 a8 p0.Art.Lands)(a9:Option Addr)(b0:Nat)(e8:Sl w.R w.W bM a9 b0 p0.Drilled)(J:Option Addr)(K:Nat)(E:Sl w.R w.W dG J K p0.Pieces)(b1:Option Addr)(b2:Nat)(e9:Sl w.R w.W fE b1 b2 p0.Touched)(b3:Option Addr)(b4:Nat)(f1:Sl w.R w.W dw b3 b4 p0.Groups)(b5:Option Addr)(b6:Nat)(f2:Sl w.R w.W az b5 b6 p0.OfPiece)(b7:Option Addr)(b8:Nat)(f3:Sl w.R w.W az b7 b8 p0.OfBore)(T:Option Addr)(U:Nat)(e3:Sl w.R w.W az T U p0.OfLand)(V:Option Addr)(Z:Nat)(e4:Sl w.R w.W dX V Z p0.AtLand)(N:Nat)(P:w.R N)(Q:aF w.W N 0 [sL a3 p0.Art.Coppers a4,sL a5 p0.Art.Outline a6,sL B p0.Art.Bores C,sL a7 p0.Art.Lands a8,sL a9 p0.Drilled b0,sL J p0.Pieces K,sL b1 p0.Touched b2,sL b3 p0.Groups b4,sL b5 p0.OfPiece b6,sL b7 p0.OfBore b8,sL T p0.OfLand U,sL V p0.AtLand Z])(p1:pG)(r:(oC×Bool))(H:mr p0 p1=some r)(hE:HF w w.W E0):Calls Tryz.prog 91 [pV N,.agg #[sv p1.Part,sv p1.Pin,iv p1.Layer,iv p1.At.X,iv p1.At.Y]].toArray w.W fun e W'=>e= .returned (.tuple #[.agg #[bV r.1.Bore,iv r.1.Number],bV r.2])∧HF w W' E0:=by
 unfold mr at H
 have leB:=Bs.Le.refl w
 refine aV (n:=66) Tryz.func91 O O O hE (ai (fw 1 (cs:=[sv p1.Part,sv p1.Pin,iv p1.Layer,iv p1.At.X,iv p1.At.Y]) (wn O) O O O fun g=>(Tr.alloc 2 (wn O) O KD fun j=>(Tr.k O (ae (aa (av (ai (ax O (aH bn O (aH (ag ut) O (aH (ag rE) O (aC O (fun _ _ a d=>ah yG (a.ev O) (aF.drop (aF.drop (qY P Q d) 0) 2) O) (aH (bf zf) O (ax O (ae (aa (Tr.block (bO (σ:=(List gP)×Nat) (fun m w s=>m=s.1.length+1∧s.1=List.drop s.2 p0.Art.Bores∧s.2≤p0.Art.Bores.length∧eT p0 p1 s.1 s.2=some r) (fun s=>[(0,pV N),(3,pV g),(4,pV j),(14,sL B p0.Art.Bores C),(15,iv (p0.Art.Bores.length:Int)),(16,iv (s.2:Int))]) (fun s=>[(1,bx g #[sv p1.Part,sv p1.Pin,iv p1.Layer,iv p1.At.X,iv p1.At.Y] 155),(2,bx j #[bV false,iv 0] 172)]) (p0.Art.Bores.length+1) (p0.Art.Bores,0) ⟨O,O,Nat.zero_le _,H⟩ (.r O) (.r O) (fun _ _ h=>absurd h.1 (by simp)) ?_)))))))))))))))))))
 intro w M m s hs
 obtain⟨v,q⟩:=s
 obtain⟨a0,y,f4,H⟩:=hs
 replace y:v=List.drop q p0.Art.Bores:=y
 replace H:eT p0 p1 v q=some r:=H
 replace a0:m+1=v.length+1:=a0
 replace Q:=M.ext.cells P Q
 replace P:=M.r _ P
 replace I:=I.kL M
 replace E:=E.kL M
 replace leB:=leB.trans M
 obtain rfl:m=v.length:=by omega
 clear a0
 dsimp only
 cases v with
 | nil=>
  rw[eT.eq_1] at H
  refine ai (ay aR O O (ae (aa (av (bX O (bN y) (bK (aA (aA (aP (aa (av (ai (ax O (aH bn O (aH (ag oW) O (aC O (fun _ _ a d=>ah wF (a.ev O) (aF.drop (qY P Q d) 5) O) (aH (bf ze) O (ax O (ae (aa (Tr.block (bO (σ:=(List eQ)×Nat) (fun m w s=>m=s.1.length+1∧s.1=List.drop s.2 p0.Pieces∧s.2≤p0.Pieces.length∧fJ p1 s.1 s.2=some r) (fun s=>[(3,pV g),(4,pV j),(43,sL J p0.Pieces K),(44,iv (p0.Pieces.length:Int)),(45,iv (s.2:Int))]) (fun s=>[(1,bx g #[sv p1.Part,sv p1.Pin,iv p1.Layer,iv p1.At.X,iv p1.At.Y] 155),(2,bx j #[bV false,iv 0] 172)]) (p0.Pieces.length+1) (p0.Pieces,0) ⟨O,O,Nat.zero_le _,H⟩ (.r O) (.r O) (fun _ _ h=>absurd h.1 (by simp)) ?_))))))))))))))))))))))
  intro w a1 m s hs
  obtain⟨A,D⟩:=s
  obtain⟨a2,F,f5,H⟩:=hs
  replace F:A=List.drop D p0.Pieces:=F
  replace H:fJ p1 A D=some r:=H
  replace a2:m+1=A.length+1:=a2
  replace E:=E.kL a1
  replace leB:=leB.trans a1
  obtain rfl:m=A.length:=by omega
  clear a2
  dsimp only
  cases A with
  |nil=>
   rw[fJ.eq_1] at H
   refine ai (ay aR O O (ae (aa (av (bX O (bN F) (bK (aA (aA (aP (aa (ai (ko (vs:=[]) (cs:=[bV false,iv 0]) (wn O) O dE (by kernel_rfl) (bF 2 (cs:=[bV false,iv 0]) [bV false,iv 0] (wn O) O O O O uD O O O (Tr.k O (ae (aa (aO ?_)))))))))))))))))
   obtain rfl:=oI H
   exact bL (m:=[.agg #[bV false,iv 0],bV false]) [2] (mM O O CY uD (aU O bD)) (fun W hW=>⟨O,hW.low leB⟩)
  | cons i A=>
   rw[fJ.eq_2] at H
   refine ai (ay aR O O (ae (aa (av (bY O (cu F) (aJ (aa (av (Tr.block (ai (ax O ?_)))))))))))
   obtain⟨d9,c5,c4,c6⟩:=(E).el (dI F)
   obtain⟨⟨t,u⟩,⟨l,o⟩⟩:=d9
   obtain⟨d8,G⟩:=c4
   replace G:Sl w.R w.W aB l o i.Rects:=G
   refine aC O (fun _ _ a d=>ak CL (a.ev O) E.form (a.ev O) (Int.natCast_nonneg _) (aX F)) (aC O (fun _ _ a d=>aM (cs:=[iv i.Layer,sL t i.Set u,sL l i.Rects o]) Ju zi (a.ev O) (aF.take (qY c5 c6 d) 3) O) (Tr.alloc 6 (wn O) O Iy fun c7=>(Tr.k O (bF 6 (cs:=[iv i.Layer,sL t i.Set u,sL l i.Rects o]) [iv i.Layer,sL t i.Set u,sL l i.Rects o] (wn O) O O O O zi O O O (ae (aa (ai (aH (ag xX) O (aC O (fun _ _ a d=>ah bG (a.ev O) (bR d (vs:=[iv i.Layer,sL t i.Set u,sL l i.Rects o]) (k:=6) O 0) O) (aH (ag zH) O (aC O (fun _ _ a d=>ah bG (a.ev O) (bR d (vs:=[sv p1.Part,sv p1.Pin,iv p1.Layer,iv p1.At.X,iv p1.At.Y]) (k:=1) O 2) O) (ay iA O O (ax O ?_)))))))))))))
   obtain⟨c8,L,H⟩:=bnd H
   refine bP 6 [(3,pV g),(4,pV j),(8,iv (D:Int)),(43,sL J p0.Pieces K),(44,iv (p0.Pieces.length:Int)),(45,iv (D:Int)),(61,bV c8)] [(1,bx g #[sv p1.Part,sv p1.Pin,iv p1.Layer,iv p1.At.X,iv p1.At.Y] 155),(2,bx j #[bV false,iv 0] 172),(6,bx c7 #[iv i.Layer,sL t i.Set u,sL l i.Rects o] 76)] ?_ ?_
   ·cases b9:(i.Layer==p1.Layer)
    ·rw[b9] at L
     rw[if_neg (by decide)] at L
     have H:=L
     obtain rfl:=oI H
     exact Tr.ps O (Tr.ps O (Tr.ps O (Tr.ps O (Tr.ps O (ay aZ O O (ae (aS (.r O) (.r O))))))))
    ·rw[b9] at L
     rw[if_pos O] at L
     have H:=L
     refine bH (ag xW) O (Tr.x (fun _ _ a d=>ah tQ (a.ev O) (bR d (vs:=[iv i.Layer,sL t i.Set u,sL l i.Rects o]) (k:=6) O 2) O) (bH (ag Cy) O (Tr.x (fun _ _ a d=>aM (cs:=[iv p1.At.X,iv p1.At.Y]) tO pQ (a.ev O) (aF.take (bR d (vs:=[sv p1.Part,sv p1.Pin,iv p1.Layer,iv p1.At.X,iv p1.At.Y]) (k:=1) O 3) 2) O) ?_)))
     obtain⟨c9,d3,H⟩:=bnd H
     refine bu (r:=(bV c9)) (wg O O O) O Tryz.call66 (aj O (aj O aG)) (fun W hW=>oN i.Rects l o (G.ext hW.bU) p1.At c9 d3 (HF.start _)) (ay aW O O ?_)
     obtain rfl:=oI H
     exact ae (aS (.r O) (.r O))
   ·show Tr _ _ (LF [(3,pV g),(4,pV j),(8,iv (D:Int)),(43,sL J p0.Pieces K),(44,iv (p0.Pieces.length:Int)),(45,iv (D:Int)),(61,bV c8)]) (LE [(1,bx g #[sv p1.Part,sv p1.Pin,iv p1.Layer,iv p1.At.X,iv p1.At.Y] 155),(2,bx j #[bV false,iv 0] 172),(6,bx c7 #[iv i.Layer,sL t i.Set u,sL l i.Rects o] 76)]) _
    refine ae (aa (aT O H (fun H=>?_) (fun H=>?_)))
    ·refine ai (ax O (ko (vs:=[(1,iv (D:Int))]) (cs:=[bV false,iv (D:Int)]) (wn O) O (bz O dE) (by kernel_rfl) (bF 2 (cs:=[bV false,iv (D:Int)]) [bV false,iv (D:Int)] (wn O) O O O O uD O O O (Tr.k O (ae (aa (aO (bq (aD (aD (bq (aD ?_))))))))))))
     obtain rfl:=oI H
     exact bL (m:=[.agg #[bV false,iv (D:Int)],bV true]) [2] (mM O O CY uD (aU O bD)) (fun W hW=>⟨O,hW.low leB⟩)
    ·exact aJ (aK (aa (Tr.region (ay bB O O (ax O (ae (aI a1 (A,(D+1)) ⟨O,bT F,aX F,H⟩ (.cons O (.cons O (.cons O (.cons O (.cons (congrArg (fun z=>some (Value.int .i64 z)) (bS F E.form)) .nil))))) (.r O))))))))
 | cons c v=>
  rw[eT.eq_2] at H
  refine ai (ay aR O O (ae (aa (av (bY O (cu y) (aJ (aa (av (Tr.block (ai (ax O (aC O (fun _ _ a d=>ak Bg (a.ev O) I.form (a.ev O) (Int.natCast_nonneg _) (aX y)) (aC O (fun _ _ a d=>aM (cs:=[iv c.At.X,iv c.At.Y,iv c.Size,iv c.From,iv c.To,bV c.Plated]) oH lT (a.ev O) (aF.take (rP rT I (dI y) d) 6) O) (Tr.alloc 7 (wn O) O Aa fun a'=>(Tr.k O (bF 7 (cs:=[iv c.At.X,iv c.At.Y,iv c.Size,iv c.From,iv c.To,bV c.Plated]) [iv c.At.X,iv c.At.Y,iv c.Size,iv c.From,iv c.To,bV c.Plated] (wn O) O O O O lT O O O (ae (aa (av ?_)))))))))))))))))))
  obtain⟨e0,p,H⟩:=bnd H
  cases e0
  ·rw[if_neg (by decide)] at H
   refine ji (by kernel_rfl) (by kernel_rfl) (dA (ag zI) O (bv O (fun _ _ a d=>ah MN (a.ev O) (bR d (vs:=[iv c.At.X,iv c.At.Y,iv c.Size,iv c.From,iv c.To,bV c.Plated]) (k:=7) O 5) O) (eY O (qx 5 [(0,pV N),(3,pV g),(4,pV j),(6,iv (q:Int)),(7,pV a'),(14,sL B p0.Art.Bores C),(15,iv (p0.Art.Bores.length:Int)),(16,iv (q:Int)),(28,bV false)] ?_ ?_))))
   ·cases c0:c.Plated
    ·rw[c0] at p
     rw[if_neg (by decide)] at p
     have H:=p
     exact Tq.ps O (Tq.ps O (Tq.ps O (Tq.ps O (iU aZ O O (bW (.r O))))))
    ·rw[c0] at p
     rw[if_pos O] at p
     have H:=p
     refine Tq.x (fun _ _ a d=>aM (cs:=[iv c.At.X,iv c.At.Y,iv c.Size,iv c.From,iv c.To,bV true]) oH lT (a.ev O) (aF.take (bR d (vs:=[iv c.At.X,iv c.At.Y,iv c.Size,iv c.From,iv c.To,bV true]) (k:=7) O 0) 6) O) (jA (ag zH) O (Tq.x (fun _ _ a d=>ah bG (a.ev O) (bR d (vs:=[sv p1.Part,sv p1.Pin,iv p1.Layer,iv p1.At.X,iv p1.At.Y]) (k:=1) O 2) O) ?_))
     obtain⟨d0,d4,H⟩:=bnd H
     refine jB (r:=(bV d0)) (wg O O O) O Tryz.call82 (aj O (aj O aG)) (fun W hW=>nz (gP.mk c.At c.Size c.From c.To true) p1.Layer d0 d4 (HF.start _)) (iU aW O O ?_)
     obtain rfl:=oI H
     exact bW (.r O)
   ·exact eY O (Tq.ps O (Tq.ps O (Tq.ps O (Tq.ps O (Tq.ps O (Tq.ps O (iU aZ O O (jD (aa (bX O O (aJ (aK (aa (Tr.region (ay bB O O (ax O (ae (aI M (v,(q+1)) ⟨O,bT y,aX y,H⟩ (.cons O (.cons O (.cons O (.cons O (.cons O (.cons (congrArg (fun z=>some (Value.int .i64 z)) (bS y I.form)) .nil)))))) (.r O)))))))))))))))))))
  ·rw [if_pos O] at H
   obtain⟨f,d5,H⟩:=bnd H
   refine xz 14 [(11,.makeFunc (.func 0) #[] #[.tmp 31])] [(11,⟨32,8,.func (.func 0) #[] #[.agg #[iv f.X0,iv f.Y0,iv f.X1,iv f.Y1]],fun b=>.slice (some ⟨b,0,none⟩) 1 1,fun b=>bx b #[iv f.X0,iv f.Y0,iv f.X1,iv f.Y1] 111⟩)] [(0,pV N),(3,pV g),(4,pV j),(6,iv (q:Int)),(7,pV a'),(14,sL B p0.Art.Bores C),(15,iv (p0.Art.Bores.length:Int)),(16,iv (q:Int)),(21,.pointer (some ⟨a',5,none⟩)),(22,bV c.Plated),(23,bV c.Plated),(24,.agg #[iv c.At.X,iv c.At.Y,iv c.Size,iv c.From,iv c.To,bV c.Plated]),(25,.pointer (some ⟨g,2,none⟩)),(26,iv p1.Layer),(27,bV true),(28,bV true),(29,bV true),(30,.agg #[iv c.At.X,iv c.At.Y,iv c.Size,iv c.From,iv c.To,bV c.Plated]),(31,.agg #[iv f.X0,iv f.Y0,iv f.X1,iv f.Y1]),(32,.func (.func 0) #[] #[.agg #[iv f.X0,iv f.Y0,iv f.X1,iv f.Y1]]),(33,.pointer (some ⟨g,3,none⟩)),(34,.agg #[iv p1.At.X,iv p1.At.Y])] (by kernel_rfl) (by kernel_rfl) (by kernel_rfl) (by kernel_rfl) (by kernel_rfl) (by kernel_rfl) (by kernel_rfl) (kN (H7 (vs:=[(0,.agg #[iv f.X0,iv f.Y0,iv f.X1,iv f.Y1])]) O O O (by kernel_rfl)) lV) (kN O lV) (kN O lV) ?_ ?_
   ·refine dA (ag zI) O (bv O (fun _ _ a d=>ah MN (a.ev O) (bR d (vs:=[iv c.At.X,iv c.At.Y,iv c.Size,iv c.From,iv c.To,bV c.Plated]) (k:=7) O 5) O) (eY O (qx 5 [(0,pV N),(3,pV g),(4,pV j),(6,iv (q:Int)),(7,pV a'),(14,sL B p0.Art.Bores C),(15,iv (p0.Art.Bores.length:Int)),(16,iv (q:Int)),(21,.pointer (some ⟨a',5,none⟩)),(22,bV c.Plated),(23,bV c.Plated),(24,.agg #[iv c.At.X,iv c.At.Y,iv c.Size,iv c.From,iv c.To,bV c.Plated]),(25,.pointer (some ⟨g,2,none⟩)),(26,iv p1.Layer),(27,bV true),(28,bV true)] ?_ ?_)))
    ·cases c3:c.Plated
     ·rw[c3] at p
      rw[if_neg (by decide)] at p
      have H:=p
      cases H
     ·rw[c3] at p
      rw[if_pos O] at p
      have H:=p
      refine Tq.x (fun _ _ a d=>aM (cs:=[iv c.At.X,iv c.At.Y,iv c.Size,iv c.From,iv c.To,bV true]) oH lT (a.ev O) (aF.take (bR d (vs:=[iv c.At.X,iv c.At.Y,iv c.Size,iv c.From,iv c.To,bV true]) (k:=7) O 0) 6) O) (jA (ag zH) O (Tq.x (fun _ _ a d=>ah bG (a.ev O) (bR d (vs:=[sv p1.Part,sv p1.Pin,iv p1.Layer,iv p1.At.X,iv p1.At.Y]) (k:=1) O 2) O) ?_))
      obtain⟨d1,d6,H⟩:=bnd H
      refine jB (r:=(bV d1)) (wg O O O) O Tryz.call82 (aj O (aj O aG)) (fun W hW=>nz (gP.mk c.At c.Size c.From c.To true) p1.Layer d1 d6 (HF.start _)) (iU aW O O ?_)
      obtain rfl:=oI H
      exact bW (.r O)
    ·exact eY O (Tq.x (fun _ _ a d=>aM (cs:=[iv c.At.X,iv c.At.Y,iv c.Size,iv c.From,iv c.To,bV c.Plated]) oH lT (a.ev O) (aF.take (bR d (vs:=[iv c.At.X,iv c.At.Y,iv c.Size,iv c.From,iv c.To,bV c.Plated]) (k:=7) O 0) 6) O) (jB (r:=(.agg #[iv f.X0,iv f.Y0,iv f.X1,iv f.Y1])) (wg O O O) O Tryz.call42 (aj O aG) (fun W hW=>jT c f d5 (HF.start _)) (vg (vs:=[.agg #[iv f.X0,iv f.Y0,iv f.X1,iv f.Y1]]) (wg O O O) O (aj O aG) (jA (ag Cy) O (Tq.x (fun _ _ a d=>aM (cs:=[iv p1.At.X,iv p1.At.Y]) tO pQ (a.ev O) (aF.take (bR d (vs:=[sv p1.Part,sv p1.Pin,iv p1.Layer,iv p1.At.X,iv p1.At.Y]) (k:=1) O 3) 2) O) (bW (.r O)))))))
   ·intro S
    refine Tr.vC (lf:=[(0,pV N),(3,pV g),(4,pV j),(6,iv (q:Int)),(14,sL B p0.Art.Bores C),(15,iv (p0.Art.Bores.length:Int)),(16,iv (q:Int)),(29,bV true),(32,.slice (some ⟨(S 11),0,none⟩) 1 1),(34,.agg #[iv p1.At.X,iv p1.At.Y])]) (le:=[(1,bx g #[sv p1.Part,sv p1.Pin,iv p1.Layer,iv p1.At.X,iv p1.At.Y] 155),(2,bx j #[bV false,iv 0] 172),(7,bx a' #[iv c.At.X,iv c.At.Y,iv c.Size,iv c.From,iv c.To,bV c.Plated] 119),(8,bx (S 11) #[iv f.X0,iv f.Y0,iv f.X1,iv f.Y1] 111)]) (.r O) (.r O) (Tr.own 8 aB [f] (css:=[[iv f.X0,iv f.Y0,iv f.X1,iv f.Y1]]) O (.cons ⟨(),trivial,O⟩ .nil) O (by decide) (xU O) ?_)
    obtain⟨d2,d7,H⟩:=bnd H
    refine bu (r:=(bV d2)) (wg O O O) O Tryz.call66 (aj O (aj O aG)) (fun W hW=>oN [f] (some ⟨(S 11),0,none⟩) 1 (hW.oD (k:=8) O) p1.At d2 d7 (HF.start _)) (ay aW O O (ae (aa (aT O H (fun H=>?_) (fun H=>?_)))))
    ·refine ai (ax O (ko (vs:=[(0,bV true),(1,iv (q:Int))]) (cs:=[bV true,iv (q:Int)]) (wn O) O (bz O (bz O dE)) (by kernel_rfl) (bF 2 (cs:=[bV true,iv (q:Int)]) [bV true,iv (q:Int)] (wn O) O O O O uD O O O (Tr.k O (ae (aa (aO (bq (aD (aD (bq (aD ?_))))))))))))
     obtain rfl:=oI H
     exact bL (m:=[.agg #[bV true,iv (q:Int)],bV true]) [2] (mM O O CY uD (aU O bD)) (fun W hW=>⟨O,hW.low leB⟩)
    ·exact aJ (aK (aa (Tr.region (ay bB O O (ax O (ae (aI M (v,(q+1)) ⟨O,bT y,aX y,H⟩ (.cons O (.cons O (.cons O (.cons O (.cons O (.cons (congrArg (fun z=>some (Value.int .i64 z)) (bS y I.form)) .nil)))))) (.r O))))))))

theorem si{w:Bs}(p0:dD)(h:Option Addr)(i:Nat)(a0:Sl w.R w.W dF h i p0.Art.Coppers)(j:Option Addr)(l:Nat)(a1:Sl w.R w.W aB j l p0.Art.Outline)(o:Option Addr)(p:Nat)(a2:Sl w.R w.W dY o p p0.Art.Bores)(q:Option Addr)(s:Nat)(a3:Sl w.R w.W eH q s p0.Art.Lands)(t:Option Addr)(u:Nat)(a4:Sl w.R w.W bM t u p0.Drilled)(v:Option Addr)(y:Nat)(a5:Sl w.R w.W dG v y p0.Pieces)(z:Option Addr)(A:Nat)(a6:Sl w.R w.W fE z A p0.Touched)(B:Option Addr)(C:Nat)(a7:Sl w.R w.W dw B C p0.Groups)(D:Option Addr)(E:Nat)(F:Sl w.R w.W az D E p0.OfPiece)(G:Option Addr)(I:Nat)(J:Sl w.R w.W az G I p0.OfBore)(b:Option Addr)(c:Nat)(X:Sl w.R w.W az b c p0.OfLand)(f:Option Addr)(g:Nat)(Z:Sl w.R w.W dX f g p0.AtLand)(K:Nat)(L:w.R K)(M:aF w.W K 0 [sL h p0.Art.Coppers i,sL j p0.Art.Outline l,sL o p0.Art.Bores p,sL q p0.Art.Lands s,sL t p0.Drilled u,sL v p0.Pieces y,sL z p0.Touched A,sL B p0.Groups C,sL D p0.OfPiece E,sL G p0.OfBore I,sL b p0.OfLand c,sL f p0.AtLand g])(p1:oC)(r:Int)(H:je p0 p1=some r)(hE:HF w w.W E0):Calls Tryz.prog 92 [pV K,.agg #[bV p1.Bore,iv p1.Number]].toArray w.W fun e W'=>e= .returned (iv r)∧HF w W' E0:=by
 unfold je at H
 have leB:=Bs.Le.refl w
 refine aV (n:=23) Tryz.func92 O O O hE (ai (fw 1 (cs:=[bV p1.Bore,iv p1.Number]) (wn O) O O O fun a8=>(Tr.k O (ae (aa (av (ai (aH (ag Mj) O (aC O (fun _ _ a d=>ah MN (a.ev O) (bR d (vs:=[bV p1.Bore,iv p1.Number]) (k:=1) O 0) O) (ae (aa (aT O H (fun H=>?_) (fun H=>?_)))))))))))))
 ·refine av (ji (by kernel_rfl) (by kernel_rfl) (eY O (dA bn O (dA (ag BD) O (bv O (fun _ _ a d=>ah gU (a.ev O) (aF.drop (qY L M d) 9) O) (dA (ag Gb) O (bv O (fun _ _ a d=>ah bG (a.ev O) (bR d (vs:=[bV p1.Bore,iv p1.Number]) (k:=1) O 1) O) ?_)))))))
  obtain⟨a9,U,H⟩:=bnd H
  obtain⟨N,a',P⟩:=bi U
  refine bv O (fun _ _ a d=>ak iX (a.ev O) J.form (a.ev O) N a') (bv O (fun _ _ a d=>ah bG (a.ev O) (rP iH J P d) O) (nD O O (jD (aa (aO (aD ?_))))))
  obtain rfl:=oI H
  exact cB leB
 ·refine aJ (aa (av (ji (by kernel_rfl) (by kernel_rfl) (eY O (dA bn O (dA (ag xY) O (bv O (fun _ _ a d=>ah gU (a.ev O) (aF.drop (qY L M d) 8) O) (dA (ag Gb) O (bv O (fun _ _ a d=>ah bG (a.ev O) (bR d (vs:=[bV p1.Bore,iv p1.Number]) (k:=1) O 1) O) ?_)))))))))
  obtain⟨b0,V,H⟩:=bnd H
  obtain⟨Q,S,T⟩:=bi V
  refine bv O (fun _ _ a d=>ak iX (a.ev O) F.form (a.ev O) Q S) (bv O (fun _ _ a d=>ah bG (a.ev O) (rP iH F T d) O) (nD O O (jD (aa (aO ?_)))))
  obtain rfl:=oI H
  exact cB leB

end Go.Proofs.YtkccbhbhdnobhaaGreatDoor
