/- The walks: each function computes its plain function. -/
import Derived.Test.YtgijeiamflmkeaaGreatDoorXF
namespace Go.Proofs.YtgijeiamflmkeaaGreatDoor
open Go.RowKit
set_option maxRecDepth 100000
set_option maxHeartbeats 1000000
theorem zh{w:Bs}(p0:ByteArray)(p1:Int)(r:Int)(H:Ul p0 p1=some r)(hE:HF w w.W E0):Calls Tryz.prog 115 [sv p0,.int .u8 p1].toArray w.W fun e W'=>e= .returned (iv r)∧HF w W' E0:=
 P9 (ρ:=Tryz.yg) Tryz.KG H hE

theorem jJ(N:Nat){w:Bs}(p0:ByteArray)(r:Bool)(H:jh N p0=some r)(hE:HF w w.W E0):Calls Tryz.prog 64 [sv p0].toArray w.W fun e W'=>e= .returned (bV r)∧HF w W' E0:=by
 unfold jh at H
 have leB:=Bs.Le.refl w
 refine aX (n:=49) Tryz.func64 Z Z Z hE (aj (Tr.k Z (ae (aa (az (aj (aA Z (aD (wu EE) Z (aA Z (ae (aa (Tr.block (cO (σ:=Int) (fun m w s=>jK p0 m s=some r) (fun s=>[(0,sv p0),(6,iv (p0.size:Int)),(7,iv s)]) (fun s=>[]) N 0 H (.r Z) .nil (fun _ _ h=>oq (h)) ?_)))))))))))))
 intro w i t d hs
 have H:=hs
 replace H:jK p0 (t+1) d=some r:=H
 replace leB:=leB.trans i
 rw[jK.eq_2] at H
 show Tr _ _ (LF [(0,sv p0),(6,iv (p0.size:Int)),(7,iv d)]) (LE []) _
 refine aj (av bi Z Z (ae (aa (az (aN Z H (fun H=>?_) (fun H=>?_))))))
 ·refine aM (aa (az (Tr.block (aj (aA Z (Tr.k Z (ae (aa (aj (aA Z (aA Z ?_)))))))))))
  obtain⟨b,o,H⟩:=bnd H
  refine aC Z (fun _ _ a c=>GM EE (a.ev Z) (a.ev Z) o) (Tr.k Z (ae (aa (aj (aA Z (av bi Z Z (aA Z (bM 3 [(0,sv p0),(4,.int .u8 b),(6,iv (p0.size:Int)),(7,iv d),(18,bV ((decide (b<65))||(decide (90<b))))] [] ?_ ?_))))))))
  ·cases f:(decide (b<65))
   ·exact bC run_move Z (dI dE Z Z (av aU Z Z (ae (aR (.r Z) .nil))))
   ·exact aG Z (aG Z (av aT Z Z (ae (aR (.r Z) .nil))))
  ·show Tr _ _ (LF [(0,sv p0),(4,.int .u8 b),(6,iv (p0.size:Int)),(7,iv d),(18,bV ((decide (b<65))||(decide (90<b))))]) (LE []) _
   refine aA Z (bM 7 [(0,sv p0),(4,.int .u8 b),(6,iv (p0.size:Int)),(7,iv d),(26,bV (((decide (b<65))||(decide (90<b)))&&((decide (b<97))||(decide (122<b)))))] [] ?_ ?_)
   ·cases f:((decide (b<65))||(decide (90<b)))
    ·exact aG Z (aG Z (aG Z (ky Z (ky Z (aG Z (av aU Z Z (ae (aR (.r Z) .nil))))))))
    ·refine bC run_move Z (dI bi Z Z (bC run_move Z (bM 3 [(0,sv p0),(4,.int .u8 b),(6,iv (p0.size:Int)),(7,iv d),(19,bV true),(25,bV ((decide (b<97))||(decide (122<b))))] [] ?_ ?_)))
     ·cases p:(decide (b<97))
      ·exact bC run_move Z (dI dE Z Z (dI aU Z Z (ae (aR (.r Z) .nil))))
      ·exact aG Z (aG Z (dI aT Z Z (ae (aR (.r Z) .nil))))
     ·dsimp only
      exact av aT Z Z (ae (aR (.r Z) .nil))
   ·show Tr _ _ (LF [(0,sv p0),(4,.int .u8 b),(6,iv (p0.size:Int)),(7,iv d),(26,bV (((decide (b<65))||(decide (90<b)))&&((decide (b<97))||(decide (122<b)))))]) (LE []) _
    refine aA Z (bM 7 [(0,sv p0),(4,.int .u8 b),(6,iv (p0.size:Int)),(7,iv d),(34,bV ((((decide (b<65))||(decide (90<b)))&&((decide (b<97))||(decide (122<b))))&&((decide (b<48))||(decide (57<b)))))] [] ?_ ?_)
    ·cases f:(((decide (b<65))||(decide (90<b)))&&((decide (b<97))||(decide (122<b))))
     ·exact aG Z (aG Z (aG Z (ky Z (ky Z (aG Z (av aU Z Z (ae (aR (.r Z) .nil))))))))
     ·refine bC run_move Z (dI bi Z Z (bC run_move Z (bM 3 [(0,sv p0),(4,.int .u8 b),(6,iv (p0.size:Int)),(7,iv d),(27,bV true),(33,bV ((decide (b<48))||(decide (57<b))))] [] ?_ ?_)))
      ·cases p:(decide (b<48))
       ·exact bC run_move Z (dI dE Z Z (dI aU Z Z (ae (aR (.r Z) .nil))))
       ·exact aG Z (aG Z (dI aT Z Z (ae (aR (.r Z) .nil))))
      ·dsimp only
       exact av aT Z Z (ae (aR (.r Z) .nil))
    ·show Tr _ _ (LF [(0,sv p0),(4,.int .u8 b),(6,iv (p0.size:Int)),(7,iv d),(34,bV ((((decide (b<65))||(decide (90<b)))&&((decide (b<97))||(decide (122<b))))&&((decide (b<48))||(decide (57<b)))))]) (LE []) _
     refine aA Z ?_
     obtain⟨j,g,H⟩:=bnd H
     refine bM 4 [(0,sv p0),(6,iv (p0.size:Int)),(7,iv d),(39,bV j)] [] ?_ ?_
     ·cases f:((((decide (b<65))||(decide (90<b)))&&((decide (b<97))||(decide (122<b))))&&((decide (b<48))||(decide (57<b))))
      ·rw[f] at g
       rw[if_neg (by decide)] at g
       have H:=g
       obtain rfl:=oI H
       exact aG Z (aG Z (aG Z (av aU Z Z (ae (aR (.r Z) .nil)))))
      ·rw[f] at g
       rw[if_pos Z] at g
       have H:=g
       refine bC run_move Z ?_
       obtain⟨l,q,H⟩:=bnd H
       refine aS (r:=(iv l)) (wg Z Z Z) Z Tryz.call115 (ak Z (ak Z aH)) (fun W hW=>zh (⟨#[95,43,45,35]⟩) b l q (HF.start _)) (dI bi Z Z (av aT Z Z ?_))
       obtain rfl:=oI H
       exact ae (aR (.r Z) .nil)
     ·show Tr _ _ (LF [(0,sv p0),(6,iv (p0.size:Int)),(7,iv d),(39,bV j)]) (LE []) _
      refine ae (aa (aN Z H (fun H=>?_) (fun H=>?_)))
      ·refine aj (Tr.k Z (ae (aa (aJ (au (ai (ai (au (ai ?_)))))))))
       obtain rfl:=oI H
       exact bD leB
      ·exact aM (aQ (aa (aV (av bE Z Z (aA Z (ae (aP i (bP (d+1)) H (.r Z) .nil)))))))
 ·refine bZ (aF (aF (bg (aa (aj (aA Z (aD (wu EE) Z (av kG Z Z (aA Z (bM 4 [(48,bV ((decide (1≤(p0.size:Int)))&&(decide ((p0.size:Int)≤40))))] [] ?_ ?_))))))))))
  ·cases f:(decide (1≤(p0.size:Int)))
   ·exact aG Z (aG Z (aG Z (av aU Z Z (ae (aR (.r Z) .nil)))))
   ·exact bC run_move Z (bC (wu EE) Z (dI iT Z Z (av aT Z Z (ae (aR (.r Z) .nil)))))
  ·show Tr _ _ (LF [(48,bV ((decide (1≤(p0.size:Int)))&&(decide ((p0.size:Int)≤40))))]) (LE []) _
   refine Tr.k Z (ae (aa (aJ ?_)))
   obtain rfl:=oI H
   exact bD leB

theorem xL{w:Bs}(p0:dO)(q0:dO)(xI:Nat)(hb0:w.R xI)(hc0:aI w.W xI 0 [sv q0.Name,iv q0.Kind,iv q0.Group])(r:Bool)(H:mg p0 q0=some r)(hE:HF w w.W E0):Calls Tryz.prog 153 [.agg #[sv p0.Name,iv p0.Kind,iv p0.Group],pV xI].toArray w.W fun e W'=>e= .returned (bV r)∧HF w W' E0:=by
 unfold mg at H
 have leB:=Bs.Le.refl w
 refine aX (n:=21) Tryz.func153 Z Z Z hE (aj (dh 1 (cs:=[sv p0.Name,iv p0.Kind,iv p0.Group]) (wn Z) Z Z Z fun b=>(Tr.k Z (ae (aa (aj (aD (ag Ag) Z (aC Z (fun _ _ a c=>ah bF (a.ev Z) (aI.drop (tY hb0 hc0 c) 2) Z) (av dE Z Z (aA Z (bM 6 [(1,pV xI),(2,pV b),(13,bV ((decide (0<q0.Group))&&(p0.Group==q0.Group)))] [(1,bx b #[sv p0.Name,iv p0.Kind,iv p0.Group] 223)] ?_ ?_)))))))))))
 ·cases d:(decide (0<q0.Group))
  ·exact aG Z (aG Z (aG Z (aG Z (aG Z (av aU Z Z (ae (aR (.r Z) (.r Z))))))))
  ·exact bC (ag Ag) Z (Tr.x (fun _ _ a c=>ah bF (a.ev Z) (bN c (vs:=[sv p0.Name,iv p0.Kind,iv p0.Group]) (k:=1) Z 2) Z) (bC (ag Ag) Z (Tr.x (fun _ _ a c=>ah bF (a.ev Z) (aI.drop (tY hb0 hc0 c) 2) Z) (dI dM Z Z (av aT Z Z (ae (aR (.r Z) (.r Z))))))))
 ·show Tr _ _ (LF [(1,pV xI),(2,pV b),(13,bV ((decide (0<q0.Group))&&(p0.Group==q0.Group)))]) (LE [(1,bx b #[sv p0.Name,iv p0.Kind,iv p0.Group] 223)]) _
  refine aA Z (bM 6 [(20,bV (((decide (0<q0.Group))&&(p0.Group==q0.Group))&&(p0.Kind !=q0.Kind)))] [(1,bx b #[sv p0.Name,iv p0.Kind,iv p0.Group] 223)] ?_ ?_)
  ·cases d:((decide (0<q0.Group))&&(p0.Group==q0.Group))
   ·exact aG Z (aG Z (aG Z (aG Z (aG Z (av aU Z Z (ae (aR (.r Z) (.r Z))))))))
   ·exact bC (ag DL) Z (Tr.x (fun _ _ a c=>ah bF (a.ev Z) (bN c (vs:=[sv p0.Name,iv p0.Kind,iv p0.Group]) (k:=1) Z 1) Z) (bC (ag DL) Z (Tr.x (fun _ _ a c=>ah bF (a.ev Z) (aI.drop (tY hb0 hc0 c) 1) Z) (dI dW Z Z (av aT Z Z (ae (aR (.r Z) (.r Z))))))))
  ·show Tr _ _ (LF [(20,bV (((decide (0<q0.Group))&&(p0.Group==q0.Group))&&(p0.Kind !=q0.Kind)))]) (LE [(1,bx b #[sv p0.Name,iv p0.Kind,iv p0.Group] 223)]) _
   refine Tr.k Z (ae (aa (aJ ?_)))
   obtain rfl:=oI H
   exact bD leB

theorem vC{w:Bs}(p0:(List dO))(g:Option Addr)(i:Nat)(f:Sl w.R w.W jG g i p0)(p1:dO→Option Bool)(fid1:Nat)(j:List Value)(hg1:∀args W,(callFunc fid1 args).run Tryz.prog W= .ok (.enter fid1 args) W)(hf1:∀(w':Bs),w.Ext w'→∀(z0:dO),∀y,p1 z0=some y→Calls Tryz.prog fid1 (([.agg #[sv z0.Name,iv z0.Kind,iv z0.Group]]:List Value)++j).toArray w'.W fun e W''=>e= .returned (bV y)∧HF w' W'' E0)(r:Int)(H:lI p0 p1=some r)(hE:HF w w.W E0):Calls Tryz.prog 185 [sL g p0 i,.func (.func fid1) #[] j.toArray].toArray w.W fun e W'=>e= .returned (iv r)∧HF w W' E0:=by
 unfold lI at H
 have leB:=Bs.Le.refl w
 refine aX (n:=19) Tryz.func185 Z Z Z hE (aj (Tr.k Z (ae (aa (az (aj (aA Z (aD (bA EF) Z (aA Z (ae (aa (Tr.block (cO (σ:=(List dO)×Nat) (fun m w s=>m=s.1.length+1∧s.1=List.drop s.2 p0∧s.2≤p0.length∧ig p1 s.1 s.2=some r) (fun s=>[(0,sL g p0 i),(1,.func (.func fid1) #[] j.toArray),(7,iv (p0.length:Int)),(8,iv (s.2:Int))]) (fun s=>[]) (p0.length+1) (p0,0) ⟨Z,Z,Nat.zero_le _,H⟩ (.r Z) .nil (fun _ _ h=>absurd h.1 (by simp)) ?_)))))))))))))
 intro w l m s hs
 obtain⟨b,p⟩:=s
 obtain⟨o,d,v,H⟩:=hs
 replace d:b=List.drop p p0:=d
 replace H:ig p1 b p=some r:=H
 replace o:m+1=b.length+1:=o
 replace f:=f.iR l
 replace hf1:=fun w' he=>hf1 w' (l.ext.trans he)
 replace leB:=leB.trans l
 obtain rfl:m=b.length:=by omega
 clear o
 dsimp only
 cases b with
 |nil=>
  rw[ig.eq_1] at H
  refine aj (av bi Z Z (ae (aa (az (dn Z (cz d) (bZ (aF (aF (bg (aa (aj (Tr.k Z (ae (aa (aJ ?_)))))))))))))))
  obtain rfl:=oI H
  exact bD leB
 | cons q b=>
  rw[ig.eq_2] at H
  refine aj (av bi Z Z (ae (aa (az (dm Z (dz d) (aM (aa (az (Tr.block (aj (aA Z (Tr.k Z (ae (aa (aj (aA Z (aA Z (aA Z (aC Z (fun _ _ a c=>aB Cu (a.ev Z) f.form (a.ev Z) (Int.natCast_nonneg _) (bq d)) (aC Z (fun _ _ a c=>aL (cs:=[sv q.Name,iv q.Kind,iv q.Group]) IA Cj (a.ev Z) (aI.take (pq rf f (dA d) c) 3) Z) ?_))))))))))))))))))))
  obtain⟨u,t,H⟩:=bnd H
  refine kC (r:=(bV u)) (wn Z) Z Z hg1 (ak Z aH) (fun W hW=>hf1 hW.all hW.aY q _ t) (ae (aa (aN Z H (fun H=>?_) (fun H=>?_))))
  ·refine aj (aA Z (Tr.k Z (ae (aa (aJ (au (ai (ai (au (ai ?_))))))))))
   obtain rfl:=oI H
   exact bD leB
  ·exact aM (aQ (aa (aV (av bE Z Z (aA Z (ae (aP l (b,(p+1)) ⟨Z,df d,bq d,H⟩ (.cons Z (.cons Z (.cons Z (.cons (congrArg (fun z=>some (Value.int .i64 z)) (cZ d f.form)) .nil)))) .nil)))))))

theorem uq{w:Bs}(p0:(List dO))(a:Option Addr)(b:Nat)(f:Sl w.R w.W jG a b p0)(p1:dO→Option Bool)(fid1:Nat)(c:List Value)(hg1:∀args W,(callFunc fid1 args).run Tryz.prog W= .ok (.enter fid1 args) W)(hf1:∀(w':Bs),w.Ext w'→∀(z0:dO),∀y,p1 z0=some y→Calls Tryz.prog fid1 (([.agg #[sv z0.Name,iv z0.Kind,iv z0.Group]]:List Value)++c).toArray w'.W fun e W''=>e= .returned (bV y)∧HF w' W'' E0)(r:Bool)(H:kH p0 p1=some r)(hE:HF w w.W E0):Calls Tryz.prog 152 [sL a p0 b,.func (.func fid1) #[] c.toArray].toArray w.W fun e W'=>e= .returned (bV r)∧HF w W' E0:=by
 unfold kH at H
 have leB:=Bs.Le.refl w
 refine aX (n:=9) Tryz.func152 Z Z Z hE (aj (Tr.k Z (ae (aa (aj (aA Z (aA Z ?_)))))))
 obtain⟨d,g,H⟩:=bnd H
 refine aS (r:=(iv d)) (wn Z) Z Tryz.call185 (ak Z (ak Z aH)) (fun W hW=>vC p0 a b (f.ext hW.aY) p1 fid1 c hg1 (fun w' he=>hf1 w' (hW.aY.trans he)) d g (HF.start _)) (av kG Z Z (Tr.k Z (ae (aa (aJ ?_)))))
 obtain rfl:=oI H
 exact bD leB

theorem zw(N:Nat){w:Bs}(p0:(List dO))(d:Option Addr)(f:Nat)(g:Sl w.R w.W jG d f p0)(r:Int)(H:nK N p0=some r)(hE:HF w w.W E0):Calls Tryz.prog 105 [sL d p0 f].toArray w.W fun e W'=>e= .returned (iv r)∧HF w W' E0:=by
 unfold nK at H
 have leB:=Bs.Le.refl w
 refine aX (n:=71) Tryz.func105 Z Z Z hE (aj (Tr.k Z (ae (aa (az (aj (aA Z (aD (bA EF) Z (av dM Z Z (ae (aa (aN Z H (fun H=>?_) (fun H=>?_)))))))))))))
 ·refine aj (Tr.k Z (ae (aa (aJ (ai ?_)))))
  obtain rfl:=oI H
  exact bD leB
 ·refine aM (aa (az (aj (aA Z (aD (bA EF) Z (av dE Z Z (ae (aa (aN Z H (fun H=>?_) (fun H=>?_))))))))))
  ·refine aj (Tr.k Z (ae (aa (aJ (ai ?_)))))
   obtain rfl:=oI H
   exact bD leB
  ·refine aM (aa (az (aj (aA Z (aD (bA EF) Z (aA Z (ae (aa (Tr.block (cO (σ:=(List dO)×Nat) (fun m w s=>m=s.1.length+1∧s.1=List.drop s.2 p0∧s.2≤p0.length∧iN N p0 s.1 s.2=some r) (fun s=>[(0,sL d p0 f),(13,sL d p0 f),(14,iv (p0.length:Int)),(15,iv (s.2:Int))]) (fun s=>[]) (p0.length+1) (p0,0) ⟨Z,Z,Nat.zero_le _,H⟩ (.r Z) .nil (fun _ _ h=>absurd h.1 (by simp)) ?_))))))))))
   intro w A m s hs
   obtain⟨i,l⟩:=s
   obtain⟨B,o,U,H⟩:=hs
   replace o:i=List.drop l p0:=o
   replace H:iN N p0 i l=some r:=H
   replace B:m+1=i.length+1:=B
   replace g:=g.iR A
   replace leB:=leB.trans A
   obtain rfl:m=i.length:=by omega
   clear B
   dsimp only
   cases i with
   | nil=>
    rw[iN.eq_1] at H
    refine aj (av bi Z Z (ae (aa (az (dn Z (cz o) (bZ (aF (aF (bg (aa (az (aj (aA Z (aD (bA EF) Z (aA Z (ae (aa (Tr.block (cO (σ:=(List dO)×Nat) (fun m w s=>m=s.1.length+1∧s.1=List.drop s.2 p0∧s.2≤p0.length∧iM p0 s.1 s.2=some r) (fun s=>[(0,sL d p0 f),(58,sL d p0 f),(59,iv (p0.length:Int)),(60,iv (s.2:Int))]) (fun s=>[]) (p0.length+1) (p0,0) ⟨Z,Z,Nat.zero_le _,H⟩ (.r Z) .nil (fun _ _ h=>absurd h.1 (by simp)) ?_)))))))))))))))))))
    intro w C m s hs
    obtain⟨j,F⟩:=s
    obtain⟨D,p,V,H⟩:=hs
    replace p:j=List.drop F p0:=p
    replace H:iM p0 j F=some r:=H
    replace D:m+1=j.length+1:=D
    replace g:=g.iR C
    replace leB:=leB.trans C
    obtain rfl:m=j.length:=by omega
    clear D
    dsimp only
    cases j with
    |nil=>
     rw[iM.eq_1] at H
     refine aj (av bi Z Z (ae (aa (az (dn Z (cz p) (bZ (aF (aF (bg (aa (aj (Tr.k Z (ae (aa (aJ ?_)))))))))))))))
     obtain rfl:=oI H
     exact bD leB
    | cons q j=>
     rw[iM.eq_2] at H
     refine aj (av bi Z Z (ae (aa (az (dm Z (dz p) (aM (aa (az (Tr.block (aj (aA Z (aC Z (fun _ _ a c=>aB Cu (a.ev Z) g.form (a.ev Z) (Int.natCast_nonneg _) (bq p)) (aC Z (fun _ _ a c=>aL (cs:=[sv q.Name,iv q.Kind,iv q.Group]) IA Cj (a.ev Z) (aI.take (pq rf g (dA p) c) 3) Z) (Tr.alloc 3 (wn Z) Z Qx fun E=>(Tr.k Z (bv 3 (cs:=[sv q.Name,iv q.Kind,iv q.Group]) [sv q.Name,iv q.Kind,iv q.Group] (wn Z) Z Z Z Z Cj Z Z Z (ae (aa (aj (aA Z (aA Z ?_)))))))))))))))))))))
     obtain⟨S,G,H⟩:=bnd H
     refine aC Z (fun _ _ a c=>Gd Cu (a.ev Z) g.form (a.ev Z) G) (rO (vs:=[pV E]) (wn Z) Z (ak Z aH) ?_)
     obtain⟨I,O,H⟩:=bnd H
     refine aS (r:=(bV I)) (wn Z) Z Tryz.call152 (ak Z (ak Z aH)) (fun W hW=>uq S d f (Sl.pre (g.ext hW.aY) G) (fun z0=>mg z0 q) 153 [pV E] Tryz.call153 (fun w' he z0 y hy=>xL z0 q E (he.r _ (hW.AC (k:=3) Z)) (he.cells (hW.AC (k:=3) Z) (hW.Jd (k:=3) Z)) y hy (HF.start _)) I O (HF.start _)) (ae (aa (aN Z H (fun H=>?_) (fun H=>?_))))
     ·refine aj (Tr.k Z (ae (aa (aJ (au (ai (ai (au (ai ?_)))))))))
      obtain rfl:=oI H
      exact bD leB
     ·exact aM (aQ (aa (aV (av bE Z Z (aA Z (ae (aP C (j,(F+1)) ⟨Z,df p,bq p,H⟩ (.cons Z (.cons Z (.cons Z (.cons (congrArg (fun z=>some (Value.int .i64 z)) (cZ p g.form)) .nil)))) .nil)))))))
   | cons b i=>
    rw[iN.eq_2] at H
    refine aj (av bi Z Z (ae (aa (az (dm Z (dz o) (aM (aa (az (Tr.block (aj (aA Z (aC Z (fun _ _ a c=>aB Cu (a.ev Z) g.form (a.ev Z) (Int.natCast_nonneg _) (bq o)) (aC Z (fun _ _ a c=>aL (cs:=[sv b.Name,iv b.Kind,iv b.Group]) IA Cj (a.ev Z) (aI.take (pq rf g (dA o) c) 3) Z) (Tr.alloc 4 (wn Z) Z Qx fun t=>(Tr.k Z (bv 4 (cs:=[sv b.Name,iv b.Kind,iv b.Group]) [sv b.Name,iv b.Kind,iv b.Group] (wn Z) Z Z Z Z Cj Z Z Z (ae (aa (Tr.block (aj (aD (ag DN) Z (aC Z (fun _ _ a c=>ah jD (a.ev Z) (bN c (vs:=[sv b.Name,iv b.Kind,iv b.Group]) (k:=4) Z 0) Z) ?_))))))))))))))))))))))
    obtain⟨J,P,H⟩:=bnd H
    refine aS (r:=(bV J)) (wn Z) Z Tryz.call64 (ak Z aH) (fun W hW=>jJ N b.Name J P (HF.start _)) (aD bT Z (Tr.k Z (ae (aa (aN Z H (fun H=>?_) (fun H=>?_))))))
    ·refine aj (Tr.k Z (ae (aa (aJ (au (au (ai (ai (au (ai ?_))))))))))
     obtain rfl:=oI H
     exact bD leB
    ·refine aj (aD (ag DL) Z (aC Z (fun _ _ a c=>ah bF (a.ev Z) (bN c (vs:=[sv b.Name,iv b.Kind,iv b.Group]) (k:=4) Z 1) Z) (av bi Z Z (aA Z (bM 4 [(0,sL d p0 f),(3,iv (l:Int)),(4,pV t),(13,sL d p0 f),(14,iv (p0.length:Int)),(15,iv (l:Int)),(33,bV ((decide (b.Kind<1))||(decide (7<b.Kind))))] [(4,bx t #[sv b.Name,iv b.Kind,iv b.Group] 223)] ?_ ?_)))))
     ·cases v:(decide (b.Kind<1))
      ·exact bC (ag DL) Z (Tr.x (fun _ _ a c=>ah bF (a.ev Z) (bN c (vs:=[sv b.Name,iv b.Kind,iv b.Group]) (k:=4) Z 1) Z) (dI dE Z Z (av aU Z Z (ae (aR (.r Z) (.r Z))))))
      ·exact aG Z (aG Z (aG Z (av aT Z Z (ae (aR (.r Z) (.r Z))))))
     ·show Tr _ _ (LF [(0,sL d p0 f),(3,iv (l:Int)),(4,pV t),(13,sL d p0 f),(14,iv (p0.length:Int)),(15,iv (l:Int)),(33,bV ((decide (b.Kind<1))||(decide (7<b.Kind))))]) (LE [(4,bx t #[sv b.Name,iv b.Kind,iv b.Group] 223)]) _
      refine Tr.k Z (ae (aa (aN Z H (fun H=>?_) (fun H=>?_))))
      ·refine aj (Tr.k Z (ae (aa (aJ (au (au (ai (ai (au (ai ?_))))))))))
       obtain rfl:=oI H
       exact bD leB
      ·refine aj (aD (ag Ag) Z (aC Z (fun _ _ a c=>ah bF (a.ev Z) (bN c (vs:=[sv b.Name,iv b.Kind,iv b.Group]) (k:=4) Z 2) Z) (av bi Z Z (aA Z (bM 4 [(0,sL d p0 f),(3,iv (l:Int)),(4,pV t),(13,sL d p0 f),(14,iv (p0.length:Int)),(15,iv (l:Int)),(42,bV ((decide (b.Group<0))||(decide (200<b.Group))))] [(4,bx t #[sv b.Name,iv b.Kind,iv b.Group] 223)] ?_ ?_)))))
       ·cases v:(decide (b.Group<0))
        ·exact bC (ag Ag) Z (Tr.x (fun _ _ a c=>ah bF (a.ev Z) (bN c (vs:=[sv b.Name,iv b.Kind,iv b.Group]) (k:=4) Z 2) Z) (dI dE Z Z (av aU Z Z (ae (aR (.r Z) (.r Z))))))
        ·exact aG Z (aG Z (aG Z (av aT Z Z (ae (aR (.r Z) (.r Z))))))
       ·show Tr _ _ (LF [(0,sL d p0 f),(3,iv (l:Int)),(4,pV t),(13,sL d p0 f),(14,iv (p0.length:Int)),(15,iv (l:Int)),(42,bV ((decide (b.Group<0))||(decide (200<b.Group))))]) (LE [(4,bx t #[sv b.Name,iv b.Kind,iv b.Group] 223)]) _
        refine Tr.k Z (ae (aa (aN Z H (fun H=>?_) (fun H=>?_))))
        ·refine aj (Tr.k Z (ae (aa (aJ (au (au (ai (ai (au (ai ?_))))))))))
         obtain rfl:=oI H
         exact bD leB
        ·refine az (fZ (by kernel_rfl) (by kernel_rfl) (dY Z (dL dE Z Z (dY Z ?_))))
         obtain⟨T,u,H⟩:=bnd H
         refine mi 10 [(0,sL d p0 f),(13,sL d p0 f),(14,iv (p0.length:Int)),(15,iv (l:Int)),(56,bV T)] ?_ ?_
         ·cases v:(decide (0<(l:Int)))
          ·rw[v] at u
           rw[if_neg (by decide)] at u
           have H:=u
           obtain rfl:=oI H
           exact bB Z (bB Z (bB Z (bB Z (bB Z (bB Z (bB Z (bB Z (bB Z (dL aU Z Z (bK (.r Z)))))))))))
          ·rw[v] at u
           rw[if_pos Z] at u
           have H:=u
           refine dJ (ag DN) Z (Tq.x (fun _ _ a c=>ah jD (a.ev Z) (bN c (vs:=[sv b.Name,iv b.Kind,iv b.Group]) (k:=4) Z 0) Z) (dJ run_move Z (dJ run_move Z (lg gH Z Z ?_))))
           obtain⟨X,Q,H⟩:=bnd H
           obtain⟨K,L,M⟩:=bJ Q
           refine Tq.x (fun _ _ a c=>aB Cu (a.ev Z) g.form (a.ev Z) K L) (dJ (ag DN) Z (Tq.x (fun _ _ a c=>ah jD (a.ev Z) (aI.drop (pq rf g M c) 0) Z) (lg pI Z Z (dL aT Z Z ?_))))
           obtain rfl:=oI H
           exact bK (.r Z)
         ·refine jB Z Z (gz (aa (aN Z H (fun H=>?_) (fun H=>?_))))
          ·refine aj (Tr.k Z (ae (aa (aJ (au (au (ai (ai (au (ai ?_))))))))))
           obtain rfl:=oI H
           exact bD leB
          ·exact aM (aQ (aQ (aa (aV (av bE Z Z (aA Z (ae (aP A (i,(l+1)) ⟨Z,df o,bq o,H⟩ (.cons Z (.cons Z (.cons Z (.cons (congrArg (fun z=>some (Value.int .i64 z)) (cZ o g.form)) .nil)))) .nil))))))))

theorem yJ(N:Nat){w:Bs}(p0:(List dG))(i:Option Addr)(j:Nat)(l:Sl w.R w.W iB i j p0)(r:Int)(H:mU N p0=some r)(hE:HF w w.W E0):Calls Tryz.prog 56 [sL i p0 j].toArray w.W fun e W'=>e= .returned (iv r)∧HF w W' E0:=by
 unfold mU at H
 have leB:=Bs.Le.refl w
 refine aX (n:=40) Tryz.func56 Z Z Z hE (aj (Tr.k Z (ae (aa (az (aj (aA Z (aD (bA QF) Z (av dE Z Z (ae (aa (aN Z H (fun H=>?_) (fun H=>?_)))))))))))))
 ·refine aj (Tr.k Z (ae (aa (aJ (ai ?_)))))
  obtain rfl:=oI H
  exact bD leB
 ·refine aM (aa (az (aj (aA Z (aD (bA QF) Z (aA Z (ae (aa (Tr.block (cO (σ:=(List dG)×Nat) (fun m w s=>m=s.1.length+1∧s.1=List.drop s.2 p0∧s.2≤p0.length∧iw N p0 s.1 s.2=some r) (fun s=>[(0,sL i p0 j),(9,sL i p0 j),(10,iv (p0.length:Int)),(11,iv (s.2:Int))]) (fun s=>[]) (p0.length+1) (p0,0) ⟨Z,Z,Nat.zero_le _,H⟩ (.r Z) .nil (fun _ _ h=>absurd h.1 (by simp)) ?_))))))))))
  intro w u m s hs
  obtain⟨f,t⟩:=s
  obtain⟨v,o,a2,H⟩:=hs
  replace o:f=List.drop t p0:=o
  replace H:iw N p0 f t=some r:=H
  replace v:m+1=f.length+1:=v
  replace l:=l.iR u
  replace leB:=leB.trans u
  obtain rfl:m=f.length:=by omega
  clear v
  dsimp only
  cases f with
  |nil=>
   rw[iw.eq_1] at H
   refine aj (av bi Z Z (ae (aa (az (dn Z (cz o) (bZ (aF (aF (bg (aa (aj (Tr.k Z (ae (aa (aJ ?_)))))))))))))))
   obtain rfl:=oI H
   exact bD leB
  | cons g f=>
   rw[iw.eq_2] at H
   refine aj (av bi Z Z (ae (aa (az (dm Z (dz o) (aM (aa (az (Tr.block (aj (aA Z ?_)))))))))))
   obtain⟨S,C,A,D⟩:=(l).el (dA o)
   obtain⟨b,d⟩:=S
   have p:=A
   replace p:Sl w.R w.W jG b d g.Pins:=p
   refine aC Z (fun _ _ a c=>aB JS (a.ev Z) l.form (a.ev Z) (Int.natCast_nonneg _) (bq o)) (aC Z (fun _ _ a c=>aL (cs:=[sv g.Name,sL b g.Pins d]) IB EG (a.ev Z) (aI.take (tY C D c) 2) Z) (Tr.alloc 2 (wn Z) Z VS fun a0=>(Tr.k Z (bv 2 (cs:=[sv g.Name,sL b g.Pins d]) [sv g.Name,sL b g.Pins d] (wn Z) Z Z Z Z EG Z Z Z (ae (aa (az (aj (aD (ag DW) Z (aC Z (fun _ _ a c=>ah jD (a.ev Z) (bN c (vs:=[sv g.Name,sL b g.Pins d]) (k:=2) Z 0) Z) ?_))))))))))
   obtain⟨E,M,H⟩:=bnd H
   refine aS (r:=(bV E)) (wn Z) Z Tryz.call64 (ak Z aH) (fun W hW=>jJ N g.Name E M (HF.start _)) (aD bT Z (ae (aa (aN Z H (fun H=>?_) (fun H=>?_)))))
   ·refine aj (Tr.k Z (ae (aa (aJ (ai (au (ai (ai (au (ai ?_))))))))))
    obtain rfl:=oI H
    exact bD leB
   ·refine aM (aa (az (aj (aD (ag Mi) Z (aC Z (fun _ _ a c=>ah Tj (a.ev Z) (bN c (vs:=[sv g.Name,sL b g.Pins d]) (k:=2) Z 1) Z) ?_)))))
    obtain⟨F,O,H⟩:=bnd H
    refine aS (r:=(iv F)) (wn Z) Z Tryz.call105 (ak Z aH) (fun W hW=>zw N g.Pins b d (p.ext hW.aY) F O (HF.start _)) (Tr.k Z (ae (aa (aj (aA Z (av dW Z Z (ae (aa (aN Z H (fun H=>?_) (fun H=>?_))))))))))
    ·refine aj (aA Z (Tr.k Z (ae (aa (aJ (ai (au (ai (ai (au (ai ?_)))))))))))
     obtain rfl:=oI H
     exact bD leB
    ·refine aM (aa (az (fZ (by kernel_rfl) (by kernel_rfl) (dY Z (dL dE Z Z (dY Z ?_))))))
     obtain⟨T,q,H⟩:=bnd H
     refine mi 10 [(0,sL i p0 j),(9,sL i p0 j),(10,iv (p0.length:Int)),(11,iv (t:Int)),(38,bV T)] ?_ ?_
     ·cases y:(decide (0<(t:Int)))
      ·rw[y] at q
       rw[if_neg (by decide)] at q
       have H:=q
       obtain rfl:=oI H
       exact bB Z (bB Z (bB Z (bB Z (bB Z (bB Z (bB Z (bB Z (bB Z (dL aU Z Z (bK (.r Z)))))))))))
      ·rw[y] at q
       rw[if_pos Z] at q
       have H:=q
       refine dJ (ag DW) Z (Tq.x (fun _ _ a c=>ah jD (a.ev Z) (bN c (vs:=[sv g.Name,sL b g.Pins d]) (k:=2) Z 0) Z) (dJ run_move Z (dJ run_move Z (lg gH Z Z ?_))))
       obtain⟨a1,P,H⟩:=bnd H
       obtain⟨G,I,J⟩:=bJ P
       obtain⟨U,K,B,L⟩:=(l).el J
       obtain⟨V,X⟩:=U
       have Q:=B
       refine Tq.x (fun _ _ a c=>aB JS (a.ev Z) l.form (a.ev Z) G I) (dJ (ag DW) Z (Tq.x (fun _ _ a c=>ah jD (a.ev Z) (aI.drop (tY K L c) 0) Z) (lg pI Z Z (dL aT Z Z ?_))))
       obtain rfl:=oI H
       exact bK (.r Z)
     ·refine gz (aa (aN Z H (fun H=>?_) (fun H=>?_)))
      ·refine aj (Tr.k Z (ae (aa (aJ (au (ai (ai (au (ai ?_)))))))))
       obtain rfl:=oI H
       exact bD leB
      ·exact aM (aQ (aa (aV (av bE Z Z (aA Z (ae (aP u (f,(t+1)) ⟨Z,df o,bq o,H⟩ (.cons Z (.cons Z (.cons Z (.cons (congrArg (fun z=>some (Value.int .i64 z)) (cZ o l.form)) .nil)))) .nil)))))))

theorem jO{w:Bs}(p0:ByteArray)(p1:ByteArray)(r:Int)(H:Ja p0 p1=some r)(hE:HF w w.W E0):Calls Tryz.prog 114 [sv p0,sv p1].toArray w.W fun e W'=>e= .returned (iv r)∧HF w W' E0:=
 Qe (ρ:=Tryz.Ay) Tryz.Oa H hE

theorem uP{w:Bs}(p0:dG)(b:Option Addr)(d:Nat)(h:Sl w.R w.W jG b d p0.Pins)(p1:ByteArray)(r:Int)(H:ol p0 p1=some r)(hE:HF w w.W E0):Calls Tryz.prog 124 [.agg #[sv p0.Name,sL b p0.Pins d],sv p1].toArray w.W fun e W'=>e= .returned (iv r)∧HF w W' E0:=by
 unfold ol at H
 have leB:=Bs.Le.refl w
 refine aX (n:=9) Tryz.func124 Z Z Z hE (aj (dh 1 (cs:=[sv p0.Name,sL b p0.Pins d]) (wn Z) Z Z Z fun i=>(Tr.k Z (ae (aa (aj (aD (ag DW) Z (aC Z (fun _ _ a c=>ah jD (a.ev Z) (bN c (vs:=[sv p0.Name,sL b p0.Pins d]) (k:=1) Z 0) Z) (aA Z ?_)))))))))
 obtain⟨f,g,H⟩:=bnd H
 refine aS (r:=(iv f)) (wn Z) Z Tryz.call114 (ak Z (ak Z aH)) (fun W hW=>jO p0.Name p1 f g (HF.start _)) (Tr.k Z (ae (aa (aJ ?_))))
 obtain rfl:=oI H
 exact bD leB

theorem nk(N:Nat){w:Bs}(p0:(List dG))(q:Option Addr)(t:Nat)(f:Sl w.R w.W iB q t p0)(p1:ByteArray)(r:(Int×Bool))(H:gQ N p0 p1=some r)(hE:HF w w.W E0):Calls Tryz.prog 123 [sL q p0 t,sv p1,.func (.func 124) #[] #[]].toArray w.W fun e W'=>e= .returned (.tuple #[iv r.1,bV r.2])∧HF w W' E0:=by
 unfold gQ at H
 have leB:=Bs.Le.refl w
 refine aX (n:=49) Tryz.func123 Z Z Z hE (aj (Tr.k Z (Tr.k Z (ae (aa (aj (aA Z (aD (bA QF) Z (Tr.k Z (ae (aa (aj (aA Z (Tr.k Z (Tr.k Z (ae (aa (az (Tr.block (cO (σ:=Int×Int) (fun m w s=>dx p0 p1 m s.1 s.2=some r) (fun s=>[(0,sL q p0 t),(1,sv p1),(2,.func (.func 124) #[] #[]),(8,iv (p0.length:Int)),(9,iv s.1),(10,iv s.2)]) (fun s=>[]) N (0,(p0.length:Int)) H (.r Z) .nil (fun _ _ h=>oq (h)) ?_))))))))))))))))))))
 intro w u a4 s hs
 obtain⟨i,z⟩:=s
 have H:=hs
 replace H:dx p0 p1 (a4+1) i z=some r:=H
 replace f:=f.iR u
 replace leB:=leB.trans u
 rw[dx.eq_2] at H
 dsimp only
 refine az (aj (aA Z (aA Z (av bi Z Z (ae (aa (aN Z H (fun H=>?_) (fun H=>?_))))))))
 ·refine aM (aa (Tr.block (aj (aA Z (aA Z (av bE Z Z ?_))))))
  obtain⟨a5,U,H⟩:=bnd H
  refine aC Z (fun _ _ a c=>Di IX xB (a.ev Z) U) (av z8 Z Z ?_)
  obtain⟨E,V,H⟩:=bnd H
  refine aC Z (fun _ _ a c=>Dj xB IX (a.ev Z) V) (Tr.k Z (ae (aa (aj (aA Z (aA Z (aA Z ?_)))))))
  obtain⟨v,X,H⟩:=bnd H
  obtain⟨F,G,I⟩:=bJ X
  obtain⟨a2,J,C,K⟩:=(f).el I
  obtain⟨j,l⟩:=a2
  have b:=C
  replace b:Sl w.R w.W jG j l v.Pins:=b
  refine aC Z (fun _ _ a c=>aB JS (a.ev Z) f.form (a.ev Z) F G) (aC Z (fun _ _ a c=>aL (cs:=[sv v.Name,sL j v.Pins l]) IB EG (a.ev Z) (aI.take (tY J K c) 2) Z) (aA Z ?_))
  obtain⟨L,a6,H⟩:=bnd H
  refine kC (r:=(iv L)) (wn Z) Z Z Tryz.call124 (ak Z (ak Z aH)) (fun W hW=>uP v j l (b.ext hW.aY) p1 L a6 (HF.start _)) (av bi Z Z (ae (aa (aN Z H (fun H=>?_) (fun H=>?_)))))
  ·exact aV (aA Z (av bE Z Z (Tr.k Z (ae (aQ (aP u ((bP (E+1)),z) H (.r Z) .nil))))))
  ·exact aV (aA Z (Tr.k Z (ae (aQ (aP u (i,E) H (.r Z) .nil)))))
 ·refine bZ (aF (aF (bg (aa (aj (aA Z (aA Z (aA Z (av bi Z Z (aA Z ?_))))))))))
  obtain⟨A,g,H⟩:=bnd H
  refine bM 9 [(35,iv i),(48,bV A)] [] ?_ ?_
  ·cases B:(decide (i<(p0.length:Int)))
   ·rw[B] at g
    rw[if_neg (by decide)] at g
    have H:=g
    obtain rfl:=oI H
    exact aG Z (aG Z (aG Z (aG Z (aG Z (aG Z (aG Z (aG Z (av aU Z Z (ae (aR (.r Z) .nil))))))))))
   ·rw[B] at g
    rw[if_pos Z] at g
    have H:=g
    refine bC run_move Z (bC run_move Z (bC run_move Z ?_))
    obtain⟨y,a0,H⟩:=bnd H
    obtain⟨M,O,P⟩:=bJ a0
    obtain⟨a3,Q,D,S⟩:=(f).el P
    obtain⟨o,p⟩:=a3
    have d:=D
    replace d:Sl w.R w.W jG o p y.Pins:=d
    refine Tr.x (fun _ _ a c=>aB JS (a.ev Z) f.form (a.ev Z) M O) (Tr.x (fun _ _ a c=>aL (cs:=[sv y.Name,sL o y.Pins p]) IB EG (a.ev Z) (aI.take (tY Q S c) 2) Z) (bC run_move Z ?_))
    obtain⟨T,a1,H⟩:=bnd H
    refine kC (r:=(iv T)) (wg Z Z Z) Z Z Tryz.call124 (ak Z (ak Z aH)) (fun W hW=>uP y o p (d.ext hW.aY) p1 T a1 (HF.start _)) (dI dM Z Z (av aT Z Z ?_))
    obtain rfl:=oI H
    exact ae (aR (.r Z) .nil)
  ·show Tr _ _ (LF [(35,iv i),(48,bV A)]) (LE []) _
   refine Tr.k Z (Tr.k Z (ae (aa (aJ ?_))))
   obtain rfl:=oI H
   exact bR (m:=[iv i,bV A]) [] (bu Z (bu Z bG)) (fun W hW=>⟨Z,hW.low leB⟩)

theorem su(N:Nat){w:Bs}(p0:(List dG))(b:Option Addr)(d:Nat)(g:Sl w.R w.W iB b d p0)(p1:ByteArray)(r:Int)(H:jF N p0 p1=some r)(hE:HF w w.W E0):Calls Tryz.prog 76 [sL b p0 d,sv p1].toArray w.W fun e W'=>e= .returned (iv r)∧HF w W' E0:=by
 unfold jF at H
 have leB:=Bs.Le.refl w
 refine aX (n:=16) Tryz.func76 Z Z Z hE (aj (Tr.k Z (ae (aa (aj (aA Z (aA Z ?_)))))))
 obtain⟨f,h,H⟩:=bnd H
 refine aS (r:=(.tuple #[iv f.1,bV f.2])) (wn Z) Z Tryz.call123 (ak Z (ak Z (ak Z aH))) (fun W hW=>nk N p0 b d (g.ext hW.aY) p1 f h (HF.start _)) (aA Z (aC Z (fun _ _ a c=>bX (a.ev Z) Z) (aC Z (fun _ _ a c=>bX (a.ev Z) Z) (Tr.k Z (Tr.k Z (ae (aa (az (aj (aA Z (aD bT Z (ae (aa (aN Z H (fun H=>?_) (fun H=>?_)))))))))))))))
 ·refine aj (Tr.k Z (ae (aa (aJ (ai ?_)))))
  obtain rfl:=oI H
  exact bD leB
 ·refine aM (aa (aj (aA Z (Tr.k Z (ae (aa (aJ ?_)))))))
  obtain rfl:=oI H
  exact bD leB

theorem yI(N:Nat){w:Bs}(p0:(List dG))(l:Option Addr)(o:Nat)(v:Sl w.R w.W iB l o p0)(p1:(List oo))(d:Option Addr)(f:Nat)(i:Sl w.R w.W mH d f p1)(p2:ByteArray→Option Bool)(fid2:Nat)(q:List Value)(hg2:∀args W,(callFunc fid2 args).run Tryz.prog W= .ok (.enter fid2 args) W)(hf2:∀(w':Bs),w.Ext w'→∀(z0:ByteArray),∀y,p2 z0=some y→Calls Tryz.prog fid2 (([sv z0]:List Value)++q).toArray w'.W fun e W''=>e= .returned (bV y)∧HF w' W'' E0)(r:Int)(H:mR N p0 p1 p2=some r)(hE:HF w w.W E0):Calls Tryz.prog 57 [sL l p0 o,sL d p1 f,.func (.func fid2) #[] q.toArray].toArray w.W fun e W'=>e= .returned (iv r)∧HF w W' E0:=by
 unfold mR at H
 have leB:=Bs.Le.refl w
 refine aX (n:=46) Tryz.func57 Z Z Z hE (aj (Tr.k Z (ae (aa (az (aj (aA Z (aD (bA QE) Z (av dE Z Z (ae (aa (aN Z H (fun H=>?_) (fun H=>?_)))))))))))))
 ·refine aj (Tr.k Z (ae (aa (aJ (ai ?_)))))
  obtain rfl:=oI H
  exact bD leB
 ·refine aM (aa (az (aj (aA Z (aD (bA QE) Z (aA Z (ae (aa (Tr.block (cO (σ:=(List oo)×Nat) (fun m w s=>m=s.1.length+1∧s.1=List.drop s.2 p1∧s.2≤p1.length∧iq N p0 p1 p2 s.1 s.2=some r) (fun s=>[(0,sL l p0 o),(1,sL d p1 f),(2,.func (.func fid2) #[] q.toArray),(12,sL d p1 f),(13,iv (p1.length:Int)),(14,iv (s.2:Int))]) (fun s=>[]) (p1.length+1) (p1,0) ⟨Z,Z,Nat.zero_le _,H⟩ (.r Z) .nil (fun _ _ h=>absurd h.1 (by simp)) ?_))))))))))
  intro w t m s hs
  obtain⟨b,u⟩:=s
  obtain⟨A,j,M,H⟩:=hs
  replace j:b=List.drop u p1:=j
  replace H:iq N p0 p1 p2 b u=some r:=H
  replace A:m+1=b.length+1:=A
  replace v:=v.iR t
  replace i:=i.iR t
  replace hf2:=fun w' he=>hf2 w' (t.ext.trans he)
  replace leB:=leB.trans t
  obtain rfl:m=b.length:=by omega
  clear A
  dsimp only
  cases b with
  |nil=>
   rw[iq.eq_1] at H
   refine aj (av bi Z Z (ae (aa (az (dn Z (cz j) (bZ (aF (aF (bg (aa (aj (Tr.k Z (ae (aa (aJ ?_)))))))))))))))
   obtain rfl:=oI H
   exact bD leB
  | cons g b=>
   rw[iq.eq_2] at H
   refine aj (av bi Z Z (ae (aa (az (dm Z (dz j) (aM (aa (az (Tr.block (aj (aA Z (aC Z (fun _ _ a c=>aB ME (a.ev Z) i.form (a.ev Z) (Int.natCast_nonneg _) (bq j)) (aC Z (fun _ _ a c=>aL (cs:=[sv g.Name,sv g.Type_]) Oe Kl (a.ev Z) (aI.take (pq yo i (dA j) c) 2) Z) (Tr.alloc 2 (wn Z) Z VQ fun O=>(Tr.k Z (bv 2 (cs:=[sv g.Name,sv g.Type_]) [sv g.Name,sv g.Type_] (wn Z) Z Z Z Z Kl Z Z Z (ae (aa (Tr.block (aj (aA Z (aD (ag DV) Z (aC Z (fun _ _ a c=>ah jD (a.ev Z) (bN c (vs:=[sv g.Name,sv g.Type_]) (k:=2) Z 0) Z) ?_)))))))))))))))))))))))
   obtain⟨K,G,H⟩:=bnd H
   refine kC (r:=(bV K)) (wn Z) Z Z hg2 (ak Z aH) (fun W hW=>hf2 hW.all hW.aY g.Name _ G) (aD bT Z (Tr.k Z (ae (aa (aN Z H (fun H=>?_) (fun H=>?_))))))
   ·refine aj (Tr.k Z (ae (aa (aJ (au (au (ai (ai (au (ai ?_))))))))))
    obtain rfl:=oI H
    exact bD leB
   ·refine aj (aA Z (aD (ag Mg) Z (aC Z (fun _ _ a c=>ah jD (a.ev Z) (bN c (vs:=[sv g.Name,sv g.Type_]) (k:=2) Z 1) Z) ?_)))
    obtain⟨C,I,H⟩:=bnd H
    refine aS (r:=(iv C)) (wn Z) Z Tryz.call76 (ak Z (ak Z aH)) (fun W hW=>su N p0 l o (v.ext hW.aY) g.Type_ C I (HF.start _)) (av bi Z Z (Tr.k Z (ae (aa (aN Z H (fun H=>?_) (fun H=>?_))))))
    ·refine aj (Tr.k Z (ae (aa (aJ (au (au (ai (ai (au (ai ?_))))))))))
     obtain rfl:=oI H
     exact bD leB
    ·refine az (fZ (by kernel_rfl) (by kernel_rfl) (dY Z (dL dE Z Z (dY Z ?_))))
     obtain⟨L,p,H⟩:=bnd H
     refine mi 10 [(0,sL l p0 o),(1,sL d p1 f),(2,.func (.func fid2) #[] q.toArray),(12,sL d p1 f),(13,iv (p1.length:Int)),(14,iv (u:Int)),(44,bV L)] ?_ ?_
     ·cases B:(decide (0<(u:Int)))
      ·rw[B] at p
       rw[if_neg (by decide)] at p
       have H:=p
       obtain rfl:=oI H
       exact bB Z (bB Z (bB Z (bB Z (bB Z (bB Z (bB Z (bB Z (bB Z (dL aU Z Z (bK (.r Z)))))))))))
      ·rw[B] at p
       rw[if_pos Z] at p
       have H:=p
       refine dJ (ag DV) Z (Tq.x (fun _ _ a c=>ah jD (a.ev Z) (bN c (vs:=[sv g.Name,sv g.Type_]) (k:=2) Z 0) Z) (dJ run_move Z (dJ run_move Z (lg gH Z Z ?_))))
       obtain⟨P,J,H⟩:=bnd H
       obtain⟨D,E,F⟩:=bJ J
       refine Tq.x (fun _ _ a c=>aB ME (a.ev Z) i.form (a.ev Z) D E) (dJ (ag DV) Z (Tq.x (fun _ _ a c=>ah jD (a.ev Z) (aI.drop (pq yo i F c) 0) Z) (lg pI Z Z (dL aT Z Z ?_))))
       obtain rfl:=oI H
       exact bK (.r Z)
     ·refine jB Z Z (gz (aa (aN Z H (fun H=>?_) (fun H=>?_))))
      ·refine aj (Tr.k Z (ae (aa (aJ (au (au (ai (ai (au (ai ?_))))))))))
       obtain rfl:=oI H
       exact bD leB
      ·exact aM (aQ (aQ (aa (aV (av bE Z Z (aA Z (ae (aP t (b,(u+1)) ⟨Z,df j,bq j,H⟩ (.cons Z (.cons Z (.cons Z (.cons Z (.cons Z (.cons (congrArg (fun z=>some (Value.int .i64 z)) (cZ j i.form)) .nil)))))) .nil))))))))

theorem CB{w:Bs}(hT:Nj Tryz.prog w)(p0:ByteArray)(p1:ByteArray)(r:(List ByteArray))(H:EK p0 p1=some r)(hE:HF w w.W (mF [emp])):Calls Tryz.prog 107 [sv p0,sv p1].toArray w.W fun e W'=>∃u:(Option Addr×Nat),e= .returned (sL u.1 r u.2)∧(fQ u.1 r.length u.2)∧HF w W' (mF [ow u.1 u.2 9 ug r]):=
 Lr (ρ:=Tryz.De) Tryz.GD hT Tryz.GD.g1 (t:=ug) Z Cv () Nu (by kernel_rfl) H hE

theorem vK{w:Bs}(p0:(List ByteArray))(g:Option Addr)(i:Nat)(f:Sl w.R w.W ug g i p0)(p1:ByteArray→Option Bool)(fid1:Nat)(j:List Value)(hg1:∀args W,(callFunc fid1 args).run Tryz.prog W= .ok (.enter fid1 args) W)(hf1:∀(w':Bs),w.Ext w'→∀(z0:ByteArray),∀y,p1 z0=some y→Calls Tryz.prog fid1 (([sv z0]:List Value)++j).toArray w'.W fun e W''=>e= .returned (bV y)∧HF w' W'' E0)(r:Int)(H:lX p0 p1=some r)(hE:HF w w.W E0):Calls Tryz.prog 154 [sL g p0 i,.func (.func fid1) #[] j.toArray].toArray w.W fun e W'=>e= .returned (iv r)∧HF w W' E0:=by
 unfold lX at H
 have leB:=Bs.Le.refl w
 refine aX (n:=19) Tryz.func154 Z Z Z hE (aj (Tr.k Z (ae (aa (az (aj (aA Z (aD (bA Gt) Z (aA Z (ae (aa (Tr.block (cO (σ:=(List ByteArray)×Nat) (fun m w s=>m=s.1.length+1∧s.1=List.drop s.2 p0∧s.2≤p0.length∧iy p1 s.1 s.2=some r) (fun s=>[(0,sL g p0 i),(1,.func (.func fid1) #[] j.toArray),(7,iv (p0.length:Int)),(8,iv (s.2:Int))]) (fun s=>[]) (p0.length+1) (p0,0) ⟨Z,Z,Nat.zero_le _,H⟩ (.r Z) .nil (fun _ _ h=>absurd h.1 (by simp)) ?_)))))))))))))
 intro w l m s hs
 obtain⟨b,p⟩:=s
 obtain⟨o,d,v,H⟩:=hs
 replace d:b=List.drop p p0:=d
 replace H:iy p1 b p=some r:=H
 replace o:m+1=b.length+1:=o
 replace f:=f.iR l
 replace hf1:=fun w' he=>hf1 w' (l.ext.trans he)
 replace leB:=leB.trans l
 obtain rfl:m=b.length:=by omega
 clear o
 dsimp only
 cases b with
 |nil=>
  rw[iy.eq_1] at H
  refine aj (av bi Z Z (ae (aa (az (dn Z (cz d) (bZ (aF (aF (bg (aa (aj (Tr.k Z (ae (aa (aJ ?_)))))))))))))))
  obtain rfl:=oI H
  exact bD leB
 | cons u b=>
  rw[iy.eq_2] at H
  refine aj (av bi Z Z (ae (aa (az (dm Z (dz d) (aM (aa (az (Tr.block (aj (aA Z (Tr.k Z (ae (aa (aj (aA Z (aA Z (aA Z (aC Z (fun _ _ a c=>aB KO (a.ev Z) f.form (a.ev Z) (Int.natCast_nonneg _) (bq d)) (aC Z (fun _ _ a c=>ah jD (a.ev Z) (pq Cv f (dA d) c) Z) ?_))))))))))))))))))))
  obtain⟨t,q,H⟩:=bnd H
  refine kC (r:=(bV t)) (wn Z) Z Z hg1 (ak Z aH) (fun W hW=>hf1 hW.all hW.aY u _ q) (ae (aa (aN Z H (fun H=>?_) (fun H=>?_))))
  ·refine aj (aA Z (Tr.k Z (ae (aa (aJ (au (ai (ai (au (ai ?_))))))))))
   obtain rfl:=oI H
   exact bD leB
  ·exact aM (aQ (aa (aV (av bE Z Z (aA Z (ae (aP l (b,(p+1)) ⟨Z,df d,bq d,H⟩ (.cons Z (.cons Z (.cons Z (.cons (congrArg (fun z=>some (Value.int .i64 z)) (cZ d f.form)) .nil)))) .nil)))))))

theorem uH{w:Bs}(p0:(List ByteArray))(a:Option Addr)(b:Nat)(f:Sl w.R w.W ug a b p0)(p1:ByteArray→Option Bool)(fid1:Nat)(c:List Value)(hg1:∀args W,(callFunc fid1 args).run Tryz.prog W= .ok (.enter fid1 args) W)(hf1:∀(w':Bs),w.Ext w'→∀(z0:ByteArray),∀y,p1 z0=some y→Calls Tryz.prog fid1 (([sv z0]:List Value)++c).toArray w'.W fun e W''=>e= .returned (bV y)∧HF w' W'' E0)(r:Bool)(H:kX p0 p1=some r)(hE:HF w w.W E0):Calls Tryz.prog 106 [sL a p0 b,.func (.func fid1) #[] c.toArray].toArray w.W fun e W'=>e= .returned (bV r)∧HF w W' E0:=by
 unfold kX at H
 have leB:=Bs.Le.refl w
 refine aX (n:=9) Tryz.func106 Z Z Z hE (aj (Tr.k Z (ae (aa (aj (aA Z (aA Z ?_)))))))
 obtain⟨d,g,H⟩:=bnd H
 refine aS (r:=(iv d)) (wn Z) Z Tryz.call154 (ak Z (ak Z aH)) (fun W hW=>vK p0 a b (f.ext hW.aY) p1 fid1 c hg1 (fun w' he=>hf1 w' (hW.aY.trans he)) d g (HF.start _)) (av kG Z Z (Tr.k Z (ae (aa (aJ ?_)))))
 obtain rfl:=oI H
 exact bD leB

theorem zQ(N:Nat){w:Bs}(p0:ByteArray)(r:Bool)(H:lm N p0=some r)(hE:HF w w.W E0):Calls Tryz.prog 108 [sv p0].toArray w.W fun e W'=>e= .returned (bV r)∧HF w W' E0:=by
 unfold lm at H
 have leB:=Bs.Le.refl w
 refine aX (n:=6) Tryz.func108 Z Z Z hE (aj (Tr.k Z (ae (aa (aj (aA Z ?_))))))
 obtain⟨a,b,H⟩:=bnd H
 refine aS (r:=(bV a)) (wn Z) Z Tryz.call64 (ak Z aH) (fun W hW=>jJ N p0 a b (HF.start _)) (aD bT Z (Tr.k Z (ae (aa (aJ ?_)))))
 obtain rfl:=oI H
 exact bD leB

theorem pE(N:Nat){w:Bs}(hT:Nj Tryz.prog w)(p0:ByteArray)(r:Bool)(H:ji N p0=some r)(hE:HF w w.W E0):Calls Tryz.prog 58 [sv p0].toArray w.W fun e W'=>e= .returned (bV r)∧HF w W' E0:=by
 unfold ji at H
 have leB:=Bs.Le.refl w
 refine aX (n:=12) Tryz.func58 Z Z Z hE (aj (Tr.k Z (ae (aa (aj (aA Z (aD (wu EE) Z (av iT Z Z (aA Z ?_)))))))))
 cases d:(decide ((p0.size:Int)≤200))
 ·rw[d,if_neg (by decide)] at H
  refine aG Z (aG Z (aG Z (aG Z (av aU Z Z (Tr.k Z (ae (aa (aJ ?_))))))))
  obtain rfl:=oI H
  exact bD leB
 ·rw[d,if_pos Z] at H
  refine bC run_move Z ?_
  obtain⟨a,h,H⟩:=bnd H
  refine kz [2] [emp] (U:=(Option Addr×Nat)) (fun u=>(sL u.1 a u.2)) (fun u=>fQ u.1 a.length u.2) (fun u=>[ow u.1 u.2 9 ug a]) Z (bn Z bO) (fun _=>Z) (wg Z Z Z) Z Tryz.call107 (ak Z (ak Z aH)) (fun W hW hp hE=>CB (hT.ext (hW.fM hp)) p0 (⟨#[47]⟩) a h hE) ?_
  intro u hu
  obtain⟨b,c⟩:=u
  have f:=hu
  have j:fQ b a.length c:=f --@phi
  dsimp only
  obtain⟨g,i,H⟩:=bnd H
  refine aS (r:=(bV g)) (wg Z Z Z) Z Tryz.call106 (ak Z (ak Z aH)) (fun W hW=>uH a b c (hW.wo (k:=2) Z) (fun z0=>lm N z0) 108 [] Tryz.call108 (fun w' he z0 y hy=>zQ N z0 y hy (HF.start _)) g i (HF.start _)) (bC bT Z (av aT Z Z (Tr.k Z (ae (aa (aJ ?_))))))
  obtain rfl:=oI H
  exact bD leB

theorem qP(N:Nat){w:Bs}(p0:(List oo))(g:Option Addr)(i:Nat)(b:Sl w.R w.W mH g i p0)(p1:ByteArray)(p2:oo→ByteArray→Option Int)(fid2:Nat)(l:List Value)(hg2:∀args W,(callFunc fid2 args).run Tryz.prog W= .ok (.enter fid2 args) W)(hf2:∀(w':Bs),w.Ext w'→∀(z0:oo) (z1:ByteArray),∀y,p2 z0 z1=some y→Calls Tryz.prog fid2 (([.agg #[sv z0.Name,sv z0.Type_],sv z1]:List Value)++l).toArray w'.W fun e W''=>e= .returned (iv y)∧HF w' W'' E0)(r:(Int×Bool))(H:jZ N p0 p1 p2=some r)(hE:HF w w.W E0):Calls Tryz.prog 156 [sL g p0 i,sv p1,.func (.func fid2) #[] l.toArray].toArray w.W fun e W'=>e= .returned (.tuple #[iv r.1,bV r.2])∧HF w W' E0:=by
 unfold jZ at H
 have leB:=Bs.Le.refl w
 refine aX (n:=49) Tryz.func156 Z Z Z hE (aj (Tr.k Z (Tr.k Z (ae (aa (aj (aA Z (aD (bA QE) Z (Tr.k Z (ae (aa (aj (aA Z (Tr.k Z (Tr.k Z (ae (aa (az (Tr.block (cO (σ:=Int×Int) (fun m w s=>dZ p0 p1 p2 m s.1 s.2=some r) (fun s=>[(0,sL g p0 i),(1,sv p1),(2,.func (.func fid2) #[] l.toArray),(8,iv (p0.length:Int)),(9,iv s.1),(10,iv s.2)]) (fun s=>[]) N (0,(p0.length:Int)) H (.r Z) .nil (fun _ _ h=>oq (h)) ?_))))))))))))))))))))
 intro w j P s hs
 obtain⟨f,o⟩:=s
 have H:=hs
 replace H:dZ p0 p1 p2 (P+1) f o=some r:=H
 replace b:=b.iR j
 replace hf2:=fun w' he=>hf2 w' (j.ext.trans he)
 replace leB:=leB.trans j
 rw[dZ.eq_2] at H
 dsimp only
 refine az (aj (aA Z (aA Z (av bi Z Z (ae (aa (aN Z H (fun H=>?_) (fun H=>?_))))))))
 ·refine aM (aa (Tr.block (aj (aA Z (aA Z (av bE Z Z ?_))))))
  obtain⟨Q,F,H⟩:=bnd H
  refine aC Z (fun _ _ a c=>Di IX xB (a.ev Z) F) (av z8 Z Z ?_)
  obtain⟨v,G,H⟩:=bnd H
  refine aC Z (fun _ _ a c=>Dj xB IX (a.ev Z) G) (Tr.k Z (ae (aa (aj (aA Z (aA Z (aA Z ?_)))))))
  obtain⟨p,I,H⟩:=bnd H
  obtain⟨z,A,B⟩:=bJ I
  refine aC Z (fun _ _ a c=>aB ME (a.ev Z) b.form (a.ev Z) z A) (aC Z (fun _ _ a c=>aL (cs:=[sv p.Name,sv p.Type_]) Oe Kl (a.ev Z) (aI.take (pq yo b B c) 2) Z) (aA Z ?_))
  obtain⟨M,J,H⟩:=bnd H
  refine kC (r:=(iv M)) (wn Z) Z Z hg2 (ak Z (ak Z aH)) (fun W hW=>hf2 hW.all hW.aY p p1 _ J) (av bi Z Z (ae (aa (aN Z H (fun H=>?_) (fun H=>?_)))))
  ·exact aV (aA Z (av bE Z Z (Tr.k Z (ae (aQ (aP j ((bP (v+1)),o) H (.r Z) .nil))))))
  ·exact aV (aA Z (Tr.k Z (ae (aQ (aP j (f,v) H (.r Z) .nil)))))
 ·refine bZ (aF (aF (bg (aa (aj (aA Z (aA Z (aA Z (av bi Z Z (aA Z ?_))))))))))
  obtain⟨q,d,H⟩:=bnd H
  refine bM 9 [(35,iv f),(48,bV q)] [] ?_ ?_
  ·cases u:(decide (f<(p0.length:Int)))
   ·rw[u] at d
    rw[if_neg (by decide)] at d
    have H:=d
    obtain rfl:=oI H
    exact aG Z (aG Z (aG Z (aG Z (aG Z (aG Z (aG Z (aG Z (av aU Z Z (ae (aR (.r Z) .nil))))))))))
   ·rw[u] at d
    rw[if_pos Z] at d
    have H:=d
    refine bC run_move Z (bC run_move Z (bC run_move Z ?_))
    obtain⟨t,K,H⟩:=bnd H
    obtain⟨C,D,E⟩:=bJ K
    refine Tr.x (fun _ _ a c=>aB ME (a.ev Z) b.form (a.ev Z) C D) (Tr.x (fun _ _ a c=>aL (cs:=[sv t.Name,sv t.Type_]) Oe Kl (a.ev Z) (aI.take (pq yo b E c) 2) Z) (bC run_move Z ?_))
    obtain⟨O,L,H⟩:=bnd H
    refine kC (r:=(iv O)) (wg Z Z Z) Z Z hg2 (ak Z (ak Z aH)) (fun W hW=>hf2 hW.all hW.aY t p1 _ L) (dI dM Z Z (av aT Z Z ?_))
    obtain rfl:=oI H
    exact ae (aR (.r Z) .nil)
  ·show Tr _ _ (LF [(35,iv f),(48,bV q)]) (LE []) _
   refine Tr.k Z (Tr.k Z (ae (aa (aJ ?_))))
   obtain rfl:=oI H
   exact bR (m:=[iv f,bV q]) [] (bu Z (bu Z bG)) (fun W hW=>⟨Z,hW.low leB⟩)

theorem zP{w:Bs}(p0:oo)(p1:ByteArray)(r:Int)(H:oh p0 p1=some r)(hE:HF w w.W E0):Calls Tryz.prog 157 [.agg #[sv p0.Name,sv p0.Type_],sv p1].toArray w.W fun e W'=>e= .returned (iv r)∧HF w W' E0:=by
 unfold oh at H
 have leB:=Bs.Le.refl w
 refine aX (n:=9) Tryz.func157 Z Z Z hE (aj (dh 1 (cs:=[sv p0.Name,sv p0.Type_]) (wn Z) Z Z Z fun f=>(Tr.k Z (ae (aa (aj (aD (ag DV) Z (aC Z (fun _ _ a c=>ah jD (a.ev Z) (bN c (vs:=[sv p0.Name,sv p0.Type_]) (k:=1) Z 0) Z) (aA Z ?_)))))))))
 obtain⟨b,d,H⟩:=bnd H
 refine aS (r:=(iv b)) (wn Z) Z Tryz.call114 (ak Z (ak Z aH)) (fun W hW=>jO p0.Name p1 b d (HF.start _)) (Tr.k Z (ae (aa (aJ ?_))))
 obtain rfl:=oI H
 exact bD leB

theorem BN(N:Nat){w:Bs}(p0:(List oo))(b:Option Addr)(d:Nat)(g:Sl w.R w.W mH b d p0)(p1:ByteArray)(r:Int)(H:rU N p0 p1=some r)(hE:HF w w.W E0):Calls Tryz.prog 110 [sL b p0 d,sv p1].toArray w.W fun e W'=>e= .returned (iv r)∧HF w W' E0:=by
 unfold rU at H
 have leB:=Bs.Le.refl w
 refine aX (n:=16) Tryz.func110 Z Z Z hE (aj (Tr.k Z (ae (aa (aj (aA Z (aA Z ?_)))))))
 obtain⟨f,h,H⟩:=bnd H
 refine aS (r:=(.tuple #[iv f.1,bV f.2])) (wn Z) Z Tryz.call156 (ak Z (ak Z (ak Z aH))) (fun W hW=>qP N p0 b d (g.ext hW.aY) p1 (fun z0 z1=>oh z0 z1) 157 [] Tryz.call157 (fun w' he z0 z1 y hy=>zP z0 z1 y hy (HF.start _)) f h (HF.start _)) (aA Z (aC Z (fun _ _ a c=>bX (a.ev Z) Z) (aC Z (fun _ _ a c=>bX (a.ev Z) Z) (Tr.k Z (Tr.k Z (ae (aa (az (aj (aA Z (aD bT Z (ae (aa (aN Z H (fun H=>?_) (fun H=>?_)))))))))))))))
 ·refine aj (Tr.k Z (ae (aa (aJ (ai ?_)))))
  obtain rfl:=oI H
  exact bD leB
 ·refine aM (aa (aj (aA Z (Tr.k Z (ae (aa (aJ ?_)))))))
  obtain rfl:=oI H
  exact bD leB

theorem ql(N:Nat){w:Bs}(p0:(List dO))(g:Option Addr)(i:Nat)(b:Sl w.R w.W jG g i p0)(p1:ByteArray)(p2:dO→ByteArray→Option Int)(fid2:Nat)(l:List Value)(hg2:∀args W,(callFunc fid2 args).run Tryz.prog W= .ok (.enter fid2 args) W)(hf2:∀(w':Bs),w.Ext w'→∀(z0:dO) (z1:ByteArray),∀y,p2 z0 z1=some y→Calls Tryz.prog fid2 (([.agg #[sv z0.Name,iv z0.Kind,iv z0.Group],sv z1]:List Value)++l).toArray w'.W fun e W''=>e= .returned (iv y)∧HF w' W'' E0)(r:(Int×Bool))(H:jL N p0 p1 p2=some r)(hE:HF w w.W E0):Calls Tryz.prog 125 [sL g p0 i,sv p1,.func (.func fid2) #[] l.toArray].toArray w.W fun e W'=>e= .returned (.tuple #[iv r.1,bV r.2])∧HF w W' E0:=by
 unfold jL at H
 have leB:=Bs.Le.refl w
 refine aX (n:=49) Tryz.func125 Z Z Z hE (aj (Tr.k Z (Tr.k Z (ae (aa (aj (aA Z (aD (bA EF) Z (Tr.k Z (ae (aa (aj (aA Z (Tr.k Z (Tr.k Z (ae (aa (az (Tr.block (cO (σ:=Int×Int) (fun m w s=>dQ p0 p1 p2 m s.1 s.2=some r) (fun s=>[(0,sL g p0 i),(1,sv p1),(2,.func (.func fid2) #[] l.toArray),(8,iv (p0.length:Int)),(9,iv s.1),(10,iv s.2)]) (fun s=>[]) N (0,(p0.length:Int)) H (.r Z) .nil (fun _ _ h=>oq (h)) ?_))))))))))))))))))))
 intro w j P s hs
 obtain⟨f,q⟩:=s
 have H:=hs
 replace H:dQ p0 p1 p2 (P+1) f q=some r:=H
 replace b:=b.iR j
 replace hf2:=fun w' he=>hf2 w' (j.ext.trans he)
 replace leB:=leB.trans j
 rw[dQ.eq_2] at H
 dsimp only
 refine az (aj (aA Z (aA Z (av bi Z Z (ae (aa (aN Z H (fun H=>?_) (fun H=>?_))))))))
 ·refine aM (aa (Tr.block (aj (aA Z (aA Z (av bE Z Z ?_))))))
  obtain⟨Q,F,H⟩:=bnd H
  refine aC Z (fun _ _ a c=>Di IX xB (a.ev Z) F) (av z8 Z Z ?_)
  obtain⟨v,G,H⟩:=bnd H
  refine aC Z (fun _ _ a c=>Dj xB IX (a.ev Z) G) (Tr.k Z (ae (aa (aj (aA Z (aA Z (aA Z ?_)))))))
  obtain⟨o,I,H⟩:=bnd H
  obtain⟨z,A,B⟩:=bJ I
  refine aC Z (fun _ _ a c=>aB Cu (a.ev Z) b.form (a.ev Z) z A) (aC Z (fun _ _ a c=>aL (cs:=[sv o.Name,iv o.Kind,iv o.Group]) IA Cj (a.ev Z) (aI.take (pq rf b B c) 3) Z) (aA Z ?_))
  obtain⟨M,J,H⟩:=bnd H
  refine kC (r:=(iv M)) (wn Z) Z Z hg2 (ak Z (ak Z aH)) (fun W hW=>hf2 hW.all hW.aY o p1 _ J) (av bi Z Z (ae (aa (aN Z H (fun H=>?_) (fun H=>?_)))))
  ·exact aV (aA Z (av bE Z Z (Tr.k Z (ae (aQ (aP j ((bP (v+1)),q) H (.r Z) .nil))))))
  ·exact aV (aA Z (Tr.k Z (ae (aQ (aP j (f,v) H (.r Z) .nil)))))
 ·refine bZ (aF (aF (bg (aa (aj (aA Z (aA Z (aA Z (av bi Z Z (aA Z ?_))))))))))
  obtain⟨t,d,H⟩:=bnd H
  refine bM 9 [(35,iv f),(48,bV t)] [] ?_ ?_
  ·cases u:(decide (f<(p0.length:Int)))
   ·rw[u] at d
    rw[if_neg (by decide)] at d
    have H:=d
    obtain rfl:=oI H
    exact aG Z (aG Z (aG Z (aG Z (aG Z (aG Z (aG Z (aG Z (av aU Z Z (ae (aR (.r Z) .nil))))))))))
   ·rw[u] at d
    rw[if_pos Z] at d
    have H:=d
    refine bC run_move Z (bC run_move Z (bC run_move Z ?_))
    obtain⟨p,K,H⟩:=bnd H
    obtain⟨C,D,E⟩:=bJ K
    refine Tr.x (fun _ _ a c=>aB Cu (a.ev Z) b.form (a.ev Z) C D) (Tr.x (fun _ _ a c=>aL (cs:=[sv p.Name,iv p.Kind,iv p.Group]) IA Cj (a.ev Z) (aI.take (pq rf b E c) 3) Z) (bC run_move Z ?_))
    obtain⟨O,L,H⟩:=bnd H
    refine kC (r:=(iv O)) (wg Z Z Z) Z Z hg2 (ak Z (ak Z aH)) (fun W hW=>hf2 hW.all hW.aY p p1 _ L) (dI dM Z Z (av aT Z Z ?_))
    obtain rfl:=oI H
    exact ae (aR (.r Z) .nil)
  ·show Tr _ _ (LF [(35,iv f),(48,bV t)]) (LE []) _
   refine Tr.k Z (Tr.k Z (ae (aa (aJ ?_))))
   obtain rfl:=oI H
   exact bR (m:=[iv f,bV t]) [] (bu Z (bu Z bG)) (fun W hW=>⟨Z,hW.low leB⟩)

theorem Bc{w:Bs}(p0:dO)(p1:ByteArray)(r:Int)(H:oZ p0 p1=some r)(hE:HF w w.W E0):Calls Tryz.prog 126 [.agg #[sv p0.Name,iv p0.Kind,iv p0.Group],sv p1].toArray w.W fun e W'=>e= .returned (iv r)∧HF w W' E0:=by
 unfold oZ at H
 have leB:=Bs.Le.refl w
 refine aX (n:=9) Tryz.func126 Z Z Z hE (aj (dh 1 (cs:=[sv p0.Name,iv p0.Kind,iv p0.Group]) (wn Z) Z Z Z fun f=>(Tr.k Z (ae (aa (aj (aD (ag DN) Z (aC Z (fun _ _ a c=>ah jD (a.ev Z) (bN c (vs:=[sv p0.Name,iv p0.Kind,iv p0.Group]) (k:=1) Z 0) Z) (aA Z ?_)))))))))
 obtain⟨b,d,H⟩:=bnd H
 refine aS (r:=(iv b)) (wn Z) Z Tryz.call114 (ak Z (ak Z aH)) (fun W hW=>jO p0.Name p1 b d (HF.start _)) (Tr.k Z (ae (aa (aJ ?_))))
 obtain rfl:=oI H
 exact bD leB

theorem wR(N:Nat){w:Bs}(p0:dG)(b:Option Addr)(d:Nat)(g:Sl w.R w.W jG b d p0.Pins)(p1:ByteArray)(r:Int)(H:qJ N p0 p1=some r)(hE:HF w w.W E0):Calls Tryz.prog 77 [.agg #[sv p0.Name,sL b p0.Pins d],sv p1].toArray w.W fun e W'=>e= .returned (iv r)∧HF w W' E0:=by
 unfold qJ at H
 have leB:=Bs.Le.refl w
 refine aX (n:=17) Tryz.func77 Z Z Z hE (aj (dh 1 (cs:=[sv p0.Name,sL b p0.Pins d]) (wn Z) Z Z Z fun i=>(Tr.k Z (ae (aa (aj (aD (ag Mi) Z (aC Z (fun _ _ a c=>ah Tj (a.ev Z) (bN c (vs:=[sv p0.Name,sL b p0.Pins d]) (k:=1) Z 1) Z) (aA Z ?_)))))))))
 obtain⟨f,h,H⟩:=bnd H
 refine aS (r:=(.tuple #[iv f.1,bV f.2])) (wn Z) Z Tryz.call125 (ak Z (ak Z (ak Z aH))) (fun W hW=>ql N p0.Pins b d (g.ext hW.aY) p1 (fun z0 z1=>oZ z0 z1) 126 [] Tryz.call126 (fun w' he z0 z1 y hy=>Bc z0 z1 y hy (HF.start _)) f h (HF.start _)) (aA Z (aC Z (fun _ _ a c=>bX (a.ev Z) Z) (aC Z (fun _ _ a c=>bX (a.ev Z) Z) (Tr.k Z (Tr.k Z (ae (aa (az (aj (aA Z (aD bT Z (ae (aa (aN Z H (fun H=>?_) (fun H=>?_)))))))))))))))
 ·refine aj (Tr.k Z (ae (aa (aJ (ai ?_)))))
  obtain rfl:=oI H
  exact bD leB
 ·refine aM (aa (aj (aA Z (Tr.k Z (ae (aa (aJ ?_)))))))
  obtain rfl:=oI H
  exact bD leB

theorem BO(N:Nat){w:Bs}(p0:(List dG))(h:Option Addr)(i:Nat)(j:Sl w.R w.W iB h i p0)(p1:(List oo))(l:Option Addr)(o:Nat)(p:Sl w.R w.W mH l o p1)(p2:tL)(r:Bool)(H:qi N p0 p1 p2=some r)(hE:HF w w.W E0):Calls Tryz.prog 61 [sL h p0 i,sL l p1 o,.agg #[sv p2.Part,sv p2.Pin]].toArray w.W fun e W'=>e= .returned (bV r)∧HF w W' E0:=by
 unfold qi at H
 have leB:=Bs.Le.refl w
 refine aX (n:=30) Tryz.func61 Z Z Z hE (aj (dh 1 (cs:=[sv p2.Part,sv p2.Pin]) (wn Z) Z Z Z fun S=>(Tr.k Z (ae (aa (aj (aA Z (aD (ag H7) Z (aC Z (fun _ _ a c=>ah jD (a.ev Z) (bN c (vs:=[sv p2.Part,sv p2.Pin]) (k:=1) Z 0) Z) ?_)))))))))
 obtain⟨s,I,H⟩:=bnd H
 refine aS (r:=(iv s)) (wn Z) Z Tryz.call110 (ak Z (ak Z aH)) (fun W hW=>BN N p1 l o (p.ext hW.aY) p2.Part s I (HF.start _)) (Tr.k Z (ae (aa (az (fZ (by kernel_rfl) (by kernel_rfl) (dY Z (dL kG Z Z (dY Z ?_))))))))
 obtain⟨O,d,H⟩:=bnd H
 refine mi 15 [(29,bV O)] ?_ ?_
 ·cases t:(decide (0≤s))
  ·rw[t] at d
   rw[if_neg (by decide)] at d
   have H:=d
   obtain rfl:=oI H
   exact bB Z (bB Z (bB Z (bB Z (bB Z (bB Z (bB Z (bB Z (bB Z (bB Z (bB Z (bB Z (bB Z (bB Z (dL aU Z Z (bK (.r Z))))))))))))))))
  ·rw[t] at d
   rw[if_pos Z] at d
   have H:=d
   refine dJ run_move Z (dJ run_move Z (dJ run_move Z (dJ run_move Z ?_)))
   obtain⟨P,J,H⟩:=bnd H
   obtain⟨v,y,z⟩:=bJ J
   refine Tq.x (fun _ _ a c=>aB ME (a.ev Z) p.form (a.ev Z) v y) (dJ (ag Mg) Z (Tq.x (fun _ _ a c=>ah jD (a.ev Z) (aI.drop (pq yo p z c) 1) Z) ?_))
   obtain⟨A,K,H⟩:=bnd H
   refine lH (r:=(iv A)) (wg Z Z Z) Z Tryz.call76 (ak Z (ak Z aH)) (fun W hW=>su N p0 h i (j.ext hW.aY) P.Type_ A K (HF.start _)) ?_
   obtain⟨q,L,H⟩:=bnd H
   obtain⟨B,C,D⟩:=bJ L
   obtain⟨Q,E,u,F⟩:=(j).el D
   obtain⟨f,g⟩:=Q
   have b:=u
   replace b:Sl w.R w.W jG f g q.Pins:=b
   refine Tq.x (fun _ _ a c=>aB JS (a.ev Z) j.form (a.ev Z) B C) (Tq.x (fun _ _ a c=>aL (cs:=[sv q.Name,sL f q.Pins g]) IB EG (a.ev Z) (aI.take (tY E F c) 2) Z) (dJ (ag H6) Z (Tq.x (fun _ _ a c=>ah jD (a.ev Z) (bN c (vs:=[sv p2.Part,sv p2.Pin]) (k:=1) Z 1) Z) ?_)))
   obtain⟨G,M,H⟩:=bnd H
   refine lH (r:=(iv G)) (wg Z Z Z) Z Tryz.call77 (ak Z (ak Z aH)) (fun W hW=>wR N q f g (b.ext hW.aY) p2.Pin G M (HF.start _)) (lg kG Z Z (dL aT Z Z ?_))
   obtain rfl:=oI H
   exact bK (.r Z)
 ·refine jB Z Z (gz (aa (aJ ?_)))
  obtain rfl:=oI H
  exact bD leB

theorem xN(N:Nat){w:Bs}(p0:tL)(q0:(List dG))(Aq0_0:Option Addr)(cq0_0:Nat)(Ma:Sl w.R w.W iB Aq0_0 cq0_0 q0)(xI:Nat)(hb0:w.R xI)(hc0:aI w.W xI 0 [sL Aq0_0 q0 cq0_0])(q1:pO)(Aq1_0:Option Addr)(cq1_0:Nat)(Vz:Sl w.R w.W mH Aq1_0 cq1_0 q1.Parts)(Aq1_1:Option Addr)(cq1_1:Nat)(XL:Sl w.R w.W rH Aq1_1 cq1_1 q1.Nets)(SX:Nat)(hb1:w.R SX)(hc1:aI w.W SX 0 [sL Aq1_0 q1.Parts cq1_0,sL Aq1_1 q1.Nets cq1_1])(r:Bool)(H:kP N p0 q0 q1=some r)(hE:HF w w.W E0):Calls Tryz.prog 60 [.agg #[sv p0.Part,sv p0.Pin],pV xI,pV SX].toArray w.W fun e W'=>e= .returned (bV r)∧HF w W' E0:=by
 unfold kP at H
 have leB:=Bs.Le.refl w
 refine aX (n:=10) Tryz.func60 Z Z Z hE (aj (dh 1 (cs:=[sv p0.Part,sv p0.Pin]) (wn Z) Z Z Z fun f=>(Tr.k Z (ae (aa (aj (aC Z (fun _ _ a c=>ah J4 (a.ev Z) (tY hb0 hc0 c) Z) (aD (ag Pe) Z (aC Z (fun _ _ a c=>ah VK (a.ev Z) (aI.drop (tY hb1 hc1 c) 0) Z) (aC Z (fun _ _ a c=>aL (cs:=[sv p0.Part,sv p0.Pin]) AL xE (a.ev Z) (aI.take (bN c (vs:=[sv p0.Part,sv p0.Pin]) (k:=1) Z 0) 2) Z) ?_))))))))))
 obtain⟨b,d,H⟩:=bnd H
 refine aS (r:=(bV b)) (wn Z) Z Tryz.call61 (ak Z (ak Z (ak Z aH))) (fun W hW=>BO N q0 Aq0_0 cq0_0 (Ma.ext hW.aY) q1.Parts Aq1_0 cq1_0 (Vz.ext hW.aY) p0 b d (HF.start _)) (Tr.k Z (ae (aa (aJ ?_))))
 obtain rfl:=oI H
 exact bD leB

theorem xM{w:Bs}(p0:tL)(p1:tL)(r:Int)(H:mh p0 p1=some r)(hE:HF w w.W E0):Calls Tryz.prog 109 [.agg #[sv p0.Part,sv p0.Pin],.agg #[sv p1.Part,sv p1.Pin]].toArray w.W fun e W'=>e= .returned (iv r)∧HF w W' E0:=by
 unfold mh at H
 have leB:=Bs.Le.refl w
 refine aX (n:=19) Tryz.func109 Z Z Z hE (aj (dh 1 (cs:=[sv p0.Part,sv p0.Pin]) (wn Z) Z Z Z fun h=>(dh 2 (cs:=[sv p1.Part,sv p1.Pin]) (wn Z) Z Z Z fun i=>(Tr.k Z (ae (aa (az (aj (aD (ag H7) Z (aC Z (fun _ _ a c=>ah jD (a.ev Z) (bN c (vs:=[sv p0.Part,sv p0.Pin]) (k:=1) Z 0) Z) (aD (ag H7) Z (aC Z (fun _ _ a c=>ah jD (a.ev Z) (bN c (vs:=[sv p1.Part,sv p1.Pin]) (k:=2) Z 0) Z) ?_))))))))))))
 obtain⟨b,f,H⟩:=bnd H
 refine aS (r:=(iv b)) (wn Z) Z Tryz.call114 (ak Z (ak Z aH)) (fun W hW=>jO p0.Part p1.Part b f (HF.start _)) (Tr.k Z (ae (aa (aj (aA Z (av dW Z Z (ae (aa (aN Z H (fun H=>?_) (fun H=>?_))))))))))
 ·refine aj (aA Z (Tr.k Z (ae (aa (aJ (ai ?_))))))
  obtain rfl:=oI H
  exact bD leB
 ·refine aM (aa (aj (aD (ag H6) Z (aC Z (fun _ _ a c=>ah jD (a.ev Z) (bN c (vs:=[sv p0.Part,sv p0.Pin]) (k:=1) Z 1) Z) (aD (ag H6) Z (aC Z (fun _ _ a c=>ah jD (a.ev Z) (bN c (vs:=[sv p1.Part,sv p1.Pin]) (k:=2) Z 1) Z) ?_))))))
  obtain⟨d,g,H⟩:=bnd H
  refine aS (r:=(iv d)) (wn Z) Z Tryz.call114 (ak Z (ak Z aH)) (fun W hW=>jO p0.Pin p1.Pin d g (HF.start _)) (Tr.k Z (ae (aa (aJ ?_))))
  obtain rfl:=oI H
  exact bD leB

theorem wW{w:Bs}(p0:(List tL))(f:Option Addr)(g:Nat)(b:Sl w.R w.W y9 f g p0)(p1:tL→Option Bool)(fid1:Nat)(A:List Value)(hg1:∀args W,(callFunc fid1 args).run Tryz.prog W= .ok (.enter fid1 args) W)(hf1:∀(w':Bs),w.Ext w'→∀(z0:tL),∀y,p1 z0=some y→Calls Tryz.prog fid1 (([.agg #[sv z0.Part,sv z0.Pin]]:List Value)++A).toArray w'.W fun e W''=>e= .returned (bV y)∧HF w' W'' E0)(p2:(List (ByteArray×ByteArray)))(p:Nat)(r:(Int×(List (ByteArray×ByteArray))))(H:lK p0 p1 p2=some r)(hE:HF w w.W (mF [wS E5 La p p2])):Calls Tryz.prog 59 [sL f p0 g,.func (.func fid1) #[] A.toArray,(.map (some p))].toArray w.W fun e W'=>∃u:Unit,e= .returned (iv r.1)∧(True)∧HF w W' (mF [wS E5 La p r.2]):=by
 unfold lK at H
 have leB:=Bs.Le.refl w
 refine aX (n:=53) Tryz.func59 Z Z Z hE (aj (Tr.k Z (ae (aa (az (aj (aA Z (aD (bA Kh) Z (av dE Z Z (ae (aa (aN Z H (fun H=>?_) (fun H=>?_)))))))))))))
 ·refine aj (Tr.k Z (ae (aa (aJ (ai ?_)))))
  obtain rfl:=oI H
  exact bR (m:=[iv 2]) [] (bu Z bG) (fun W hW=>⟨(),Z,trivial,HF.qC leB (hW.pick (ks:=[0]) (by decide) (bn Z bO)) ⟨Io,trivial⟩⟩)
 ·refine aM (aa (az (aj (aA Z (aD (bA Kh) Z (aA Z (ae (aa (Tr.block (cO (σ:=(List tL)×Nat) (fun m w s=>m=s.1.length+1∧s.1=List.drop s.2 p0∧s.2≤p0.length∧fF p0 p1 p2 s.1 s.2=some r) (fun s=>[(0,sL f p0 g),(1,.func (.func fid1) #[] A.toArray),(2,(.map (some p))),(14,sL f p0 g),(15,iv (p0.length:Int)),(16,iv (s.2:Int))]) (fun s=>[(0,wS E5 La p p2)]) (p0.length+1) (p0,0) ⟨Z,Z,Nat.zero_le _,H⟩ (.r Z) (.r Z) (fun _ _ h=>absurd h.1 (by simp)) ?_))))))))))
  intro w C m s hs
  obtain⟨i,B⟩:=s
  obtain⟨D,l,a3,H⟩:=hs
  replace l:i=List.drop B p0:=l
  replace H:fF p0 p1 p2 i B=some r:=H
  replace D:m+1=i.length+1:=D
  replace b:=b.iR C
  replace hf1:=fun w' he=>hf1 w' (C.ext.trans he)
  replace leB:=leB.trans C
  obtain rfl:m=i.length:=by omega
  clear D
  dsimp only
  cases i with
  | nil=>
   rw[fF.eq_1] at H
   refine aj (av bi Z Z (ae (aa (az (dn Z (cz l) (bZ (aF (aF (bg (aa (az (aj (aA Z (aD (bA Kh) Z (aA Z (ae (aa (Tr.block (cO (σ:=(List tL)×Nat×(List (ByteArray×ByteArray))) (fun m w s=>m=s.1.length+1∧s.1=List.drop s.2.1 p0∧s.2.1≤p0.length∧gD s.1 s.2.1 s.2.2=some r) (fun s=>[(2,(.map (some p))),(44,sL f p0 g),(45,iv (p0.length:Int)),(46,iv (s.2.1:Int))]) (fun s=>[(0,wS E5 La p s.2.2)]) (p0.length+1) (p0,0,p2) ⟨Z,Z,Nat.zero_le _,H⟩ (.r Z) (.r Z) (fun _ _ h=>absurd h.1 (by simp)) ?_)))))))))))))))))))
   intro w E m s hs
   obtain⟨j,I,J⟩:=s
   obtain⟨F,o,a0,H⟩:=hs
   replace o:j=List.drop I p0:=o
   replace H:gD j I J=some r:=H
   replace F:m+1=j.length+1:=F
   replace b:=b.iR E
   replace leB:=leB.trans E
   obtain rfl:m=j.length:=by omega
   clear F
   dsimp only
   cases j with
   |nil=>
    rw[gD.eq_1] at H
    refine aj (av bi Z Z (ae (aa (az (dn Z (cz o) (bZ (aF (aF (bg (aa (aj (Tr.k Z (ae (aa (aJ ?_)))))))))))))))
    obtain rfl:=oI H
    exact bR (m:=[iv 0]) [] (bu Z bG) (fun W hW=>⟨(),Z,trivial,HF.qC leB (hW.pick (ks:=[0]) (by decide) (bn Z bO)) ⟨Io,trivial⟩⟩)
   |cons t j=>
    rw[gD.eq_2] at H
    refine aj (av bi Z Z (ae (aa (az (dm Z (dz o) (aM (aa (az (Tr.block (aj (aC Z (fun _ _ a c=>aB NW (a.ev Z) b.form (a.ev Z) (Int.natCast_nonneg _) (bq o)) (aC Z (fun _ _ a c=>aL (cs:=[sv t.Part,sv t.Pin]) AL xE (a.ev Z) (aI.take (pq Gl b (dA o) c) 2) Z) (Tr.alloc 4 (wn Z) Z Qz fun a1=>(bv 4 (cs:=[sv t.Part,sv t.Pin]) [sv t.Part,sv t.Pin] (wn Z) Z Z Z Z xE Z Z Z (ae (aa (aV (aA Z (aC Z (fun _ _ a c=>aL (cs:=[sv t.Part,sv t.Pin]) AL xE (a.ev Z) (aI.take (bN c (vs:=[sv t.Part,sv t.Pin]) (k:=4) Z 0) 2) Z) ?_)))))))))))))))))))
    obtain⟨T,O,H⟩:=bnd H
    exact Cz 0 (wn Z) QH RU Z Z Z Z O (ae (aQ (aa (aV (av bE Z Z (aA Z (ae (aP E (j,(I+1),T) ⟨Z,df o,bq o,H⟩ (.cons Z (.cons Z (.cons Z (.cons (congrArg (fun z=>some (Value.int .i64 z)) (cZ o b.form)) .nil)))) (.r Z)))))))))
  | cons d i=>
   rw[fF.eq_2] at H
   refine aj (av bi Z Z (ae (aa (az (dm Z (dz l) (aM (aa (az (Tr.block (aj (aA Z (aC Z (fun _ _ a c=>aB NW (a.ev Z) b.form (a.ev Z) (Int.natCast_nonneg _) (bq l)) (aC Z (fun _ _ a c=>aL (cs:=[sv d.Part,sv d.Pin]) AL xE (a.ev Z) (aI.take (pq Gl b (dA l) c) 2) Z) (Tr.alloc 5 (wn Z) Z Qz fun U=>(Tr.k Z (bv 5 (cs:=[sv d.Part,sv d.Pin]) [sv d.Part,sv d.Pin] (wn Z) Z Z Z Z xE Z Z Z (ae (aa (Tr.block (aj (aA Z (aC Z (fun _ _ a c=>aL (cs:=[sv d.Part,sv d.Pin]) AL xE (a.ev Z) (aI.take (bN c (vs:=[sv d.Part,sv d.Pin]) (k:=5) Z 0) 2) Z) ?_))))))))))))))))))))))
   obtain⟨V,P,H⟩:=bnd H
   refine kC (r:=(bV V)) (wn Z) Z Z hg1 (ak Z aH) (fun W hW=>hf1 hW.all hW.aY d _ P) (aD bT Z (Tr.k Z (ae (aa (aN Z H (fun H=>?_) (fun H=>?_))))))
   ·refine aj (Tr.k Z (ae (aa (aJ (au (au (ai (ai (au (ai ?_))))))))))
    obtain rfl:=oI H
    exact bR (m:=[iv 9]) [] (bu Z bG) (fun W hW=>⟨(),Z,trivial,HF.qC leB (hW.pick (ks:=[0]) (by decide) (bn Z bO)) ⟨Io,trivial⟩⟩)
   ·refine az (fZ (by kernel_rfl) (by kernel_rfl) (dY Z (dL dE Z Z (dY Z ?_))))
    obtain⟨X,q,H⟩:=bnd H
    refine mi 9 [(0,sL f p0 g),(1,.func (.func fid1) #[] A.toArray),(2,(.map (some p))),(8,pV U),(14,sL f p0 g),(15,iv (p0.length:Int)),(16,iv (B:Int)),(38,bV X)] ?_ ?_
    ·cases v:(decide (0<(B:Int)))
     ·rw[v] at q
      rw[if_neg (by decide)] at q
      have H:=q
      obtain rfl:=oI H
      exact bB Z (bB Z (bB Z (bB Z (bB Z (bB Z (bB Z (bB Z (dL aU Z Z (bK (.r Z))))))))))
     ·rw[v] at q
      rw[if_pos Z] at q
      have H:=q
      refine Tq.x (fun _ _ a c=>aL (cs:=[sv d.Part,sv d.Pin]) AL xE (a.ev Z) (aI.take (bN c (vs:=[sv d.Part,sv d.Pin]) (k:=5) Z 0) 2) Z) (dJ run_move Z (dJ run_move Z (lg gH Z Z ?_)))
      obtain⟨G,Q,H⟩:=bnd H
      obtain⟨K,L,M⟩:=bJ Q
      refine Tq.x (fun _ _ a c=>aB NW (a.ev Z) b.form (a.ev Z) K L) (Tq.x (fun _ _ a c=>aL (cs:=[sv G.Part,sv G.Pin]) AL xE (a.ev Z) (aI.take (pq Gl b M c) 2) Z) ?_)
      obtain⟨N,S,H⟩:=bnd H
      refine lH (r:=(iv N)) (wg Z Z Z) Z Tryz.call109 (ak Z (ak Z aH)) (fun W hW=>xM d G N S (HF.start _)) (lg iT Z Z (dL aT Z Z ?_))
      obtain rfl:=oI H
      exact bK (.r Z)
    ·refine jB Z Z (gz (aa (aN Z H (fun H=>?_) (fun H=>?_))))
     ·refine aj (Tr.k Z (ae (aa (aJ (au (au (ai (ai (au (ai ?_))))))))))
      obtain rfl:=oI H
      exact bR (m:=[iv 8]) [] (bu Z bG) (fun W hW=>⟨(),Z,trivial,HF.qC leB (hW.pick (ks:=[0]) (by decide) (bn Z bO)) ⟨Io,trivial⟩⟩)
     ·refine aj (aA Z (aC Z (fun _ _ a c=>aL (cs:=[sv d.Part,sv d.Pin]) AL xE (a.ev Z) (aI.take (bN c (vs:=[sv d.Part,sv d.Pin]) (k:=5) Z 0) 2) Z) ?_))
      obtain⟨a2,v,H⟩:=bnd H
      refine aC Z (fun _ _ a c=>zZ QH RU VO (a.ev Z) (a.ev Z) c (k0:=0) Z v) (Tr.k Z (ae (aa (aN Z H (fun H=>?_) (fun H=>?_)))))
      ·refine aj (Tr.k Z (ae (aa (aJ (au (au (ai (ai (au (ai ?_))))))))))
       obtain rfl:=oI H
       exact bR (m:=[iv 7]) [] (bu Z bG) (fun W hW=>⟨(),Z,trivial,HF.qC leB (hW.pick (ks:=[0]) (by decide) (bn Z bO)) ⟨Io,trivial⟩⟩)
      ·exact aM (aQ (aQ (aa (aV (av bE Z Z (aA Z (ae (aP C (i,(B+1)) ⟨Z,df l,bq l,H⟩ (.cons Z (.cons Z (.cons Z (.cons Z (.cons Z (.cons (congrArg (fun z=>some (Value.int .i64 z)) (cZ l b.form)) .nil)))))) (.r Z)))))))))

theorem zx(N:Nat){w:Bs}(hT:Nj Tryz.prog w)(p0:(List dG))(q:Option Addr)(t:Nat)(I:Sl w.R w.W iB q t p0)(p1:pO)(o:Option Addr)(p:Nat)(L:Sl w.R w.W mH o p p1.Parts)(g:Option Addr)(i:Nat)(A:Sl w.R w.W rH g i p1.Nets)(r:Int)(H:nL N p0 p1=some r)(hE:HF w w.W E0):Calls Tryz.prog 25 [sL q p0 t,.agg #[sL o p1.Parts p,sL g p1.Nets i]].toArray w.W fun e W'=>e= .returned (iv r)∧HF w W' E0:=by
 unfold nL at H
 have leB:=Bs.Le.refl w
 refine aX (n:=71) Tryz.func25 Z Z Z hE (aj (dh 1 (cs:=[sL q p0 t]) (wn Z) Z Z Z fun D=>(dh 2 (cs:=[sL o p1.Parts p,sL g p1.Nets i]) (wn Z) Z Z Z fun E=>(Tr.k Z (ae (aa (az (aj (aC Z (fun _ _ a c=>ah J4 (a.ev Z) (bN c (vs:=[sL q p0 t]) (k:=1) Z 0) Z) ?_)))))))))
 obtain⟨V,a7,H⟩:=bnd H
 refine aS (r:=(iv V)) (wn Z) Z Tryz.call56 (ak Z aH) (fun W hW=>yJ N p0 q t (I.ext hW.aY) V a7 (HF.start _)) (Tr.k Z (ae (aa (aj (aA Z (av dW Z Z (ae (aa (aN Z H (fun H=>?_) (fun H=>?_))))))))))
 ·refine aj (aA Z (Tr.k Z (ae (aa (aJ (ai ?_))))))
  obtain rfl:=oI H
  exact bD leB
 ·refine aM (aa (az (aj (aC Z (fun _ _ a c=>ah J4 (a.ev Z) (bN c (vs:=[sL q p0 t]) (k:=1) Z 0) Z) (aD (ag Pe) Z (aC Z (fun _ _ a c=>ah VK (a.ev Z) (bN c (vs:=[sL o p1.Parts p,sL g p1.Nets i]) (k:=2) Z 0) Z) ?_))))))
  obtain⟨X,a8,H⟩:=bnd H
  refine aS (r:=(iv X)) (wn Z) Z Tryz.call57 (ak Z (ak Z (ak Z aH))) (fun W hW=>yI N p0 q t (I.ext hW.aY) p1.Parts o p (L.ext hW.aY) (fun z0=>ji N z0) 58 [] Tryz.call58 (fun w' he z0 y hy=>pE N (hT.ext (hW.aY.trans he)) z0 y hy (HF.start _)) X a8 (HF.start _)) (Tr.k Z (ae (aa (aj (aA Z (av dW Z Z (ae (aa (aN Z H (fun H=>?_) (fun H=>?_))))))))))
  ·refine aj (aA Z (Tr.k Z (ae (aa (aJ (ai ?_))))))
   obtain rfl:=oI H
   exact bD leB
  ·refine aM (aa (az (aj (aD (ag KN) Z (aC Z (fun _ _ a c=>ah Ti (a.ev Z) (bN c (vs:=[sL o p1.Parts p,sL g p1.Nets i]) (k:=2) Z 1) Z) (aD (bA Vn) Z (av dE Z Z (ae (aa (aN Z H (fun H=>?_) (fun H=>?_)))))))))))
   ·refine aj (Tr.k Z (ae (aa (aJ (ai ?_)))))
    obtain rfl:=oI H
    exact bD leB
   ·refine aM (aa (aj (AO E5 La 3 (wn Z) Z fun B=>(Tr.k Z (ae (aa (az (aj (aD (ag KN) Z (aC Z (fun _ _ a c=>ah Ti (a.ev Z) (bN c (vs:=[sL o p1.Parts p,sL g p1.Nets i]) (k:=2) Z 1) Z) (aD (bA Vn) Z (aA Z (ae (aa (Tr.block (cO (σ:=(List K4)×Nat×(List (ByteArray×ByteArray))) (fun m w s=>m=s.1.length+1∧s.1=List.drop s.2.1 p1.Nets∧s.2.1≤p1.Nets.length∧iO N p0 p1 s.1 s.2.1 s.2.2=some r) (fun s=>[(2,pV D),(3,pV E),(7,(.map (some B))),(29,sL g p1.Nets i),(30,iv (p1.Nets.length:Int)),(31,iv (s.2.1:Int))]) (fun s=>[(1,bx D #[sL q p0 t] 22),(2,bx E #[sL o p1.Parts p,sL g p1.Nets i] 26),(3,wS E5 La B s.2.2)]) (p1.Nets.length+1) (p1.Nets,0,([]:List (ByteArray×ByteArray))) ⟨Z,Z,Nat.zero_le _,H⟩ (.r Z) (.r Z) (fun _ _ h=>absurd h.1 (by simp)) ?_))))))))))))))))
    intro w J m s hs
    obtain⟨v,M,O⟩:=s
    obtain⟨P,C,c4,H⟩:=hs
    replace C:v=List.drop M p1.Nets:=C
    replace H:iO N p0 p1 v M O=some r:=H
    replace P:m+1=v.length+1:=P
    replace hT:=hT.ext J.ext
    replace I:=I.iR J
    replace L:=L.iR J
    replace A:=A.iR J
    replace leB:=leB.trans J
    obtain rfl:m=v.length:=by omega
    clear P
    dsimp only
    cases v with
    |nil=>
     rw[iO.eq_1] at H
     refine aj (av bi Z Z (ae (aa (az (dn Z (cz C) (bZ (aF (aF (bg (aa (aj (Tr.k Z (ae (aa (aJ ?_)))))))))))))))
     obtain rfl:=oI H
     exact bD leB
    | cons b v=>
     rw[iO.eq_2] at H
     refine aj (av bi Z Z (ae (aa (az (dm Z (dz C) (aM (aa (az (Tr.block (aj (aA Z ?_)))))))))))
     obtain⟨b5,a',S,a0⟩:=(A).el (dA C)
     obtain⟨⟨d,f⟩,⟨j,l⟩⟩:=b5
     obtain⟨F,b2⟩:=S
     replace F:Sl w.R w.W y9 d f b.Pins:=F
     refine aC Z (fun _ _ a c=>aB VD (a.ev Z) A.form (a.ev Z) (Int.natCast_nonneg _) (bq C)) (aC Z (fun _ _ a c=>aL (cs:=[sv b.Name,sL d b.Pins f,sL j b.Ports l]) WT QU (a.ev Z) (aI.take (tY a' a0 c) 3) Z) (Tr.alloc 6 (wn Z) Z VX fun c5=>(Tr.k Z (bv 6 (cs:=[sv b.Name,sL d b.Pins f,sL j b.Ports l]) [sv b.Name,sL d b.Pins f,sL j b.Ports l] (wn Z) Z Z Z Z QU Z Z Z (ae (aa (az (aj (aD (ag H8) Z (aC Z (fun _ _ a c=>ah jD (a.ev Z) (bN c (vs:=[sv b.Name,sL d b.Pins f,sL j b.Ports l]) (k:=6) Z 0) Z) ?_))))))))))
     obtain⟨a1,a9,H⟩:=bnd H
     refine aS (r:=(bV a1)) (wn Z) Z Tryz.call58 (ak Z aH) (fun W hW=>pE N (hT.ext hW.aY) b.Name a1 a9 (HF.start _)) (aD bT Z (ae (aa (aN Z H (fun H=>?_) (fun H=>?_)))))
     ·refine aj (Tr.k Z (ae (aa (aJ (ai (au (ai (ai (au (ai ?_))))))))))
      obtain rfl:=oI H
      exact bD leB
     ·refine aM (aa (az (aj (aD (ag Ml) Z (aC Z (fun _ _ a c=>ah Tk (a.ev Z) (bN c (vs:=[sv b.Name,sL d b.Pins f,sL j b.Ports l]) (k:=6) Z 1) Z) (aD (bA Kh) Z (av dM Z Z (ae (aa (aN Z H (fun H=>?_) (fun H=>?_)))))))))))
      ·refine aj (Tr.k Z (ae (aa (aJ (ai (au (ai (ai (au (ai ?_))))))))))
       obtain rfl:=oI H
       exact bD leB
      ·refine aM (aa (az (aj (aD (ag Ml) Z (aC Z (fun _ _ a c=>ah Tk (a.ev Z) (bN c (vs:=[sv b.Name,sL d b.Pins f,sL j b.Ports l]) (k:=6) Z 1) Z) (rO (vs:=[pV D,pV E]) (wn Z) Z (ak Z (ak Z aH)) (aA Z ?_)))))))
       obtain⟨K,b0,H⟩:=bnd H
       refine kz [3] [wS E5 La B O] (U:=Unit) (fun u=>(iv K.1)) (fun u=>True) (fun u=>[wS E5 La B K.2]) Z (bn Z bO) (fun _=>Z) (wn Z) Z Tryz.call59 (ak Z (ak Z (ak Z aH))) (fun W hW hp hE=>wW b.Pins d f (F.ext (hW.fM hp)) (fun z0=>kP N z0 p0 p1) 60 [pV D,pV E] Tryz.call60 (fun w' he z0 y hy=>xN N z0 p0 q t (I.ext ((hW.fM hp).trans he)) D (he.r _ (hW.ML (k:=1) Z hp Z)) (he.cells (hW.ML (k:=1) Z hp Z) (hW.UZ (k:=1) Z)) p1 o p (L.ext ((hW.fM hp).trans he)) g i (A.ext ((hW.fM hp).trans he)) E (he.r _ (hW.ML (k:=2) Z hp Z)) (he.cells (hW.ML (k:=2) Z hp Z) (hW.UZ (k:=2) Z)) y hy (HF.start _)) O B K b0 hE) ?_
       intro u hu
       show Tr _ _ (uf _ 48 (iv K.1)) (up _ 3 (wS E5 La B K.2)) _
       refine Tr.k Z (ae (aa (aj (aA Z (av dW Z Z (ae (aa (aN Z H (fun H=>?_) (fun H=>?_)))))))))
       ·refine aj (aA Z (Tr.k Z (ae (aa (aJ (ai (au (ai (ai (au (ai ?_)))))))))))
        obtain rfl:=oI H
        exact bD leB
       ·refine aM (aa (az (aj (aD (ag Sr) Z (aC Z (fun _ _ a c=>ah IC (a.ev Z) (bN c (vs:=[sv b.Name,sL d b.Pins f,sL j b.Ports l]) (k:=6) Z 2) Z) (aD (bA Gt) Z (av dE Z Z (ae (aa (aN Z H (fun H=>?_) (fun H=>?_)))))))))))
        ·refine aj (Tr.k Z (ae (aa (aJ (ai (au (ai (ai (au (ai ?_))))))))))
         obtain rfl:=oI H
         exact bD leB
        ·refine aM (aa (az (fZ (by kernel_rfl) (by kernel_rfl) (dY Z (dL dE Z Z (dY Z ?_))))))
         obtain⟨b6,G,H⟩:=bnd H
         refine mi 11 [(2,pV D),(3,pV E),(7,(.map (some B))),(29,sL g p1.Nets i),(30,iv (p1.Nets.length:Int)),(31,iv (M:Int)),(69,bV b6)] ?_ ?_
         ·cases Q:(decide (0<(M:Int)))
          ·rw[Q] at G
           rw[if_neg (by decide)] at G
           have H:=G
           obtain rfl:=oI H
           exact bB Z (bB Z (bB Z (bB Z (bB Z (bB Z (bB Z (bB Z (bB Z (bB Z (dL aU Z Z (bK (.r Z))))))))))))
          ·rw[Q] at G
           rw[if_pos Z] at G
           have H:=G
           refine dJ (ag H8) Z (Tq.x (fun _ _ a c=>ah jD (a.ev Z) (bN c (vs:=[sv b.Name,sL d b.Pins f,sL j b.Ports l]) (k:=6) Z 0) Z) (dJ (ag KN) Z (Tq.x (fun _ _ a c=>ah Ti (a.ev Z) (bN c (vs:=[sL o p1.Parts p,sL g p1.Nets i]) (k:=2) Z 1) Z) (dJ run_move Z (lg gH Z Z ?_)))))
           obtain⟨c6,b1,H⟩:=bnd H
           obtain⟨a2,a3,a4⟩:=bJ b1
           obtain⟨b7,a5,T,a6⟩:=(A).el a4
           obtain⟨⟨b8,b9⟩,⟨c0,c3⟩⟩:=b7
           obtain⟨b3,b4⟩:=T
           refine Tq.x (fun _ _ a c=>aB VD (a.ev Z) A.form (a.ev Z) a2 a3) (dJ (ag H8) Z (Tq.x (fun _ _ a c=>ah jD (a.ev Z) (aI.drop (tY a5 a6 c) 0) Z) (lg pI Z Z (dL aT Z Z ?_))))
           obtain rfl:=oI H
           exact bK (.r Z)
         ·refine gz (aa (aN Z H (fun H=>?_) (fun H=>?_)))
          ·refine aj (Tr.k Z (ae (aa (aJ (au (ai (ai (au (ai ?_)))))))))
           obtain rfl:=oI H
           exact bD leB
          ·exact aM (aQ (aa (aV (av bE Z Z (aA Z (ae (aP J (v,(M+1),K.2) ⟨Z,df C,bq C,H⟩ (.cons Z (.cons Z (.cons Z (.cons Z (.cons Z (.cons (congrArg (fun z=>some (Value.int .i64 z)) (cZ C A.form)) .nil)))))) (.r Z))))))))

theorem mG{w:Bs}(p0:ByteArray)(p1:Int)(r:zg)(H:lM p0 p1=some r)(hE:HF w w.W E0):Calls Tryz.prog 26 [sv p0,iv p1].toArray w.W fun e W'=>e= .returned (.agg #[iv r.fault,sv r.where_])∧HF w W' E0:=by
 unfold lM at H
 have leB:=Bs.Le.refl w
 refine aX (n:=11) Tryz.func26 Z Z Z hE (aj (Tr.alloc 1 (wn Z) Z Qu fun a=>(ae (aa (az (aj (aA Z (av dM Z Z (ae (aa (aN Z H (fun H=>?_) (fun H=>?_))))))))))))
 ·refine aj (gV (vs:=[]) (cs:=[iv 0,sv ⟨#[]⟩]) (wn Z) Z dR (by kernel_rfl) (bv 1 (cs:=[iv 0,sv ⟨#[]⟩]) [iv 0,sv ⟨#[]⟩] (wn Z) Z Z Z Z qU Z Z Z (ae (aa (aJ (ai ?_))))))
  obtain rfl:=oI H
  exact bR (m:=[.agg #[iv 0,sv ⟨#[]⟩]]) [1] (fJ Z Z zC qU bG) (fun W hW=>⟨Z,hW.low leB⟩)
 ·refine aM (aa (aj (aA Z (aA Z (gV (vs:=[(0,iv p1),(1,sv p0)]) (cs:=[iv p1,sv p0]) (wn Z) Z (bQ Z (bQ Z dR)) (by kernel_rfl) (bv 1 (cs:=[iv p1,sv p0]) [iv p1,sv p0] (wn Z) Z Z Z Z qU Z Z Z (ae (aa (aJ ?_)))))))))
  obtain rfl:=oI H
  exact bR (m:=[.agg #[iv p1,sv p0]]) [1] (fJ Z Z zC qU bG) (fun W hW=>⟨Z,hW.low leB⟩)

theorem um{w:Bs}(p0:Int)(p1:Int)(p2:Int)(r:Bool)(H:pQ p0 p1 p2=some r)(hE:HF w w.W E0):Calls Tryz.prog 111 [iv p0,iv p1,iv p2].toArray w.W fun e W'=>e= .returned (bV r)∧HF w W' E0:=by
 unfold pQ at H
 have leB:=Bs.Le.refl w
 refine aX (n:=15) Tryz.func111 Z Z Z hE (aj (Tr.k Z (ae (aa (aj (aA Z (aA Z (av kG Z Z (aA Z (bM 4 [(14,bV ((decide (p1≤p0))&&(decide (p0≤p2))))] [] ?_ ?_))))))))))
 ·cases a:(decide (p1≤p0))
  ·exact aG Z (aG Z (aG Z (av aU Z Z (ae (aR (.r Z) .nil)))))
  ·exact bC run_move Z (bC run_move Z (dI iT Z Z (av aT Z Z (ae (aR (.r Z) .nil)))))
 ·show Tr _ _ (LF [(14,bV ((decide (p1≤p0))&&(decide (p0≤p2))))]) (LE []) _
  refine Tr.k Z (ae (aa (aJ ?_)))
  obtain rfl:=oI H
  exact bD leB

theorem wT(N:Nat){w:Bs}(p0:(List dK))(d:Option Addr)(f:Nat)(i:Sl w.R w.W iZ d f p0)(r:Int)(H:nN N p0=some r)(hE:HF w w.W E0):Calls Tryz.prog 62 [sL d p0 f].toArray w.W fun e W'=>e= .returned (iv r)∧HF w W' E0:=by
 unfold nN at H
 have leB:=Bs.Le.refl w
 refine aX (n:=51) Tryz.func62 Z Z Z hE (aj (Tr.k Z (ae (aa (az (aj (aA Z (aD (bA QD) Z (av dE Z Z (ae (aa (aN Z H (fun H=>?_) (fun H=>?_)))))))))))))
 ·refine aj (Tr.k Z (ae (aa (aJ (ai ?_)))))
  obtain rfl:=oI H
  exact bD leB
 ·refine aM (aa (az (aj (aA Z (aD (bA QD) Z (aA Z (ae (aa (Tr.block (cO (σ:=(List dK)×Nat) (fun m w s=>m=s.1.length+1∧s.1=List.drop s.2 p0∧s.2≤p0.length∧fE N p0 s.1 s.2=some r) (fun s=>[(0,sL d p0 f),(8,sL d p0 f),(9,iv (p0.length:Int)),(10,iv (s.2:Int))]) (fun s=>[]) (p0.length+1) (p0,0) ⟨Z,Z,Nat.zero_le _,H⟩ (.r Z) .nil (fun _ _ h=>absurd h.1 (by simp)) ?_))))))))))
  intro w u m s hs
  obtain⟨g,p⟩:=s
  obtain⟨v,j,P,H⟩:=hs
  replace j:g=List.drop p p0:=j
  replace H:fE N p0 g p=some r:=H
  replace v:m+1=g.length+1:=v
  replace i:=i.iR u
  replace leB:=leB.trans u
  obtain rfl:m=g.length:=by omega
  clear v
  dsimp only
  cases g with
  |nil=>
   rw[fE.eq_1] at H
   refine aj (av bi Z Z (ae (aa (az (dn Z (cz j) (bZ (aF (aF (bg (aa (aj (Tr.k Z (ae (aa (aJ ?_)))))))))))))))
   obtain rfl:=oI H
   exact bD leB
  | cons b g=>
   rw[fE.eq_2] at H
   refine aj (av bi Z Z (ae (aa (az (dm Z (dz j) (aM (aa (az (Tr.block (aj (aA Z (aC Z (fun _ _ a c=>aB MC (a.ev Z) i.form (a.ev Z) (Int.natCast_nonneg _) (bq j)) (aC Z (fun _ _ a c=>aL (cs:=[sv b.Name,iv b.Kind,iv b.Thick,iv b.Grow]) Fh wh (a.ev Z) (aI.take (pq rJ i (dA j) c) 4) Z) (Tr.alloc 2 (wn Z) Z Ka fun t=>(Tr.k Z (bv 2 (cs:=[sv b.Name,iv b.Kind,iv b.Thick,iv b.Grow]) [sv b.Name,iv b.Kind,iv b.Thick,iv b.Grow] (wn Z) Z Z Z Z wh Z Z Z (ae (aa (Tr.block (aj (aD (ag D5) Z (aC Z (fun _ _ a c=>ah jD (a.ev Z) (bN c (vs:=[sv b.Name,iv b.Kind,iv b.Thick,iv b.Grow]) (k:=2) Z 0) Z) ?_))))))))))))))))))))))
   obtain⟨A,I,H⟩:=bnd H
   refine aS (r:=(bV A)) (wn Z) Z Tryz.call64 (ak Z aH) (fun W hW=>jJ N b.Name A I (HF.start _)) (aD bT Z (Tr.k Z (ae (aa (aN Z H (fun H=>?_) (fun H=>?_))))))
   ·refine aj (Tr.k Z (ae (aa (aJ (au (au (ai (ai (au (ai ?_))))))))))
    obtain rfl:=oI H
    exact bD leB
   ·refine aj (aD (ag Aj) Z (aC Z (fun _ _ a c=>ah bF (a.ev Z) (bN c (vs:=[sv b.Name,iv b.Kind,iv b.Thick,iv b.Grow]) (k:=2) Z 1) Z) ?_))
    obtain⟨B,J,H⟩:=bnd H
    refine aS (r:=(bV B)) (wn Z) Z Tryz.call111 (ak Z (ak Z (ak Z aH))) (fun W hW=>um b.Kind 1 3 B J (HF.start _)) (aD bT Z (Tr.k Z (ae (aa (aN Z H (fun H=>?_) (fun H=>?_))))))
    ·refine aj (Tr.k Z (ae (aa (aJ (au (au (ai (ai (au (ai ?_))))))))))
     obtain rfl:=oI H
     exact bD leB
    ·refine aj (aD (ag Sq) Z (aC Z (fun _ _ a c=>ah bF (a.ev Z) (bN c (vs:=[sv b.Name,iv b.Kind,iv b.Thick,iv b.Grow]) (k:=2) Z 2) Z) ?_))
     obtain⟨y,K,H⟩:=bnd H
     refine aS (r:=(bV y)) (wn Z) Z Tryz.call111 (ak Z (ak Z (ak Z aH))) (fun W hW=>um b.Thick 1 2000 y K (HF.start _)) (aD bT Z (aA Z ?_))
     obtain⟨C,l,H⟩:=bnd H
     refine bM 5 [(0,sL d p0 f),(3,iv (p:Int)),(4,pV t),(8,sL d p0 f),(9,iv (p0.length:Int)),(10,iv (p:Int)),(35,bV C)] [(2,bx t #[sv b.Name,iv b.Kind,iv b.Thick,iv b.Grow] 149)] ?_ ?_
     ·cases q:(!y)
      ·rw[q] at l
       rw[if_neg (by decide)] at l
       have H:=l
       refine bC (ag Sn) Z (Tr.x (fun _ _ a c=>ah bF (a.ev Z) (bN c (vs:=[sv b.Name,iv b.Kind,iv b.Thick,iv b.Grow]) (k:=2) Z 3) Z) ?_)
       obtain⟨D,L,H⟩:=bnd H
       refine aS (r:=(bV D)) (wg Z Z Z) Z Tryz.call111 (ak Z (ak Z (ak Z aH))) (fun W hW=>um b.Grow 0 1000 D L (HF.start _)) (bC bT Z (av aU Z Z ?_))
       obtain rfl:=oI H
       exact ae (aR (.r Z) (.r Z))
      ·rw[q] at l
       rw[if_pos Z] at l
       have H:=l
       obtain rfl:=oI H
       exact aG Z (aG Z (aG Z (aG Z (av aT Z Z (ae (aR (.r Z) (.r Z)))))))
     ·show Tr _ _ (LF [(0,sL d p0 f),(3,iv (p:Int)),(4,pV t),(8,sL d p0 f),(9,iv (p0.length:Int)),(10,iv (p:Int)),(35,bV C)]) (LE [(2,bx t #[sv b.Name,iv b.Kind,iv b.Thick,iv b.Grow] 149)]) _
      refine Tr.k Z (ae (aa (aN Z H (fun H=>?_) (fun H=>?_))))
      ·refine aj (Tr.k Z (ae (aa (aJ (au (au (ai (ai (au (ai ?_))))))))))
       obtain rfl:=oI H
       exact bD leB
      ·refine az (fZ (by kernel_rfl) (by kernel_rfl) (dY Z (dL dE Z Z (dY Z ?_))))
       obtain⟨O,o,H⟩:=bnd H
       refine mi 10 [(0,sL d p0 f),(8,sL d p0 f),(9,iv (p0.length:Int)),(10,iv (p:Int)),(49,bV O)] ?_ ?_
       ·cases q:(decide (0<(p:Int)))
        ·rw[q] at o
         rw[if_neg (by decide)] at o
         have H:=o
         obtain rfl:=oI H
         exact bB Z (bB Z (bB Z (bB Z (bB Z (bB Z (bB Z (bB Z (bB Z (dL aU Z Z (bK (.r Z)))))))))))
        ·rw[q] at o
         rw[if_pos Z] at o
         have H:=o
         refine dJ (ag D5) Z (Tq.x (fun _ _ a c=>ah jD (a.ev Z) (bN c (vs:=[sv b.Name,iv b.Kind,iv b.Thick,iv b.Grow]) (k:=2) Z 0) Z) (dJ run_move Z (dJ run_move Z (lg gH Z Z ?_))))
         obtain⟨Q,M,H⟩:=bnd H
         obtain⟨E,F,G⟩:=bJ M
         refine Tq.x (fun _ _ a c=>aB MC (a.ev Z) i.form (a.ev Z) E F) (dJ (ag D5) Z (Tq.x (fun _ _ a c=>ah jD (a.ev Z) (aI.drop (pq rJ i G c) 0) Z) (lg pI Z Z (dL aT Z Z ?_))))
         obtain rfl:=oI H
         exact bK (.r Z)
       ·refine jB Z Z (gz (aa (aN Z H (fun H=>?_) (fun H=>?_))))
        ·refine aj (Tr.k Z (ae (aa (aJ (au (au (ai (ai (au (ai ?_))))))))))
         obtain rfl:=oI H
         exact bD leB
        ·exact aM (aQ (aQ (aa (aV (av bE Z Z (aA Z (ae (aP u (g,(p+1)) ⟨Z,df j,bq j,H⟩ (.cons Z (.cons Z (.cons Z (.cons (congrArg (fun z=>some (Value.int .i64 z)) (cZ j i.form)) .nil)))) .nil))))))))

theorem pU(N:Nat){w:Bs}(p0:(List dK))(g:Option Addr)(i:Nat)(b:Sl w.R w.W iZ g i p0)(p1:ByteArray)(p2:dK→ByteArray→Option Int)(fid2:Nat)(p:List Value)(hg2:∀args W,(callFunc fid2 args).run Tryz.prog W= .ok (.enter fid2 args) W)(hf2:∀(w':Bs),w.Ext w'→∀(z0:dK) (z1:ByteArray),∀y,p2 z0 z1=some y→Calls Tryz.prog fid2 (([.agg #[sv z0.Name,iv z0.Kind,iv z0.Thick,iv z0.Grow],sv z1]:List Value)++p).toArray w'.W fun e W''=>e= .returned (iv y)∧HF w' W'' E0)(r:(Int×Bool))(H:jC N p0 p1 p2=some r)(hE:HF w w.W E0):Calls Tryz.prog 112 [sL g p0 i,sv p1,.func (.func fid2) #[] p.toArray].toArray w.W fun e W'=>e= .returned (.tuple #[iv r.1,bV r.2])∧HF w W' E0:=by
 unfold jC at H
 have leB:=Bs.Le.refl w
 refine aX (n:=49) Tryz.func112 Z Z Z hE (aj (Tr.k Z (Tr.k Z (ae (aa (aj (aA Z (aD (bA QD) Z (Tr.k Z (ae (aa (aj (aA Z (Tr.k Z (Tr.k Z (ae (aa (az (Tr.block (cO (σ:=Int×Int) (fun m w s=>dN p0 p1 p2 m s.1 s.2=some r) (fun s=>[(0,sL g p0 i),(1,sv p1),(2,.func (.func fid2) #[] p.toArray),(8,iv (p0.length:Int)),(9,iv s.1),(10,iv s.2)]) (fun s=>[]) N (0,(p0.length:Int)) H (.r Z) .nil (fun _ _ h=>oq (h)) ?_))))))))))))))))))))
 intro w j P s hs
 obtain⟨f,q⟩:=s
 have H:=hs
 replace H:dN p0 p1 p2 (P+1) f q=some r:=H
 replace b:=b.iR j
 replace hf2:=fun w' he=>hf2 w' (j.ext.trans he)
 replace leB:=leB.trans j
 rw[dN.eq_2] at H
 dsimp only
 refine az (aj (aA Z (aA Z (av bi Z Z (ae (aa (aN Z H (fun H=>?_) (fun H=>?_))))))))
 ·refine aM (aa (Tr.block (aj (aA Z (aA Z (av bE Z Z ?_))))))
  obtain⟨Q,F,H⟩:=bnd H
  refine aC Z (fun _ _ a c=>Di IX xB (a.ev Z) F) (av z8 Z Z ?_)
  obtain⟨v,G,H⟩:=bnd H
  refine aC Z (fun _ _ a c=>Dj xB IX (a.ev Z) G) (Tr.k Z (ae (aa (aj (aA Z (aA Z (aA Z ?_)))))))
  obtain⟨l,I,H⟩:=bnd H
  obtain⟨z,A,B⟩:=bJ I
  refine aC Z (fun _ _ a c=>aB MC (a.ev Z) b.form (a.ev Z) z A) (aC Z (fun _ _ a c=>aL (cs:=[sv l.Name,iv l.Kind,iv l.Thick,iv l.Grow]) Fh wh (a.ev Z) (aI.take (pq rJ b B c) 4) Z) (aA Z ?_))
  obtain⟨M,J,H⟩:=bnd H
  refine kC (r:=(iv M)) (wn Z) Z Z hg2 (ak Z (ak Z aH)) (fun W hW=>hf2 hW.all hW.aY l p1 _ J) (av bi Z Z (ae (aa (aN Z H (fun H=>?_) (fun H=>?_)))))
  ·exact aV (aA Z (av bE Z Z (Tr.k Z (ae (aQ (aP j ((bP (v+1)),q) H (.r Z) .nil))))))
  ·exact aV (aA Z (Tr.k Z (ae (aQ (aP j (f,v) H (.r Z) .nil)))))
 ·refine bZ (aF (aF (bg (aa (aj (aA Z (aA Z (aA Z (av bi Z Z (aA Z ?_))))))))))
  obtain⟨t,d,H⟩:=bnd H
  refine bM 9 [(35,iv f),(48,bV t)] [] ?_ ?_
  ·cases u:(decide (f<(p0.length:Int)))
   ·rw[u] at d
    rw[if_neg (by decide)] at d
    have H:=d
    obtain rfl:=oI H
    exact aG Z (aG Z (aG Z (aG Z (aG Z (aG Z (aG Z (aG Z (av aU Z Z (ae (aR (.r Z) .nil))))))))))
   ·rw[u] at d
    rw[if_pos Z] at d
    have H:=d
    refine bC run_move Z (bC run_move Z (bC run_move Z ?_))
    obtain⟨o,K,H⟩:=bnd H
    obtain⟨C,D,E⟩:=bJ K
    refine Tr.x (fun _ _ a c=>aB MC (a.ev Z) b.form (a.ev Z) C D) (Tr.x (fun _ _ a c=>aL (cs:=[sv o.Name,iv o.Kind,iv o.Thick,iv o.Grow]) Fh wh (a.ev Z) (aI.take (pq rJ b E c) 4) Z) (bC run_move Z ?_))
    obtain⟨O,L,H⟩:=bnd H
    refine kC (r:=(iv O)) (wg Z Z Z) Z Z hg2 (ak Z (ak Z aH)) (fun W hW=>hf2 hW.all hW.aY o p1 _ L) (dI dM Z Z (av aT Z Z ?_))
    obtain rfl:=oI H
    exact ae (aR (.r Z) .nil)
  ·show Tr _ _ (LF [(35,iv f),(48,bV t)]) (LE []) _
   refine Tr.k Z (Tr.k Z (ae (aa (aJ ?_))))
   obtain rfl:=oI H
   exact bR (m:=[iv f,bV t]) [] (bu Z (bu Z bG)) (fun W hW=>⟨Z,hW.low leB⟩)

theorem yx{w:Bs}(p0:dK)(p1:ByteArray)(r:Int)(H:mI p0 p1=some r)(hE:HF w w.W E0):Calls Tryz.prog 113 [.agg #[sv p0.Name,iv p0.Kind,iv p0.Thick,iv p0.Grow],sv p1].toArray w.W fun e W'=>e= .returned (iv r)∧HF w W' E0:=by
 unfold mI at H
 have leB:=Bs.Le.refl w
 refine aX (n:=9) Tryz.func113 Z Z Z hE (aj (dh 1 (cs:=[sv p0.Name,iv p0.Kind,iv p0.Thick,iv p0.Grow]) (wn Z) Z Z Z fun f=>(Tr.k Z (ae (aa (aj (aD (ag D5) Z (aC Z (fun _ _ a c=>ah jD (a.ev Z) (bN c (vs:=[sv p0.Name,iv p0.Kind,iv p0.Thick,iv p0.Grow]) (k:=1) Z 0) Z) (aA Z ?_)))))))))
 obtain⟨b,d,H⟩:=bnd H
 refine aS (r:=(iv b)) (wn Z) Z Tryz.call114 (ak Z (ak Z aH)) (fun W hW=>jO p0.Name p1 b d (HF.start _)) (Tr.k Z (ae (aa (aJ ?_))))
 obtain rfl:=oI H
 exact bD leB

theorem uL(N:Nat){w:Bs}(p0:(List dK))(d:Option Addr)(f:Nat)(g:Sl w.R w.W iZ d f p0)(p1:ByteArray)(r:(dK×Bool))(H:nT N p0 p1=some r)(hE:HF w w.W E0):Calls Tryz.prog 63 [sL d p0 f,sv p1].toArray w.W fun e W'=>e= .returned (.tuple #[.agg #[sv r.1.Name,iv r.1.Kind,iv r.1.Thick,iv r.1.Grow],bV r.2])∧HF w W' E0:=by
 unfold nT at H
 have leB:=Bs.Le.refl w
 refine aX (n:=21) Tryz.func63 Z Z Z hE (aj (Tr.alloc 1 (wn Z) Z Ka fun q=>(Tr.k Z (ae (aa (aj (aA Z (aA Z ?_))))))))
 obtain⟨h,o,H⟩:=bnd H
 refine aS (r:=(.tuple #[iv h.1,bV h.2])) (wn Z) Z Tryz.call112 (ak Z (ak Z (ak Z aH))) (fun W hW=>pU N p0 d f (g.ext hW.aY) p1 (fun z0 z1=>mI z0 z1) 113 [] Tryz.call113 (fun w' he z0 z1 y hy=>yx z0 z1 y hy (HF.start _)) h o (HF.start _)) (aA Z (aC Z (fun _ _ a c=>bX (a.ev Z) Z) (aC Z (fun _ _ a c=>bX (a.ev Z) Z) (Tr.k Z (Tr.k Z (ae (aa (az (aj (aA Z (aD bT Z (ae (aa (aN Z H (fun H=>?_) (fun H=>?_)))))))))))))))
 ·refine aj (gV (vs:=[]) (cs:=[sv ⟨#[]⟩,iv 0,iv 0,iv 0]) (wn Z) Z dR (by kernel_rfl) (bv 1 (cs:=[sv ⟨#[]⟩,iv 0,iv 0,iv 0]) [sv ⟨#[]⟩,iv 0,iv 0,iv 0] (wn Z) Z Z Z Z wh Z Z Z (Tr.k Z (ae (aa (aJ (ai ?_)))))))
  obtain rfl:=oI H
  exact bR (m:=[.agg #[sv ⟨#[]⟩,iv 0,iv 0,iv 0],bV false]) [1] (fJ Z Z Fh wh (bu Z bG)) (fun W hW=>⟨Z,hW.low leB⟩)
 ·refine aM (aa (aj (aA Z (aA Z ?_))))
  obtain⟨b,p,H⟩:=bnd H
  obtain⟨i,j,l⟩:=bJ p
  refine aC Z (fun _ _ a c=>aB MC (a.ev Z) g.form (a.ev Z) i j) (aC Z (fun _ _ a c=>aL (cs:=[sv b.Name,iv b.Kind,iv b.Thick,iv b.Grow]) Fh wh (a.ev Z) (aI.take (pq rJ g l c) 4) Z) (bv 1 (cs:=[sv b.Name,iv b.Kind,iv b.Thick,iv b.Grow]) [sv b.Name,iv b.Kind,iv b.Thick,iv b.Grow] (wn Z) Z Z Z Z wh Z Z Z (Tr.k Z (ae (aa (aJ ?_))))))
  obtain rfl:=oI H
  exact bR (m:=[.agg #[sv b.Name,iv b.Kind,iv b.Thick,iv b.Grow],bV true]) [1] (fJ Z Z Fh wh (bu Z bG)) (fun W hW=>⟨Z,hW.low leB⟩)

theorem uo(N:Nat){w:Bs}(p0:(List dK))(d:Option Addr)(f:Nat)(g:Sl w.R w.W iZ d f p0)(p1:lV)(r:Int)(H:nU N p0 p1=some r)(hE:HF w w.W E0):Calls Tryz.prog 66 [sL d p0 f,.agg #[sv p1.Name,sv p1.Material]].toArray w.W fun e W'=>e= .returned (iv r)∧HF w W' E0:=by
 unfold nU at H
 have leB:=Bs.Le.refl w
 refine aX (n:=16) Tryz.func66 Z Z Z hE (aj (dh 1 (cs:=[sv p1.Name,sv p1.Material]) (wn Z) Z Z Z fun i=>(Tr.k Z (ae (aa (aj (aA Z (aD (ag Mk) Z (aC Z (fun _ _ a c=>ah jD (a.ev Z) (bN c (vs:=[sv p1.Name,sv p1.Material]) (k:=1) Z 1) Z) ?_)))))))))
 obtain⟨b,h,H⟩:=bnd H
 refine aS (r:=(.tuple #[.agg #[sv b.1.Name,iv b.1.Kind,iv b.1.Thick,iv b.1.Grow],bV b.2])) (wn Z) Z Tryz.call63 (ak Z (ak Z aH)) (fun W hW=>uL N p0 d f (g.ext hW.aY) p1.Material b h (HF.start _)) (aA Z (aC Z (fun _ _ a c=>bX (a.ev Z) Z) (aC Z (fun _ _ a c=>bX (a.ev Z) Z) (Tr.alloc 2 (wn Z) Z Ka fun j=>(bv 2 (cs:=[sv b.1.Name,iv b.1.Kind,iv b.1.Thick,iv b.1.Grow]) [sv b.1.Name,iv b.1.Kind,iv b.1.Thick,iv b.1.Grow] (wn Z) Z Z Z Z wh Z Z Z (Tr.k Z (ae (aa (aj (aD (ag Aj) Z (aC Z (fun _ _ a c=>ah bF (a.ev Z) (bN c (vs:=[sv b.1.Name,iv b.1.Kind,iv b.1.Thick,iv b.1.Grow]) (k:=2) Z 1) Z) (Tr.k Z (ae (aa (aJ ?_)))))))))))))))
 obtain rfl:=oI H
 exact bD leB

theorem CE(N:Nat){w:Bs}(p0:(List dK))(q:Option Addr)(v:Nat)(D:Sl w.R w.W iZ q v p0)(p1:(List lV))(y:Option Addr)(A:Nat)(g:Sl w.R w.W ou y A p1)(r:(List Int))(H:sO N p0 p1=some r)(hE:HF w w.W (mF [emp])):Calls Tryz.prog 65 [sL q p0 v,sL y p1 A].toArray w.W fun e W'=>∃u:(Option Addr×Nat),e= .returned (sL u.1 r u.2)∧(fQ u.1 r.length u.2)∧HF w W' (mF [ow u.1 u.2 3 cK r]):=by
 unfold sO at H
 have leB:=Bs.Le.refl w
 refine aX (n:=25) Tryz.func65 Z Z Z hE (aj (Tr.k Z (bY 1 3 cK ?_)))
 show Tr _ _ (uf _ 4 (sL none (([]:List Int)) 0)) _ _
 refine ae (aa (aj (Tr.k Z (bY 2 3 cK ?_))))
 show Tr _ _ (uf _ 5 (sL none (([]:List Int)) 0)) _ _
 refine ae (aa (az (aj (aA Z (aD (bA Lg) Z (aA Z (ae (aa (Tr.block (cO (σ:=(List lV)×Nat×(List Int)×(Option Addr)×Nat) (fun m w s=>m=s.1.length+1∧s.1=List.drop s.2.1 p1∧s.2.1≤p1.length∧jr N p0 s.1 s.2.1 s.2.2.1=some r∧fQ s.2.2.2.1 s.2.2.1.length s.2.2.2.2) (fun s=>[(0,sL q p0 v),(5,sL s.2.2.2.1 s.2.2.1 s.2.2.2.2),(8,sL y p1 A),(9,iv (p1.length:Int)),(10,iv (s.2.1:Int))]) (fun s=>[(2,ow s.2.2.2.1 s.2.2.2.2 3 cK s.2.2.1)]) (p1.length+1) (p1,0,([]:List Int),none,0) ⟨Z,Z,Nat.zero_le _,H,fP⟩ (.r Z) (.r Z) (fun _ _ h=>absurd h.1 (by simp)) ?_))))))))))
 intro w C m s hs
 obtain⟨b,o,p,i,j⟩:=s
 obtain⟨E,d,O,H,B⟩:=hs
 replace d:b=List.drop o p1:=d
 replace H:jr N p0 b o p=some r:=H
 replace E:m+1=b.length+1:=E
 replace D:=D.iR C
 replace g:=g.iR C
 replace leB:=leB.trans C
 replace B:fQ i p.length j:=B
 obtain rfl:m=b.length:=by omega
 clear E
 dsimp only
 cases b with
 |nil=>
  rw[jr.eq_1] at H
  refine aj (av bi Z Z (ae (aa (az (dn Z (cz d) (bZ (aF (aF (bg (aa (aj (aA Z (Tr.k Z (ae (aa (aJ ?_))))))))))))))))
  obtain rfl:=oI H
  exact bR (m:=[sL i p j]) [] (bu Z bG) (fun W hW=>⟨(i,j),Z,B,HF.qC leB (hW.pick (ks:=[2]) (by decide) (bn Z bO)) ⟨lD _ _ _ _ Gu,trivial⟩⟩)
 | cons f b=>
  rw[jr.eq_2] at H
  refine aj (av bi Z Z (ae (aa (az (dm Z (dz d) (aM (aa (az (Tr.block (aj (aA Z (aC Z (fun _ _ a c=>aB MB (a.ev Z) g.form (a.ev Z) (Int.natCast_nonneg _) (bq d)) (aC Z (fun _ _ a c=>aL (cs:=[sv f.Name,sv f.Material]) Fj yP (a.ev Z) (aI.take (pq vX g (dA d) c) 2) Z) (Tr.alloc 7 (wn Z) Z Np fun P=>(Tr.k Z (bv 7 (cs:=[sv f.Name,sv f.Material]) [sv f.Name,sv f.Material] (wn Z) Z Z Z Z yP Z Z Z (ae (aa (aj (aA Z (aC Z (fun _ _ a c=>aL (cs:=[sv f.Name,sv f.Material]) Fj yP (a.ev Z) (aI.take (bN c (vs:=[sv f.Name,sv f.Material]) (k:=7) Z 0) 2) Z) ?_)))))))))))))))))))))
  obtain⟨F,I,H⟩:=bnd H
  refine aS (r:=(iv F)) (wn Z) Z Tryz.call66 (ak Z (ak Z aH)) (fun W hW=>uo N p0 q v (D.ext hW.aY) f F I (HF.start _)) (av dM Z Z (ae (aa (aN Z H (fun H=>?_) (fun H=>?_)))))
  ·refine aV (aA Z (aA Z (fK 8 (e:=3) (vs:=[(0,iv (o:Int))]) (cs:=[iv (o:Int)]) (wn Z) Z (bQ Z dR) (by kernel_rfl) fun Q=>?_)))
   obtain⟨M,J,H⟩:=bnd H
   exact Tr.append 2 (t:=cK) (l:=p) (l2:=[(o:Int)]) (wn Z) Z Z Z Z (fun W hW=>⟨[[iv (o:Int)]],(.cons ⟨(),trivial,Z⟩ .nil),bN hW (vs:=[iv (o:Int)]) (k:=8) Z 0⟩) ni vM PL (by decide) Qi Z J fun K L G=>(Tr.k Z (ae (aQ (aa (aV (av bE Z Z (aA Z (ae (aP C (b,(o+1),M,K,L) ⟨Z,df d,bq d,H,G⟩ (.cons Z (.cons Z (.cons Z (.cons Z (.cons (congrArg (fun z=>some (Value.int .i64 z)) (cZ d g.form)) .nil))))) (.r Z))))))))))
  ·exact aM (aQ (aa (aV (av bE Z Z (aA Z (ae (aP C (b,(o+1),p,i,j) ⟨Z,df d,bq d,H,B⟩ (.cons Z (.cons Z (.cons Z (.cons Z (.cons (congrArg (fun z=>some (Value.int .i64 z)) (cZ d g.form)) .nil))))) (.r Z))))))))

theorem zJ(N : Nat){w:Bs}(p0:(List dK))(j:Option Addr)(l:Nat)(F:Sl w.R w.W iZ j l p0)(p1:(List lV))(d:Option Addr)(f:Nat)(y:Sl w.R w.W ou d f p1)(r:Int)(H:nV N p0 p1=some r)(hE:HF w w.W E0):Calls Tryz.prog 27 [sL j p0 l,sL d p1 f].toArray w.W fun e W'=>e= .returned (iv r)∧HF w W' E0:=by
 unfold nV at H
 have leB:=Bs.Le.refl w
 refine aX (n:=121) Tryz.func27 Z Z Z hE (aj (Tr.k Z (ae (aa (az (aj (aA Z ?_)))))))
 obtain⟨a1,b4,H⟩:=bnd H
 refine aS (r:=(iv a1)) (wn Z) Z Tryz.call62 (ak Z aH) (fun W hW=>wT N p0 j l (F.ext hW.aY) a1 b4 (HF.start _)) (Tr.k Z (ae (aa (aj (aA Z (av dW Z Z (ae (aa (aN Z H (fun H=>?_) (fun H=>?_))))))))))
 ·refine aj (aA Z (Tr.k Z (ae (aa (aJ (ai ?_))))))
  obtain rfl:=oI H
  exact bD leB
 ·refine aM (aa (az (aj (aA Z (aD (bA Lg) Z (av dE Z Z (ae (aa (aN Z H (fun H=>?_) (fun H=>?_))))))))))
  ·refine aj (Tr.k Z (ae (aa (aJ (ai ?_)))))
   obtain rfl:=oI H
   exact bD leB
  ·refine aM (aa (aj (AO encS wD 1 (wn Z) Z fun i=>(Tr.k Z (ae (aa (aj (Tr.k Z (ae (aa (az (aj (aA Z (aD (bA Lg) Z (aA Z (ae (aa (Tr.block (cO (σ:=(List lV)×Nat×(List (ByteArray))×Int) (fun m w s=>m=s.1.length+1∧s.1=List.drop s.2.1 p1∧s.2.1≤p1.length∧dS N p0 p1 s.1 s.2.1 s.2.2.1 s.2.2.2=some r) (fun s=>[(0,sL j p0 l),(1,sL d p1 f),(6,(.map (some i))),(7,iv s.2.2.2),(23,sL d p1 f),(24,iv (p1.length:Int)),(25,iv (s.2.1:Int))]) (fun s=>[(1,wS encS wD i s.2.2.1)]) (p1.length+1) (p1,0,([]:List (ByteArray)),0) ⟨Z,Z,Nat.zero_le _,H⟩ (.r Z) (.r Z) (fun _ _ h=>absurd h.1 (by simp)) ?_)))))))))))))))))))
   intro w O m s hs
   obtain⟨A,v,t,q⟩:=s
   obtain⟨T,G,c9,H⟩:=hs
   replace G:A=List.drop v p1:=G
   replace H:dS N p0 p1 A v t q=some r:=H
   replace T:m+1=A.length+1:=T
   replace F:=F.iR O
   replace y:=y.iR O
   replace leB:=leB.trans O
   obtain rfl:m=A.length:=by omega
   clear T
   dsimp only
   cases A with
   | nil=>
    rw[dS.eq_1] at H
    refine aj (av bi Z Z (ae (aa (az (dn Z (cz G) (bZ (aF (aF (bg (aa (az (aj (aA Z (aA Z ?_))))))))))))))
    obtain⟨E,b5,H⟩:=bnd H
    refine kz [6] [emp] (U:=(Option Addr×Nat)) (fun u=>(sL u.1 E u.2)) (fun u=>fQ u.1 E.length u.2) (fun u=>[ow u.1 u.2 3 cK E]) Z (bn Z bO) (fun _=>Z) (wn Z) Z Tryz.call65 (ak Z (ak Z aH)) (fun W hW hp hE=>CE N p0 j l (F.ext (hW.fM hp)) p1 d f (y.ext (hW.fM hp)) E b5 hE) ?_
    intro u hu
    obtain⟨B,C⟩:=u
    have a0:=hu
    have c6:fQ B E.length C:=a0 --@phi
    dsimp only
    refine aD (bA ni) Z (Tr.k Z (ae (aa (aj (aA Z (av bi Z Z (aA Z ?_)))))))
    obtain⟨V,I,H⟩:=bnd H
    refine bM 7 [(0,sL j p0 l),(1,sL d p1 f),(109,bV V)] [(1,wS encS wD i t),(6,ow B C 3 cK E)] ?_ ?_
    ·cases M:(decide ((E.length:Int)<2))
     ·rw[M] at I
      rw[if_neg (by decide)] at I
      have H:=I
      refine bC run_move Z (bC run_move Z ?_)
      obtain⟨X,b6,H⟩:=bnd H
      obtain⟨a2,a3,a4⟩:=bJ b6
      refine Tr.x (fun _ _ a c=>aB MB (a.ev Z) y.form (a.ev Z) a2 a3) (Tr.x (fun _ _ a c=>aL (cs:=[sv X.Name,sv X.Material]) Fj yP (a.ev Z) (aI.take (pq vX y a4 c) 2) Z) ?_)
      obtain⟨a5,b7,H⟩:=bnd H
      refine aS (r:=(iv a5)) (wg Z Z Z) Z Tryz.call66 (ak Z (ak Z aH)) (fun W hW=>uo N p0 j l (F.ext hW.aY) X a5 b7 (HF.start _)) (dI dW Z Z (av aU Z Z ?_))
      obtain rfl:=oI H
      exact ae (aR (.r Z) (.r Z))
     ·rw[M] at I
      rw[if_pos Z] at I
      have H:=I
      obtain rfl:=oI H
      exact aG Z (aG Z (aG Z (aG Z (aG Z (aG Z (av aT Z Z (ae (aR (.r Z) (.r Z)))))))))
    ·show Tr _ _ (LF [(0,sL j p0 l),(1,sL d p1 f),(109,bV V)]) (LE [(1,wS encS wD i t),(6,ow B C 3 cK E)]) _
     refine aA Z ?_
     obtain⟨a6,J,H⟩:=bnd H
     refine bM 10 [(120,bV a6)] [(1,wS encS wD i t),(6,ow B C 3 cK E)] ?_ ?_
     ·cases M:V
      ·rw[M] at J
       rw[if_neg (by decide)] at J
       have H:=J
       refine bC run_move Z (bC run_move Z (bC run_move Z (bC (bA Lg) Z (dI gH Z Z ?_))))
       obtain⟨a',b8,H⟩:=bnd H
       obtain⟨a7,a8,a9⟩:=bJ b8
       refine Tr.x (fun _ _ a c=>aB MB (a.ev Z) y.form (a.ev Z) a7 a8) (Tr.x (fun _ _ a c=>aL (cs:=[sv a'.Name,sv a'.Material]) Fj yP (a.ev Z) (aI.take (pq vX y a9 c) 2) Z) ?_)
       obtain⟨b0,b9,H⟩:=bnd H
       refine aS (r:=(iv b0)) (wg Z Z Z) Z Tryz.call66 (ak Z (ak Z aH)) (fun W hW=>uo N p0 j l (F.ext hW.aY) a' b0 b9 (HF.start _)) (dI dW Z Z (av aU Z Z ?_))
       obtain rfl:=oI H
       exact ae (aR (.r Z) (.r Z))
      ·rw[M] at J
       rw[if_pos Z] at J
       have H:=J
       obtain rfl:=oI H
       exact aG Z (aG Z (aG Z (aG Z (aG Z (aG Z (aG Z (aG Z (aG Z (av aT Z Z (ae (aR (.r Z) (.r Z))))))))))))
     ·show Tr _ _ (LF [(120,bV a6)]) (LE [(1,wS encS wD i t),(6,ow B C 3 cK E)]) _
      refine ae (aa (aN Z H (fun H=>?_) (fun H=>?_)))
      ·refine aj (Tr.k Z (ae (aa (aJ (ai ?_)))))
       obtain rfl:=oI H
       exact bD leB
      ·refine aM (aa (aj (Tr.k Z (ae (aa (aJ ?_))))))
       obtain rfl:=oI H
       exact bD leB
   | cons g A =>
    rw[dS.eq_2] at H
    refine aj (av bi Z Z (ae (aa (az (dm Z (dz G) (aM (aa (az (Tr.block (aj (aC Z (fun _ _ a c=>aB MB (a.ev Z) y.form (a.ev Z) (Int.natCast_nonneg _) (bq G)) (aC Z (fun _ _ a c=>aL (cs:=[sv g.Name,sv g.Material]) Fj yP (a.ev Z) (aI.take (pq vX y (dA G) c) 2) Z) (Tr.alloc 7 (wn Z) Z Np fun o=>(bv 7 (cs:=[sv g.Name,sv g.Material]) [sv g.Name,sv g.Material] (wn Z) Z Z Z Z yP Z Z Z (ae (aa (aj (aA Z (aD (ag Mk) Z (aC Z (fun _ _ a c=>ah jD (a.ev Z) (bN c (vs:=[sv g.Name,sv g.Material]) (k:=7) Z 1) Z) ?_))))))))))))))))))))
    obtain⟨b,c0,H⟩:=bnd H
    refine aS (r:=(.tuple #[.agg #[sv b.1.Name,iv b.1.Kind,iv b.1.Thick,iv b.1.Grow],bV b.2])) (wn Z) Z Tryz.call63 (ak Z (ak Z aH)) (fun W hW=>uL N p0 j l (F.ext hW.aY) g.Material b c0 (HF.start _)) (aA Z (aC Z (fun _ _ a c=>bX (a.ev Z) Z) (aC Z (fun _ _ a c=>bX (a.ev Z) Z) (Tr.alloc 8 (wn Z) Z Ka fun p=>(bv 8 (cs:=[sv b.1.Name,iv b.1.Kind,iv b.1.Thick,iv b.1.Grow]) [sv b.1.Name,iv b.1.Kind,iv b.1.Thick,iv b.1.Grow] (wn Z) Z Z Z Z wh Z Z Z (Tr.k Z (ae (aa (aj (aD (ag Aj) Z (aC Z (fun _ _ a c=>ah bF (a.ev Z) (bN c (vs:=[sv b.1.Name,iv b.1.Kind,iv b.1.Thick,iv b.1.Grow]) (k:=8) Z 1) Z) (av dM Z Z (Tr.k Z (ae (aa (az (Tr.block (aj (aA Z (aD bT Z (Tr.k Z ?_)))))))))))))))))))))
    refine ae (aa (aN Z H (fun H=>?_) (fun H=>?_)))
    ·refine aj (Tr.k Z (ae (aa (aJ (au (ai (au (ai (ai (au (ai ?_)))))))))))
     obtain rfl:=oI H
     exact bD leB
    ·refine aj (aA Z (aA Z ?_))
     obtain⟨P,K,H⟩:=bnd H
     refine bM 5 [(0,sL j p0 l),(1,sL d p1 f),(6,(.map (some i))),(7,iv q),(9,pV o),(10,pV p),(12,bV (b.1.Kind==1)),(23,sL d p1 f),(24,iv (p1.length:Int)),(25,iv (v:Int)),(49,bV P)] [(1,wS encS wD i t),(7,bx o #[sv g.Name,sv g.Material] 147),(8,bx p #[sv b.1.Name,iv b.1.Kind,iv b.1.Thick,iv b.1.Grow] 149)] ?_ ?_
     ·cases D:(b.1.Kind==1)
      ·rw[D] at K
       rw[if_neg (by decide)] at K
       have H:=K
       obtain rfl:=oI H
       exact aG Z (aG Z (aG Z (aG Z (av aU Z Z (ae (aR (.r Z) (.r Z)))))))
      ·rw[D] at K
       rw[if_pos Z] at K
       have H:=K
       refine bC (ag Ak) Z (Tr.x (fun _ _ a c=>ah jD (a.ev Z) (bN c (vs:=[sv g.Name,sv g.Material]) (k:=7) Z 0) Z) ?_)
       obtain⟨b1,c3,H⟩:=bnd H
       refine aS (r:=(bV b1)) (wg Z Z Z) Z Tryz.call64 (ak Z aH) (fun W hW=>jJ N g.Name b1 c3 (HF.start _)) (bC bT Z (av aT Z Z ?_))
       obtain rfl:=oI H
       exact ae (aR (.r Z) (.r Z))
     ·show Tr _ _ (LF [(0,sL j p0 l),(1,sL d p1 f),(6,(.map (some i))),(7,iv q),(9,pV o),(10,pV p),(12,bV (b.1.Kind==1)),(23,sL d p1 f),(24,iv (p1.length:Int)),(25,iv (v:Int)),(49,bV P)]) (LE [(1,wS encS wD i t),(7,bx o #[sv g.Name,sv g.Material] 147),(8,bx p #[sv b.1.Name,iv b.1.Kind,iv b.1.Thick,iv b.1.Grow] 149)]) _
      refine aA Z (bM 8 [(0,sL j p0 l),(1,sL d p1 f),(6,(.map (some i))),(7,iv q),(9,pV o),(10,pV p),(12,bV (b.1.Kind==1)),(23,sL d p1 f),(24,iv (p1.length:Int)),(25,iv (v:Int)),(58,bV (P||((!(b.1.Kind==1))&&(!rW g.Name (⟨#[]⟩)))))] [(1,wS encS wD i t),(7,bx o #[sv g.Name,sv g.Material] 147),(8,bx p #[sv b.1.Name,iv b.1.Kind,iv b.1.Thick,iv b.1.Grow] 149)] ?_ ?_)
      ·cases D:P
       ·refine bC run_move Z (bC bT Z (bC run_move Z (bM 4 [(0,sL j p0 l),(1,sL d p1 f),(6,(.map (some i))),(7,iv q),(9,pV o),(10,pV p),(12,bV (b.1.Kind==1)),(23,sL d p1 f),(24,iv (p1.length:Int)),(25,iv (v:Int)),(50,bV false),(57,bV ((!(b.1.Kind==1))&&(!rW g.Name (⟨#[]⟩))))] [(1,wS encS wD i t),(7,bx o #[sv g.Name,sv g.Material] 147),(8,bx p #[sv b.1.Name,iv b.1.Kind,iv b.1.Thick,iv b.1.Grow] 149)] ?_ ?_)))
        ·cases c8:(!(b.1.Kind==1))
         ·exact aG Z (aG Z (aG Z (dI aU Z Z (ae (aR (.r Z) (.r Z))))))
         ·exact bC (ag Ak) Z (Tr.x (fun _ _ a c=>ah jD (a.ev Z) (bN c (vs:=[sv g.Name,sv g.Material]) (k:=7) Z 0) Z) (dI zY Z Z (dI aT Z Z (ae (aR (.r Z) (.r Z))))))
        ·dsimp only
         exact av aU Z Z (ae (aR (.r Z) (.r Z)))
       ·exact aG Z (aG Z (aG Z (ky Z (ky Z (ky Z (aG Z (av aT Z Z (ae (aR (.r Z) (.r Z))))))))))
      ·show Tr _ _ (LF [(0,sL j p0 l),(1,sL d p1 f),(6,(.map (some i))),(7,iv q),(9,pV o),(10,pV p),(12,bV (b.1.Kind==1)),(23,sL d p1 f),(24,iv (p1.length:Int)),(25,iv (v:Int)),(58,bV (P||((!(b.1.Kind==1))&&(!rW g.Name (⟨#[]⟩)))))]) (LE [(1,wS encS wD i t),(7,bx o #[sv g.Name,sv g.Material] 147),(8,bx p #[sv b.1.Name,iv b.1.Kind,iv b.1.Thick,iv b.1.Grow] 149)]) _
       refine Tr.k Z (ae (aa (aN Z H (fun H=>?_) (fun H=>?_))))
       ·refine aj (Tr.k Z (ae (aa (aJ (au (ai (au (ai (ai (au (ai ?_)))))))))))
        obtain rfl:=oI H
        exact bD leB
       ·refine aj (aA Z (aA Z ?_))
        obtain⟨b2,L,H⟩:=bnd H
        refine bM 5 [(0,sL j p0 l),(1,sL d p1 f),(6,(.map (some i))),(7,iv q),(9,pV o),(10,pV p),(12,bV (b.1.Kind==1)),(23,sL d p1 f),(24,iv (p1.length:Int)),(25,iv (v:Int)),(66,bV b2)] [(1,wS encS wD i t),(7,bx o #[sv g.Name,sv g.Material] 147),(8,bx p #[sv b.1.Name,iv b.1.Kind,iv b.1.Thick,iv b.1.Grow] 149)] ?_ ?_
        ·cases D:(b.1.Kind==1)
         ·rw[D] at L
          rw[if_neg (by decide)] at L
          have H:=L
          obtain rfl:=oI H
          exact aG Z (aG Z (aG Z (aG Z (av aU Z Z (ae (aR (.r Z) (.r Z)))))))
         ·rw[D] at L
          rw[if_pos Z] at L
          have H:=L
          refine bC run_move Z (bC (ag Ak) Z (Tr.x (fun _ _ a c=>ah jD (a.ev Z) (bN c (vs:=[sv g.Name,sv g.Material]) (k:=7) Z 0) Z) ?_))
          obtain⟨d0,c4,H⟩:=bnd H
          refine Tr.x (fun _ _ a c=>zZ Kg (Uk EE) VO (a.ev Z) (a.ev Z) c (k0:=1) Z c4) (av aT Z Z ?_)
          obtain rfl:=oI H
          exact ae (aR (.r Z) (.r Z))
        ·show Tr _ _ (LF [(0,sL j p0 l),(1,sL d p1 f),(6,(.map (some i))),(7,iv q),(9,pV o),(10,pV p),(12,bV (b.1.Kind==1)),(23,sL d p1 f),(24,iv (p1.length:Int)),(25,iv (v:Int)),(66,bV b2)]) (LE [(1,wS encS wD i t),(7,bx o #[sv g.Name,sv g.Material] 147),(8,bx p #[sv b.1.Name,iv b.1.Kind,iv b.1.Thick,iv b.1.Grow] 149)]) _
         refine Tr.k Z (ae (aa (aN Z H (fun H=>?_) (fun H=>?_))))
         ·refine aj (Tr.k Z (ae (aa (aJ (au (ai (au (ai (ai (au (ai ?_)))))))))))
          obtain rfl:=oI H
          exact bD leB
         ·have Q :=Bs.Le.refl w
          refine pz (σ:=Bool) (fun w s=>iY t (dS N p0 p1 A (v+1)) g b s=some r) (fun s=>[(0,sL j p0 l),(1,sL d p1 f),(6,(.map (some i))),(9,pV o),(10,pV p),(23,sL d p1 f),(24,iv (p1.length:Int)),(25,iv (v:Int)),(67,bV s)]) (fun s=>[(1,wS encS wD i t),(7,bx o #[sv g.Name,sv g.Material] 147),(8,bx p #[sv b.1.Name,iv b.1.Kind,iv b.1.Thick,iv b.1.Grow] 149)]) ?_ ?_
          ·refine aj (aA Z (aA Z (bM 3 [(0,sL j p0 l),(1,sL d p1 f),(6,(.map (some i))),(7,iv q),(9,pV o),(10,pV p),(12,bV (b.1.Kind==1)),(23,sL d p1 f),(24,iv (p1.length:Int)),(25,iv (v:Int)),(72,bV ((b.1.Kind==1)&&(q==1)))] [(1,wS encS wD i t),(7,bx o #[sv g.Name,sv g.Material] 147),(8,bx p #[sv b.1.Name,iv b.1.Kind,iv b.1.Thick,iv b.1.Grow] 149)] ?_ ?_)))
           ·cases D:(b.1.Kind==1)
            ·exact aG Z (aG Z (av aU Z Z (ae (aR (.r Z) (.r Z)))))
            ·exact bC run_move Z (dI dM Z Z (av aT Z Z (ae (aR (.r Z) (.r Z)))))
           ·show Tr _ _ (LF [(0,sL j p0 l),(1,sL d p1 f),(6,(.map (some i))),(7,iv q),(9,pV o),(10,pV p),(12,bV (b.1.Kind==1)),(23,sL d p1 f),(24,iv (p1.length:Int)),(25,iv (v:Int)),(72,bV ((b.1.Kind==1)&&(q==1)))]) (LE [(1,wS encS wD i t),(7,bx o #[sv g.Name,sv g.Material] 147),(8,bx p #[sv b.1.Name,iv b.1.Kind,iv b.1.Thick,iv b.1.Grow] 149)]) _
            refine Tr.k Z (ae (aa (aN Z H (fun H=>?_) (fun H=>?_))))
            ·exact aM (aP Q ((b.1.Kind==1)&&(q==1)) H (.r Z) (.r Z))
            ·refine aj (aD (ag Aj) Z (aC Z (fun _ _ a c=>ah bF (a.ev Z) (bN c (vs:=[sv b.1.Name,iv b.1.Kind,iv b.1.Thick,iv b.1.Grow]) (k:=8) Z 1) Z) (av dM Z Z (aA Z (bM 3 [(0,sL j p0 l),(1,sL d p1 f),(6,(.map (some i))),(7,iv q),(9,pV o),(10,pV p),(12,bV (b.1.Kind==1)),(23,sL d p1 f),(24,iv (p1.length:Int)),(25,iv (v:Int)),(79,bV ((b.1.Kind==2)&&(q !=0)))] [(1,wS encS wD i t),(7,bx o #[sv g.Name,sv g.Material] 147),(8,bx p #[sv b.1.Name,iv b.1.Kind,iv b.1.Thick,iv b.1.Grow] 149)] ?_ ?_)))))
             ·cases D:(b.1.Kind==2)
              ·exact aG Z (aG Z (av aU Z Z (ae (aR (.r Z) (.r Z)))))
              ·exact bC run_move Z (dI dW Z Z (av aT Z Z (ae (aR (.r Z) (.r Z)))))
             ·show Tr _ _ (LF [(0,sL j p0 l),(1,sL d p1 f),(6,(.map (some i))),(7,iv q),(9,pV o),(10,pV p),(12,bV (b.1.Kind==1)),(23,sL d p1 f),(24,iv (p1.length:Int)),(25,iv (v:Int)),(79,bV ((b.1.Kind==2)&&(q !=0)))]) (LE [(1,wS encS wD i t),(7,bx o #[sv g.Name,sv g.Material] 147),(8,bx p #[sv b.1.Name,iv b.1.Kind,iv b.1.Thick,iv b.1.Grow] 149)]) _
              refine aA Z (bM 3 [(0,sL j p0 l),(1,sL d p1 f),(6,(.map (some i))),(7,iv q),(9,pV o),(10,pV p),(12,bV (b.1.Kind==1)),(23,sL d p1 f),(24,iv (p1.length:Int)),(25,iv (v:Int)),(83,bV (((b.1.Kind==2)&&(q !=0))&&(q !=1)))] [(1,wS encS wD i t),(7,bx o #[sv g.Name,sv g.Material] 147),(8,bx p #[sv b.1.Name,iv b.1.Kind,iv b.1.Thick,iv b.1.Grow] 149)] ?_ ?_)
              ·cases D:((b.1.Kind==2)&&(q !=0))
               ·exact aG Z (aG Z (av aU Z Z (ae (aR (.r Z) (.r Z)))))
               ·exact bC run_move Z (dI dW Z Z (av aT Z Z (ae (aR (.r Z) (.r Z)))))
              ·show Tr _ _ (LF [(0,sL j p0 l),(1,sL d p1 f),(6,(.map (some i))),(7,iv q),(9,pV o),(10,pV p),(12,bV (b.1.Kind==1)),(23,sL d p1 f),(24,iv (p1.length:Int)),(25,iv (v:Int)),(83,bV (((b.1.Kind==2)&&(q !=0))&&(q !=1)))]) (LE [(1,wS encS wD i t),(7,bx o #[sv g.Name,sv g.Material] 147),(8,bx p #[sv b.1.Name,iv b.1.Kind,iv b.1.Thick,iv b.1.Grow] 149)]) _
               refine Tr.k Z (ae (aa (aN Z H (fun H=>?_) (fun H=>?_))))
               ·exact aM (aP Q (((b.1.Kind==2)&&(q !=0))&&(q !=1)) H (.r Z) (.r Z))
               ·refine aV (aA Z (av dM Z Z (aA Z (bM 3 [(0,sL j p0 l),(1,sL d p1 f),(6,(.map (some i))),(9,pV o),(10,pV p),(23,sL d p1 f),(24,iv (p1.length:Int)),(25,iv (v:Int)),(89,bV ((q==2)&&(!(b.1.Kind==1))))] [(1,wS encS wD i t),(7,bx o #[sv g.Name,sv g.Material] 147),(8,bx p #[sv b.1.Name,iv b.1.Kind,iv b.1.Thick,iv b.1.Grow] 149)] ?_ ?_))))
                ·cases D:(q==2)
                 ·exact aG Z (aG Z (av aU Z Z (ae (aR (.r Z) (.r Z)))))
                 ·exact bC run_move Z (bC bT Z (av aT Z Z (ae (aR (.r Z) (.r Z)))))
                ·show Tr _ _ (LF [(0,sL j p0 l),(1,sL d p1 f),(6,(.map (some i))),(9,pV o),(10,pV p),(23,sL d p1 f),(24,iv (p1.length:Int)),(25,iv (v:Int)),(89,bV ((q==2)&&(!(b.1.Kind==1))))]) (LE [(1,wS encS wD i t),(7,bx o #[sv g.Name,sv g.Material] 147),(8,bx p #[sv b.1.Name,iv b.1.Kind,iv b.1.Thick,iv b.1.Grow] 149)]) _
                 exact Tr.k Z (ae (aP Q ((q==2)&&(!(b.1.Kind==1))) H (.r Z) (.r Z)))
          ·intro w b3 S hs
           have H:=hs
           replace H:iY t (dS N p0 p1 A (v+1)) g b b3=some r:=H
           replace y:=y.iR S
           replace leB:=leB.trans S
           replace O:=O.trans S
           unfold iY at H
           show Tr _ _ (LF [(0,sL j p0 l),(1,sL d p1 f),(6,(.map (some i))),(9,pV o),(10,pV p),(23,sL d p1 f),(24,iv (p1.length:Int)),(25,iv (v:Int)),(67,bV b3)]) (LE [(1,wS encS wD i t),(7,bx o #[sv g.Name,sv g.Material] 147),(8,bx p #[sv b.1.Name,iv b.1.Kind,iv b.1.Thick,iv b.1.Grow] 149)]) _
           refine aN Z H (fun H=>?_) (fun H=>?_)
           ·refine aj (Tr.k Z (ae (aa (aJ (au (ai (au (ai (ai (au (ai ?_)))))))))))
            obtain rfl:=oI H
            exact bD leB
           ·refine aM (aQ (aa (aj (aA Z (aD (ag Ak) Z (aC Z (fun _ _ a c=>ah jD (a.ev Z) (bN c (vs:=[sv g.Name,sv g.Material]) (k:=7) Z 0) Z) ?_))))))
            obtain⟨c7,c5,H⟩:=bnd H
            exact Cz 1 (wn Z) Kg (Uk EE) Z Z Z Z c5 (ae (aa (aV (aD (ag Aj) Z (aC Z (fun _ _ a c=>ah bF (a.ev Z) (bN c (vs:=[sv b.1.Name,iv b.1.Kind,iv b.1.Thick,iv b.1.Grow]) (k:=8) Z 1) Z) (Tr.k Z (ae (aQ (aa (aV (av bE Z Z (aA Z (ae (aP O (A,(v+1),c7,b.1.Kind) ⟨Z,df G,bq G,H⟩ (.cons Z (.cons Z (.cons Z (.cons Z (.cons Z (.cons Z (.cons (congrArg (fun z=>some (Value.int .i64 z)) (cZ G y.form)) .nil))))))) (.r Z)))))))))))))))

theorem CS{w:Bs}(p0:lU)(A:Option Addr)(B:Nat)(a4:Sl w.R w.W iB A B p0.Types)(C:Option Addr)(D:Nat)(a5:Sl w.R w.W mH C D p0.List_.Parts)(E:Option Addr)(F:Nat)(a6:Sl w.R w.W rH E F p0.List_.Nets)(G:Option Addr)(I:Nat)(a7:Sl w.R w.W iZ G I p0.Materials)(f:Option Addr)(g:Nat)(i:Sl w.R w.W ou f g p0.Stack)(J:Option Addr)(K:Nat)(a8:Sl w.R w.W sF J K p0.Plots)(L:Option Addr)(M:Nat)(a9:Sl w.R w.W cB L M p0.Outline.Tools)(N:Option Addr)(O:Nat)(b0:Sl w.R w.W bH N O p0.Outline.Steps)(P:Option Addr)(Q:Nat)(b1:Sl w.R w.W eZ P Q p0.Bores)(S:Option Addr)(T:Nat)(b2:Sl w.R w.W oL S T p0.Bodies)(j:Option Addr)(l:Nat)(a0:Sl w.R w.W pK j l p0.Places)(o:Option Addr)(p:Nat)(a1:Sl w.R w.W sG o p p0.Feet)(q:Option Addr)(t:Nat)(a2:Sl w.R w.W jX q t p0.Rules.Classes)(u:Option Addr)(v:Nat)(a3:Sl w.R w.W kV u v p0.Rules.Areas)(r:Int)(H:sQ p0=some r)(hE:HF w w.W E0):Calls Tryz.prog 28 [.agg #[sL A p0.Types B,sL C p0.List_.Parts D,sL E p0.List_.Nets F,sL G p0.Materials I,sL f p0.Stack g,sL J p0.Plots K,iv p0.Outline.Unit,sL L p0.Outline.Tools M,sL N p0.Outline.Steps O,sL P p0.Bores Q,sL S p0.Bodies T,sL j p0.Places l,sL o p0.Feet p,iv p0.Rules.Clearance,iv p0.Rules.Width,iv p0.Rules.Ring,iv p0.Rules.Edge,iv p0.Rules.HoleGap,sL q p0.Rules.Classes t,sL u p0.Rules.Areas v]].toArray w.W fun e W'=>e= .returned (iv r)∧HF w W' E0:=by
 unfold sQ at H
 have leB:=Bs.Le.refl w
 refine aX (n:=20) Tryz.func28 Z Z Z hE (aj (dh 1 (cs:=[sL A p0.Types B,sL C p0.List_.Parts D,sL E p0.List_.Nets F,sL G p0.Materials I,sL f p0.Stack g,sL J p0.Plots K,iv p0.Outline.Unit,sL L p0.Outline.Tools M,sL N p0.Outline.Steps O,sL P p0.Bores Q,sL S p0.Bodies T,sL j p0.Places l,sL o p0.Feet p,iv p0.Rules.Clearance,iv p0.Rules.Width,iv p0.Rules.Ring,iv p0.Rules.Edge,iv p0.Rules.HoleGap,sL q p0.Rules.Classes t,sL u p0.Rules.Areas v]) (wn Z) Z Z Z fun b3=>(Tr.k Z (ae (aa (aj (Tr.k Z (ae (aa (az (aj (aD (ag Pb) Z (aC Z (fun _ _ a c=>ah VJ (a.ev Z) (bN c (vs:=[sL A p0.Types B,sL C p0.List_.Parts D,sL E p0.List_.Nets F,sL G p0.Materials I,sL f p0.Stack g,sL J p0.Plots K,iv p0.Outline.Unit,sL L p0.Outline.Tools M,sL N p0.Outline.Steps O,sL P p0.Bores Q,sL S p0.Bodies T,sL j p0.Places l,sL o p0.Feet p,iv p0.Rules.Clearance,iv p0.Rules.Width,iv p0.Rules.Ring,iv p0.Rules.Edge,iv p0.Rules.HoleGap,sL q p0.Rules.Classes t,sL u p0.Rules.Areas v]) (k:=1) Z 4) Z) (aD (bA Lg) Z (aA Z (ae (aa (Tr.block (cO (σ:=(List lV)×Nat×Int) (fun m w s=>m=s.1.length+1∧s.1=List.drop s.2.1 p0.Stack∧s.2.1≤p0.Stack.length∧jv s.1 s.2.1 s.2.2=some r) (fun s=>[(3,iv s.2.2),(7,sL f p0.Stack g),(8,iv (p0.Stack.length:Int)),(9,iv (s.2.1:Int))]) (fun s=>[]) (p0.Stack.length+1) (p0.Stack,0,0) ⟨Z,Z,Nat.zero_le _,H⟩ (.r Z) .nil (fun _ _ h=>absurd h.1 (by simp)) ?_)))))))))))))))))))
 intro w U m s hs
 obtain⟨b,X,V⟩:=s
 obtain⟨a',d,b4,H⟩:=hs
 replace d:b=List.drop X p0.Stack:=d
 replace H:jv b X V=some r:=H
 replace a':m+1=b.length+1:=a'
 replace i:=i.iR U
 replace leB:=leB.trans U
 obtain rfl:m=b.length:=by omega
 clear a'
 dsimp only
 cases b with
 |nil=>
  rw[jv.eq_1] at H
  refine aj (av bi Z Z (ae (aa (az (dn Z (cz d) (bZ (aF (aF (bg (aa (aj (aA Z (Tr.k Z (ae (aa (aJ ?_))))))))))))))))
  obtain rfl:=oI H
  exact bD leB
 |cons y b=>
  rw[jv.eq_2] at H
  refine aj (av bi Z Z (ae (aa (az (dm Z (dz d) (aM (aa (az (Tr.block (aj (aC Z (fun _ _ a c=>aB MB (a.ev Z) i.form (a.ev Z) (Int.natCast_nonneg _) (bq d)) (aC Z (fun _ _ a c=>aL (cs:=[sv y.Name,sv y.Material]) Fj yP (a.ev Z) (aI.take (pq vX i (dA d) c) 2) Z) (Tr.alloc 4 (wn Z) Z Np fun b5=>(bv 4 (cs:=[sv y.Name,sv y.Material]) [sv y.Name,sv y.Material] (wn Z) Z Z Z Z yP Z Z Z (ae (aa (aj (aD (ag Ak) Z (aC Z (fun _ _ a c=>ah jD (a.ev Z) (bN c (vs:=[sv y.Name,sv y.Material]) (k:=4) Z 0) Z) (av zY Z Z (ae (aa (aN Z H (fun H=>?_) (fun H=>?_))))))))))))))))))))))))
  ·exact aV (aA Z (av bE Z Z (Tr.k Z (ae (aQ (aa (aV (av bE Z Z (aA Z (ae (aP U (b,(X+1),(bP (V+1))) ⟨Z,df d,bq d,H⟩ (.cons Z (.cons Z (.cons Z (.cons (congrArg (fun z=>some (Value.int .i64 z)) (cZ d i.form)) .nil)))) .nil)))))))))))
  ·exact aM (aQ (aa (aV (av bE Z Z (aA Z (ae (aP U (b,(X+1),V) ⟨Z,df d,bq d,H⟩ (.cons Z (.cons Z (.cons Z (.cons (congrArg (fun z=>some (Value.int .i64 z)) (cZ d i.form)) .nil)))) .nil)))))))

theorem nS{w:Bs}(p0:Int)(p1:Int)(p2:Int)(r:Bool)(H:kS p0 p1 p2=some r)(hE:HF w w.W E0):Calls Tryz.prog 67 [iv p0,iv p1,iv p2].toArray w.W fun e W'=>e= .returned (bV r)∧HF w W' E0:=by
 unfold kS at H
 have leB:=Bs.Le.refl w
 refine aX (n:=15) Tryz.func67 Z Z Z hE (aj (Tr.k Z (ae (aa (aj (aA Z (aA Z (av kG Z Z (aA Z (bM 4 [(14,bV ((decide (p1≤p0))&&(decide (p0≤p2))))] [] ?_ ?_))))))))))
 ·cases a:(decide (p1≤p0))
  ·exact aG Z (aG Z (aG Z (av aU Z Z (ae (aR (.r Z) .nil)))))
  ·exact bC run_move Z (bC run_move Z (dI iT Z Z (av aT Z Z (ae (aR (.r Z) .nil)))))
 ·show Tr _ _ (LF [(14,bV ((decide (p1≤p0))&&(decide (p0≤p2))))]) (LE []) _
  refine Tr.k Z (ae (aa (aJ ?_)))
  obtain rfl:=oI H
  exact bD leB

end Go.Proofs.YtgijeiamflmkeaaGreatDoor
