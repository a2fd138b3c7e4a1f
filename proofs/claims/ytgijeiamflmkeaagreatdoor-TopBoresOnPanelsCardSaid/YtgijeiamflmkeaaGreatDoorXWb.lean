/- The walks: each function computes its plain function. -/
import Derived.Test.YtgijeiamflmkeaaGreatDoorXWa
namespace Go.Proofs.YtgijeiamflmkeaaGreatDoor
open Go.RowKit
set_option maxRecDepth 100000
set_option maxHeartbeats 1000000
theorem yH(N:Nat){w:Bs}(p0:ByteArray)(r:Bool)(H:jW N p0=some r)(hE:HF w w.W E0):Calls Tryz.prog 96 [sv p0].toArray w.W fun e W'=>e= .returned (bV r)∧HF w W' E0:=by
 unfold jW at H
 have leB:=Bs.Le.refl w
 refine aX (n:=59) Tryz.func96 Z Z Z hE (aj (Tr.k Z (ae (aa (az (aj (aA Z (aD (wu EE) Z (aA Z (ae (aa (Tr.block (cO (σ:=Int) (fun m w s=>gu p0 m s=some r) (fun s=>[(0,sv p0),(7,iv (p0.size:Int)),(8,iv s)]) (fun s=>[]) N 0 H (.r Z) .nil (fun _ _ h=>oq (h)) ?_)))))))))))))
 intro w g j d hs
 have H:=hs
 replace H:gu p0 (j+1) d=some r:=H
 replace leB:=leB.trans g
 rw[gu.eq_2] at H
 show Tr _ _ (LF [(0,sv p0),(7,iv (p0.size:Int)),(8,iv d)]) (LE []) _
 refine aj (av bi Z Z (ae (aa (az (aN Z H (fun H=>?_) (fun H=>?_))))))
 ·refine aM (aa (az (Tr.block (aj (aA Z (Tr.k Z (ae (aa (aj (aA Z (aA Z ?_)))))))))))
  obtain⟨b,i,H⟩:=bnd H
  refine aC Z (fun _ _ a c=>GM EE (a.ev Z) (a.ev Z) i) (Tr.k Z (ae (aa (aj (aA Z (av kG Z Z (aA Z (bM 3 [(0,sv p0),(3,iv d),(4,.int .u8 b),(7,iv (p0.size:Int)),(8,iv d),(19,bV ((decide (97≤b))&&(decide (b≤122))))] [] ?_ ?_))))))))
  ·cases f:(decide (97≤b))
   ·exact aG Z (aG Z (av aU Z Z (ae (aR (.r Z) .nil))))
   ·exact bC run_move Z (dI iT Z Z (av aT Z Z (ae (aR (.r Z) .nil))))
  ·show Tr _ _ (LF [(0,sv p0),(3,iv d),(4,.int .u8 b),(7,iv (p0.size:Int)),(8,iv d),(19,bV ((decide (97≤b))&&(decide (b≤122))))]) (LE []) _
   refine aA Z (bM 7 [(0,sv p0),(3,iv d),(4,.int .u8 b),(7,iv (p0.size:Int)),(8,iv d),(27,bV (((decide (97≤b))&&(decide (b≤122)))||((decide (65≤b))&&(decide (b≤90)))))] [] ?_ ?_)
   ·cases f:((decide (97≤b))&&(decide (b≤122)))
    ·refine bC run_move Z (dI kG Z Z (bC run_move Z (bM 3 [(0,sv p0),(3,iv d),(4,.int .u8 b),(7,iv (p0.size:Int)),(8,iv d),(20,bV false),(26,bV ((decide (65≤b))&&(decide (b≤90))))] [] ?_ ?_)))
     ·cases f:(decide (65≤b))
      ·exact aG Z (aG Z (dI aU Z Z (ae (aR (.r Z) .nil))))
      ·exact bC run_move Z (dI iT Z Z (dI aT Z Z (ae (aR (.r Z) .nil))))
     ·dsimp only
      exact av aU Z Z (ae (aR (.r Z) .nil))
    ·exact aG Z (aG Z (aG Z (ky Z (ky Z (aG Z (av aT Z Z (ae (aR (.r Z) .nil))))))))
   ·show Tr _ _ (LF [(0,sv p0),(3,iv d),(4,.int .u8 b),(7,iv (p0.size:Int)),(8,iv d),(27,bV (((decide (97≤b))&&(decide (b≤122)))||((decide (65≤b))&&(decide (b≤90)))))]) (LE []) _
    refine Tr.k Z (ae (aa (aj (aA Z (aD bT Z (aA Z (bM 19 [(0,sv p0),(7,iv (p0.size:Int)),(8,iv d),(49,bV ((!(((decide (97≤b))&&(decide (b≤122)))||((decide (65≤b))&&(decide (b≤90)))))&&((d==0)||((((decide (b<48))||(decide (57<b)))&&(b !=95))&&(b !=45)))))] [] ?_ ?_)))))))
    ·cases f:(!(((decide (97≤b))&&(decide (b≤122)))||((decide (65≤b))&&(decide (b≤90)))))
     ·exact aG Z (aG Z (aG Z (ky Z (ky Z (ky Z (ky Z (ky Z (ky Z (ky Z (ky Z (ky Z (ky Z (ky Z (ky Z (ky Z (ky Z (aG Z (av aU Z Z (ae (aR (.r Z) .nil))))))))))))))))))))
     ·refine bC run_move Z (dI dM Z Z (bC run_move Z (bM 15 [(0,sv p0),(7,iv (p0.size:Int)),(8,iv d),(30,bV true),(48,bV ((d==0)||((((decide (b<48))||(decide (57<b)))&&(b !=95))&&(b !=45))))] [] ?_ ?_)))
      ·cases f:(d==0)
       ·refine bC run_move Z (dI bi Z Z (bC run_move Z (bM 3 [(0,sv p0),(4,.int .u8 b),(7,iv (p0.size:Int)),(8,iv d),(30,bV true),(33,bV false),(39,bV ((decide (b<48))||(decide (57<b))))] [] ?_ ?_)))
        ·cases f:(decide (b<48))
         ·exact bC run_move Z (dI dE Z Z (dI aU Z Z (ae (aR (.r Z) .nil))))
         ·exact aG Z (aG Z (dI aT Z Z (ae (aR (.r Z) .nil))))
        ·dsimp only
         refine bC run_move Z (bM 3 [(0,sv p0),(4,.int .u8 b),(7,iv (p0.size:Int)),(8,iv d),(30,bV true),(33,bV false),(43,bV (((decide (b<48))||(decide (57<b)))&&(b !=95)))] [] ?_ ?_)
         ·cases f:((decide (b<48))||(decide (57<b)))
          ·exact aG Z (aG Z (dI aU Z Z (ae (aR (.r Z) .nil))))
          ·exact bC run_move Z (dI dW Z Z (dI aT Z Z (ae (aR (.r Z) .nil))))
         ·dsimp only
          refine bC run_move Z (bM 3 [(0,sv p0),(7,iv (p0.size:Int)),(8,iv d),(30,bV true),(33,bV false),(47,bV ((((decide (b<48))||(decide (57<b)))&&(b !=95))&&(b !=45)))] [] ?_ ?_)
          ·cases f:(((decide (b<48))||(decide (57<b)))&&(b !=95))
           ·exact aG Z (aG Z (dI aU Z Z (ae (aR (.r Z) .nil))))
           ·exact bC run_move Z (dI dW Z Z (dI aT Z Z (ae (aR (.r Z) .nil))))
          ·dsimp only
           exact dI aU Z Z (ae (aR (.r Z) .nil))
       ·exact aG Z (aG Z (aG Z (ky Z (ky Z (aG Z (aG Z (ky Z (ky Z (aG Z (aG Z (ky Z (ky Z (aG Z (dI aT Z Z (ae (aR (.r Z) .nil))))))))))))))))
      ·dsimp only
       exact av aT Z Z (ae (aR (.r Z) .nil))
    ·show Tr _ _ (LF [(0,sv p0),(7,iv (p0.size:Int)),(8,iv d),(49,bV ((!(((decide (97≤b))&&(decide (b≤122)))||((decide (65≤b))&&(decide (b≤90)))))&&((d==0)||((((decide (b<48))||(decide (57<b)))&&(b !=95))&&(b !=45)))))]) (LE []) _
     refine ae (aa (aN Z H (fun H=>?_) (fun H=>?_)))
     ·refine aj (Tr.k Z (ae (aa (aJ (au (ai (ai (au (ai ?_)))))))))
      obtain rfl:=oI H
      exact bD leB
     ·exact aM (aQ (aa (aV (av bE Z Z (aA Z (ae (aP g (bP (d+1)) H (.r Z) .nil)))))))
 ·refine bZ (aF (aF (bg (aa (aj (aA Z (aD (wu EE) Z (av kG Z Z (aA Z (bM 4 [(58,bV ((decide (1≤(p0.size:Int)))&&(decide ((p0.size:Int)≤40))))] [] ?_ ?_))))))))))
  ·cases f:(decide (1≤(p0.size:Int)))
   ·exact aG Z (aG Z (aG Z (av aU Z Z (ae (aR (.r Z) .nil)))))
   ·exact bC run_move Z (bC (wu EE) Z (dI iT Z Z (av aT Z Z (ae (aR (.r Z) .nil)))))
  ·show Tr _ _ (LF [(58,bV ((decide (1≤(p0.size:Int)))&&(decide ((p0.size:Int)≤40))))]) (LE []) _
   refine Tr.k Z (ae (aa (aJ ?_)))
   obtain rfl:=oI H
   exact bD leB

theorem qa{w:Bs}(p0:Int)(p1:Int)(r:Bool)(H:nQ p0 p1=some r)(hE:HF w w.W E0):Calls Tryz.prog 116 [iv p0,iv p1].toArray w.W fun e W'=>e= .returned (bV r)∧HF w W' E0:=by
 unfold nQ at H
 have leB:=Bs.Le.refl w
 refine aX (n:=11) Tryz.func116 Z Z Z hE (aj (Tr.k Z (ae (aa (az (fZ (by kernel_rfl) (by kernel_rfl) (dY Z (dY Z ?_))))))))
 obtain⟨h,d,H⟩:=bnd H
 refine bL Z (fun _ _ a c=>Rc (a.ev Z) (a.ev Z) d) (dY Z ?_)
 obtain⟨i,f,H⟩:=bnd H
 refine bL Z (fun _ _ a c=>Rc (a.ev Z) (a.ev Z) f) ?_
 obtain⟨b,g,H⟩:=bnd H
 refine lH (r:=(bV b)) (wn Z) Z Tryz.call67 (ak Z (ak Z (ak Z aH))) (fun W hW=>nS p0 h i b g (HF.start _)) (jB Z Z (gz (aa (aJ ?_))))
 obtain rfl:=oI H
 exact bD leB

theorem BI(N:Nat){w:Bs}(p0:eH)(d:Option Addr)(f:Nat)(u:Sl w.R w.W bf d f p0.Rects)(p1:Int)(r:Int)(H:qb N p0 p1=some r)(hE:HF w w.W E0):Calls Tryz.prog 68 [.agg #[sv p0.Name,sL d p0.Rects f],iv p1].toArray w.W fun e W'=>e= .returned (iv r)∧HF w W' E0:=by
 unfold qb at H
 have leB:=Bs.Le.refl w
 refine aX (n:=65) Tryz.func68 Z Z Z hE (aj (dh 1 (cs:=[sv p0.Name,sL d p0.Rects f]) (wn Z) Z Z Z fun P=>(Tr.k Z (ae (aa (az (aj (aD (ag DZ) Z (aC Z (fun _ _ a c=>ah jD (a.ev Z) (bN c (vs:=[sv p0.Name,sL d p0.Rects f]) (k:=1) Z 0) Z) ?_)))))))))
 obtain⟨D,J,H⟩:=bnd H
 refine aS (r:=(bV D)) (wn Z) Z Tryz.call96 (ak Z aH) (fun W hW=>yH N p0.Name D J (HF.start _)) (aD bT Z (ae (aa (aN Z H (fun H=>?_) (fun H=>?_)))))
 ·refine aj (Tr.k Z (ae (aa (aJ (ai ?_)))))
  obtain rfl:=oI H
  exact bD leB
 ·refine aM (aa (az (aj (aD (ag DY) Z (aC Z (fun _ _ a c=>ah J2 (a.ev Z) (bN c (vs:=[sv p0.Name,sL d p0.Rects f]) (k:=1) Z 1) Z) (aD (bA o8) Z (av dM Z Z (ae (aa (aN Z H (fun H=>?_) (fun H=>?_)))))))))))
  ·refine aj (Tr.k Z (ae (aa (aJ (ai ?_)))))
   obtain rfl:=oI H
   exact bD leB
  ·refine aM (aa (az (aj (aD (ag DY) Z (aC Z (fun _ _ a c=>ah J2 (a.ev Z) (bN c (vs:=[sv p0.Name,sL d p0.Rects f]) (k:=1) Z 1) Z) (aD (bA o8) Z (av dE Z Z (ae (aa (aN Z H (fun H=>?_) (fun H=>?_)))))))))))
   ·refine aj (Tr.k Z (ae (aa (aJ (ai ?_)))))
    obtain rfl:=oI H
    exact bD leB
   ·refine aM (aa (az (aj (aD (ag DY) Z (aC Z (fun _ _ a c=>ah J2 (a.ev Z) (bN c (vs:=[sv p0.Name,sL d p0.Rects f]) (k:=1) Z 1) Z) (aD (bA o8) Z (aA Z (ae (aa (Tr.block (cO (σ:=(List aO)×Nat) (fun m w s=>m=s.1.length+1∧s.1=List.drop s.2 p0.Rects∧s.2≤p0.Rects.length∧jI p1 s.1 s.2=some r) (fun s=>[(1,iv p1),(20,sL d p0.Rects f),(21,iv (p0.Rects.length:Int)),(22,iv (s.2:Int))]) (fun s=>[]) (p0.Rects.length+1) (p0.Rects,0) ⟨Z,Z,Nat.zero_le _,H⟩ (.r Z) .nil (fun _ _ h=>absurd h.1 (by simp)) ?_)))))))))))
    intro w v m s hs
    obtain⟨j,o⟩:=s
    obtain⟨y,l,Q,H⟩:=hs
    replace l:j=List.drop o p0.Rects:=l
    replace H:jI p1 j o=some r:=H
    replace y:m+1=j.length+1:=y
    replace u:=u.iR v
    replace leB:=leB.trans v
    obtain rfl:m=j.length:=by omega
    clear y
    dsimp only
    cases j with
    |nil=>
     rw[jI.eq_1] at H
     refine aj (av bi Z Z (ae (aa (az (dn Z (cz l) (bZ (aF (aF (bg (aa (aj (Tr.k Z (ae (aa (aJ ?_)))))))))))))))
     obtain rfl:=oI H
     exact bD leB
    | cons b j=>
     rw[jI.eq_2] at H
     refine aj (av bi Z Z (ae (aa (az (dm Z (dz l) (aM (aa (az (Tr.block (aj (aC Z (fun _ _ a c=>aB sH (a.ev Z) u.form (a.ev Z) (Int.natCast_nonneg _) (bq l)) (aC Z (fun _ _ a c=>aL (cs:=[iv b.X0,iv b.Y0,iv b.X1,iv b.Y1]) o9 jy (a.ev Z) (aI.take (pq kQ u (dA l) c) 4) Z) (Tr.alloc 3 (wn Z) Z tQ fun g=>(bv 3 (cs:=[iv b.X0,iv b.Y0,iv b.X1,iv b.Y1]) [iv b.X0,iv b.Y0,iv b.X1,iv b.Y1] (wn Z) Z Z Z Z jy Z Z Z (ae (aa (az (aj (aD (ag kU) Z (aC Z (fun _ _ a c=>ah bF (a.ev Z) (bN c (vs:=[iv b.X0,iv b.Y0,iv b.X1,iv b.Y1]) (k:=3) Z 0) Z) (aA Z ?_)))))))))))))))))))))
     obtain⟨A,K,H⟩:=bnd H
     refine aS (r:=(bV A)) (wn Z) Z Tryz.call116 (ak Z (ak Z aH)) (fun W hW=>qa b.X0 p1 A K (HF.start _)) (aD bT Z (aA Z ?_))
     obtain⟨B,p,H⟩:=bnd H
     refine bM 6 [(1,iv p1),(6,pV g),(20,sL d p0.Rects f),(21,iv (p0.Rects.length:Int)),(22,iv (o:Int)),(37,bV B)] [(3,bx g #[iv b.X0,iv b.Y0,iv b.X1,iv b.Y1] 77)] ?_ ?_
     ·cases i:(!A)
      ·rw[i] at p
       rw[if_neg (by decide)] at p
       have H:=p
       refine bC (ag lW) Z (Tr.x (fun _ _ a c=>ah bF (a.ev Z) (bN c (vs:=[iv b.X0,iv b.Y0,iv b.X1,iv b.Y1]) (k:=3) Z 1) Z) (bC run_move Z ?_))
       obtain⟨E,L,H⟩:=bnd H
       refine aS (r:=(bV E)) (wg Z Z Z) Z Tryz.call116 (ak Z (ak Z aH)) (fun W hW=>qa b.Y0 p1 E L (HF.start _)) (bC bT Z (av aU Z Z ?_))
       obtain rfl:=oI H
       exact ae (aR (.r Z) (.r Z))
      ·rw[i] at p
       rw[if_pos Z] at p
       have H:=p
       obtain rfl:=oI H
       exact aG Z (aG Z (aG Z (aG Z (aG Z (av aT Z Z (ae (aR (.r Z) (.r Z))))))))
     ·show Tr _ _ (LF [(1,iv p1),(6,pV g),(20,sL d p0.Rects f),(21,iv (p0.Rects.length:Int)),(22,iv (o:Int)),(37,bV B)]) (LE [(3,bx g #[iv b.X0,iv b.Y0,iv b.X1,iv b.Y1] 77)]) _
      refine aA Z ?_
      obtain⟨C,q,H⟩:=bnd H
      refine bM 6 [(1,iv p1),(6,pV g),(20,sL d p0.Rects f),(21,iv (p0.Rects.length:Int)),(22,iv (o:Int)),(44,bV C)] [(3,bx g #[iv b.X0,iv b.Y0,iv b.X1,iv b.Y1] 77)] ?_ ?_
      ·cases i:B
       ·rw[i] at q
        rw[if_neg (by decide)] at q
        have H:=q
        refine bC (ag pu) Z (Tr.x (fun _ _ a c=>ah bF (a.ev Z) (bN c (vs:=[iv b.X0,iv b.Y0,iv b.X1,iv b.Y1]) (k:=3) Z 2) Z) (bC run_move Z ?_))
        obtain⟨F,M,H⟩:=bnd H
        refine aS (r:=(bV F)) (wg Z Z Z) Z Tryz.call116 (ak Z (ak Z aH)) (fun W hW=>qa b.X1 p1 F M (HF.start _)) (bC bT Z (av aU Z Z ?_))
        obtain rfl:=oI H
        exact ae (aR (.r Z) (.r Z))
       ·rw[i] at q
        rw[if_pos Z] at q
        have H:=q
        obtain rfl:=oI H
        exact aG Z (aG Z (aG Z (aG Z (aG Z (av aT Z Z (ae (aR (.r Z) (.r Z))))))))
      ·show Tr _ _ (LF [(1,iv p1),(6,pV g),(20,sL d p0.Rects f),(21,iv (p0.Rects.length:Int)),(22,iv (o:Int)),(44,bV C)]) (LE [(3,bx g #[iv b.X0,iv b.Y0,iv b.X1,iv b.Y1] 77)]) _
       refine aA Z ?_
       obtain⟨G,t,H⟩:=bnd H
       refine bM 6 [(1,iv p1),(6,pV g),(20,sL d p0.Rects f),(21,iv (p0.Rects.length:Int)),(22,iv (o:Int)),(51,bV G)] [(3,bx g #[iv b.X0,iv b.Y0,iv b.X1,iv b.Y1] 77)] ?_ ?_
       ·cases i:C
        ·rw[i] at t
         rw[if_neg (by decide)] at t
         have H:=t
         refine bC (ag qw) Z (Tr.x (fun _ _ a c=>ah bF (a.ev Z) (bN c (vs:=[iv b.X0,iv b.Y0,iv b.X1,iv b.Y1]) (k:=3) Z 3) Z) (bC run_move Z ?_))
         obtain⟨I,O,H⟩:=bnd H
         refine aS (r:=(bV I)) (wg Z Z Z) Z Tryz.call116 (ak Z (ak Z aH)) (fun W hW=>qa b.Y1 p1 I O (HF.start _)) (bC bT Z (av aU Z Z ?_))
         obtain rfl:=oI H
         exact ae (aR (.r Z) (.r Z))
        ·rw[i] at t
         rw[if_pos Z] at t
         have H:=t
         obtain rfl:=oI H
         exact aG Z (aG Z (aG Z (aG Z (aG Z (av aT Z Z (ae (aR (.r Z) (.r Z))))))))
       ·show Tr _ _ (LF [(1,iv p1),(6,pV g),(20,sL d p0.Rects f),(21,iv (p0.Rects.length:Int)),(22,iv (o:Int)),(51,bV G)]) (LE [(3,bx g #[iv b.X0,iv b.Y0,iv b.X1,iv b.Y1] 77)]) _
        refine ae (aa (aN Z H (fun H=>?_) (fun H=>?_)))
        ·refine aj (Tr.k Z (ae (aa (aJ (ai (au (ai (ai (au (ai ?_))))))))))
         obtain rfl:=oI H
         exact bD leB
        ·refine aM (aa (aj (aD (ag pu) Z (aC Z (fun _ _ a c=>ah bF (a.ev Z) (bN c (vs:=[iv b.X0,iv b.Y0,iv b.X1,iv b.Y1]) (k:=3) Z 2) Z) (aD (ag kU) Z (aC Z (fun _ _ a c=>ah bF (a.ev Z) (bN c (vs:=[iv b.X0,iv b.Y0,iv b.X1,iv b.Y1]) (k:=3) Z 0) Z) (av iT Z Z (aA Z (bM 6 [(1,iv p1),(20,sL d p0.Rects f),(21,iv (p0.Rects.length:Int)),(22,iv (o:Int)),(63,bV ((decide (b.X1≤b.X0))||(decide (b.Y1≤b.Y0))))] [(3,bx g #[iv b.X0,iv b.Y0,iv b.X1,iv b.Y1] 77)] ?_ ?_)))))))))
         ·cases i:(decide (b.X1≤b.X0))
          ·exact bC (ag qw) Z (Tr.x (fun _ _ a c=>ah bF (a.ev Z) (bN c (vs:=[iv b.X0,iv b.Y0,iv b.X1,iv b.Y1]) (k:=3) Z 3) Z) (bC (ag lW) Z (Tr.x (fun _ _ a c=>ah bF (a.ev Z) (bN c (vs:=[iv b.X0,iv b.Y0,iv b.X1,iv b.Y1]) (k:=3) Z 1) Z) (dI iT Z Z (av aU Z Z (ae (aR (.r Z) (.r Z))))))))
          ·exact aG Z (aG Z (aG Z (aG Z (aG Z (av aT Z Z (ae (aR (.r Z) (.r Z))))))))
         ·show Tr _ _ (LF [(1,iv p1),(20,sL d p0.Rects f),(21,iv (p0.Rects.length:Int)),(22,iv (o:Int)),(63,bV ((decide (b.X1≤b.X0))||(decide (b.Y1≤b.Y0))))]) (LE [(3,bx g #[iv b.X0,iv b.Y0,iv b.X1,iv b.Y1] 77)]) _
          refine ae (aa (aN Z H (fun H=>?_) (fun H=>?_)))
          ·refine aj (Tr.k Z (ae (aa (aJ (au (ai (ai (au (ai ?_)))))))))
           obtain rfl:=oI H
           exact bD leB
          ·exact aM (aQ (aa (aV (av bE Z Z (aA Z (ae (aP v (j,(o+1)) ⟨Z,df l,bq l,H⟩ (.cons Z (.cons Z (.cons Z (.cons (congrArg (fun z=>some (Value.int .i64 z)) (cZ l u.form)) .nil)))) .nil)))))))

theorem xx{w:Bs}(p0:Int)(r:Int)(H:pY p0=some r)(hE:HF w w.W E0):Calls Tryz.prog 160 [iv p0].toArray w.W fun e W'=>e= .returned (iv r)∧HF w W' E0:=by
 unfold pY at H
 have leB:=Bs.Le.refl w
 refine aX (n:=6) Tryz.func160 Z Z Z hE (aj (Tr.k Z (ae (aa (az (aj (aA Z ?_)))))))
 obtain⟨a,b,H⟩:=bnd H
 refine aS (r:=(bV a)) (wn Z) Z Tryz.call67 (ak Z (ak Z (ak Z aH))) (fun W hW=>nS p0 1 100 a b (HF.start _)) (ae (aa (aN Z H (fun H=>?_) (fun H=>?_))))
 ·refine aj (aA Z (Tr.k Z (ae (aa (aJ (ai ?_))))))
  obtain rfl:=oI H
  exact bD leB
 ·refine aM (aa (aj (Tr.k Z (ae (aa (aJ ?_))))))
  obtain rfl:=oI H
  exact bD leB

theorem F8{w:Bs}(p0:aZ)(b:Option Addr)(d:Nat)(o:Sl w.R w.W dP b d p0.Points)(f:Option Addr)(g:Nat)(p:Sl w.R w.W bH f g p0.Steps)(r:Int)(H:uy p0=some r)(hE:HF w w.W E0):Calls Tryz.prog 117 [.agg #[iv p0.Kind,sv p0.Name,iv p0.At.X,iv p0.At.Y,sL b p0.Points d,iv p0.NX,iv p0.NY,sL f p0.Steps g]].toArray w.W fun e W'=>e= .returned (iv r)∧HF w W' E0:=by
 unfold uy at H
 have leB:=Bs.Le.refl w
 refine aX (n:=13) Tryz.func117 Z Z Z hE (aj (dh 1 (cs:=[iv p0.Kind,sv p0.Name,iv p0.At.X,iv p0.At.Y,sL b p0.Points d,iv p0.NX,iv p0.NY,sL f p0.Steps g]) (wn Z) Z Z Z fun q=>(Tr.k Z (ae (aa (aj (Tr.k Z (ae (aa (az (fZ (by kernel_rfl) (by kernel_rfl) (dY Z (dD (ag DT) Z (bL Z (fun _ _ a c=>ah bF (a.ev Z) (bN c (vs:=[iv p0.Kind,sv p0.Name,iv p0.At.X,iv p0.At.Y,sL b p0.Points d,iv p0.NX,iv p0.NY,sL f p0.Steps g]) (k:=1) Z 5) Z) ?_))))))))))))))
 obtain⟨h,j,H⟩:=bnd H
 refine MZ (r:=(iv h)) (wn Z) Z Z Tryz.call160 (ak Z aH) (fun W hW=>xx p0.NX h j (HF.start _)) (dY Z (dD (ag DR) Z (bL Z (fun _ _ a c=>ah bF (a.ev Z) (bN c (vs:=[iv p0.Kind,sv p0.Name,iv p0.At.X,iv p0.At.Y,sL b p0.Points d,iv p0.NX,iv p0.NY,sL f p0.Steps g]) (k:=1) Z 6) Z) ?_)))
 obtain⟨i,l,H⟩:=bnd H
 refine MZ (r:=(iv i)) (wn Z) Z Z Tryz.call160 (ak Z aH) (fun W hW=>xx p0.NY i l (HF.start _)) (dL rG Z Z (jB Z Z (gz (aa (aJ ?_)))))
 obtain rfl:=oI H
 exact bD leB

theorem Et(N:Nat)(rec:(List aZ)→Option Int)(hrec:∀{w:Bs} (p0:(List aZ)) (l:Option Addr) (o:Nat) (p:Sl w.R w.W bH l o p0) (r:Int) (H:rec p0=some r) (hE:HF w w.W E0),Calls Tryz.prog 69 [sL l p0 o].toArray w.W fun e W'=>e= .returned (iv r)∧HF w W' E0){w:Bs}(p0:(List aZ))(l:Option Addr)(o:Nat)(p:Sl w.R w.W bH l o p0)(r:Int)(H:wQ N rec p0=some r)(hE:HF w w.W E0):Calls Tryz.prog 69 [sL l p0 o].toArray w.W fun e W'=>e= .returned (iv r)∧HF w W' E0:=by
 unfold wQ at H
 have leB:=Bs.Le.refl w
 refine aX (n:=30) Tryz.func69 Z Z Z hE (aj (Tr.k Z (ae (aa (aj (Tr.k Z (ae (aa (az (aj (aA Z (aD (bA Jm) Z (aA Z (ae (aa (Tr.block (cO (σ:=(List aZ)×Nat×Int) (fun m w s=>m=s.1.length+1∧s.1=List.drop s.2.1 p0∧s.2.1≤p0.length∧gU rec s.1 s.2.1 s.2.2=some r) (fun s=>[(3,iv s.2.2),(6,sL l p0 o),(7,iv (p0.length:Int)),(8,iv (s.2.1:Int))]) (fun s=>[]) (p0.length+1) (p0,0,0) ⟨Z,Z,Nat.zero_le _,H⟩ (.r Z) .nil (fun _ _ h=>absurd h.1 (by simp)) ?_)))))))))))))))))
 intro w y m s hs
 obtain⟨j,v,B⟩:=s
 obtain⟨D,t,P,H⟩:=hs
 replace t:j=List.drop v p0:=t
 replace H:gU rec j v B=some r:=H
 replace D:m+1=j.length+1:=D
 replace p:=p.iR y
 replace leB:=leB.trans y
 obtain rfl:m=j.length:=by omega
 clear D
 dsimp only
 cases j with
 |nil=>
  rw[gU.eq_1] at H
  refine aj (av bi Z Z (ae (aa (az (dn Z (cz t) (bZ (aF (aF (bg (aa (aj (aA Z (Tr.k Z (ae (aa (aJ ?_))))))))))))))))
  obtain rfl:=oI H
  exact bD leB
 | cons b j=>
  rw[gU.eq_2] at H
  refine aj (av bi Z Z (ae (aa (az (dm Z (dz t) (aM (aa (az (Tr.block (aj ?_))))))))))
  obtain⟨O,J,I,K⟩:=(p).el (dA t)
  obtain⟨⟨g,i⟩,⟨d,f⟩⟩:=O
  obtain⟨u,q⟩:=vP.1 I
  replace u:Sl w.R w.W dP g i b.Points:=u
  replace q:Sl w.R w.W bH d f b.Steps:=q
  refine aC Z (fun _ _ a c=>aB SA (a.ev Z) p.form (a.ev Z) (Int.natCast_nonneg _) (bq t)) (aC Z (fun _ _ a c=>aL (cs:=[iv b.Kind,sv b.Name,iv b.At.X,iv b.At.Y,sL g b.Points i,iv b.NX,iv b.NY,sL d b.Steps f]) Ff yO (a.ev Z) (aI.take (tY J K c) 8) Z) (Tr.alloc 3 (wn Z) Z Nl fun Q=>(bv 3 (cs:=[iv b.Kind,sv b.Name,iv b.At.X,iv b.At.Y,sL g b.Points i,iv b.NX,iv b.NY,sL d b.Steps f]) [iv b.Kind,sv b.Name,iv b.At.X,iv b.At.Y,sL g b.Points i,iv b.NX,iv b.NY,sL d b.Steps f] (wn Z) Z Z Z Z yO Z Z Z (ae (aa (aj (aA Z (av bE Z Z (Tr.k Z (ae (aa ?_)))))))))))
  have C:=Bs.Le.refl w
  refine pz (σ:=Int) (fun w s=>nD (gU rec j (v+1)) s=some r) (fun s=>[(3,iv s),(6,sL l p0 o),(7,iv (p0.length:Int)),(8,iv (v:Int))]) (fun s=>[]) ?_ ?_
  ·refine aj (aD (ag yh) Z (aC Z (fun _ _ a c=>ah Eg (a.ev Z) (bN c (vs:=[iv b.Kind,sv b.Name,iv b.At.X,iv b.At.Y,sL g b.Points i,iv b.NX,iv b.NY,sL d b.Steps f]) (k:=3) Z 7) Z) (aD (bA Jm) Z (av dE Z Z (ae (aa (aN Z H (fun H=>?_) (fun H=>?_))))))))
   ·refine fZ (by kernel_rfl) (by kernel_rfl) (dY Z (bL Z (fun _ _ a c=>aL (cs:=[iv b.Kind,sv b.Name,iv b.At.X,iv b.At.Y,sL g b.Points i,iv b.NX,iv b.NY,sL d b.Steps f]) Ff yO (a.ev Z) (aI.take (bN c (vs:=[iv b.Kind,sv b.Name,iv b.At.X,iv b.At.Y,sL g b.Points i,iv b.NX,iv b.NY,sL d b.Steps f]) (k:=3) Z 0) 8) Z) ?_))
    obtain⟨E,L,H⟩:=bnd H
    refine lH (r:=(iv E)) (wn Z) Z Tryz.call117 (ak Z aH) (fun W hW=>F8 b g i (u.ext hW.aY) d f (q.ext hW.aY) E L (HF.start _)) (dD (ag yh) Z (bL Z (fun _ _ a c=>ah Eg (a.ev Z) (bN c (vs:=[iv b.Kind,sv b.Name,iv b.At.X,iv b.At.Y,sL g b.Points i,iv b.NX,iv b.NY,sL d b.Steps f]) (k:=3) Z 7) Z) ?_))
    obtain⟨F,M,H⟩:=bnd H
    exact lH (r:=(iv F)) (wn Z) Z Tryz.call69 (ak Z aH) (fun W hW=>hrec b.Steps d f (q.ext hW.aY) F M (HF.start _)) (dL rG Z Z (dL bE Z Z (jB Z Z (gz (aP C (bP ((bP (B+1))+(bP (E*F)))) H (.r Z) .nil)))))
   ·exact aM (aP C (bP (B+1)) H (.r Z) .nil)
  ·intro w G A hs
   have H:=hs
   replace H:nD (gU rec j (v+1)) G=some r:=H
   replace p:=p.iR A
   replace leB:=leB.trans A
   replace y:=y.trans A
   unfold nD at H
   show Tr _ _ (LF [(3,iv G),(6,sL l p0 o),(7,iv (p0.length:Int)),(8,iv (v:Int))]) (LE []) _
   refine aj (aA Z (av dE Z Z (ae (aa (aN Z H (fun H=>?_) (fun H=>?_))))))
   ·refine aj (Tr.k Z (ae (aa (aJ (au (ai (ai (au (ai ?_)))))))))
    obtain rfl:=oI H
    exact bD leB
   ·exact aM (aQ (aa (aV (av bE Z Z (aA Z (ae (aP y (j,(v+1),G) ⟨Z,df t,bq t,H⟩ (.cons Z (.cons Z (.cons Z (.cons (congrArg (fun z=>some (Value.int .i64 z)) (cZ t p.form)) .nil)))) .nil)))))))
theorem zG:∀(N:Nat) {w:Bs} (p0:(List aZ)) (a:Option Addr) (b:Nat) (c:Sl w.R w.W bH a b p0) (r:Int) (H:rR N p0=some r) (hE:HF w w.W E0),Calls Tryz.prog 69 [sL a p0 b].toArray w.W fun e W'=>e= .returned (iv r)∧HF w W' E0
 |0=>by intros;rename_i H _;cases H
 |N+1=>Et N (rR N) (zG N)

theorem CO{w:Bs}(p0:Int)(r:u6)(H:qG p0=some r)(hE:HF w w.W E0):Calls Tryz.prog 161 [iv p0].toArray w.W fun e W'=>e= .returned (.agg #[bV r.name,bV r.at_,bV r.points,bV r.repeat_])∧HF w W' E0:=by
 unfold qG at H
 have leB:=Bs.Le.refl w
 refine aX (n:=19) Tryz.func161 Z Z Z hE (aj (Tr.alloc 1 (wn Z) Z Qw fun b=>(ae (aa (az (aj (aA Z (ae (aa (Tr.block (aj (av dM Z Z (Tr.k Z (ae (aa (aN Z H (fun H=>?_) (fun H=>?_)))))))))))))))))
 ·refine aj (gV (vs:=[(0,bV true)]) (cs:=[bV true,bV false,bV false,bV false]) (wn Z) Z (bQ Z dR) (by kernel_rfl) (bv 1 (cs:=[bV true,bV false,bV false,bV false]) [bV true,bV false,bV false,bV false] (wn Z) Z Z Z Z vZ Z Z Z (ae (aa (aJ (au (ai ?_)))))))
  obtain rfl:=oI H
  exact bR (m:=[.agg #[bV true,bV false,bV false,bV false]]) [1] (fJ Z Z Iz vZ bG) (fun W hW=>⟨Z,hW.low leB⟩)
 ·have a:=Bs.Le.refl w
  refine pz (σ:=Bool) (fun w s=>lh p0 s=some r) (fun s=>[(2,pV b),(3,iv p0),(7,bV s)]) (fun s=>[(1,bx b #[bV false,bV false,bV false,bV false] 258)]) ?_ ?_
  ·refine aj (av dM Z Z (Tr.k Z (ae (aa (aN Z H (fun H=>?_) (fun H=>?_))))))
   ·exact aM (aP a (p0==4) H (.r Z) (.r Z))
   ·refine aj (av dM Z Z (Tr.k Z (ae (aa (aN Z H (fun H=>?_) (fun H=>?_))))))
    ·exact aM (aP a (p0==5) H (.r Z) (.r Z))
    ·exact aV (av dM Z Z (Tr.k Z (ae (aP a (p0==6) H (.r Z) (.r Z)))))
  ·intro w c d hs
   have H:=hs
   replace H:lh p0 c=some r:=H
   replace leB:=leB.trans d
   unfold lh at H
   show Tr _ _ (LF [(2,pV b),(3,iv p0),(7,bV c)]) (LE [(1,bx b #[bV false,bV false,bV false,bV false] 258)]) _
   refine aN Z H (fun H=>?_) (fun H=>?_)
   ·refine aj (gV (vs:=[(1,bV true)]) (cs:=[bV false,bV true,bV false,bV false]) (wn Z) Z (bQ Z dR) (by kernel_rfl) (bv 1 (cs:=[bV false,bV true,bV false,bV false]) [bV false,bV true,bV false,bV false] (wn Z) Z Z Z Z vZ Z Z Z (ae (aa (aJ (au (ai ?_)))))))
    obtain rfl:=oI H
    exact bR (m:=[.agg #[bV false,bV true,bV false,bV false]]) [1] (fJ Z Z Iz vZ bG) (fun W hW=>⟨Z,hW.low leB⟩)
   ·refine aj (av dM Z Z (Tr.k Z (ae (aa (aN Z H (fun H=>?_) (fun H=>?_))))))
    ·refine aj (gV (vs:=[(2,bV true)]) (cs:=[bV false,bV false,bV true,bV false]) (wn Z) Z (bQ Z dR) (by kernel_rfl) (bv 1 (cs:=[bV false,bV false,bV true,bV false]) [bV false,bV false,bV true,bV false] (wn Z) Z Z Z Z vZ Z Z Z (ae (aa (aJ (au (ai ?_)))))))
     obtain rfl:=oI H
     exact bR (m:=[.agg #[bV false,bV false,bV true,bV false]]) [1] (fJ Z Z Iz vZ bG) (fun W hW=>⟨Z,hW.low leB⟩)
    ·refine aj (av dM Z Z (Tr.k Z (ae (aa (aN Z H (fun H=>?_) (fun H=>?_))))))
     ·refine aj (gV (vs:=[(1,bV true),(3,bV true)]) (cs:=[bV false,bV true,bV false,bV true]) (wn Z) Z (bQ Z (bQ Z dR)) (by kernel_rfl) (bv 1 (cs:=[bV false,bV true,bV false,bV true]) [bV false,bV true,bV false,bV true] (wn Z) Z Z Z Z vZ Z Z Z (ae (aa (aJ (au (ai ?_)))))))
      obtain rfl:=oI H
      exact bR (m:=[.agg #[bV false,bV true,bV false,bV true]]) [1] (fJ Z Z Iz vZ bG) (fun W hW=>⟨Z,hW.low leB⟩)
     ·refine aM (aQ (aa (aj (gV (vs:=[]) (cs:=[bV false,bV false,bV false,bV false]) (wn Z) Z dR (by kernel_rfl) (bv 1 (cs:=[bV false,bV false,bV false,bV false]) [bV false,bV false,bV false,bV false] (wn Z) Z Z Z Z vZ Z Z Z (ae (aa (aJ ?_))))))))
      obtain rfl:=oI H
      exact bR (m:=[.agg #[bV false,bV false,bV false,bV false]]) [1] (fJ Z Z Iz vZ bG) (fun W hW=>⟨Z,hW.low leB⟩)

theorem CL{w:Bs}(p0:eH)(b:Option Addr)(d:Nat)(f:Sl w.R w.W bf b d p0.Rects)(q0:ByteArray)(xI:Nat)(hb0:w.R xI)(hc0:aI w.W xI 0 [sv q0])(r:Bool)(H:sP p0 q0=some r)(hE:HF w w.W E0):Calls Tryz.prog 192 [.agg #[sv p0.Name,sL b p0.Rects d],pV xI].toArray w.W fun e W'=>e= .returned (bV r)∧HF w W' E0:=by
 unfold sP at H
 have leB:=Bs.Le.refl w
 refine aX (n:=8) Tryz.func192 Z Z Z hE (aj (dh 1 (cs:=[sv p0.Name,sL b p0.Rects d]) (wn Z) Z Z Z fun g=>(Tr.k Z (ae (aa (aj (aD (ag DZ) Z (aC Z (fun _ _ a c=>ah jD (a.ev Z) (bN c (vs:=[sv p0.Name,sL b p0.Rects d]) (k:=1) Z 0) Z) (aC Z (fun _ _ a c=>ah jD (a.ev Z) (tY hb0 hc0 c) Z) (av GN Z Z (Tr.k Z (ae (aa (aJ ?_))))))))))))))
 obtain rfl:=oI H
 exact bD leB

theorem qO{w:Bs}(p0:(List eH))(l:Option Addr)(o:Nat)(g:Sl w.R w.W cB l o p0)(q0:ByteArray)(xI:Nat)(hb0:w.R xI)(hc0:aI w.W xI 0 [sv q0])(r:Int)(H:iW p0 q0=some r)(hE:HF w w.W E0):Calls Tryz.prog 191 [sL l p0 o,.func (.func 192) #[] #[pV xI]].toArray w.W fun e W'=>e= .returned (iv r)∧HF w W' E0:=by
 unfold iW at H
 have leB:=Bs.Le.refl w
 refine aX (n:=19) Tryz.func191 Z Z Z hE (aj (Tr.k Z (ae (aa (az (aj (aA Z (aD (bA Ow) Z (aA Z (ae (aa (Tr.block (cO (σ:=(List eH)×Nat) (fun m w s=>m=s.1.length+1∧s.1=List.drop s.2 p0∧s.2≤p0.length∧dC q0 s.1 s.2=some r) (fun s=>[(0,sL l p0 o),(1,.func (.func 192) #[] #[pV xI]),(7,iv (p0.length:Int)),(8,iv (s.2:Int))]) (fun s=>[]) (p0.length+1) (p0,0) ⟨Z,Z,Nat.zero_le _,H⟩ (.r Z) .nil (fun _ _ h=>absurd h.1 (by simp)) ?_)))))))))))))
 intro w p m s hs
 obtain⟨b,t⟩:=s
 obtain⟨q,d,E,H⟩:=hs
 replace d:b=List.drop t p0:=d
 replace H:dC q0 b t=some r:=H
 replace q:m+1=b.length+1:=q
 replace g:=g.iR p
 replace hc0:=p.ext.cells hb0 hc0
 replace hb0:=p.r _ hb0
 replace leB:=leB.trans p
 obtain rfl:m=b.length:=by omega
 clear q
 dsimp only
 cases b with
 |nil=>
  rw[dC.eq_1] at H
  refine aj (av bi Z Z (ae (aa (az (dn Z (cz d) (bZ (aF (aF (bg (aa (aj (Tr.k Z (ae (aa (aJ ?_)))))))))))))))
  obtain rfl:=oI H
  exact bD leB
 | cons u b=>
  rw[dC.eq_2] at H
  refine aj (av bi Z Z (ae (aa (az (dm Z (dz d) (aM (aa (az (Tr.block (aj (aA Z (Tr.k Z (ae (aa (aj (aA Z (aA Z (aA Z ?_))))))))))))))))))
  obtain⟨D,y,v,A⟩:=(g).el (dA d)
  obtain⟨i,j⟩:=D
  have f:=v
  replace f:Sl w.R w.W bf i j u.Rects:=f
  refine aC Z (fun _ _ a c=>aB Po (a.ev Z) g.form (a.ev Z) (Int.natCast_nonneg _) (bq d)) (aC Z (fun _ _ a c=>aL (cs:=[sv u.Name,sL i u.Rects j]) KZ EH (a.ev Z) (aI.take (tY y A c) 2) Z) ?_)
  obtain⟨B,C,H⟩:=bnd H
  refine kC (r:=(bV B)) (wn Z) Z Z Tryz.call192 (ak Z aH) (fun W hW=>CL u i j (f.ext hW.aY) q0 xI (hW.aY.r _ hb0) (hW.aY.cells hb0 hc0) B C (HF.start _)) (ae (aa (aN Z H (fun H=>?_) (fun H=>?_))))
  ·refine aj (aA Z (Tr.k Z (ae (aa (aJ (au (ai (ai (au (ai ?_))))))))))
   obtain rfl:=oI H
   exact bD leB
  ·exact aM (aQ (aa (aV (av bE Z Z (aA Z (ae (aP p (b,(t+1)) ⟨Z,df d,bq d,H⟩ (.cons Z (.cons Z (.cons Z (.cons (congrArg (fun z=>some (Value.int .i64 z)) (cZ d g.form)) .nil)))) .nil)))))))

theorem yD{w:Bs}(p0:eX)(b:Option Addr)(d:Nat)(j:Sl w.R w.W cB b d p0.Tools)(f:Option Addr)(g:Nat)(o:Sl w.R w.W bH f g p0.Steps)(p1:ByteArray)(r:Int)(H:qM p0 p1=some r)(hE:HF w w.W E0):Calls Tryz.prog 162 [.agg #[iv p0.Unit,sL b p0.Tools d,sL f p0.Steps g],sv p1].toArray w.W fun e W'=>e= .returned (iv r)∧HF w W' E0:=by
 unfold qM at H
 have leB:=Bs.Le.refl w
 refine aX (n:=9) Tryz.func162 Z Z Z hE (aj (dh 1 (cs:=[iv p0.Unit,sL b p0.Tools d,sL f p0.Steps g]) (wn Z) Z Z Z fun p=>(dh 2 (cs:=[sv p1]) (wn Z) Z Z Z fun h=>(Tr.k Z (ae (aa (aj (aD (ag DJ) Z (aC Z (fun _ _ a c=>ah MW (a.ev Z) (bN c (vs:=[iv p0.Unit,sL b p0.Tools d,sL f p0.Steps g]) (k:=1) Z 1) Z) (rO (vs:=[pV h]) (wn Z) Z (ak Z aH) ?_))))))))))
 obtain⟨i,l,H⟩:=bnd H
 refine aS (r:=(iv i)) (wn Z) Z Tryz.call191 (ak Z (ak Z aH)) (fun W hW=>qO p0.Tools b d (j.ext hW.aY) p1 h (hW.AC (k:=2) Z) (hW.Jd (k:=2) Z) i l (HF.start _)) (Tr.k Z (ae (aa (aJ ?_))))
 obtain rfl:=oI H
 exact bD leB

theorem xy{w:Bs}(p0:aK)(p1:Int)(r:Bool)(H:p9 p0 p1=some r)(hE:HF w w.W E0):Calls Tryz.prog 163 [.agg #[iv p0.X,iv p0.Y],iv p1].toArray w.W fun e W'=>e= .returned (bV r)∧HF w W' E0:=by
 unfold p9 at H
 have leB:=Bs.Le.refl w
 refine aX (n:=15) Tryz.func163 Z Z Z hE (aj (dh 1 (cs:=[iv p0.X,iv p0.Y]) (wn Z) Z Z Z fun g=>(Tr.k Z (ae (aa (aj (aD (ag fU) Z (aC Z (fun _ _ a c=>ah bF (a.ev Z) (bN c (vs:=[iv p0.X,iv p0.Y]) (k:=1) Z 0) Z) (aA Z ?_)))))))))
 obtain⟨d,j,H⟩:=bnd H
 refine aS (r:=(bV d)) (wn Z) Z Tryz.call116 (ak Z (ak Z aH)) (fun W hW=>qa p0.X p1 d j (HF.start _)) (aA Z ?_)
 obtain⟨h,b,H⟩:=bnd H
 refine bM 5 [(14,bV h)] [(1,bx g #[iv p0.X,iv p0.Y] 54)] ?_ ?_
 ·cases f:d
  ·rw[f] at b
   rw[if_neg (by decide)] at b
   have H:=b
   obtain rfl:=oI H
   exact aG Z (aG Z (aG Z (aG Z (av aU Z Z (ae (aR (.r Z) (.r Z)))))))
  ·rw[f] at b
   rw[if_pos Z] at b
   have H:=b
   refine bC (ag fT) Z (Tr.x (fun _ _ a c=>ah bF (a.ev Z) (bN c (vs:=[iv p0.X,iv p0.Y]) (k:=1) Z 1) Z) (bC run_move Z ?_))
   obtain⟨i,l,H⟩:=bnd H
   refine aS (r:=(bV i)) (wg Z Z Z) Z Tryz.call116 (ak Z (ak Z aH)) (fun W hW=>qa p0.Y p1 i l (HF.start _)) (av aT Z Z ?_)
   obtain rfl:=oI H
   exact ae (aR (.r Z) (.r Z))
 ·show Tr _ _ (LF [(14,bV h)]) (LE [(1,bx g #[iv p0.X,iv p0.Y] 54)]) _
  refine Tr.k Z (ae (aa (aJ ?_)))
  obtain rfl:=oI H
  exact bD leB

theorem zN{w:Bs}(p0:aK)(q0:eX)(Aq0_0:Option Addr)(cq0_0:Nat)(Ma:Sl w.R w.W cB Aq0_0 cq0_0 q0.Tools)(Aq0_1:Option Addr)(cq0_1:Nat)(YD:Sl w.R w.W bH Aq0_1 cq0_1 q0.Steps)(xI:Nat)(hb0:w.R xI)(hc0:aI w.W xI 0 [iv q0.Unit,sL Aq0_0 q0.Tools cq0_0,sL Aq0_1 q0.Steps cq0_1])(r:Bool)(H:jS p0 q0=some r)(hE:HF w w.W E0):Calls Tryz.prog 165 [.agg #[iv p0.X,iv p0.Y],pV xI].toArray w.W fun e W'=>e= .returned (bV r)∧HF w W' E0:=by
 unfold jS at H
 have leB:=Bs.Le.refl w
 refine aX (n:=9) Tryz.func165 Z Z Z hE (aj (dh 1 (cs:=[iv p0.X,iv p0.Y]) (wn Z) Z Z Z fun f=>(Tr.k Z (ae (aa (aj (aC Z (fun _ _ a c=>aL (cs:=[iv p0.X,iv p0.Y]) iC eU (a.ev Z) (aI.take (bN c (vs:=[iv p0.X,iv p0.Y]) (k:=1) Z 0) 2) Z) (aD (ag sN) Z (aC Z (fun _ _ a c=>ah bF (a.ev Z) (aI.drop (tY hb0 hc0 c) 0) Z) ?_)))))))))
 obtain⟨b,d,H⟩:=bnd H
 refine aS (r:=(bV b)) (wn Z) Z Tryz.call163 (ak Z (ak Z aH)) (fun W hW=>xy p0 q0.Unit b d (HF.start _)) (aD bT Z (Tr.k Z (ae (aa (aJ ?_)))))
 obtain rfl:=oI H
 exact bD leB

theorem vQ{w:Bs}(p0:(List aK))(g:Option Addr)(i:Nat)(f:Sl w.R w.W dP g i p0)(p1:aK→Option Bool)(fid1:Nat)(j:List Value)(hg1:∀args W,(callFunc fid1 args).run Tryz.prog W= .ok (.enter fid1 args) W)(hf1:∀(w':Bs),w.Ext w'→∀(z0:aK),∀y,p1 z0=some y→Calls Tryz.prog fid1 (([.agg #[iv z0.X,iv z0.Y]]:List Value)++j).toArray w'.W fun e W''=>e= .returned (bV y)∧HF w' W'' E0)(r:Int)(H:kR p0 p1=some r)(hE:HF w w.W E0):Calls Tryz.prog 193 [sL g p0 i,.func (.func fid1) #[] j.toArray].toArray w.W fun e W'=>e= .returned (iv r)∧HF w W' E0:=by
 unfold kR at H
 have leB:=Bs.Le.refl w
 refine aX (n:=19) Tryz.func193 Z Z Z hE (aj (Tr.k Z (ae (aa (az (aj (aA Z (aD (bA xO) Z (aA Z (ae (aa (Tr.block (cO (σ:=(List aK)×Nat) (fun m w s=>m=s.1.length+1∧s.1=List.drop s.2 p0∧s.2≤p0.length∧dX p1 s.1 s.2=some r) (fun s=>[(0,sL g p0 i),(1,.func (.func fid1) #[] j.toArray),(7,iv (p0.length:Int)),(8,iv (s.2:Int))]) (fun s=>[]) (p0.length+1) (p0,0) ⟨Z,Z,Nat.zero_le _,H⟩ (.r Z) .nil (fun _ _ h=>absurd h.1 (by simp)) ?_)))))))))))))
 intro w l m s hs
 obtain⟨b,p⟩:=s
 obtain⟨o,d,v,H⟩:=hs
 replace d:b=List.drop p p0:=d
 replace H:dX p1 b p=some r:=H
 replace o:m+1=b.length+1:=o
 replace f:=f.iR l
 replace hf1:=fun w' he=>hf1 w' (l.ext.trans he)
 replace leB:=leB.trans l
 obtain rfl:m=b.length:=by omega
 clear o
 dsimp only
 cases b with
 |nil=>
  rw[dX.eq_1] at H
  refine aj (av bi Z Z (ae (aa (az (dn Z (cz d) (bZ (aF (aF (bg (aa (aj (Tr.k Z (ae (aa (aJ ?_)))))))))))))))
  obtain rfl:=oI H
  exact bD leB
 | cons q b=>
  rw[dX.eq_2] at H
  refine aj (av bi Z Z (ae (aa (az (dm Z (dz d) (aM (aa (az (Tr.block (aj (aA Z (Tr.k Z (ae (aa (aj (aA Z (aA Z (aA Z (aC Z (fun _ _ a c=>aB D9 (a.ev Z) f.form (a.ev Z) (Int.natCast_nonneg _) (bq d)) (aC Z (fun _ _ a c=>aL (cs:=[iv q.X,iv q.Y]) iC eU (a.ev Z) (aI.take (pq qK f (dA d) c) 2) Z) ?_))))))))))))))))))))
  obtain⟨u,t,H⟩:=bnd H
  refine kC (r:=(bV u)) (wn Z) Z Z hg1 (ak Z aH) (fun W hW=>hf1 hW.all hW.aY q _ t) (ae (aa (aN Z H (fun H=>?_) (fun H=>?_))))
  ·refine aj (aA Z (Tr.k Z (ae (aa (aJ (au (ai (ai (au (ai ?_))))))))))
   obtain rfl:=oI H
   exact bD leB
  ·exact aM (aQ (aa (aV (av bE Z Z (aA Z (ae (aP l (b,(p+1)) ⟨Z,df d,bq d,H⟩ (.cons Z (.cons Z (.cons Z (.cons (congrArg (fun z=>some (Value.int .i64 z)) (cZ d f.form)) .nil)))) .nil)))))))

theorem pR{w:Bs}(p0:(List aK))(a:Option Addr)(b:Nat)(f:Sl w.R w.W dP a b p0)(p1:aK→Option Bool)(fid1:Nat)(c:List Value)(hg1:∀args W,(callFunc fid1 args).run Tryz.prog W= .ok (.enter fid1 args) W)(hf1:∀(w':Bs),w.Ext w'→∀(z0:aK),∀y,p1 z0=some y→Calls Tryz.prog fid1 (([.agg #[iv z0.X,iv z0.Y]]:List Value)++c).toArray w'.W fun e W''=>e= .returned (bV y)∧HF w' W'' E0)(r:Bool)(H:fG p0 p1=some r)(hE:HF w w.W E0):Calls Tryz.prog 164 [sL a p0 b,.func (.func fid1) #[] c.toArray].toArray w.W fun e W'=>e= .returned (bV r)∧HF w W' E0:=by
 unfold fG at H
 have leB:=Bs.Le.refl w
 refine aX (n:=9) Tryz.func164 Z Z Z hE (aj (Tr.k Z (ae (aa (aj (aA Z (aA Z ?_)))))))
 obtain⟨d,g,H⟩:=bnd H
 refine aS (r:=(iv d)) (wn Z) Z Tryz.call193 (ak Z (ak Z aH)) (fun W hW=>vQ p0 a b (f.ext hW.aY) p1 fid1 c hg1 (fun w' he=>hf1 w' (hW.aY.trans he)) d g (HF.start _)) (av kG Z Z (Tr.k Z (ae (aa (aJ ?_)))))
 obtain rfl:=oI H
 exact bD leB

theorem Fv{w:Bs}(p0:(List aK))(i:Option Addr)(j:Nat)(f:Sl w.R w.W dP i j p0)(r:Bool)(H:sI p0=some r)(hE:HF w w.W E0):Calls Tryz.prog 166 [sL i p0 j].toArray w.W fun e W'=>e= .returned (bV r)∧HF w W' E0:=by
 unfold sI at H
 have leB:=Bs.Le.refl w
 refine aX (n:=36) Tryz.func166 Z Z Z hE (aj (Tr.k Z (ae (aa (az (aj (aA Z (aD (bA xO) Z (av bi Z Z (ae (aa (aN Z H (fun H=>?_) (fun H=>?_)))))))))))))
 ·refine aj (Tr.k Z (ae (aa (aJ (ai ?_)))))
  obtain rfl:=oI H
  exact bD leB
 ·refine aM (aa (az (aj (aA Z (aD (bA xO) Z (aA Z (ae (aa (Tr.block (cO (σ:=(List aK)×Nat) (fun m w s=>m=s.1.length+1∧s.1=List.drop s.2 p0∧s.2≤p0.length∧lw p0 s.1 s.2=some r) (fun s=>[(0,sL i p0 j),(9,sL i p0 j),(10,iv (p0.length:Int)),(11,iv (s.2:Int))]) (fun s=>[]) (p0.length+1) (p0,0) ⟨Z,Z,Nat.zero_le _,H⟩ (.r Z) .nil (fun _ _ h=>absurd h.1 (by simp)) ?_))))))))))
  intro w o m s hs
  obtain⟨b,q⟩:=s
  obtain⟨p,g,B,H⟩:=hs
  replace g:b=List.drop q p0:=g
  replace H:lw p0 b q=some r:=H
  replace p:m+1=b.length+1:=p
  replace f:=f.iR o
  replace leB:=leB.trans o
  obtain rfl:m=b.length:=by omega
  clear p
  dsimp only
  cases b with
  |nil=>
   rw[lw.eq_1] at H
   refine aj (av bi Z Z (ae (aa (az (dn Z (cz g) (bZ (aF (aF (bg (aa (aj (Tr.k Z (ae (aa (aJ ?_)))))))))))))))
   obtain rfl:=oI H
   exact bD leB
  | cons l b=>
   rw[lw.eq_2] at H
   refine aj (av bi Z Z (ae (aa (az (dm Z (dz g) (aM (aa (az (Tr.block (aj (aA Z (aC Z (fun _ _ a c=>aB D9 (a.ev Z) f.form (a.ev Z) (Int.natCast_nonneg _) (bq g)) (aC Z (fun _ _ a c=>aL (cs:=[iv l.X,iv l.Y]) iC eU (a.ev Z) (aI.take (pq qK f (dA g) c) 2) Z) (Tr.alloc 3 (wn Z) Z vY fun C=>(Tr.k Z (bv 3 (cs:=[iv l.X,iv l.Y]) [iv l.X,iv l.Y] (wn Z) Z Z Z Z eU Z Z Z (ae (aa (aj (aA Z (aA Z (av bE Z Z (aA Z (aD (bA xO) Z ?_))))))))))))))))))))))))
   obtain⟨D,y,H⟩:=bnd H
   refine aC Z (fun _ _ a c=>Ra (a.ev Z) (a.ev Z) y) ?_
   obtain⟨d,A,H⟩:=bnd H
   obtain⟨t,u,v⟩:=bJ A
   refine aC Z (fun _ _ a c=>aB D9 (a.ev Z) f.form (a.ev Z) t u) (aC Z (fun _ _ a c=>aL (cs:=[iv d.X,iv d.Y]) iC eU (a.ev Z) (aI.take (pq qK f v c) 2) Z) (Tr.alloc 4 (wn Z) Z vY fun E=>(bv 4 (cs:=[iv d.X,iv d.Y]) [iv d.X,iv d.Y] (wn Z) Z Z Z Z eU Z Z Z (ae (aa (aj (aD (ag fU) Z (aC Z (fun _ _ a c=>ah bF (a.ev Z) (bN c (vs:=[iv l.X,iv l.Y]) (k:=3) Z 0) Z) (aD (ag fU) Z (aC Z (fun _ _ a c=>ah bF (a.ev Z) (bN c (vs:=[iv d.X,iv d.Y]) (k:=4) Z 0) Z) (av dM Z Z (aD (ag fT) Z (aC Z (fun _ _ a c=>ah bF (a.ev Z) (bN c (vs:=[iv l.X,iv l.Y]) (k:=3) Z 1) Z) ?_)))))))))))))
   refine aD (ag fT) Z (aC Z (fun _ _ a c=>ah bF (a.ev Z) (bN c (vs:=[iv d.X,iv d.Y]) (k:=4) Z 1) Z) (av dM Z Z (av (Rb VZ) Z Z (ae (aa (aN Z H (fun H=>?_) (fun H=>?_)))))))
   ·refine aj (Tr.k Z (ae (aa (aJ (au (ai (ai (au (ai ?_)))))))))
    obtain rfl:=oI H
    exact bD leB
   ·exact aM (aQ (aa (aV (av bE Z Z (aA Z (ae (aP o (b,(q+1)) ⟨Z,df g,bq g,H⟩ (.cons Z (.cons Z (.cons Z (.cons (congrArg (fun z=>some (Value.int .i64 z)) (cZ g f.form)) .nil)))) .nil)))))))

theorem BJ{w : Bs}(p0:eX)(o:Option Addr)(p:Nat)(E:Sl w.R w.W cB o p p0.Tools)(q:Option Addr)(t:Nat)(F:Sl w.R w.W bH q t p0.Steps)(p1:aZ)(d:Option Addr)(f:Nat)(G:Sl w.R w.W dP d f p1.Points)(g:Option Addr)(h:Nat)(a6:Sl w.R w.W bH g h p1.Steps)(p2:Int)(r:Int)(H:qc p0 p1 p2=some r)(hE:HF w w.W E0):Calls Tryz.prog 118 [.agg #[iv p0.Unit,sL o p0.Tools p,sL q p0.Steps t],.agg #[iv p1.Kind,sv p1.Name,iv p1.At.X,iv p1.At.Y,sL d p1.Points f,iv p1.NX,iv p1.NY,sL g p1.Steps h],iv p2].toArray w.W fun e W'=>e= .returned (iv r)∧HF w W' E0:=by
 unfold qc at H
 have leB:=Bs.Le.refl w
 refine aX (n:=120) Tryz.func118 Z Z Z hE (aj (dh 1 (cs:=[iv p0.Unit,sL o p0.Tools p,sL q p0.Steps t]) (wn Z) Z Z Z fun l=>(dh 2 (cs:=[iv p1.Kind,sv p1.Name,iv p1.At.X,iv p1.At.Y,sL d p1.Points f,iv p1.NX,iv p1.NY,sL g p1.Steps h]) (wn Z) Z Z Z fun i=>(Tr.k Z (ae (aa (az (aj (aD (ag DU) Z (aC Z (fun _ _ a c=>ah bF (a.ev Z) (bN c (vs:=[iv p1.Kind,sv p1.Name,iv p1.At.X,iv p1.At.Y,sL d p1.Points f,iv p1.NX,iv p1.NY,sL g p1.Steps h]) (k:=2) Z 0) Z) ?_))))))))))
 obtain⟨K,V,H⟩:=bnd H
 refine aS (r:=(bV K)) (wn Z) Z Tryz.call67 (ak Z (ak Z (ak Z aH))) (fun W hW=>nS p1.Kind 1 8 K V (HF.start _)) (aD bT Z (ae (aa (aN Z H (fun H=>?_) (fun H=>?_)))))
 ·refine aj (Tr.k Z (ae (aa (aJ (ai ?_)))))
  obtain rfl:=oI H
  exact bD leB
 ·refine aM (aa (aj (aD (ag DU) Z (aC Z (fun _ _ a c=>ah bF (a.ev Z) (bN c (vs:=[iv p1.Kind,sv p1.Name,iv p1.At.X,iv p1.At.Y,sL d p1.Points f,iv p1.NX,iv p1.NY,sL g p1.Steps h]) (k:=2) Z 0) Z) ?_))))
  obtain⟨b,a7,H⟩:=bnd H
  refine aS (r:=(.agg #[bV b.name,bV b.at_,bV b.points,bV b.repeat_])) (wn Z) Z Tryz.call161 (ak Z aH) (fun W hW=>CO p1.Kind b a7 (HF.start _)) (Tr.alloc 3 (wn Z) Z Qw fun j=>(bv 3 (cs:=[bV b.name,bV b.at_,bV b.points,bV b.repeat_]) [bV b.name,bV b.at_,bV b.points,bV b.repeat_] (wn Z) Z Z Z Z vZ Z Z Z (ae (aa (az (Tr.block ?_))))))
  have C:=Bs.Le.refl w
  refine pz (σ:=Bool) (fun w s=>fw p0 p1 p2 b s=some r) (fun s=>[(2,iv p2),(3,pV l),(4,pV i),(7,pV j),(15,bV s)]) (fun s=>[(1,bx l #[iv p0.Unit,sL o p0.Tools p,sL q p0.Steps t] 33),(2,bx i #[iv p1.Kind,sv p1.Name,iv p1.At.X,iv p1.At.Y,sL d p1.Points f,iv p1.NX,iv p1.NY,sL g p1.Steps h] 214),(3,bx j #[bV b.name,bV b.at_,bV b.points,bV b.repeat_] 258)]) ?_ ?_
  ·refine aj (aD (ag Mf) Z (aC Z (fun _ _ a c=>ah BG (a.ev Z) (bN c (vs:=[bV b.name,bV b.at_,bV b.points,bV b.repeat_]) (k:=3) Z 0) Z) (aD bT Z (aA Z (bM 4 [(2,iv p2),(3,pV l),(4,pV i),(7,pV j),(23,bV ((!b.name)&&(!rW p1.Name (⟨#[]⟩))))] [(1,bx l #[iv p0.Unit,sL o p0.Tools p,sL q p0.Steps t] 33),(2,bx i #[iv p1.Kind,sv p1.Name,iv p1.At.X,iv p1.At.Y,sL d p1.Points f,iv p1.NX,iv p1.NY,sL g p1.Steps h] 214),(3,bx j #[bV b.name,bV b.at_,bV b.points,bV b.repeat_] 258)] ?_ ?_)))))
   ·cases u:(!b.name)
    ·exact aG Z (aG Z (aG Z (av aU Z Z (ae (aR (.r Z) (.r Z))))))
    ·exact bC (ag Hz) Z (Tr.x (fun _ _ a c=>ah jD (a.ev Z) (bN c (vs:=[iv p1.Kind,sv p1.Name,iv p1.At.X,iv p1.At.Y,sL d p1.Points f,iv p1.NX,iv p1.NY,sL g p1.Steps h]) (k:=2) Z 1) Z) (dI zY Z Z (av aT Z Z (ae (aR (.r Z) (.r Z))))))
   ·show Tr _ _ (LF [(2,iv p2),(3,pV l),(4,pV i),(7,pV j),(23,bV ((!b.name)&&(!rW p1.Name (⟨#[]⟩))))]) (LE [(1,bx l #[iv p0.Unit,sL o p0.Tools p,sL q p0.Steps t] 33),(2,bx i #[iv p1.Kind,sv p1.Name,iv p1.At.X,iv p1.At.Y,sL d p1.Points f,iv p1.NX,iv p1.NY,sL g p1.Steps h] 214),(3,bx j #[bV b.name,bV b.at_,bV b.points,bV b.repeat_] 258)]) _
    refine Tr.k Z (ae (aa (aN Z H (fun H=>?_) (fun H=>?_))))
    ·exact aM (aP C ((!b.name)&&(!rW p1.Name (⟨#[]⟩))) H (.r Z) (.r Z))
    ·refine aj (aD (ag R6) Z (aC Z (fun _ _ a c=>ah BG (a.ev Z) (bN c (vs:=[bV b.name,bV b.at_,bV b.points,bV b.repeat_]) (k:=3) Z 1) Z) (aD bT Z (aA Z (bM 5 [(2,iv p2),(3,pV l),(4,pV i),(7,pV j),(32,bV ((!b.at_)&&(!(kw p1.At (aK.mk 0 0)))))] [(1,bx l #[iv p0.Unit,sL o p0.Tools p,sL q p0.Steps t] 33),(2,bx i #[iv p1.Kind,sv p1.Name,iv p1.At.X,iv p1.At.Y,sL d p1.Points f,iv p1.NX,iv p1.NY,sL g p1.Steps h] 214),(3,bx j #[bV b.name,bV b.at_,bV b.points,bV b.repeat_] 258)] ?_ ?_)))))
     ·cases u:(!b.at_)
      ·exact aG Z (aG Z (aG Z (aG Z (av aU Z Z (ae (aR (.r Z) (.r Z)))))))
      ·exact bC (ag Ai) Z (Tr.x (fun _ _ a c=>aL (cs:=[iv p1.At.X,iv p1.At.Y]) iC eU (a.ev Z) (aI.take (bN c (vs:=[iv p1.Kind,sv p1.Name,iv p1.At.X,iv p1.At.Y,sL d p1.Points f,iv p1.NX,iv p1.NY,sL g p1.Steps h]) (k:=2) Z 2) 2) Z) (gV (vs:=[]) (cs:=[iv 0,iv 0]) (wg Z Z Z) Z dR (by kernel_rfl) (PG (wg Z Z Z) Z (GK p1.At (aK.mk 0 0)) Z Z (av aT Z Z (ae (aR (.r Z) (.r Z)))))))
     ·show Tr _ _ (LF [(2,iv p2),(3,pV l),(4,pV i),(7,pV j),(32,bV ((!b.at_)&&(!(kw p1.At (aK.mk 0 0)))))]) (LE [(1,bx l #[iv p0.Unit,sL o p0.Tools p,sL q p0.Steps t] 33),(2,bx i #[iv p1.Kind,sv p1.Name,iv p1.At.X,iv p1.At.Y,sL d p1.Points f,iv p1.NX,iv p1.NY,sL g p1.Steps h] 214),(3,bx j #[bV b.name,bV b.at_,bV b.points,bV b.repeat_] 258)]) _
      refine Tr.k Z (ae (aa (aN Z H (fun H=>?_) (fun H=>?_))))
      ·exact aM (aP C ((!b.at_)&&(!(kw p1.At (aK.mk 0 0)))) H (.r Z) (.r Z))
      ·refine aj (aD (ag Me) Z (aC Z (fun _ _ a c=>ah BG (a.ev Z) (bN c (vs:=[bV b.name,bV b.at_,bV b.points,bV b.repeat_]) (k:=3) Z 2) Z) (aD bT Z (aA Z (bM 5 [(2,iv p2),(3,pV l),(4,pV i),(7,pV j),(41,bV ((!b.points)&&(decide (0<(p1.Points.length:Int)))))] [(1,bx l #[iv p0.Unit,sL o p0.Tools p,sL q p0.Steps t] 33),(2,bx i #[iv p1.Kind,sv p1.Name,iv p1.At.X,iv p1.At.Y,sL d p1.Points f,iv p1.NX,iv p1.NY,sL g p1.Steps h] 214),(3,bx j #[bV b.name,bV b.at_,bV b.points,bV b.repeat_] 258)] ?_ ?_)))))
       ·cases u:(!b.points)
        ·exact aG Z (aG Z (aG Z (aG Z (av aU Z Z (ae (aR (.r Z) (.r Z)))))))
        ·exact bC (ag Ah) Z (Tr.x (fun _ _ a c=>ah Ef (a.ev Z) (bN c (vs:=[iv p1.Kind,sv p1.Name,iv p1.At.X,iv p1.At.Y,sL d p1.Points f,iv p1.NX,iv p1.NY,sL g p1.Steps h]) (k:=2) Z 4) Z) (bC (bA xO) Z (dI dE Z Z (av aT Z Z (ae (aR (.r Z) (.r Z)))))))
       ·show Tr _ _ (LF [(2,iv p2),(3,pV l),(4,pV i),(7,pV j),(41,bV ((!b.points)&&(decide (0<(p1.Points.length:Int)))))]) (LE [(1,bx l #[iv p0.Unit,sL o p0.Tools p,sL q p0.Steps t] 33),(2,bx i #[iv p1.Kind,sv p1.Name,iv p1.At.X,iv p1.At.Y,sL d p1.Points f,iv p1.NX,iv p1.NY,sL g p1.Steps h] 214),(3,bx j #[bV b.name,bV b.at_,bV b.points,bV b.repeat_] 258)]) _
        refine Tr.k Z (ae (aa (aN Z H (fun H=>?_) (fun H=>?_))))
        ·exact aM (aP C ((!b.points)&&(decide (0<(p1.Points.length:Int)))) H (.r Z) (.r Z))
        ·refine aV (aD (ag Md) Z (aC Z (fun _ _ a c=>ah BG (a.ev Z) (bN c (vs:=[bV b.name,bV b.at_,bV b.points,bV b.repeat_]) (k:=3) Z 3) Z) (aD bT Z (aA Z (bM 15 [(2,iv p2),(3,pV l),(4,pV i),(7,pV j),(60,bV ((!b.repeat_)&&(((p1.NX !=0)||(p1.NY !=0))||(decide (0<(p1.Steps.length:Int))))))] [(1,bx l #[iv p0.Unit,sL o p0.Tools p,sL q p0.Steps t] 33),(2,bx i #[iv p1.Kind,sv p1.Name,iv p1.At.X,iv p1.At.Y,sL d p1.Points f,iv p1.NX,iv p1.NY,sL g p1.Steps h] 214),(3,bx j #[bV b.name,bV b.at_,bV b.points,bV b.repeat_] 258)] ?_ ?_)))))
         ·cases u:(!b.repeat_)
          ·exact aG Z (aG Z (aG Z (aG Z (ky Z (ky Z (ky Z (aG Z (aG Z (ky Z (ky Z (ky Z (ky Z (aG Z (av aU Z Z (ae (aR (.r Z) (.r Z)))))))))))))))))
          ·refine bC (ag DT) Z (Tr.x (fun _ _ a c=>ah bF (a.ev Z) (bN c (vs:=[iv p1.Kind,sv p1.Name,iv p1.At.X,iv p1.At.Y,sL d p1.Points f,iv p1.NX,iv p1.NY,sL g p1.Steps h]) (k:=2) Z 5) Z) (dI dW Z Z (bC run_move Z (bM 4 [(2,iv p2),(3,pV l),(4,pV i),(7,pV j),(45,bV true),(53,bV ((p1.NX !=0)||(p1.NY !=0)))] [(1,bx l #[iv p0.Unit,sL o p0.Tools p,sL q p0.Steps t] 33),(2,bx i #[iv p1.Kind,sv p1.Name,iv p1.At.X,iv p1.At.Y,sL d p1.Points f,iv p1.NX,iv p1.NY,sL g p1.Steps h] 214),(3,bx j #[bV b.name,bV b.at_,bV b.points,bV b.repeat_] 258)] ?_ ?_))))
           ·cases u:(p1.NX !=0)
            ·exact bC (ag DR) Z (Tr.x (fun _ _ a c=>ah bF (a.ev Z) (bN c (vs:=[iv p1.Kind,sv p1.Name,iv p1.At.X,iv p1.At.Y,sL d p1.Points f,iv p1.NX,iv p1.NY,sL g p1.Steps h]) (k:=2) Z 6) Z) (dI dW Z Z (dI aU Z Z (ae (aR (.r Z) (.r Z))))))
            ·exact aG Z (aG Z (aG Z (dI aT Z Z (ae (aR (.r Z) (.r Z))))))
           ·dsimp only
            refine bC run_move Z (bM 5 [(2,iv p2),(3,pV l),(4,pV i),(7,pV j),(45,bV true),(59,bV (((p1.NX !=0)||(p1.NY !=0))||(decide (0<(p1.Steps.length:Int)))))] [(1,bx l #[iv p0.Unit,sL o p0.Tools p,sL q p0.Steps t] 33),(2,bx i #[iv p1.Kind,sv p1.Name,iv p1.At.X,iv p1.At.Y,sL d p1.Points f,iv p1.NX,iv p1.NY,sL g p1.Steps h] 214),(3,bx j #[bV b.name,bV b.at_,bV b.points,bV b.repeat_] 258)] ?_ ?_)
            ·cases u:((p1.NX !=0)||(p1.NY !=0))
             ·exact bC (ag yh) Z (Tr.x (fun _ _ a c=>ah Eg (a.ev Z) (bN c (vs:=[iv p1.Kind,sv p1.Name,iv p1.At.X,iv p1.At.Y,sL d p1.Points f,iv p1.NX,iv p1.NY,sL g p1.Steps h]) (k:=2) Z 7) Z) (bC (bA Jm) Z (dI dE Z Z (dI aU Z Z (ae (aR (.r Z) (.r Z)))))))
             ·exact aG Z (aG Z (aG Z (aG Z (dI aT Z Z (ae (aR (.r Z) (.r Z)))))))
            ·dsimp only
             exact av aT Z Z (ae (aR (.r Z) (.r Z)))
         ·show Tr _ _ (LF [(2,iv p2),(3,pV l),(4,pV i),(7,pV j),(60,bV ((!b.repeat_)&&(((p1.NX !=0)||(p1.NY !=0))||(decide (0<(p1.Steps.length:Int))))))]) (LE [(1,bx l #[iv p0.Unit,sL o p0.Tools p,sL q p0.Steps t] 33),(2,bx i #[iv p1.Kind,sv p1.Name,iv p1.At.X,iv p1.At.Y,sL d p1.Points f,iv p1.NX,iv p1.NY,sL g p1.Steps h] 214),(3,bx j #[bV b.name,bV b.at_,bV b.points,bV b.repeat_] 258)]) _
          exact Tr.k Z (ae (aP C ((!b.repeat_)&&(((p1.NX !=0)||(p1.NY !=0))||(decide (0<(p1.Steps.length:Int))))) H (.r Z) (.r Z)))
  ·intro w L D hs
   have H:=hs
   replace H:fw p0 p1 p2 b L=some r:=H
   replace E:=E.iR D
   replace F:=F.iR D
   replace G:=G.iR D
   replace leB:=leB.trans D
   unfold fw at H
   show Tr _ _ (LF [(2,iv p2),(3,pV l),(4,pV i),(7,pV j),(15,bV L)]) (LE [(1,bx l #[iv p0.Unit,sL o p0.Tools p,sL q p0.Steps t] 33),(2,bx i #[iv p1.Kind,sv p1.Name,iv p1.At.X,iv p1.At.Y,sL d p1.Points f,iv p1.NX,iv p1.NY,sL g p1.Steps h] 214),(3,bx j #[bV b.name,bV b.at_,bV b.points,bV b.repeat_] 258)]) _
   refine aN Z H (fun H=>?_) (fun H=>?_)
   ·refine aj (Tr.k Z (ae (aa (aJ (au (ai ?_))))))
    obtain rfl:=oI H
    exact bD leB
   ·refine aj (aD (ag Mf) Z (aC Z (fun _ _ a c=>ah BG (a.ev Z) (bN c (vs:=[bV b.name,bV b.at_,bV b.points,bV b.repeat_]) (k:=3) Z 0) Z) (aA Z ?_)))
    obtain⟨M,v,H⟩:=bnd H
    refine bM 6 [(2,iv p2),(3,pV l),(4,pV i),(7,pV j),(70,bV M)] [(1,bx l #[iv p0.Unit,sL o p0.Tools p,sL q p0.Steps t] 33),(2,bx i #[iv p1.Kind,sv p1.Name,iv p1.At.X,iv p1.At.Y,sL d p1.Points f,iv p1.NX,iv p1.NY,sL g p1.Steps h] 214),(3,bx j #[bV b.name,bV b.at_,bV b.points,bV b.repeat_] 258)] ?_ ?_
    ·cases u:b.name
     ·rw[u] at v
      rw[if_neg (by decide)] at v
      have H:=v
      obtain rfl:=oI H
      exact aG Z (aG Z (aG Z (aG Z (aG Z (av aU Z Z (ae (aR (.r Z) (.r Z))))))))
     ·rw[u] at v
      rw[if_pos Z] at v
      have H:=v
      refine Tr.x (fun _ _ a c=>aL (cs:=[iv p0.Unit,sL o p0.Tools p,sL q p0.Steps t]) yw wZ (a.ev Z) (aI.take (bN c (vs:=[iv p0.Unit,sL o p0.Tools p,sL q p0.Steps t]) (k:=1) Z 0) 3) Z) (bC (ag Hz) Z (Tr.x (fun _ _ a c=>ah jD (a.ev Z) (bN c (vs:=[iv p1.Kind,sv p1.Name,iv p1.At.X,iv p1.At.Y,sL d p1.Points f,iv p1.NX,iv p1.NY,sL g p1.Steps h]) (k:=2) Z 1) Z) ?_))
      obtain⟨N,a0,H⟩:=bnd H
      refine aS (r:=(iv N)) (wg Z Z Z) Z Tryz.call162 (ak Z (ak Z aH)) (fun W hW=>yD p0 o p (E.ext hW.aY) q t (F.ext hW.aY) p1.Name N a0 (HF.start _)) (dI bi Z Z (av aT Z Z ?_))
      obtain rfl:=oI H
      exact ae (aR (.r Z) (.r Z))
    ·show Tr _ _ (LF [(2,iv p2),(3,pV l),(4,pV i),(7,pV j),(70,bV M)]) (LE [(1,bx l #[iv p0.Unit,sL o p0.Tools p,sL q p0.Steps t] 33),(2,bx i #[iv p1.Kind,sv p1.Name,iv p1.At.X,iv p1.At.Y,sL d p1.Points f,iv p1.NX,iv p1.NY,sL g p1.Steps h] 214),(3,bx j #[bV b.name,bV b.at_,bV b.points,bV b.repeat_] 258)]) _
     refine Tr.k Z (ae (aa (aN Z H (fun H=>?_) (fun H=>?_))))
     ·refine aj (Tr.k Z (ae (aa (aJ (au (ai ?_))))))
      obtain rfl:=oI H
      exact bD leB
     ·refine aj (aD (ag Ai) Z (aC Z (fun _ _ a c=>aL (cs:=[iv p1.At.X,iv p1.At.Y]) iC eU (a.ev Z) (aI.take (bN c (vs:=[iv p1.Kind,sv p1.Name,iv p1.At.X,iv p1.At.Y,sL d p1.Points f,iv p1.NX,iv p1.NY,sL g p1.Steps h]) (k:=2) Z 2) 2) Z) (aD (ag sN) Z (aC Z (fun _ _ a c=>ah bF (a.ev Z) (bN c (vs:=[iv p0.Unit,sL o p0.Tools p,sL q p0.Steps t]) (k:=1) Z 0) Z) ?_))))
      obtain⟨I,a1,H⟩:=bnd H
      refine aS (r:=(bV I)) (wn Z) Z Tryz.call163 (ak Z (ak Z aH)) (fun W hW=>xy p1.At p0.Unit I a1 (HF.start _)) (aD bT Z (aA Z ?_))
      obtain⟨O,z,H⟩:=bnd H
      refine bM 5 [(2,iv p2),(4,pV i),(7,pV j),(83,bV O)] [(1,bx l #[iv p0.Unit,sL o p0.Tools p,sL q p0.Steps t] 33),(2,bx i #[iv p1.Kind,sv p1.Name,iv p1.At.X,iv p1.At.Y,sL d p1.Points f,iv p1.NX,iv p1.NY,sL g p1.Steps h] 214),(3,bx j #[bV b.name,bV b.at_,bV b.points,bV b.repeat_] 258)] ?_ ?_
      ·cases u:(!I)
       ·rw[u] at z
        rw[if_neg (by decide)] at z
        have H:=z
        refine bC (ag Ah) Z (Tr.x (fun _ _ a c=>ah Ef (a.ev Z) (bN c (vs:=[iv p1.Kind,sv p1.Name,iv p1.At.X,iv p1.At.Y,sL d p1.Points f,iv p1.NX,iv p1.NY,sL g p1.Steps h]) (k:=2) Z 4) Z) (rO (vs:=[pV l]) (wg Z Z Z) Z (ak Z aH) ?_))
        obtain⟨P,a2,H⟩:=bnd H
        refine aS (r:=(bV P)) (wg Z Z Z) Z Tryz.call164 (ak Z (ak Z aH)) (fun W hW=>pR p1.Points d f (G.ext hW.aY) (fun z0=>jS z0 p0) 165 [pV l] Tryz.call165 (fun w' he z0 y hy=>zN z0 p0 o p (E.ext (hW.aY.trans he)) q t (F.ext (hW.aY.trans he)) l (he.r _ (hW.AC (k:=1) Z)) (he.cells (hW.AC (k:=1) Z) (hW.Jd (k:=1) Z)) y hy (HF.start _)) P a2 (HF.start _)) (av aU Z Z ?_)
        obtain rfl:=oI H
        exact ae (aR (.r Z) (.r Z))
       ·rw[u] at z
        rw[if_pos Z] at z
        have H:=z
        obtain rfl:=oI H
        exact aG Z (aG Z (aG Z (aG Z (av aT Z Z (ae (aR (.r Z) (.r Z)))))))
      ·show Tr _ _ (LF [(2,iv p2),(4,pV i),(7,pV j),(83,bV O)]) (LE [(1,bx l #[iv p0.Unit,sL o p0.Tools p,sL q p0.Steps t] 33),(2,bx i #[iv p1.Kind,sv p1.Name,iv p1.At.X,iv p1.At.Y,sL d p1.Points f,iv p1.NX,iv p1.NY,sL g p1.Steps h] 214),(3,bx j #[bV b.name,bV b.at_,bV b.points,bV b.repeat_] 258)]) _
       refine Tr.k Z (ae (aa (aN Z H (fun H=>?_) (fun H=>?_))))
       ·refine aj (Tr.k Z (ae (aa (aJ (au (ai ?_))))))
        obtain rfl:=oI H
        exact bD leB
       ·refine aj (aD (ag Ah) Z (aC Z (fun _ _ a c=>ah Ef (a.ev Z) (bN c (vs:=[iv p1.Kind,sv p1.Name,iv p1.At.X,iv p1.At.Y,sL d p1.Points f,iv p1.NX,iv p1.NY,sL g p1.Steps h]) (k:=2) Z 4) Z) (aD (bA xO) Z (av dE Z Z (Tr.k Z (ae (aa (aN Z H (fun H=>?_) (fun H=>?_)))))))))
        ·refine aj (Tr.k Z (ae (aa (aJ (au (ai ?_))))))
         obtain rfl:=oI H
         exact bD leB
        ·refine aj (aD (ag Me) Z (aC Z (fun _ _ a c=>ah BG (a.ev Z) (bN c (vs:=[bV b.name,bV b.at_,bV b.points,bV b.repeat_]) (k:=3) Z 2) Z) (aA Z ?_)))
         obtain⟨Q,A,H⟩:=bnd H
         refine bM 5 [(2,iv p2),(4,pV i),(7,pV j),(97,bV Q)] [(1,bx l #[iv p0.Unit,sL o p0.Tools p,sL q p0.Steps t] 33),(2,bx i #[iv p1.Kind,sv p1.Name,iv p1.At.X,iv p1.At.Y,sL d p1.Points f,iv p1.NX,iv p1.NY,sL g p1.Steps h] 214),(3,bx j #[bV b.name,bV b.at_,bV b.points,bV b.repeat_] 258)] ?_ ?_
         ·cases u:b.points
          ·rw[u] at A
           rw[if_neg (by decide)] at A
           have H:=A
           obtain rfl:=oI H
           exact aG Z (aG Z (aG Z (aG Z (av aU Z Z (ae (aR (.r Z) (.r Z)))))))
          ·rw[u] at A
           rw[if_pos Z] at A
           have H:=A
           refine bC (ag Ah) Z (Tr.x (fun _ _ a c=>ah Ef (a.ev Z) (bN c (vs:=[iv p1.Kind,sv p1.Name,iv p1.At.X,iv p1.At.Y,sL d p1.Points f,iv p1.NX,iv p1.NY,sL g p1.Steps h]) (k:=2) Z 4) Z) ?_)
           obtain⟨S,a3,H⟩:=bnd H
           refine aS (r:=(bV S)) (wg Z Z Z) Z Tryz.call166 (ak Z aH) (fun W hW=>Fv p1.Points d f (G.ext hW.aY) S a3 (HF.start _)) (bC bT Z (av aT Z Z ?_))
           obtain rfl:=oI H
           exact ae (aR (.r Z) (.r Z))
         ·show Tr _ _ (LF [(2,iv p2),(4,pV i),(7,pV j),(97,bV Q)]) (LE [(1,bx l #[iv p0.Unit,sL o p0.Tools p,sL q p0.Steps t] 33),(2,bx i #[iv p1.Kind,sv p1.Name,iv p1.At.X,iv p1.At.Y,sL d p1.Points f,iv p1.NX,iv p1.NY,sL g p1.Steps h] 214),(3,bx j #[bV b.name,bV b.at_,bV b.points,bV b.repeat_] 258)]) _
          refine Tr.k Z (ae (aa (aN Z H (fun H=>?_) (fun H=>?_))))
          ·refine aj (Tr.k Z (ae (aa (aJ (au (ai ?_))))))
           obtain rfl:=oI H
           exact bD leB
          ·refine aM (aQ (aa (az (aj (aD (ag Md) Z (aC Z (fun _ _ a c=>ah BG (a.ev Z) (bN c (vs:=[bV b.name,bV b.at_,bV b.points,bV b.repeat_]) (k:=3) Z 3) Z) (aD bT Z (ae (aa (aN Z H (fun H=>?_) (fun H=>?_)))))))))))
           ·refine aj (Tr.k Z (ae (aa (aJ (ai ?_)))))
            obtain rfl:=oI H
            exact bD leB
           ·refine aM (aa (az (Tr.block (aj (aD (ag DT) Z (aC Z (fun _ _ a c=>ah bF (a.ev Z) (bN c (vs:=[iv p1.Kind,sv p1.Name,iv p1.At.X,iv p1.At.Y,sL d p1.Points f,iv p1.NX,iv p1.NY,sL g p1.Steps h]) (k:=2) Z 5) Z) ?_))))))
            obtain⟨J,a4,H⟩:=bnd H
            refine aS (r:=(bV J)) (wn Z) Z Tryz.call67 (ak Z (ak Z (ak Z aH))) (fun W hW=>nS p1.NX 1 100 J a4 (HF.start _)) (aD bT Z (aA Z ?_))
            obtain⟨T,B,H⟩:=bnd H
            refine bM 5 [(2,iv p2),(4,pV i),(111,bV T)] [(1,bx l #[iv p0.Unit,sL o p0.Tools p,sL q p0.Steps t] 33),(2,bx i #[iv p1.Kind,sv p1.Name,iv p1.At.X,iv p1.At.Y,sL d p1.Points f,iv p1.NX,iv p1.NY,sL g p1.Steps h] 214),(3,bx j #[bV b.name,bV b.at_,bV b.points,bV b.repeat_] 258)] ?_ ?_
            ·cases u:(!J)
             ·rw[u] at B
              rw[if_neg (by decide)] at B
              have H:=B
              refine bC (ag DR) Z (Tr.x (fun _ _ a c=>ah bF (a.ev Z) (bN c (vs:=[iv p1.Kind,sv p1.Name,iv p1.At.X,iv p1.At.Y,sL d p1.Points f,iv p1.NX,iv p1.NY,sL g p1.Steps h]) (k:=2) Z 6) Z) ?_)
              obtain⟨U,a5,H⟩:=bnd H
              refine aS (r:=(bV U)) (wg Z Z Z) Z Tryz.call67 (ak Z (ak Z (ak Z aH))) (fun W hW=>nS p1.NY 1 100 U a5 (HF.start _)) (bC bT Z (av aU Z Z ?_))
              obtain rfl:=oI H
              exact ae (aR (.r Z) (.r Z))
             ·rw[u] at B
              rw[if_pos Z] at B
              have H:=B
              obtain rfl:=oI H
              exact aG Z (aG Z (aG Z (aG Z (av aT Z Z (ae (aR (.r Z) (.r Z)))))))
            ·show Tr _ _ (LF [(2,iv p2),(4,pV i),(111,bV T)]) (LE [(1,bx l #[iv p0.Unit,sL o p0.Tools p,sL q p0.Steps t] 33),(2,bx i #[iv p1.Kind,sv p1.Name,iv p1.At.X,iv p1.At.Y,sL d p1.Points f,iv p1.NX,iv p1.NY,sL g p1.Steps h] 214),(3,bx j #[bV b.name,bV b.at_,bV b.points,bV b.repeat_] 258)]) _
             refine Tr.k Z (ae (aa (aN Z H (fun H=>?_) (fun H=>?_))))
             ·refine aj (Tr.k Z (ae (aa (aJ (au (ai ?_))))))
              obtain rfl:=oI H
              exact bD leB
             ·refine aj (aD (ag yh) Z (aC Z (fun _ _ a c=>ah Eg (a.ev Z) (bN c (vs:=[iv p1.Kind,sv p1.Name,iv p1.At.X,iv p1.At.Y,sL d p1.Points f,iv p1.NX,iv p1.NY,sL g p1.Steps h]) (k:=2) Z 7) Z) (aD (bA Jm) Z (av dM Z Z (Tr.k Z (ae (aa (aN Z H (fun H=>?_) (fun H=>?_)))))))))
              ·refine aj (Tr.k Z (ae (aa (aJ (au (ai ?_))))))
               obtain rfl:=oI H
               exact bD leB
              ·refine aj (aA Z (av kG Z Z (Tr.k Z (ae (aa (aN Z H (fun H=>?_) (fun H=>?_)))))))
               ·refine aj (Tr.k Z (ae (aa (aJ (au (ai ?_))))))
                obtain rfl:=oI H
                exact bD leB
               ·refine aM (aQ (aa (aj (Tr.k Z (ae (aa (aJ ?_)))))))
                obtain rfl:=oI H
                exact bD leB

theorem zt(N:Nat)(rec:eX→(List aZ)→Int→Option Int)(hrec:∀{w:Bs} (p0:eX) (d:Option Addr) (f:Nat) (C:Sl w.R w.W cB d f p0.Tools) (g:Option Addr) (i:Nat) (D:Sl w.R w.W bH g i p0.Steps) (p1:(List aZ)) (u:Option Addr) (v:Nat) (B:Sl w.R w.W bH u v p1) (p2:Int) (r:Int) (H:rec p0 p1 p2=some r) (hE:HF w w.W E0),Calls Tryz.prog 70 [.agg #[iv p0.Unit,sL d p0.Tools f,sL g p0.Steps i],sL u p1 v,iv p2].toArray w.W fun e W'=>e= .returned (iv r)∧HF w W' E0){w:Bs}(p0:eX)(d:Option Addr)(f:Nat)(C:Sl w.R w.W cB d f p0.Tools)(g:Option Addr)(i:Nat)(D:Sl w.R w.W bH g i p0.Steps)(p1:(List aZ))(u:Option Addr)(v:Nat)(B:Sl w.R w.W bH u v p1)(p2:Int)(r:Int)(H:si N rec p0 p1 p2=some r)(hE:HF w w.W E0):Calls Tryz.prog 70 [.agg #[iv p0.Unit,sL d p0.Tools f,sL g p0.Steps i],sL u p1 v,iv p2].toArray w.W fun e W'=>e= .returned (iv r)∧HF w W' E0:=by
 unfold si at H
 have leB:=Bs.Le.refl w
 refine aX (n:=34) Tryz.func70 Z Z Z hE (aj (dh 1 (cs:=[iv p0.Unit,sL d p0.Tools f,sL g p0.Steps i]) (wn Z) Z Z Z fun F=>(Tr.k Z (ae (aa (az (aj (aA Z (aD (bA Jm) Z (aA Z (ae (aa (Tr.block (cO (σ:=(List aZ)×Nat) (fun m w s=>m=s.1.length+1∧s.1=List.drop s.2 p1∧s.2≤p1.length∧jo p0 p2 rec s.1 s.2=some r) (fun s=>[(2,iv p2),(3,pV F),(11,sL u p1 v),(12,iv (p1.length:Int)),(13,iv (s.2:Int))]) (fun s=>[(1,bx F #[iv p0.Unit,sL d p0.Tools f,sL g p0.Steps i] 33)]) (p1.length+1) (p1,0) ⟨Z,Z,Nat.zero_le _,H⟩ (.r Z) (.r Z) (fun _ _ h=>absurd h.1 (by simp)) ?_))))))))))))))
 intro w E m s hs
 obtain⟨q,I⟩:=s
 obtain⟨G,y,T,H⟩:=hs
 replace y:q=List.drop I p1:=y
 replace H:jo p0 p2 rec q I=some r:=H
 replace G:m+1=q.length+1:=G
 replace C:=C.iR E
 replace D:=D.iR E
 replace B:=B.iR E
 replace leB:=leB.trans E
 obtain rfl:m=q.length:=by omega
 clear G
 dsimp only
 cases q with
 |nil=>
  rw[jo.eq_1] at H
  refine aj (av bi Z Z (ae (aa (az (dn Z (cz y) (bZ (aF (aF (bg (aa (aj (Tr.k Z (ae (aa (aJ ?_)))))))))))))))
  obtain rfl:=oI H
  exact bD leB
 | cons b q=>
  rw[jo.eq_2] at H
  refine aj (av bi Z Z (ae (aa (az (dm Z (dz y) (aM (aa (az (Tr.block (aj ?_))))))))))
  obtain⟨S,K,J,L⟩:=(B).el (dA y)
  obtain⟨⟨o,p⟩,⟨j,l⟩⟩:=S
  obtain⟨A,t⟩:=vP.1 J
  replace A:Sl w.R w.W dP o p b.Points:=A
  replace t:Sl w.R w.W bH j l b.Steps:=t
  refine aC Z (fun _ _ a c=>aB SA (a.ev Z) B.form (a.ev Z) (Int.natCast_nonneg _) (bq y)) (aC Z (fun _ _ a c=>aL (cs:=[iv b.Kind,sv b.Name,iv b.At.X,iv b.At.Y,sL o b.Points p,iv b.NX,iv b.NY,sL j b.Steps l]) Ff yO (a.ev Z) (aI.take (tY K L c) 8) Z) (Tr.alloc 3 (wn Z) Z Nl fun U=>(bv 3 (cs:=[iv b.Kind,sv b.Name,iv b.At.X,iv b.At.Y,sL o b.Points p,iv b.NX,iv b.NY,sL j b.Steps l]) [iv b.Kind,sv b.Name,iv b.At.X,iv b.At.Y,sL o b.Points p,iv b.NX,iv b.NY,sL j b.Steps l] (wn Z) Z Z Z Z yO Z Z Z (ae (aa (az (aj (aC Z (fun _ _ a c=>aL (cs:=[iv p0.Unit,sL d p0.Tools f,sL g p0.Steps i]) yw wZ (a.ev Z) (aI.take (bN c (vs:=[iv p0.Unit,sL d p0.Tools f,sL g p0.Steps i]) (k:=1) Z 0) 3) Z) (aC Z (fun _ _ a c=>aL (cs:=[iv b.Kind,sv b.Name,iv b.At.X,iv b.At.Y,sL o b.Points p,iv b.NX,iv b.NY,sL j b.Steps l]) Ff yO (a.ev Z) (aI.take (bN c (vs:=[iv b.Kind,sv b.Name,iv b.At.X,iv b.At.Y,sL o b.Points p,iv b.NX,iv b.NY,sL j b.Steps l]) (k:=3) Z 0) 8) Z) (aA Z ?_))))))))))
  obtain⟨M,P,H⟩:=bnd H
  refine aS (r:=(iv M)) (wn Z) Z Tryz.call118 (ak Z (ak Z (ak Z aH))) (fun W hW=>BJ p0 d f (C.ext hW.aY) g i (D.ext hW.aY) b o p (A.ext hW.aY) j l (t.ext hW.aY) p2 M P (HF.start _)) (Tr.k Z (ae (aa (aj (aA Z (av dW Z Z (ae (aa (aN Z H (fun H=>?_) (fun H=>?_))))))))))
  ·refine aj (aA Z (Tr.k Z (ae (aa (aJ (ai (au (ai (ai (au (ai ?_)))))))))))
   obtain rfl:=oI H
   exact bD leB
  ·refine aM (aa (aj (aC Z (fun _ _ a c=>aL (cs:=[iv p0.Unit,sL d p0.Tools f,sL g p0.Steps i]) yw wZ (a.ev Z) (aI.take (bN c (vs:=[iv p0.Unit,sL d p0.Tools f,sL g p0.Steps i]) (k:=1) Z 0) 3) Z) (aD (ag yh) Z (aC Z (fun _ _ a c=>ah Eg (a.ev Z) (bN c (vs:=[iv b.Kind,sv b.Name,iv b.At.X,iv b.At.Y,sL o b.Points p,iv b.NX,iv b.NY,sL j b.Steps l]) (k:=3) Z 7) Z) (aA Z (av bE Z Z ?_)))))))
   obtain⟨O,Q,H⟩:=bnd H
   refine aS (r:=(iv O)) (wn Z) Z Tryz.call70 (ak Z (ak Z (ak Z aH))) (fun W hW=>hrec p0 d f (C.ext hW.aY) g i (D.ext hW.aY) b.Steps j l (t.ext hW.aY) (bP (p2+1)) O Q (HF.start _)) (Tr.k Z (ae (aa (aj (aA Z (av dW Z Z (ae (aa (aN Z H (fun H=>?_) (fun H=>?_))))))))))
   ·refine aj (aA Z (Tr.k Z (ae (aa (aJ (au (ai (ai (au (ai ?_))))))))))
    obtain rfl:=oI H
    exact bD leB
   ·exact aM (aQ (aa (aV (av bE Z Z (aA Z (ae (aP E (q,(I+1)) ⟨Z,df y,bq y,H⟩ (.cons Z (.cons Z (.cons Z (.cons Z (.cons (congrArg (fun z=>some (Value.int .i64 z)) (cZ y B.form)) .nil))))) (.r Z))))))))
theorem vH:∀(N:Nat) {w:Bs} (p0:eX) (a:Option Addr) (b:Nat) (h:Sl w.R w.W cB a b p0.Tools) (c:Option Addr) (d:Nat) (i:Sl w.R w.W bH c d p0.Steps) (p1:(List aZ)) (f:Option Addr) (g:Nat) (j:Sl w.R w.W bH f g p1) (p2:Int) (r:Int) (H:oW N p0 p1 p2=some r) (hE:HF w w.W E0),Calls Tryz.prog 70 [.agg #[iv p0.Unit,sL a p0.Tools b,sL c p0.Steps d],sL f p1 g,iv p2].toArray w.W fun e W'=>e= .returned (iv r)∧HF w W' E0
 |0=>by intros;rename_i H _;cases H
 |N+1=>zt N (oW N) (vH N)

theorem sj(N:Nat){w:Bs}(p0:eX)(b:Option Addr)(d:Nat)(o:Sl w.R w.W cB b d p0.Tools)(f:Option Addr)(g:Nat)(v:Sl w.R w.W bH f g p0.Steps)(r:Int)(H:mD N p0=some r)(hE:HF w w.W E0):Calls Tryz.prog 29 [.agg #[iv p0.Unit,sL b p0.Tools d,sL f p0.Steps g]].toArray w.W fun e W'=>e= .returned (iv r)∧HF w W' E0:=by
 unfold mD at H
 have leB:=Bs.Le.refl w
 refine aX (n:=52) Tryz.func29 Z Z Z hE (aj (dh 1 (cs:=[iv p0.Unit,sL b p0.Tools d,sL f p0.Steps g]) (wn Z) Z Z Z fun y=>(Tr.k Z (ae (aa (az (aj (aD (ag sN) Z (aC Z (fun _ _ a c=>ah bF (a.ev Z) (bN c (vs:=[iv p0.Unit,sL b p0.Tools d,sL f p0.Steps g]) (k:=1) Z 0) Z) ?_)))))))))
 obtain⟨G,U,H⟩:=bnd H
 refine aS (r:=(bV G)) (wn Z) Z Tryz.call67 (ak Z (ak Z (ak Z aH))) (fun W hW=>nS p0.Unit 1 1000 G U (HF.start _)) (aD bT Z (ae (aa (aN Z H (fun H=>?_) (fun H=>?_)))))
 ·refine aj (Tr.k Z (ae (aa (aJ (ai ?_)))))
  obtain rfl:=oI H
  exact bD leB
 ·refine aM (aa (az (aj (aD (ag DJ) Z (aC Z (fun _ _ a c=>ah MW (a.ev Z) (bN c (vs:=[iv p0.Unit,sL b p0.Tools d,sL f p0.Steps g]) (k:=1) Z 1) Z) (aD (bA Ow) Z (av dE Z Z (ae (aa (aN Z H (fun H=>?_) (fun H=>?_)))))))))))
  ·refine aj (Tr.k Z (ae (aa (aJ (ai ?_)))))
   obtain rfl:=oI H
   exact bD leB
  ·refine aM (aa (az (aj (aD (ag DJ) Z (aC Z (fun _ _ a c=>ah MW (a.ev Z) (bN c (vs:=[iv p0.Unit,sL b p0.Tools d,sL f p0.Steps g]) (k:=1) Z 1) Z) (aD (bA Ow) Z (aA Z (ae (aa (Tr.block (cO (σ:=(List eH)×Nat) (fun m w s=>m=s.1.length+1∧s.1=List.drop s.2 p0.Tools∧s.2≤p0.Tools.length∧ja N p0 s.1 s.2=some r) (fun s=>[(1,pV y),(15,sL b p0.Tools d),(16,iv (p0.Tools.length:Int)),(17,iv (s.2:Int))]) (fun s=>[(1,bx y #[iv p0.Unit,sL b p0.Tools d,sL f p0.Steps g] 33)]) (p0.Tools.length+1) (p0.Tools,0) ⟨Z,Z,Nat.zero_le _,H⟩ (.r Z) (.r Z) (fun _ _ h=>absurd h.1 (by simp)) ?_)))))))))))
   intro w B m s hs
   obtain⟨l,A⟩:=s
   obtain⟨C,q,a7,H⟩:=hs
   replace q:l=List.drop A p0.Tools:=q
   replace H:ja N p0 l A=some r:=H
   replace C:m+1=l.length+1:=C
   replace o:=o.iR B
   replace v:=v.iR B
   replace leB:=leB.trans B
   obtain rfl:m=l.length:=by omega
   clear C
   dsimp only
   cases l with
   | nil=>
    rw[ja.eq_1] at H
    refine aj (av bi Z Z (ae (aa (az (dn Z (cz q) (bZ (aF (aF (bg (aa (az (aj (aD (ag KM) Z (aC Z (fun _ _ a c=>ah Eg (a.ev Z) (bN c (vs:=[iv p0.Unit,sL b p0.Tools d,sL f p0.Steps g]) (k:=1) Z 2) Z) ?_))))))))))))))
    obtain⟨I,V,H⟩:=bnd H
    refine aS (r:=(iv I)) (wn Z) Z Tryz.call69 (ak Z aH) (fun W hW=>zG N p0.Steps f g (v.ext hW.aY) I V (HF.start _)) (av dE Z Z (ae (aa (aN Z H (fun H=>?_) (fun H=>?_)))))
    ·refine aj (Tr.k Z (ae (aa (aJ (ai ?_)))))
     obtain rfl:=oI H
     exact bD leB
    ·refine aM (aa (aj (aC Z (fun _ _ a c=>aL (cs:=[iv p0.Unit,sL b p0.Tools d,sL f p0.Steps g]) yw wZ (a.ev Z) (aI.take (bN c (vs:=[iv p0.Unit,sL b p0.Tools d,sL f p0.Steps g]) (k:=1) Z 0) 3) Z) (aD (ag KM) Z (aC Z (fun _ _ a c=>ah Eg (a.ev Z) (bN c (vs:=[iv p0.Unit,sL b p0.Tools d,sL f p0.Steps g]) (k:=1) Z 2) Z) ?_)))))
     obtain⟨J,X,H⟩:=bnd H
     refine aS (r:=(iv J)) (wn Z) Z Tryz.call70 (ak Z (ak Z (ak Z aH))) (fun W hW=>vH N p0 b d (o.ext hW.aY) f g (v.ext hW.aY) p0.Steps f g (v.ext hW.aY) 0 J X (HF.start _)) (Tr.k Z (ae (aa (aJ ?_))))
     obtain rfl:=oI H
     exact bD leB
   | cons p l=>
    rw[ja.eq_2] at H
    refine aj (av bi Z Z (ae (aa (az (dm Z (dz q) (aM (aa (az (Tr.block (aj (aA Z ?_)))))))))))
    obtain⟨a2,K,E,L⟩:=(o).el (dA q)
    obtain⟨i,j⟩:=a2
    have t:=E
    replace t:Sl w.R w.W bf i j p.Rects:=t
    refine aC Z (fun _ _ a c=>aB Po (a.ev Z) o.form (a.ev Z) (Int.natCast_nonneg _) (bq q)) (aC Z (fun _ _ a c=>aL (cs:=[sv p.Name,sL i p.Rects j]) KZ EH (a.ev Z) (aI.take (tY K L c) 2) Z) (Tr.alloc 3 (wn Z) Z Qy fun a8=>(Tr.k Z (bv 3 (cs:=[sv p.Name,sL i p.Rects j]) [sv p.Name,sL i p.Rects j] (wn Z) Z Z Z Z EH Z Z Z (ae (aa (az (aj (aC Z (fun _ _ a c=>aL (cs:=[sv p.Name,sL i p.Rects j]) KZ EH (a.ev Z) (aI.take (bN c (vs:=[sv p.Name,sL i p.Rects j]) (k:=3) Z 0) 2) Z) (aD (ag sN) Z (aC Z (fun _ _ a c=>ah bF (a.ev Z) (bN c (vs:=[iv p0.Unit,sL b p0.Tools d,sL f p0.Steps g]) (k:=1) Z 0) Z) ?_)))))))))))
    obtain⟨M,a',H⟩:=bnd H
    refine aS (r:=(iv M)) (wn Z) Z Tryz.call68 (ak Z (ak Z aH)) (fun W hW=>BI N p i j (t.ext hW.aY) p0.Unit M a' (HF.start _)) (Tr.k Z (ae (aa (aj (aA Z (av dW Z Z (ae (aa (aN Z H (fun H=>?_) (fun H=>?_))))))))))
    ·refine aj (aA Z (Tr.k Z (ae (aa (aJ (ai (au (ai (ai (au (ai ?_)))))))))))
     obtain rfl:=oI H
     exact bD leB
    ·refine aM (aa (az (fZ (by kernel_rfl) (by kernel_rfl) (dY Z (dL dE Z Z (dY Z ?_))))))
     obtain⟨a3,u,H⟩:=bnd H
     refine mi 11 [(1,pV y),(15,sL b p0.Tools d),(16,iv (p0.Tools.length:Int)),(17,iv (A:Int)),(42,bV a3)] ?_ ?_
     ·cases D:(decide (0<(A:Int)))
      ·rw[D] at u
       rw[if_neg (by decide)] at u
       have H:=u
       obtain rfl:=oI H
       exact bB Z (bB Z (bB Z (bB Z (bB Z (bB Z (bB Z (bB Z (bB Z (bB Z (dL aU Z Z (bK (.r Z))))))))))))
      ·rw[D] at u
       rw[if_pos Z] at u
       have H:=u
       refine dJ (ag DZ) Z (Tq.x (fun _ _ a c=>ah jD (a.ev Z) (bN c (vs:=[sv p.Name,sL i p.Rects j]) (k:=3) Z 0) Z) (dJ (ag DJ) Z (Tq.x (fun _ _ a c=>ah MW (a.ev Z) (bN c (vs:=[iv p0.Unit,sL b p0.Tools d,sL f p0.Steps g]) (k:=1) Z 1) Z) (dJ run_move Z (lg gH Z Z ?_)))))
       obtain⟨a9,a0,H⟩:=bnd H
       obtain⟨O,P,Q⟩:=bJ a0
       obtain⟨a4,S,F,T⟩:=(o).el Q
       obtain⟨a5,a6⟩:=a4
       have a1:=F
       refine Tq.x (fun _ _ a c=>aB Po (a.ev Z) o.form (a.ev Z) O P) (dJ (ag DZ) Z (Tq.x (fun _ _ a c=>ah jD (a.ev Z) (aI.drop (tY S T c) 0) Z) (lg pI Z Z (dL aT Z Z ?_))))
       obtain rfl:=oI H
       exact bK (.r Z)
     ·refine gz (aa (aN Z H (fun H=>?_) (fun H=>?_)))
      ·refine aj (Tr.k Z (ae (aa (aJ (au (ai (ai (au (ai ?_)))))))))
       obtain rfl:=oI H
       exact bD leB
      ·exact aM (aQ (aa (aV (av bE Z Z (aA Z (ae (aP B (l,(A+1)) ⟨Z,df q,bq q,H⟩ (.cons Z (.cons Z (.cons Z (.cons (congrArg (fun z=>some (Value.int .i64 z)) (cZ q o.form)) .nil)))) (.r Z))))))))

theorem Ep{w:Bs}(hT:Nj Tryz.prog w)(p0:Int)(r:ByteArray)(H:L9 p0=some r)(hE:HF w w.W E0):Calls Tryz.prog 30 [iv p0].toArray w.W fun e W'=>e= .returned (sv r)∧HF w W' E0:=
 NT (ρ:=Tryz.Hq) Tryz.Wt hT H hE

theorem qX{w:Bs}(p0:Int)(p1:Int)(p2:Int)(r:Bool)(H:mV p0 p1 p2=some r)(hE:HF w w.W E0):Calls Tryz.prog 75 [iv p0,iv p1,iv p2].toArray w.W fun e W'=>e= .returned (bV r)∧HF w W' E0:=by
 unfold mV at H
 have leB:=Bs.Le.refl w
 refine aX (n:=15) Tryz.func75 Z Z Z hE (aj (Tr.k Z (ae (aa (aj (aA Z (aA Z (av kG Z Z (aA Z (bM 4 [(14,bV ((decide (p1≤p0))&&(decide (p0≤p2))))] [] ?_ ?_))))))))))
 ·cases a:(decide (p1≤p0))
  ·exact aG Z (aG Z (aG Z (av aU Z Z (ae (aR (.r Z) .nil)))))
  ·exact bC run_move Z (bC run_move Z (dI iT Z Z (av aT Z Z (ae (aR (.r Z) .nil)))))
 ·show Tr _ _ (LF [(14,bV ((decide (p1≤p0))&&(decide (p0≤p2))))]) (LE []) _
  refine Tr.k Z (ae (aa (aJ ?_)))
  obtain rfl:=oI H
  exact bD leB

theorem zz(N:Nat){w:Bs}(p0:(List mW))(d:Option Addr)(f:Nat)(l:Sl w.R w.W oL d f p0)(r:Int)(H:pF N p0=some r)(hE:HF w w.W E0):Calls Tryz.prog 72 [sL d p0 f].toArray w.W fun e W'=>e= .returned (iv r)∧HF w W' E0:=by
 unfold pF at H
 have leB:=Bs.Le.refl w
 refine aX (n:=57) Tryz.func72 Z Z Z hE (aj (Tr.k Z (ae (aa (az (aj (aA Z (aD (bA QC) Z (av dE Z Z (ae (aa (aN Z H (fun H=>?_) (fun H=>?_)))))))))))))
 ·refine aj (Tr.k Z (ae (aa (aJ (ai ?_)))))
  obtain rfl:=oI H
  exact bD leB
 ·refine aM (aa (az (aj (aA Z (aD (bA QC) Z (aA Z (ae (aa (Tr.block (cO (σ:=(List mW)×Nat) (fun m w s=>m=s.1.length+1∧s.1=List.drop s.2 p0∧s.2≤p0.length∧gK N p0 s.1 s.2=some r) (fun s=>[(0,sL d p0 f),(8,sL d p0 f),(9,iv (p0.length:Int)),(10,iv (s.2:Int))]) (fun s=>[]) (p0.length+1) (p0,0) ⟨Z,Z,Nat.zero_le _,H⟩ (.r Z) .nil (fun _ _ h=>absurd h.1 (by simp)) ?_))))))))))
  intro w v m s hs
  obtain⟨g,i⟩:=s
  obtain⟨y,o,U,H⟩:=hs
  replace o:g=List.drop i p0:=o
  replace H:gK N p0 g i=some r:=H
  replace y:m+1=g.length+1:=y
  replace l:=l.iR v
  replace leB:=leB.trans v
  obtain rfl:m=g.length:=by omega
  clear y
  dsimp only
  cases g with
  |nil=>
   rw[gK.eq_1] at H
   refine aj (av bi Z Z (ae (aa (az (dn Z (cz o) (bZ (aF (aF (bg (aa (aj (Tr.k Z (ae (aa (aJ ?_)))))))))))))))
   obtain rfl:=oI H
   exact bD leB
  | cons b g=>
   rw[gK.eq_2] at H
   refine aj (av bi Z Z (ae (aa (az (dm Z (dz o) (aM (aa (az (Tr.block (aj (aA Z (aC Z (fun _ _ a c=>aB Mx (a.ev Z) l.form (a.ev Z) (Int.natCast_nonneg _) (bq o)) (aC Z (fun _ _ a c=>aL (cs:=[sv b.Type_,iv b.W,iv b.H,iv b.Tall,sv b.Nozzle]) Fg xD (a.ev Z) (aI.take (pq yt l (dA o) c) 5) Z) (Tr.alloc 2 (wn Z) Z Nn fun p=>(Tr.k Z (bv 2 (cs:=[sv b.Type_,iv b.W,iv b.H,iv b.Tall,sv b.Nozzle]) [sv b.Type_,iv b.W,iv b.H,iv b.Tall,sv b.Nozzle] (wn Z) Z Z Z Z xD Z Z Z (ae (aa (Tr.block (aj (aD (ag DX) Z (aC Z (fun _ _ a c=>ah jD (a.ev Z) (bN c (vs:=[sv b.Type_,iv b.W,iv b.H,iv b.Tall,sv b.Nozzle]) (k:=2) Z 0) Z) ?_))))))))))))))))))))))
   obtain⟨C,L,H⟩:=bnd H
   refine aS (r:=(bV C)) (wn Z) Z Tryz.call64 (ak Z aH) (fun W hW=>jJ N b.Type_ C L (HF.start _)) (aD bT Z (Tr.k Z (ae (aa (aN Z H (fun H=>?_) (fun H=>?_))))))
   ·refine aj (Tr.k Z (ae (aa (aJ (au (au (ai (ai (au (ai ?_))))))))))
    obtain rfl:=oI H
    exact bD leB
   ·refine aj (aD (ag Si) Z (aC Z (fun _ _ a c=>ah bF (a.ev Z) (bN c (vs:=[sv b.Type_,iv b.W,iv b.H,iv b.Tall,sv b.Nozzle]) (k:=2) Z 1) Z) ?_))
    obtain⟨A,M,H⟩:=bnd H
    refine aS (r:=(bV A)) (wn Z) Z Tryz.call75 (ak Z (ak Z (ak Z aH))) (fun W hW=>qX b.W 1 100000 A M (HF.start _)) (aD bT Z (aA Z ?_))
    obtain⟨B,q,H⟩:=bnd H
    refine bM 5 [(0,sL d p0 f),(3,iv (i:Int)),(4,pV p),(8,sL d p0 f),(9,iv (p0.length:Int)),(10,iv (i:Int)),(30,bV B)] [(2,bx p #[sv b.Type_,iv b.W,iv b.H,iv b.Tall,sv b.Nozzle] 163)] ?_ ?_
    ·cases j:(!A)
     ·rw[j] at q
      rw[if_neg (by decide)] at q
      have H:=q
      refine bC (ag Sg) Z (Tr.x (fun _ _ a c=>ah bF (a.ev Z) (bN c (vs:=[sv b.Type_,iv b.W,iv b.H,iv b.Tall,sv b.Nozzle]) (k:=2) Z 2) Z) ?_)
      obtain⟨D,O,H⟩:=bnd H
      refine aS (r:=(bV D)) (wg Z Z Z) Z Tryz.call75 (ak Z (ak Z (ak Z aH))) (fun W hW=>qX b.H 1 100000 D O (HF.start _)) (bC bT Z (av aU Z Z ?_))
      obtain rfl:=oI H
      exact ae (aR (.r Z) (.r Z))
     ·rw[j] at q
      rw[if_pos Z] at q
      have H:=q
      obtain rfl:=oI H
      exact aG Z (aG Z (aG Z (aG Z (av aT Z Z (ae (aR (.r Z) (.r Z)))))))
    ·show Tr _ _ (LF [(0,sL d p0 f),(3,iv (i:Int)),(4,pV p),(8,sL d p0 f),(9,iv (p0.length:Int)),(10,iv (i:Int)),(30,bV B)]) (LE [(2,bx p #[sv b.Type_,iv b.W,iv b.H,iv b.Tall,sv b.Nozzle] 163)]) _
     refine aA Z ?_
     obtain⟨E,t,H⟩:=bnd H
     refine bM 5 [(0,sL d p0 f),(3,iv (i:Int)),(4,pV p),(8,sL d p0 f),(9,iv (p0.length:Int)),(10,iv (i:Int)),(36,bV E)] [(2,bx p #[sv b.Type_,iv b.W,iv b.H,iv b.Tall,sv b.Nozzle] 163)] ?_ ?_
     ·cases j:B
      ·rw[j] at t
       rw[if_neg (by decide)] at t
       have H:=t
       refine bC (ag Sd) Z (Tr.x (fun _ _ a c=>ah bF (a.ev Z) (bN c (vs:=[sv b.Type_,iv b.W,iv b.H,iv b.Tall,sv b.Nozzle]) (k:=2) Z 3) Z) ?_)
       obtain⟨F,P,H⟩:=bnd H
       refine aS (r:=(bV F)) (wg Z Z Z) Z Tryz.call75 (ak Z (ak Z (ak Z aH))) (fun W hW=>qX b.Tall 1 100000 F P (HF.start _)) (bC bT Z (av aU Z Z ?_))
       obtain rfl:=oI H
       exact ae (aR (.r Z) (.r Z))
      ·rw[j] at t
       rw[if_pos Z] at t
       have H:=t
       obtain rfl:=oI H
       exact aG Z (aG Z (aG Z (aG Z (av aT Z Z (ae (aR (.r Z) (.r Z)))))))
     ·show Tr _ _ (LF [(0,sL d p0 f),(3,iv (i:Int)),(4,pV p),(8,sL d p0 f),(9,iv (p0.length:Int)),(10,iv (i:Int)),(36,bV E)]) (LE [(2,bx p #[sv b.Type_,iv b.W,iv b.H,iv b.Tall,sv b.Nozzle] 163)]) _
      refine Tr.k Z (ae (aa (aN Z H (fun H=>?_) (fun H=>?_))))
      ·refine aj (Tr.k Z (ae (aa (aJ (au (au (ai (ai (au (ai ?_))))))))))
       obtain rfl:=oI H
       exact bD leB
      ·refine aj (aD (ag Sc) Z (aC Z (fun _ _ a c=>ah jD (a.ev Z) (bN c (vs:=[sv b.Type_,iv b.W,iv b.H,iv b.Tall,sv b.Nozzle]) (k:=2) Z 4) Z) ?_))
       obtain⟨G,Q,H⟩:=bnd H
       refine aS (r:=(bV G)) (wn Z) Z Tryz.call64 (ak Z aH) (fun W hW=>jJ N b.Nozzle G Q (HF.start _)) (aD bT Z (Tr.k Z (ae (aa (aN Z H (fun H=>?_) (fun H=>?_))))))
       ·refine aj (Tr.k Z (ae (aa (aJ (au (au (ai (ai (au (ai ?_))))))))))
        obtain rfl:=oI H
        exact bD leB
       ·refine az (fZ (by kernel_rfl) (by kernel_rfl) (dY Z (dL dE Z Z (dY Z ?_))))
        obtain⟨T,u,H⟩:=bnd H
        refine mi 10 [(0,sL d p0 f),(8,sL d p0 f),(9,iv (p0.length:Int)),(10,iv (i:Int)),(55,bV T)] ?_ ?_
        ·cases j:(decide (0<(i:Int)))
         ·rw[j] at u
          rw[if_neg (by decide)] at u
          have H:=u
          obtain rfl:=oI H
          exact bB Z (bB Z (bB Z (bB Z (bB Z (bB Z (bB Z (bB Z (bB Z (dL aU Z Z (bK (.r Z)))))))))))
         ·rw[j] at u
          rw[if_pos Z] at u
          have H:=u
          refine dJ (ag DX) Z (Tq.x (fun _ _ a c=>ah jD (a.ev Z) (bN c (vs:=[sv b.Type_,iv b.W,iv b.H,iv b.Tall,sv b.Nozzle]) (k:=2) Z 0) Z) (dJ run_move Z (dJ run_move Z (lg gH Z Z ?_))))
          obtain⟨V,S,H⟩:=bnd H
          obtain⟨I,J,K⟩:=bJ S
          refine Tq.x (fun _ _ a c=>aB Mx (a.ev Z) l.form (a.ev Z) I J) (dJ (ag DX) Z (Tq.x (fun _ _ a c=>ah jD (a.ev Z) (aI.drop (pq yt l K c) 0) Z) (lg pI Z Z (dL aT Z Z ?_))))
          obtain rfl:=oI H
          exact bK (.r Z)
        ·refine jB Z Z (gz (aa (aN Z H (fun H=>?_) (fun H=>?_))))
         ·refine aj (Tr.k Z (ae (aa (aJ (au (au (ai (ai (au (ai ?_))))))))))
          obtain rfl:=oI H
          exact bD leB
         ·exact aM (aQ (aQ (aa (aV (av bE Z Z (aA Z (ae (aP v (g,(i+1)) ⟨Z,df o,bq o,H⟩ (.cons Z (.cons Z (.cons Z (.cons (congrArg (fun z=>some (Value.int .i64 z)) (cZ o l.form)) .nil)))) .nil))))))))

theorem qQ(N:Nat){w:Bs}(p0:(List mW))(j:Option Addr)(l:Nat)(b:Sl w.R w.W oL j l p0)(p1:ByteArray)(p2:mW→ByteArray→Option Int)(fid2:Nat)(p:List Value)(hg2:∀args W,(callFunc fid2 args).run Tryz.prog W= .ok (.enter fid2 args) W)(hf2:∀(w':Bs),w.Ext w'→∀(z0:mW) (z1:ByteArray),∀y,p2 z0 z1=some y→Calls Tryz.prog fid2 (([.agg #[sv z0.Type_,iv z0.W,iv z0.H,iv z0.Tall,sv z0.Nozzle],sv z1]:List Value)++p).toArray w'.W fun e W''=>e= .returned (iv y)∧HF w' W'' E0)(r:(Int×Bool))(H:kg N p0 p1 p2=some r)(hE:HF w w.W E0):Calls Tryz.prog 120 [sL j p0 l,sv p1,.func (.func fid2) #[] p.toArray].toArray w.W fun e W'=>e= .returned (.tuple #[iv r.1,bV r.2])∧HF w W' E0:=by
 unfold kg at H
 have leB:=Bs.Le.refl w
 refine aX (n:=49) Tryz.func120 Z Z Z hE (aj (Tr.k Z (Tr.k Z (ae (aa (aj (aA Z (aD (bA QC) Z (Tr.k Z (ae (aa (aj (aA Z (Tr.k Z (Tr.k Z (ae (aa (az (Tr.block (cO (σ:=Int×Int) (fun m w s=>ed p0 p1 p2 m s.1 s.2=some r) (fun s=>[(0,sL j p0 l),(1,sv p1),(2,.func (.func fid2) #[] p.toArray),(8,iv (p0.length:Int)),(9,iv s.1),(10,iv s.2)]) (fun s=>[]) N (0,(p0.length:Int)) H (.r Z) .nil (fun _ _ h=>oq (h)) ?_))))))))))))))))))))
 intro w o P s hs
 obtain⟨f,q⟩:=s
 have H:=hs
 replace H:ed p0 p1 p2 (P+1) f q=some r:=H
 replace b:=b.iR o
 replace hf2:=fun w' he=>hf2 w' (o.ext.trans he)
 replace leB:=leB.trans o
 rw[ed.eq_2] at H
 dsimp only
 refine az (aj (aA Z (aA Z (av bi Z Z (ae (aa (aN Z H (fun H=>?_) (fun H=>?_))))))))
 ·refine aM (aa (Tr.block (aj (aA Z (aA Z (av bE Z Z ?_))))))
  obtain⟨Q,F,H⟩:=bnd H
  refine aC Z (fun _ _ a c=>Di IX xB (a.ev Z) F) (av z8 Z Z ?_)
  obtain⟨v,G,H⟩:=bnd H
  refine aC Z (fun _ _ a c=>Dj xB IX (a.ev Z) G) (Tr.k Z (ae (aa (aj (aA Z (aA Z (aA Z ?_)))))))
  obtain⟨g,I,H⟩:=bnd H
  obtain⟨z,A,B⟩:=bJ I
  refine aC Z (fun _ _ a c=>aB Mx (a.ev Z) b.form (a.ev Z) z A) (aC Z (fun _ _ a c=>aL (cs:=[sv g.Type_,iv g.W,iv g.H,iv g.Tall,sv g.Nozzle]) Fg xD (a.ev Z) (aI.take (pq yt b B c) 5) Z) (aA Z ?_))
  obtain⟨M,J,H⟩:=bnd H
  refine kC (r:=(iv M)) (wn Z) Z Z hg2 (ak Z (ak Z aH)) (fun W hW=>hf2 hW.all hW.aY g p1 _ J) (av bi Z Z (ae (aa (aN Z H (fun H=>?_) (fun H=>?_)))))
  ·exact aV (aA Z (av bE Z Z (Tr.k Z (ae (aQ (aP o ((bP (v+1)),q) H (.r Z) .nil))))))
  ·exact aV (aA Z (Tr.k Z (ae (aQ (aP o (f,v) H (.r Z) .nil)))))
 ·refine bZ (aF (aF (bg (aa (aj (aA Z (aA Z (aA Z (av bi Z Z (aA Z ?_))))))))))
  obtain⟨t,d,H⟩:=bnd H
  refine bM 9 [(35,iv f),(48,bV t)] [] ?_ ?_
  ·cases u:(decide (f<(p0.length:Int)))
   ·rw[u] at d
    rw[if_neg (by decide)] at d
    have H:=d
    obtain rfl:=oI H
    exact aG Z (aG Z (aG Z (aG Z (aG Z (aG Z (aG Z (aG Z (av aU Z Z (ae (aR (.r Z) .nil))))))))))
   ·rw[u] at d
    rw[if_pos Z] at d
    have H:=d
    refine bC run_move Z (bC run_move Z (bC run_move Z ?_))
    obtain⟨i,K,H⟩:=bnd H
    obtain⟨C,D,E⟩:=bJ K
    refine Tr.x (fun _ _ a c=>aB Mx (a.ev Z) b.form (a.ev Z) C D) (Tr.x (fun _ _ a c=>aL (cs:=[sv i.Type_,iv i.W,iv i.H,iv i.Tall,sv i.Nozzle]) Fg xD (a.ev Z) (aI.take (pq yt b E c) 5) Z) (bC run_move Z ?_))
    obtain⟨O,L,H⟩:=bnd H
    refine kC (r:=(iv O)) (wg Z Z Z) Z Z hg2 (ak Z (ak Z aH)) (fun W hW=>hf2 hW.all hW.aY i p1 _ L) (dI dM Z Z (av aT Z Z ?_))
    obtain rfl:=oI H
    exact ae (aR (.r Z) .nil)
  ·show Tr _ _ (LF [(35,iv f),(48,bV t)]) (LE []) _
   refine Tr.k Z (Tr.k Z (ae (aa (aJ ?_))))
   obtain rfl:=oI H
   exact bR (m:=[iv f,bV t]) [] (bu Z (bu Z bG)) (fun W hW=>⟨Z,hW.low leB⟩)

theorem BP{w:Bs}(p0:mW)(p1:ByteArray)(r:Int)(H:qj p0 p1=some r)(hE:HF w w.W E0):Calls Tryz.prog 121 [.agg #[sv p0.Type_,iv p0.W,iv p0.H,iv p0.Tall,sv p0.Nozzle],sv p1].toArray w.W fun e W'=>e= .returned (iv r)∧HF w W' E0:=by
 unfold qj at H
 have leB:=Bs.Le.refl w
 refine aX (n:=9) Tryz.func121 Z Z Z hE (aj (dh 1 (cs:=[sv p0.Type_,iv p0.W,iv p0.H,iv p0.Tall,sv p0.Nozzle]) (wn Z) Z Z Z fun f=>(Tr.k Z (ae (aa (aj (aD (ag DX) Z (aC Z (fun _ _ a c=>ah jD (a.ev Z) (bN c (vs:=[sv p0.Type_,iv p0.W,iv p0.H,iv p0.Tall,sv p0.Nozzle]) (k:=1) Z 0) Z) (aA Z ?_)))))))))
 obtain⟨b,d,H⟩:=bnd H
 refine aS (r:=(iv b)) (wn Z) Z Tryz.call114 (ak Z (ak Z aH)) (fun W hW=>jO p0.Type_ p1 b d (HF.start _)) (Tr.k Z (ae (aa (aJ ?_))))
 obtain rfl:=oI H
 exact bD leB

theorem Ey(N:Nat){w:Bs}(p0:(List mW))(d:Option Addr)(f:Nat)(g:Sl w.R w.W oL d f p0)(p1:ByteArray)(r:(mW×Bool))(H:uD N p0 p1=some r)(hE:HF w w.W E0):Calls Tryz.prog 73 [sL d p0 f,sv p1].toArray w.W fun e W'=>e= .returned (.tuple #[.agg #[sv r.1.Type_,iv r.1.W,iv r.1.H,iv r.1.Tall,sv r.1.Nozzle],bV r.2])∧HF w W' E0:=by
 unfold uD at H
 have leB:=Bs.Le.refl w
 refine aX (n:=21) Tryz.func73 Z Z Z hE (aj (Tr.alloc 1 (wn Z) Z Nn fun q=>(Tr.k Z (ae (aa (aj (aA Z (aA Z ?_))))))))
 obtain⟨h,o,H⟩:=bnd H
 refine aS (r:=(.tuple #[iv h.1,bV h.2])) (wn Z) Z Tryz.call120 (ak Z (ak Z (ak Z aH))) (fun W hW=>qQ N p0 d f (g.ext hW.aY) p1 (fun z0 z1=>qj z0 z1) 121 [] Tryz.call121 (fun w' he z0 z1 y hy=>BP z0 z1 y hy (HF.start _)) h o (HF.start _)) (aA Z (aC Z (fun _ _ a c=>bX (a.ev Z) Z) (aC Z (fun _ _ a c=>bX (a.ev Z) Z) (Tr.k Z (Tr.k Z (ae (aa (az (aj (aA Z (aD bT Z (ae (aa (aN Z H (fun H=>?_) (fun H=>?_)))))))))))))))
 ·refine aj (gV (vs:=[]) (cs:=[sv ⟨#[]⟩,iv 0,iv 0,iv 0,sv ⟨#[]⟩]) (wn Z) Z dR (by kernel_rfl) (bv 1 (cs:=[sv ⟨#[]⟩,iv 0,iv 0,iv 0,sv ⟨#[]⟩]) [sv ⟨#[]⟩,iv 0,iv 0,iv 0,sv ⟨#[]⟩] (wn Z) Z Z Z Z xD Z Z Z (Tr.k Z (ae (aa (aJ (ai ?_)))))))
  obtain rfl:=oI H
  exact bR (m:=[.agg #[sv ⟨#[]⟩,iv 0,iv 0,iv 0,sv ⟨#[]⟩],bV false]) [1] (fJ Z Z Fg xD (bu Z bG)) (fun W hW=>⟨Z,hW.low leB⟩)
 ·refine aM (aa (aj (aA Z (aA Z ?_))))
  obtain⟨b,p,H⟩:=bnd H
  obtain⟨i,j,l⟩:=bJ p
  refine aC Z (fun _ _ a c=>aB Mx (a.ev Z) g.form (a.ev Z) i j) (aC Z (fun _ _ a c=>aL (cs:=[sv b.Type_,iv b.W,iv b.H,iv b.Tall,sv b.Nozzle]) Fg xD (a.ev Z) (aI.take (pq yt g l c) 5) Z) (bv 1 (cs:=[sv b.Type_,iv b.W,iv b.H,iv b.Tall,sv b.Nozzle]) [sv b.Type_,iv b.W,iv b.H,iv b.Tall,sv b.Nozzle] (wn Z) Z Z Z Z xD Z Z Z (Tr.k Z (ae (aa (aJ ?_))))))
  obtain rfl:=oI H
  exact bR (m:=[.agg #[sv b.Type_,iv b.W,iv b.H,iv b.Tall,sv b.Nozzle],bV true]) [1] (fJ Z Z Fg xD (bu Z bG)) (fun W hW=>⟨Z,hW.low leB⟩)

theorem xq{w:Bs}(p0:Int)(p1:Int)(p2:Int)(r:Bool)(H:mJ p0 p1 p2=some r)(hE:HF w w.W E0):Calls Tryz.prog 102 [iv p0,iv p1,iv p2].toArray w.W fun e W'=>e= .returned (bV r)∧HF w W' E0:=by
 unfold mJ at H
 have leB:=Bs.Le.refl w
 refine aX (n:=15) Tryz.func102 Z Z Z hE (aj (Tr.k Z (ae (aa (aj (aA Z (aA Z (av kG Z Z (aA Z (bM 4 [(14,bV ((decide (p1≤p0))&&(decide (p0≤p2))))] [] ?_ ?_))))))))))
 ·cases a:(decide (p1≤p0))
  ·exact aG Z (aG Z (aG Z (av aU Z Z (ae (aR (.r Z) .nil)))))
  ·exact bC run_move Z (bC run_move Z (dI iT Z Z (av aT Z Z (ae (aR (.r Z) .nil)))))
 ·show Tr _ _ (LF [(14,bV ((decide (p1≤p0))&&(decide (p0≤p2))))]) (LE []) _
  refine Tr.k Z (ae (aa (aJ ?_)))
  obtain rfl:=oI H
  exact bD leB

theorem oG{w:Bs}(p0:Int)(r:Bool)(H:kZ p0=some r)(hE:HF w w.W E0):Calls Tryz.prog 122 [iv p0].toArray w.W fun e W'=>e= .returned (bV r)∧HF w W' E0:=by
 unfold kZ at H
 have leB:=Bs.Le.refl w
 refine aX (n:=5) Tryz.func122 Z Z Z hE (aj (Tr.k Z (ae (aa (aj (aA Z ?_))))))
 obtain⟨a,b,H⟩:=bnd H
 refine aS (r:=(bV a)) (wn Z) Z Tryz.call102 (ak Z (ak Z (ak Z aH))) (fun W hW=>xq p0 (-1000000) 1000000 a b (HF.start _)) (Tr.k Z (ae (aa (aJ ?_))))
 obtain rfl:=oI H
 exact bD leB

theorem nY{w:Bs}(p0:aK)(r:Bool)(H:jb p0=some r)(hE:HF w w.W E0):Calls Tryz.prog 74 [.agg #[iv p0.X,iv p0.Y]].toArray w.W fun e W'=>e= .returned (bV r)∧HF w W' E0:=by
 unfold jb at H
 have leB:=Bs.Le.refl w
 refine aX (n:=11) Tryz.func74 Z Z Z hE (aj (dh 1 (cs:=[iv p0.X,iv p0.Y]) (wn Z) Z Z Z fun g=>(Tr.k Z (ae (aa (aj (aD (ag fU) Z (aC Z (fun _ _ a c=>ah bF (a.ev Z) (bN c (vs:=[iv p0.X,iv p0.Y]) (k:=1) Z 0) Z) ?_))))))))
 obtain⟨d,j,H⟩:=bnd H
 refine aS (r:=(bV d)) (wn Z) Z Tryz.call122 (ak Z aH) (fun W hW=>oG p0.X d j (HF.start _)) (aA Z ?_)
 obtain⟨h,b,H⟩:=bnd H
 refine bM 4 [(10,bV h)] [(1,bx g #[iv p0.X,iv p0.Y] 54)] ?_ ?_
 ·cases f:d
  ·rw[f] at b
   rw[if_neg (by decide)] at b
   have H:=b
   obtain rfl:=oI H
   exact aG Z (aG Z (aG Z (av aU Z Z (ae (aR (.r Z) (.r Z))))))
  ·rw[f] at b
   rw[if_pos Z] at b
   have H:=b
   refine bC (ag fT) Z (Tr.x (fun _ _ a c=>ah bF (a.ev Z) (bN c (vs:=[iv p0.X,iv p0.Y]) (k:=1) Z 1) Z) ?_)
   obtain⟨i,l,H⟩:=bnd H
   refine aS (r:=(bV i)) (wg Z Z Z) Z Tryz.call122 (ak Z aH) (fun W hW=>oG p0.Y i l (HF.start _)) (av aT Z Z ?_)
   obtain rfl:=oI H
   exact ae (aR (.r Z) (.r Z))
 ·show Tr _ _ (LF [(10,bV h)]) (LE [(1,bx g #[iv p0.X,iv p0.Y] 54)]) _
  refine Tr.k Z (ae (aa (aJ ?_)))
  obtain rfl:=oI H
  exact bD leB

theorem zy(N:Nat){w:Bs}(hT:Nj Tryz.prog w)(p0:(List mW))(i:Option Addr)(j:Nat)(y:Sl w.R w.W oL i j p0)(p1:(List uk))(f:Option Addr)(g:Nat)(o:Sl w.R w.W pK f g p1)(r:Int)(H:nM N p0 p1=some r)(hE:HF w w.W E0):Calls Tryz.prog 31 [sL i p0 j,sL f p1 g].toArray w.W fun e W'=>e= .returned (iv r)∧HF w W' E0:=by
 unfold nM at H
 have leB:=Bs.Le.refl w
 refine aX (n:=66) Tryz.func31 Z Z Z hE (aj (Tr.k Z (ae (aa (az (aj (aA Z ?_)))))))
 obtain⟨E,O,H⟩:=bnd H
 refine aS (r:=(iv E)) (wn Z) Z Tryz.call72 (ak Z aH) (fun W hW=>zz N p0 i j (y.ext hW.aY) E O (HF.start _)) (Tr.k Z (ae (aa (aj (aA Z (av dW Z Z (ae (aa (aN Z H (fun H=>?_) (fun H=>?_))))))))))
 ·refine aj (aA Z (Tr.k Z (ae (aa (aJ (ai ?_))))))
  obtain rfl:=oI H
  exact bD leB
 ·refine aM (aa (az (aj (aA Z (aD (bA Vl) Z (av dE Z Z (ae (aa (aN Z H (fun H=>?_) (fun H=>?_))))))))))
  ·refine aj (Tr.k Z (ae (aa (aJ (ai ?_)))))
   obtain rfl:=oI H
   exact bD leB
  ·refine aM (aa (az (aj (aA Z (aD (bA Vl) Z (aA Z (ae (aa (Tr.block (cO (σ:=(List uk)×Nat) (fun m w s=>m=s.1.length+1∧s.1=List.drop s.2 p1∧s.2≤p1.length∧iP N p0 p1 s.1 s.2=some r) (fun s=>[(0,sL i p0 j),(1,sL f p1 g),(18,sL f p1 g),(19,iv (p1.length:Int)),(20,iv (s.2:Int))]) (fun s=>[]) (p1.length+1) (p1,0) ⟨Z,Z,Nat.zero_le _,H⟩ (.r Z) .nil (fun _ _ h=>absurd h.1 (by simp)) ?_))))))))))
   intro w A m s hs
   obtain⟨l,u⟩:=s
   obtain⟨C,p,a1,H⟩:=hs
   replace p:l=List.drop u p1:=p
   replace H:iP N p0 p1 l u=some r:=H
   replace C:m+1=l.length+1:=C
   replace hT:=hT.ext A.ext
   replace y:=y.iR A
   replace o:=o.iR A
   replace leB:=leB.trans A
   obtain rfl:m=l.length:=by omega
   clear C
   dsimp only
   cases l with
   |nil=>
    rw[iP.eq_1] at H
    refine aj (av bi Z Z (ae (aa (az (dn Z (cz p) (bZ (aF (aF (bg (aa (aj (Tr.k Z (ae (aa (aJ ?_)))))))))))))))
    obtain rfl:=oI H
    exact bD leB
   | cons b l=>
    rw[iP.eq_2] at H
    refine aj (av bi Z Z (ae (aa (az (dm Z (dz p) (aM (aa (az (Tr.block (aj (aA Z (aC Z (fun _ _ a c=>aB VC (a.ev Z) o.form (a.ev Z) (Int.natCast_nonneg _) (bq p)) (aC Z (fun _ _ a c=>aL (cs:=[sv b.Part,sv b.Type_,iv b.At.X,iv b.At.Y,iv b.Quarters,bV b.Below]) WS QT (a.ev Z) (aI.take (pq E8 o (dA p) c) 6) Z) (Tr.alloc 3 (wn Z) Z VW fun B=>(Tr.k Z (bv 3 (cs:=[sv b.Part,sv b.Type_,iv b.At.X,iv b.At.Y,iv b.Quarters,bV b.Below]) [sv b.Part,sv b.Type_,iv b.At.X,iv b.At.Y,iv b.Quarters,bV b.Below] (wn Z) Z Z Z Z QT Z Z Z (ae (aa (aj (aA Z (aD (ag Sm) Z (aC Z (fun _ _ a c=>ah jD (a.ev Z) (bN c (vs:=[sv b.Part,sv b.Type_,iv b.At.X,iv b.At.Y,iv b.Quarters,bV b.Below]) (k:=3) Z 1) Z) ?_))))))))))))))))))))))
    obtain⟨d,P,H⟩:=bnd H
    refine aS (r:=(.tuple #[.agg #[sv d.1.Type_,iv d.1.W,iv d.1.H,iv d.1.Tall,sv d.1.Nozzle],bV d.2])) (wn Z) Z Tryz.call73 (ak Z (ak Z aH)) (fun W hW=>Ey N p0 i j (y.ext hW.aY) b.Type_ d P (HF.start _)) (aA Z (aC Z (fun _ _ a c=>bX (a.ev Z) Z) (aC Z (fun _ _ a c=>bX (a.ev Z) Z) (Tr.alloc 4 (wn Z) Z Nn fun F=>(bv 4 (cs:=[sv d.1.Type_,iv d.1.W,iv d.1.H,iv d.1.Tall,sv d.1.Nozzle]) [sv d.1.Type_,iv d.1.W,iv d.1.H,iv d.1.Tall,sv d.1.Nozzle] (wn Z) Z Z Z Z xD Z Z Z (Tr.k Z (ae (aa (Tr.block (aj (aD (ag H5) Z (aC Z (fun _ _ a c=>ah jD (a.ev Z) (bN c (vs:=[sv b.Part,sv b.Type_,iv b.At.X,iv b.At.Y,iv b.Quarters,bV b.Below]) (k:=3) Z 0) Z) ?_))))))))))))
    obtain⟨G,Q,H⟩:=bnd H
    refine aS (r:=(bV G)) (wn Z) Z Tryz.call58 (ak Z aH) (fun W hW=>pE N (hT.ext hW.aY) b.Part G Q (HF.start _)) (aD bT Z (Tr.k Z (ae (aa (aN Z H (fun H=>?_) (fun H=>?_))))))
    ·refine aj (Tr.k Z (ae (aa (aJ (au (au (ai (ai (au (ai ?_))))))))))
     obtain rfl:=oI H
     exact bD leB
    ·refine aj (aA Z (aD bT Z (Tr.k Z (ae (aa (aN Z H (fun H=>?_) (fun H=>?_)))))))
     ·refine aj (Tr.k Z (ae (aa (aJ (au (au (ai (ai (au (ai ?_))))))))))
      obtain rfl:=oI H
      exact bD leB
     ·refine aj (aD (ag Sk) Z (aC Z (fun _ _ a c=>aL (cs:=[iv b.At.X,iv b.At.Y]) iC eU (a.ev Z) (aI.take (bN c (vs:=[sv b.Part,sv b.Type_,iv b.At.X,iv b.At.Y,iv b.Quarters,bV b.Below]) (k:=3) Z 2) 2) Z) ?_))
      obtain⟨D,S,H⟩:=bnd H
      refine aS (r:=(bV D)) (wn Z) Z Tryz.call74 (ak Z aH) (fun W hW=>nY b.At D S (HF.start _)) (aD bT Z (aA Z ?_))
      obtain⟨I,q,H⟩:=bnd H
      refine bM 5 [(0,sL i p0 j),(1,sL f p1 g),(6,iv (u:Int)),(7,pV B),(18,sL f p1 g),(19,iv (p1.length:Int)),(20,iv (u:Int)),(50,bV I)] [(3,bx B #[sv b.Part,sv b.Type_,iv b.At.X,iv b.At.Y,iv b.Quarters,bV b.Below] 161),(4,bx F #[sv d.1.Type_,iv d.1.W,iv d.1.H,iv d.1.Tall,sv d.1.Nozzle] 163)] ?_ ?_
      ·cases v:(!D)
       ·rw[v] at q
        rw[if_neg (by decide)] at q
        have H:=q
        refine bC (ag Sj) Z (Tr.x (fun _ _ a c=>ah bF (a.ev Z) (bN c (vs:=[sv b.Part,sv b.Type_,iv b.At.X,iv b.At.Y,iv b.Quarters,bV b.Below]) (k:=3) Z 4) Z) ?_)
        obtain⟨J,T,H⟩:=bnd H
        refine aS (r:=(bV J)) (wg Z Z Z) Z Tryz.call75 (ak Z (ak Z (ak Z aH))) (fun W hW=>qX b.Quarters 0 3 J T (HF.start _)) (bC bT Z (av aU Z Z ?_))
        obtain rfl:=oI H
        exact ae (aR (.r Z) (.r Z))
       ·rw[v] at q
        rw[if_pos Z] at q
        have H:=q
        obtain rfl:=oI H
        exact aG Z (aG Z (aG Z (aG Z (av aT Z Z (ae (aR (.r Z) (.r Z)))))))
      ·show Tr _ _ (LF [(0,sL i p0 j),(1,sL f p1 g),(6,iv (u:Int)),(7,pV B),(18,sL f p1 g),(19,iv (p1.length:Int)),(20,iv (u:Int)),(50,bV I)]) (LE [(3,bx B #[sv b.Part,sv b.Type_,iv b.At.X,iv b.At.Y,iv b.Quarters,bV b.Below] 161),(4,bx F #[sv d.1.Type_,iv d.1.W,iv d.1.H,iv d.1.Tall,sv d.1.Nozzle] 163)]) _
       refine Tr.k Z (ae (aa (aN Z H (fun H=>?_) (fun H=>?_))))
       ·refine aj (Tr.k Z (ae (aa (aJ (au (au (ai (ai (au (ai ?_))))))))))
        obtain rfl:=oI H
        exact bD leB
       ·refine az (fZ (by kernel_rfl) (by kernel_rfl) (dY Z (dL dE Z Z (dY Z ?_))))
        obtain⟨V,t,H⟩:=bnd H
        refine mi 10 [(0,sL i p0 j),(1,sL f p1 g),(18,sL f p1 g),(19,iv (p1.length:Int)),(20,iv (u:Int)),(64,bV V)] ?_ ?_
        ·cases v:(decide (0<(u:Int)))
         ·rw[v] at t
          rw[if_neg (by decide)] at t
          have H:=t
          obtain rfl:=oI H
          exact bB Z (bB Z (bB Z (bB Z (bB Z (bB Z (bB Z (bB Z (bB Z (dL aU Z Z (bK (.r Z)))))))))))
         ·rw[v] at t
          rw[if_pos Z] at t
          have H:=t
          refine dJ (ag H5) Z (Tq.x (fun _ _ a c=>ah jD (a.ev Z) (bN c (vs:=[sv b.Part,sv b.Type_,iv b.At.X,iv b.At.Y,iv b.Quarters,bV b.Below]) (k:=3) Z 0) Z) (dJ run_move Z (dJ run_move Z (lg gH Z Z ?_))))
          obtain⟨a0,U,H⟩:=bnd H
          obtain⟨K,L,M⟩:=bJ U
          refine Tq.x (fun _ _ a c=>aB VC (a.ev Z) o.form (a.ev Z) K L) (dJ (ag H5) Z (Tq.x (fun _ _ a c=>ah jD (a.ev Z) (aI.drop (pq E8 o M c) 0) Z) (lg pI Z Z (dL aT Z Z ?_))))
          obtain rfl:=oI H
          exact bK (.r Z)
        ·refine jB Z Z (gz (aa (aN Z H (fun H=>?_) (fun H=>?_))))
         ·refine aj (Tr.k Z (ae (aa (aJ (au (au (ai (ai (au (ai ?_))))))))))
          obtain rfl:=oI H
          exact bD leB
         ·exact aM (aQ (aQ (aa (aV (av bE Z Z (aA Z (ae (aP A (l,(u+1)) ⟨Z,df p,bq p,H⟩ (.cons Z (.cons Z (.cons Z (.cons Z (.cons (congrArg (fun z=>some (Value.int .i64 z)) (cZ p o.form)) .nil))))) .nil))))))))

theorem qZ{w:Bs}(p0:Int)(p1:Int)(p2:Int)(r:Bool)(H:lL p0 p1 p2=some r)(hE:HF w w.W E0):Calls Tryz.prog 16 [iv p0,iv p1,iv p2].toArray w.W fun e W'=>e= .returned (bV r)∧HF w W' E0:=by
 unfold lL at H
 have leB:=Bs.Le.refl w
 refine aX (n:=15) Tryz.func16 Z Z Z hE (aj (Tr.k Z (ae (aa (aj (aA Z (aA Z (av kG Z Z (aA Z (bM 4 [(14,bV ((decide (p1≤p0))&&(decide (p0≤p2))))] [] ?_ ?_))))))))))
 ·cases a:(decide (p1≤p0))
  ·exact aG Z (aG Z (aG Z (av aU Z Z (ae (aR (.r Z) .nil)))))
  ·exact bC run_move Z (bC run_move Z (dI iT Z Z (av aT Z Z (ae (aR (.r Z) .nil)))))
 ·show Tr _ _ (LF [(14,bV ((decide (p1≤p0))&&(decide (p0≤p2))))]) (LE []) _
  refine Tr.k Z (ae (aa (aJ ?_)))
  obtain rfl:=oI H
  exact bD leB

theorem Bf(N:Nat){w:Bs}(p0:lU)(y:Option Addr)(A:Nat)(a4:Sl w.R w.W iB y A p0.Types)(B:Option Addr)(C:Nat)(g9:Sl w.R w.W mH B C p0.List_.Parts)(D:Option Addr)(E:Nat)(h0:Sl w.R w.W rH D E p0.List_.Nets)(F:Option Addr)(G:Nat)(h1:Sl w.R w.W iZ F G p0.Materials)(I:Option Addr)(J:Nat)(h2:Sl w.R w.W ou I J p0.Stack)(K:Option Addr)(L:Nat)(h3:Sl w.R w.W sF K L p0.Plots)(M:Option Addr)(O:Nat)(h4:Sl w.R w.W cB M O p0.Outline.Tools)(P:Option Addr)(Q:Nat)(h5:Sl w.R w.W bH P Q p0.Outline.Steps)(S:Option Addr)(T:Nat)(h6:Sl w.R w.W eZ S T p0.Bores)(U:Option Addr)(V:Nat)(h7:Sl w.R w.W oL U V p0.Bodies)(l:Option Addr)(o:Nat)(g6:Sl w.R w.W pK l o p0.Places)(b:Option Addr)(d:Nat)(a0:Sl w.R w.W sG b d p0.Feet)(p:Option Addr)(q:Nat)(g7:Sl w.R w.W jX p q p0.Rules.Classes)(t:Option Addr)(u:Nat)(g8:Sl w.R w.W kV t u p0.Rules.Areas)(r:Int)(H:o5 N p0=some r)(hE:HF w w.W E0):Calls Tryz.prog 32 [.agg #[sL y p0.Types A,sL B p0.List_.Parts C,sL D p0.List_.Nets E,sL F p0.Materials G,sL I p0.Stack J,sL K p0.Plots L,iv p0.Outline.Unit,sL M p0.Outline.Tools O,sL P p0.Outline.Steps Q,sL S p0.Bores T,sL U p0.Bodies V,sL l p0.Places o,sL b p0.Feet d,iv p0.Rules.Clearance,iv p0.Rules.Width,iv p0.Rules.Ring,iv p0.Rules.Edge,iv p0.Rules.HoleGap,sL p p0.Rules.Classes q,sL t p0.Rules.Areas u]].toArray w.W fun e W'=>e= .returned (iv r)∧HF w W' E0:=by
 unfold o5 at H
 have leB:=Bs.Le.refl w
 refine aX (n:=93) Tryz.func32 Z Z Z hE (aj (dh 1 (cs:=[sL y p0.Types A,sL B p0.List_.Parts C,sL D p0.List_.Nets E,sL F p0.Materials G,sL I p0.Stack J,sL K p0.Plots L,iv p0.Outline.Unit,sL M p0.Outline.Tools O,sL P p0.Outline.Steps Q,sL S p0.Bores T,sL U p0.Bodies V,sL l p0.Places o,sL b p0.Feet d,iv p0.Rules.Clearance,iv p0.Rules.Width,iv p0.Rules.Ring,iv p0.Rules.Edge,iv p0.Rules.HoleGap,sL p p0.Rules.Classes q,sL t p0.Rules.Areas u]) (wn Z) Z Z Z fun a1=>(Tr.k Z (ae (aa (az (aj (aD (ag KJ) Z (aC Z (fun _ _ a c=>ah Tg (a.ev Z) (bN c (vs:=[sL y p0.Types A,sL B p0.List_.Parts C,sL D p0.List_.Nets E,sL F p0.Materials G,sL I p0.Stack J,sL K p0.Plots L,iv p0.Outline.Unit,sL M p0.Outline.Tools O,sL P p0.Outline.Steps Q,sL S p0.Bores T,sL U p0.Bodies V,sL l p0.Places o,sL b p0.Feet d,iv p0.Rules.Clearance,iv p0.Rules.Width,iv p0.Rules.Ring,iv p0.Rules.Edge,iv p0.Rules.HoleGap,sL p p0.Rules.Classes q,sL t p0.Rules.Areas u]) (k:=1) Z 12) Z) (aD (bA Vk) Z (av dE Z Z (ae (aa (aN Z H (fun H=>?_) (fun H=>?_)))))))))))))))
 ·refine aj (Tr.k Z (ae (aa (aJ (ai ?_)))))
  obtain rfl:=oI H
  exact bD leB
 ·refine aM (aa (az (aj (aD (ag KJ) Z (aC Z (fun _ _ a c=>ah Tg (a.ev Z) (bN c (vs:=[sL y p0.Types A,sL B p0.List_.Parts C,sL D p0.List_.Nets E,sL F p0.Materials G,sL I p0.Stack J,sL K p0.Plots L,iv p0.Outline.Unit,sL M p0.Outline.Tools O,sL P p0.Outline.Steps Q,sL S p0.Bores T,sL U p0.Bodies V,sL l p0.Places o,sL b p0.Feet d,iv p0.Rules.Clearance,iv p0.Rules.Width,iv p0.Rules.Ring,iv p0.Rules.Edge,iv p0.Rules.HoleGap,sL p p0.Rules.Classes q,sL t p0.Rules.Areas u]) (k:=1) Z 12) Z) (aD (bA Vk) Z (aA Z (ae (aa (Tr.block (cO (σ:=(List zD)×Nat) (fun m w s=>m=s.1.length+1∧s.1=List.drop s.2 p0.Feet∧s.2≤p0.Feet.length∧gP N p0 s.1 s.2=some r) (fun s=>[(1,pV a1),(13,sL b p0.Feet d),(14,iv (p0.Feet.length:Int)),(15,iv (s.2:Int))]) (fun s=>[(1,bx a1 #[sL y p0.Types A,sL B p0.List_.Parts C,sL D p0.List_.Nets E,sL F p0.Materials G,sL I p0.Stack J,sL K p0.Plots L,iv p0.Outline.Unit,sL M p0.Outline.Tools O,sL P p0.Outline.Steps Q,sL S p0.Bores T,sL U p0.Bodies V,sL l p0.Places o,sL b p0.Feet d,iv p0.Rules.Clearance,iv p0.Rules.Width,iv p0.Rules.Ring,iv p0.Rules.Edge,iv p0.Rules.HoleGap,sL p p0.Rules.Classes q,sL t p0.Rules.Areas u] 43)]) (p0.Feet.length+1) (p0.Feet,0) ⟨Z,Z,Nat.zero_le _,H⟩ (.r Z) (.r Z) (fun _ _ h=>absurd h.1 (by simp)) ?_)))))))))))
  intro w b5 m s hs
  obtain⟨a2,a'⟩:=s
  obtain⟨c3,a5,h8,H⟩:=hs
  replace a5:a2=List.drop a' p0.Feet:=a5
  replace H:gP N p0 a2 a'=some r:=H
  replace c3:m+1=a2.length+1:=c3
  replace a4:=a4.iR b5
  replace a0:=a0.iR b5
  replace leB:=leB.trans b5
  obtain rfl:m=a2.length:=by omega
  clear c3
  dsimp only
  cases a2 with
  |nil=>
   rw[gP.eq_1] at H
   refine aj (av bi Z Z (ae (aa (az (dn Z (cz a5) (bZ (aF (aF (bg (aa (aj (Tr.k Z (ae (aa (aJ ?_)))))))))))))))
   obtain rfl:=oI H
   exact bD leB
  | cons i a2=>
   rw[gP.eq_2] at H
   refine aj (av bi Z Z (ae (aa (az (dm Z (dz a5) (aM (aa (az (Tr.block (aj (aA Z ?_)))))))))))
   obtain⟨f9,d0,c7,d1⟩:=(a0).el (dA a5)
   obtain⟨f,g⟩:=f9
   have v:=c7
   replace v:Sl w.R w.W yl f g i.Spots:=v
   refine aC Z (fun _ _ a c=>aB VB (a.ev Z) a0.form (a.ev Z) (Int.natCast_nonneg _) (bq a5)) (aC Z (fun _ _ a c=>aL (cs:=[sv i.Type_,sL f i.Spots g]) WR QS (a.ev Z) (aI.take (tY d0 d1 c) 2) Z) (Tr.alloc 5 (wn Z) Z VV fun a6=>(Tr.k Z (bv 5 (cs:=[sv i.Type_,sL f i.Spots g]) [sv i.Type_,sL f i.Spots g] (wn Z) Z Z Z Z QS Z Z Z (ae (aa (aj (aD (ag KL) Z (aC Z (fun _ _ a c=>ah J4 (a.ev Z) (bN c (vs:=[sL y p0.Types A,sL B p0.List_.Parts C,sL D p0.List_.Nets E,sL F p0.Materials G,sL I p0.Stack J,sL K p0.Plots L,iv p0.Outline.Unit,sL M p0.Outline.Tools O,sL P p0.Outline.Steps Q,sL S p0.Bores T,sL U p0.Bodies V,sL l p0.Places o,sL b p0.Feet d,iv p0.Rules.Clearance,iv p0.Rules.Width,iv p0.Rules.Ring,iv p0.Rules.Edge,iv p0.Rules.HoleGap,sL p p0.Rules.Classes q,sL t p0.Rules.Areas u]) (k:=1) Z 0) Z) (aD (ag HZ) Z (aC Z (fun _ _ a c=>ah jD (a.ev Z) (bN c (vs:=[sv i.Type_,sL f i.Spots g]) (k:=5) Z 0) Z) ?_)))))))))))
   obtain⟨a7,f1,H⟩:=bnd H
   refine aS (r:=(iv a7)) (wn Z) Z Tryz.call76 (ak Z (ak Z aH)) (fun W hW=>su N p0.Types y A (a4.ext hW.aY) i.Type_ a7 f1 (HF.start _)) (Tr.k Z (ae (aa (az (aj (aA Z (av bi Z Z (ae (aa (aN Z H (fun H=>?_) (fun H=>?_)))))))))))
   ·refine aj (Tr.k Z (ae (aa (aJ (ai (au (ai (ai (au (ai ?_))))))))))
    obtain rfl:=oI H
    exact bD leB
   ·refine aM (aa (az (aj (aD (ag HY) Z (aC Z (fun _ _ a c=>ah Og (a.ev Z) (bN c (vs:=[sv i.Type_,sL f i.Spots g]) (k:=5) Z 1) Z) (aD (bA QG) Z (av dE Z Z (ae (aa (aN Z H (fun H=>?_) (fun H=>?_)))))))))))
    ·refine aj (Tr.k Z (ae (aa (aJ (ai (au (ai (ai (au (ai ?_))))))))))
     obtain rfl:=oI H
     exact bD leB
    ·refine aM (aa (az (aj (aD (ag HY) Z (aC Z (fun _ _ a c=>ah Og (a.ev Z) (bN c (vs:=[sv i.Type_,sL f i.Spots g]) (k:=5) Z 1) Z) (aD (bA QG) Z (aA Z (ae (aa (Tr.block (cO (σ:=(List El)×Nat) (fun m w s=>m=s.1.length+1∧s.1=List.drop s.2 i.Spots∧s.2≤i.Spots.length∧iQ N p0 (gP N p0 a2 (a'+1)) i a' a7 s.1 s.2=some r) (fun s=>[(1,pV a1),(3,iv (a':Int)),(4,pV a6),(5,iv a7),(13,sL b p0.Feet d),(14,iv (p0.Feet.length:Int)),(15,iv (a':Int)),(32,sL f i.Spots g),(33,iv (i.Spots.length:Int)),(34,iv (s.2:Int))]) (fun s=>[(1,bx a1 #[sL y p0.Types A,sL B p0.List_.Parts C,sL D p0.List_.Nets E,sL F p0.Materials G,sL I p0.Stack J,sL K p0.Plots L,iv p0.Outline.Unit,sL M p0.Outline.Tools O,sL P p0.Outline.Steps Q,sL S p0.Bores T,sL U p0.Bodies V,sL l p0.Places o,sL b p0.Feet d,iv p0.Rules.Clearance,iv p0.Rules.Width,iv p0.Rules.Ring,iv p0.Rules.Edge,iv p0.Rules.HoleGap,sL p p0.Rules.Classes q,sL t p0.Rules.Areas u] 43),(5,bx a6 #[sv i.Type_,sL f i.Spots g] 169)]) (i.Spots.length+1) (i.Spots,0) ⟨Z,Z,Nat.zero_le _,H⟩ (.r Z) (.r Z) (fun _ _ h=>absurd h.1 (by simp)) ?_)))))))))))
     intro w b6 m s hs
     obtain⟨a3,b3⟩:=s
     obtain⟨c4,a8,h9,H⟩:=hs
     replace a8:a3=List.drop b3 i.Spots:=a8
     replace H:iQ N p0 (gP N p0 a2 (a'+1)) i a' a7 a3 b3=some r:=H
     replace c4:m+1=a3.length+1:=c4
     replace a4:=a4.iR b6
     replace a0:=a0.iR b6
     replace v:=v.iR b6
     replace leB:=leB.trans b6
     replace b5:=b5.trans b6
     obtain rfl:m=a3.length:=by omega
     clear c4
     dsimp only
     cases a3 with
     | nil=>
      rw[iQ.eq_1] at H
      refine aj (av bi Z Z (ae (aa (az (dn Z (cz a8) (bZ (aF (aF (bg (aa (az (fZ (by kernel_rfl) (by kernel_rfl) (dY Z (dL dE Z Z (dY Z ?_)))))))))))))))
      obtain⟨g0,b0,H⟩:=bnd H
      refine mi 11 [(1,pV a1),(13,sL b p0.Feet d),(14,iv (p0.Feet.length:Int)),(15,iv (a':Int)),(91,bV g0)] ?_ ?_
      ·cases c6:(decide (0<(a':Int)))
       ·rw[c6] at b0
        rw[if_neg (by decide)] at b0
        have H:=b0
        obtain rfl:=oI H
        exact bB Z (bB Z (bB Z (bB Z (bB Z (bB Z (bB Z (bB Z (bB Z (bB Z (dL aU Z Z (bK (.r Z))))))))))))
       ·rw[c6] at b0
        rw[if_pos Z] at b0
        have H:=b0
        refine dJ (ag HZ) Z (Tq.x (fun _ _ a c=>ah jD (a.ev Z) (bN c (vs:=[sv i.Type_,sL f i.Spots g]) (k:=5) Z 0) Z) (dJ (ag KJ) Z (Tq.x (fun _ _ a c=>ah Tg (a.ev Z) (bN c (vs:=[sL y p0.Types A,sL B p0.List_.Parts C,sL D p0.List_.Nets E,sL F p0.Materials G,sL I p0.Stack J,sL K p0.Plots L,iv p0.Outline.Unit,sL M p0.Outline.Tools O,sL P p0.Outline.Steps Q,sL S p0.Bores T,sL U p0.Bodies V,sL l p0.Places o,sL b p0.Feet d,iv p0.Rules.Clearance,iv p0.Rules.Width,iv p0.Rules.Ring,iv p0.Rules.Edge,iv p0.Rules.HoleGap,sL p p0.Rules.Classes q,sL t p0.Rules.Areas u]) (k:=1) Z 12) Z) (dJ run_move Z (lg gH Z Z ?_)))))
        obtain⟨i0,f2,H⟩:=bnd H
        obtain⟨d2,d3,d4⟩:=bJ f2
        obtain⟨g1,d5,c8,d6⟩:=(a0).el d4
        obtain⟨g4,g5⟩:=g1
        have f8:=c8
        refine Tq.x (fun _ _ a c=>aB VB (a.ev Z) a0.form (a.ev Z) d2 d3) (dJ (ag HZ) Z (Tq.x (fun _ _ a c=>ah jD (a.ev Z) (aI.drop (tY d5 d6 c) 0) Z) (lg pI Z Z (dL aT Z Z ?_))))
        obtain rfl:=oI H
        exact bK (.r Z)
      ·refine gz (aa (aN Z H (fun H=>?_) (fun H=>?_)))
       ·refine aj (Tr.k Z (ae (aa (aJ (au (ai (ai (au (ai ?_)))))))))
        obtain rfl:=oI H
        exact bD leB
       ·exact aM (aQ (aa (aV (av bE Z Z (aA Z (ae (aP b5 (a2,(a'+1)) ⟨Z,df a5,bq a5,H⟩ (.cons Z (.cons Z (.cons Z (.cons (congrArg (fun z=>some (Value.int .i64 z)) (cZ a5 a0.form)) .nil)))) (.r Z))))))))
     | cons j a3=>
      rw[iQ.eq_2] at H
      refine aj (av bi Z Z (ae (aa (az (dm Z (dz a8) (aM (aa (az (Tr.block (aj (aA Z (aC Z (fun _ _ a c=>aB SB (a.ev Z) v.form (a.ev Z) (Int.natCast_nonneg _) (bq a8)) (aC Z (fun _ _ a c=>aL (cs:=[sv j.Pin,iv j.At.X,iv j.At.Y]) WQ QR (a.ev Z) (aI.take (pq Ie v (dA a8) c) 3) Z) (Tr.alloc 7 (wn Z) Z VU fun b9=>(Tr.k Z (bv 7 (cs:=[sv j.Pin,iv j.At.X,iv j.At.Y]) [sv j.Pin,iv j.At.X,iv j.At.Y] (wn Z) Z Z Z Z QR Z Z Z (ae (aa (Tr.block (az (fZ (by kernel_rfl) (by kernel_rfl) (dD (ag KL) Z (bL Z (fun _ _ a c=>ah J4 (a.ev Z) (bN c (vs:=[sL y p0.Types A,sL B p0.List_.Parts C,sL D p0.List_.Nets E,sL F p0.Materials G,sL I p0.Stack J,sL K p0.Plots L,iv p0.Outline.Unit,sL M p0.Outline.Tools O,sL P p0.Outline.Steps Q,sL S p0.Bores T,sL U p0.Bodies V,sL l p0.Places o,sL b p0.Feet d,iv p0.Rules.Clearance,iv p0.Rules.Width,iv p0.Rules.Ring,iv p0.Rules.Edge,iv p0.Rules.HoleGap,sL p p0.Rules.Classes q,sL t p0.Rules.Areas u]) (k:=1) Z 0) Z) ?_)))))))))))))))))))))))
      refine dY Z ?_
      obtain⟨c0,f3,H⟩:=bnd H
      obtain⟨d7,d8,d9⟩:=bJ f3
      obtain⟨g2,e0,c9,e3⟩:=(a4).el d9
      obtain⟨b7,b8⟩:=g2
      have a9:=c9
      replace a9:Sl w.R w.W jG b7 b8 c0.Pins:=a9
      refine bL Z (fun _ _ a c=>aB JS (a.ev Z) a4.form (a.ev Z) d7 d8) (bL Z (fun _ _ a c=>aL (cs:=[sv c0.Name,sL b7 c0.Pins b8]) IB EG (a.ev Z) (aI.take (tY e0 e3 c) 2) Z) (dD (ag HV) Z (bL Z (fun _ _ a c=>ah jD (a.ev Z) (bN c (vs:=[sv j.Pin,iv j.At.X,iv j.At.Y]) (k:=7) Z 0) Z) ?_)))
      obtain⟨e4,f4,H⟩:=bnd H
      refine lH (r:=(iv e4)) (wn Z) Z Tryz.call77 (ak Z (ak Z aH)) (fun W hW=>wR N c0 b7 b8 (a9.ext hW.aY) j.Pin e4 f4 (HF.start _)) (dL bi Z Z (jB Z Z (gz (aa (aN Z H (fun H=>?_) (fun H=>?_))))))
      ·refine aj (Tr.k Z (ae (aa (aJ (au (au (ai (ai (au (ai (au (ai (ai (au (ai ?_)))))))))))))))
       obtain rfl:=oI H
       exact bD leB
      ·refine aj (aD (ag Mj) Z (aD (ag fU) Z (aC Z (fun _ _ a c=>ah bF (a.ev Z) (bN c (vs:=[sv j.Pin,iv j.At.X,iv j.At.Y]) (k:=7) Z 1) Z) ?_)))
       obtain⟨c5,f5,H⟩:=bnd H
       refine aS (r:=(bV c5)) (wn Z) Z Tryz.call16 (ak Z (ak Z (ak Z aH))) (fun W hW=>qZ j.At.X (-100000) 100000 c5 f5 (HF.start _)) (aD bT Z (aA Z ?_))
       obtain⟨e5,b1,H⟩:=bnd H
       refine bM 6 [(1,pV a1),(3,iv (a':Int)),(4,pV a6),(5,iv a7),(6,iv (b3:Int)),(7,pV b9),(13,sL b p0.Feet d),(14,iv (p0.Feet.length:Int)),(15,iv (a':Int)),(32,sL f i.Spots g),(33,iv (i.Spots.length:Int)),(34,iv (b3:Int)),(61,bV e5)] [(1,bx a1 #[sL y p0.Types A,sL B p0.List_.Parts C,sL D p0.List_.Nets E,sL F p0.Materials G,sL I p0.Stack J,sL K p0.Plots L,iv p0.Outline.Unit,sL M p0.Outline.Tools O,sL P p0.Outline.Steps Q,sL S p0.Bores T,sL U p0.Bodies V,sL l p0.Places o,sL b p0.Feet d,iv p0.Rules.Clearance,iv p0.Rules.Width,iv p0.Rules.Ring,iv p0.Rules.Edge,iv p0.Rules.HoleGap,sL p p0.Rules.Classes q,sL t p0.Rules.Areas u] 43),(5,bx a6 #[sv i.Type_,sL f i.Spots g] 169),(7,bx b9 #[sv j.Pin,iv j.At.X,iv j.At.Y] 172)] ?_ ?_
       ·cases b4:(!c5)
        ·rw[b4] at b1
         rw[if_neg (by decide)] at b1
         have H:=b1
         refine bC (ag Mj) Z (bC (ag fT) Z (Tr.x (fun _ _ a c=>ah bF (a.ev Z) (bN c (vs:=[sv j.Pin,iv j.At.X,iv j.At.Y]) (k:=7) Z 2) Z) ?_))
         obtain⟨e6,f6,H⟩:=bnd H
         refine aS (r:=(bV e6)) (wg Z Z Z) Z Tryz.call16 (ak Z (ak Z (ak Z aH))) (fun W hW=>qZ j.At.Y (-100000) 100000 e6 f6 (HF.start _)) (bC bT Z (av aU Z Z ?_))
         obtain rfl:=oI H
         exact ae (aR (.r Z) (.r Z))
        ·rw[b4] at b1
         rw[if_pos Z] at b1
         have H:=b1
         obtain rfl:=oI H
         exact aG Z (aG Z (aG Z (aG Z (aG Z (av aT Z Z (ae (aR (.r Z) (.r Z))))))))
       ·show Tr _ _ (LF [(1,pV a1),(3,iv (a':Int)),(4,pV a6),(5,iv a7),(6,iv (b3:Int)),(7,pV b9),(13,sL b p0.Feet d),(14,iv (p0.Feet.length:Int)),(15,iv (a':Int)),(32,sL f i.Spots g),(33,iv (i.Spots.length:Int)),(34,iv (b3:Int)),(61,bV e5)]) (LE [(1,bx a1 #[sL y p0.Types A,sL B p0.List_.Parts C,sL D p0.List_.Nets E,sL F p0.Materials G,sL I p0.Stack J,sL K p0.Plots L,iv p0.Outline.Unit,sL M p0.Outline.Tools O,sL P p0.Outline.Steps Q,sL S p0.Bores T,sL U p0.Bodies V,sL l p0.Places o,sL b p0.Feet d,iv p0.Rules.Clearance,iv p0.Rules.Width,iv p0.Rules.Ring,iv p0.Rules.Edge,iv p0.Rules.HoleGap,sL p p0.Rules.Classes q,sL t p0.Rules.Areas u] 43),(5,bx a6 #[sv i.Type_,sL f i.Spots g] 169),(7,bx b9 #[sv j.Pin,iv j.At.X,iv j.At.Y] 172)]) _
        refine Tr.k Z (ae (aa (aN Z H (fun H=>?_) (fun H=>?_))))
        ·refine aj (Tr.k Z (ae (aa (aJ (au (au (ai (ai (au (ai (au (ai (ai (au (ai ?_)))))))))))))))
         obtain rfl:=oI H
         exact bD leB
        ·refine az (fZ (by kernel_rfl) (by kernel_rfl) (dY Z (dL dE Z Z (dY Z ?_))))
         obtain⟨g3,b2,H⟩:=bnd H
         refine mi 11 [(1,pV a1),(3,iv (a':Int)),(4,pV a6),(5,iv a7),(13,sL b p0.Feet d),(14,iv (p0.Feet.length:Int)),(15,iv (a':Int)),(32,sL f i.Spots g),(33,iv (i.Spots.length:Int)),(34,iv (b3:Int)),(76,bV g3)] ?_ ?_
         ·cases b4:(decide (0<(b3:Int)))
          ·rw[b4] at b2
           rw[if_neg (by decide)] at b2
           have H:=b2
           obtain rfl:=oI H
           exact bB Z (bB Z (bB Z (bB Z (bB Z (bB Z (bB Z (bB Z (bB Z (bB Z (dL aU Z Z (bK (.r Z))))))))))))
          ·rw[b4] at b2
           rw[if_pos Z] at b2
           have H:=b2
           refine dJ (ag HV) Z (Tq.x (fun _ _ a c=>ah jD (a.ev Z) (bN c (vs:=[sv j.Pin,iv j.At.X,iv j.At.Y]) (k:=7) Z 0) Z) (dJ (ag HY) Z (Tq.x (fun _ _ a c=>ah Og (a.ev Z) (bN c (vs:=[sv i.Type_,sL f i.Spots g]) (k:=5) Z 1) Z) (dJ run_move Z (lg gH Z Z ?_)))))
           obtain⟨i1,f7,H⟩:=bnd H
           obtain⟨e7,e8,e9⟩:=bJ f7
           refine Tq.x (fun _ _ a c=>aB SB (a.ev Z) v.form (a.ev Z) e7 e8) (dJ (ag HV) Z (Tq.x (fun _ _ a c=>ah jD (a.ev Z) (aI.drop (pq Ie v e9 c) 0) Z) (lg pI Z Z (dL aT Z Z ?_))))
           obtain rfl:=oI H
           exact bK (.r Z)
         ·refine jB Z Z (gz (aa (aN Z H (fun H=>?_) (fun H=>?_))))
          ·refine aj (Tr.k Z (ae (aa (aJ (au (au (ai (ai (au (ai (au (ai (ai (au (ai ?_)))))))))))))))
           obtain rfl:=oI H
           exact bD leB
          ·exact aM (aQ (aQ (aa (aV (av bE Z Z (aA Z (ae (aP b6 (a3,(b3+1)) ⟨Z,df a8,bq a8,H⟩ (.cons Z (.cons Z (.cons Z (.cons Z (.cons Z (.cons Z (.cons Z (.cons Z (.cons Z (.cons (congrArg (fun z=>some (Value.int .i64 z)) (cZ a8 v.form)) .nil)))))))))) (.r Z)))))))))

theorem wU{w:Bs}(p0:(List Int))(g:Option Addr)(i:Nat)(f:Sl w.R w.W cK g i p0)(p1:Int→Option Bool)(fid1:Nat)(j:List Value)(hg1:∀args W,(callFunc fid1 args).run Tryz.prog W= .ok (.enter fid1 args) W)(hf1:∀(w':Bs),w.Ext w'→∀(z0:Int),∀y,p1 z0=some y→Calls Tryz.prog fid1 (([iv z0]:List Value)++j).toArray w'.W fun e W''=>e= .returned (bV y)∧HF w' W'' E0)(r:Int)(H:nO p0 p1=some r)(hE:HF w w.W E0):Calls Tryz.prog 127 [sL g p0 i,.func (.func fid1) #[] j.toArray].toArray w.W fun e W'=>e= .returned (iv r)∧HF w W' E0:=by
 unfold nO at H
 have leB:=Bs.Le.refl w
 refine aX (n:=19) Tryz.func127 Z Z Z hE (aj (Tr.k Z (ae (aa (az (aj (aA Z (aD (bA ni) Z (aA Z (ae (aa (Tr.block (cO (σ:=(List Int)×Nat) (fun m w s=>m=s.1.length+1∧s.1=List.drop s.2 p0∧s.2≤p0.length∧jq p1 s.1 s.2=some r) (fun s=>[(0,sL g p0 i),(1,.func (.func fid1) #[] j.toArray),(7,iv (p0.length:Int)),(8,iv (s.2:Int))]) (fun s=>[]) (p0.length+1) (p0,0) ⟨Z,Z,Nat.zero_le _,H⟩ (.r Z) .nil (fun _ _ h=>absurd h.1 (by simp)) ?_)))))))))))))
 intro w l m s hs
 obtain⟨b,p⟩:=s
 obtain⟨o,d,v,H⟩:=hs
 replace d:b=List.drop p p0:=d
 replace H:jq p1 b p=some r:=H
 replace o:m+1=b.length+1:=o
 replace f:=f.iR l
 replace hf1:=fun w' he=>hf1 w' (l.ext.trans he)
 replace leB:=leB.trans l
 obtain rfl:m=b.length:=by omega
 clear o
 dsimp only
 cases b with
 |nil=>
  rw[jq.eq_1] at H
  refine aj (av bi Z Z (ae (aa (az (dn Z (cz d) (bZ (aF (aF (bg (aa (aj (Tr.k Z (ae (aa (aJ ?_)))))))))))))))
  obtain rfl:=oI H
  exact bD leB
 | cons u b=>
  rw[jq.eq_2] at H
  refine aj (av bi Z Z (ae (aa (az (dm Z (dz d) (aM (aa (az (Tr.block (aj (aA Z (Tr.k Z (ae (aa (aj (aA Z (aA Z (aA Z (aC Z (fun _ _ a c=>aB lF (a.ev Z) f.form (a.ev Z) (Int.natCast_nonneg _) (bq d)) (aC Z (fun _ _ a c=>ah bF (a.ev Z) (pq lT f (dA d) c) Z) ?_))))))))))))))))))))
  obtain⟨t,q,H⟩:=bnd H
  refine kC (r:=(bV t)) (wn Z) Z Z hg1 (ak Z aH) (fun W hW=>hf1 hW.all hW.aY u _ q) (ae (aa (aN Z H (fun H=>?_) (fun H=>?_))))
  ·refine aj (aA Z (Tr.k Z (ae (aa (aJ (au (ai (ai (au (ai ?_))))))))))
   obtain rfl:=oI H
   exact bD leB
  ·exact aM (aQ (aa (aV (av bE Z Z (aA Z (ae (aP l (b,(p+1)) ⟨Z,df d,bq d,H⟩ (.cons Z (.cons Z (.cons Z (.cons (congrArg (fun z=>some (Value.int .i64 z)) (cZ d f.form)) .nil)))) .nil)))))))

end Go.Proofs.YtgijeiamflmkeaaGreatDoor
